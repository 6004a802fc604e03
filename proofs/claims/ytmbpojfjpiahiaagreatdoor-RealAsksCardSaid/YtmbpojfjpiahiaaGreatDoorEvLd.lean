/- The evaluator at code. -/
import Derived.Test.YtmbpojfjpiahiaaGreatDoorEvLc
import Derived.LoopN
import Derived.Scope

namespace Go.Ev
open Go.RowKit (Below)
variable {P : Program} {E : Env} {base : Nat} {w0 : World} {T : PT AV}
variable {nt : Nat} {ops : Array Oper} {ι0 ι : Inj} {H0 H : Hp} {D : List DF} {L : List AV} {a : Act} {w : World} {X : PT Unit} {call : CallT}

structure Fr (nt : Nat) (X : PT Unit) (ι : Inj) (T : PT AV) (a : Act) : Prop where
  size : nt ≤ a.tmps.size
  cross : ∀ (t : Nat) (v : AV), T.get (Pos.of t) = some v → ∃ u, X.get (Pos.of t) = some u
  val : ∀ (t : Nat) (v : AV), T.get (Pos.of t) = some v → VRel ι v (a.eval (.tmp t))

def CodeOk (nt : Nat) (c : Code) : Prop :=
  Code.rec (motive := fun _ => Prop) True (fun _ ops draw => OpsOk nt ops ∧ (draw = true → DrawOk ops)) (fun _ _ a b => a ∧ b) (fun _ _ _ a b => a ∧ b) (fun _ _ c => c) (fun _ c => c) (fun _ _ _ _ a b => a ∧ b) (fun _ => True) (fun _ c => c) (fun _ => True) (fun _ => True) True (fun _ => True) c

def OPost (E : Env) (base : Nat) (w0 : World) (nt : Nat) (X : PT Unit) (ι0 : Inj) (H0 : Hp) (r : Out) : Exit → Act → World → Prop
  | .normal, a, w => ∃ T D H ι, r = .nrm T D H ∧ Fr nt X ι T a ∧ AfterR E base w0 ι0 H0 D H ι a.defers w
  | .exit id, a, w => ∃ T D H ι, r = .ext id T D H ∧ Fr nt X ι T a ∧ AfterR E base w0 ι0 H0 D H ι a.defers w
  | .ret, a, w => ∃ T D H ι, r = .ret T D H ∧ Fr nt X ι T a ∧ AfterR E base w0 ι0 H0 D H ι a.defers w
  | .panic ch, a, w => ∃ v T D H ι c, r = .pan v T D H ∧ ch = [{ v := c, recovered := false }] ∧ VRel ι v c ∧ Fr nt X ι T a ∧ AfterR E base w0 ι0 H0 D H ι a.defers w
  | .goto _, _, _ => False
  | .outgrown, _, _ => False

theorem saves_spec (ops : List Oper) : ∀ (done : List Nat) (n : Nat) (k : Nat) (p : Pos), (k, p) ∈ (List.rec (motive := fun _ => Nat → List (Nat × Pos)) (fun _ => [])
    (fun i _ ih k => opt (nth i ops) (ih (Nat.succ k)) fun o => opt o.dst (ih (Nat.succ k)) fun d => opt (X.get (Pos.of d)) (ih (Nat.succ k)) fun _ => (k, Pos.of d) :: ih (Nat.succ k)) done n : List (Nat × Pos)) ↔
      ∃ m i o d u, k = n + m ∧ done[m]? = some i ∧ ops[i]? = some o ∧ o.dst = some d ∧ p = Pos.of d ∧ X.get (Pos.of d) = some u
  | [], n, k, p => by
    constructor
    · intro h; cases h
    · rintro ⟨m, i, o, d, u, _, h, _⟩; simp at h
  | i :: done, n, k, p => by
    have ih := saves_spec ops done (n + 1) k p
    have tail : (∃ m i' o d u, k = n + 1 + m ∧ done[m]? = some i' ∧ ops[i']? = some o ∧ o.dst = some d ∧ p = Pos.of d ∧ X.get (Pos.of d) = some u) →
        ∃ m i' o d u, k = n + m ∧ (i :: done)[m]? = some i' ∧ ops[i']? = some o ∧ o.dst = some d ∧ p = Pos.of d ∧ X.get (Pos.of d) = some u := by
      rintro ⟨m, i', o, d, u, e1, e2, e3⟩
      exact ⟨m + 1, i', o, d, u, by omega, by simpa using e2, e3⟩
    have untail : ∀ (P0 : Prop), (∀ o d u, k = n → ops[i]? = some o → o.dst = some d → p = Pos.of d → X.get (Pos.of d) = some u → P0) →
        ((∃ m i' o d u, k = n + 1 + m ∧ done[m]? = some i' ∧ ops[i']? = some o ∧ o.dst = some d ∧ p = Pos.of d ∧ X.get (Pos.of d) = some u) → P0) →
        (∃ m i' o d u, k = n + m ∧ (i :: done)[m]? = some i' ∧ ops[i']? = some o ∧ o.dst = some d ∧ p = Pos.of d ∧ X.get (Pos.of d) = some u) → P0 := by
      rintro P0 h1 h2 ⟨m, i', o, d, u, e1, e2, e3, e4, e5, e6⟩
      cases m with
      | zero =>
        have : i = i' := by simpa using e2
        subst this
        exact h1 o d u e1 e3 e4 e5 e6
      | succ m => exact h2 ⟨m, i', o, d, u, by omega, by simpa using e2, e3, e4, e5, e6⟩
    show (k, p) ∈ opt (nth i ops) _ _ ↔ _
    rw [nth_eq]
    cases ho : ops[i]? with
    | none =>
      show (k, p) ∈ _ ↔ _
      refine Iff.trans ih ⟨tail, untail _ (fun o d u _ e => by rw [ho] at e; cases e) id⟩
    | some o =>
      show (k, p) ∈ opt o.dst _ _ ↔ _
      cases hd : o.dst with
      | none =>
        show (k, p) ∈ _ ↔ _
        refine Iff.trans ih ⟨tail, untail _ (fun o' d u _ e e2 => by rw [ho] at e; cases e; rw [hd] at e2; cases e2) id⟩
      | some d =>
        show (k, p) ∈ opt (X.get (Pos.of d)) _ _ ↔ _
        cases hx : X.get (Pos.of d) with
        | none =>
          show (k, p) ∈ _ ↔ _
          refine Iff.trans ih ⟨tail, untail _ (fun o' d' u _ e e2 e3 e4 => by rw [ho] at e; cases e; rw [hd] at e2; cases e2; rw [hx] at e4; cases e4) id⟩
        | some u =>
          show (k, p) ∈ (n, Pos.of d) :: _ ↔ _
          constructor
          · intro h
            cases h with
            | head => exact ⟨0, i, o, d, u, rfl, rfl, ho, hd, rfl, hx⟩
            | tail _ h => exact tail (ih.1 h)
          · refine untail _ (fun o' d' u' e e2 e3 e4 e5 => ?_) fun h => .tail _ (ih.2 h)
            rw [ho] at e2; cases e2
            rw [hd] at e3; cases e3
            rw [e, e4]; exact .head _
theorem mem_saves {ops : List Oper} {done : List Nat} {k : Nat} {p : Pos} : (k, p) ∈ saves X ops done ↔ ∃ i o d u, done[k]? = some i ∧ ops[i]? = some o ∧ o.dst = some d ∧ p = Pos.of d ∧ X.get (Pos.of d) = some u := by
  constructor
  · intro h
    obtain ⟨m, i, o, d, u, e1, e2, e3⟩ := (saves_spec ops done 0 k p).1 h
    have : k = m := by omega
    subst this
    exact ⟨i, o, d, u, e2, e3⟩
  · rintro ⟨i, o, d, u, e2, e3⟩
    exact (saves_spec ops done 0 k p).2 ⟨k, i, o, d, u, by omega, e2, e3⟩

theorem save_get : ∀ (sv : List (Nat × Pos)) (T : PT AV) (p : Pos) (v : AV), (save T L sv).get p = some v → (∃ k, (k, p) ∈ sv ∧ (L[k]? = some v ∨ v = .any)) ∨ (T.get p = some v ∧ ∀ k, (k, p) ∉ sv)
  | [], T, p, v, h => .inr ⟨h, fun k hk => (by cases hk)⟩
  | (k0, p0) :: sv, T, p, v, h => by
    have e : save T L ((k0, p0) :: sv) = save (opt (nth k0 L) (T.set p0 .any) fun v => T.set p0 v) L sv := by
      show ((opt (nth k0 L) (T.set p0 .any) fun v => T.set p0 v).frc fun T' => save T' L sv) = _
      rw [frc_eq]
    rw [e] at h
    rcases save_get sv _ p v h with ⟨k, h1, h2⟩ | ⟨h1, h2⟩
    · exact .inl ⟨k, .tail _ h1, h2⟩
    · by_cases hp : p = p0
      · subst hp
        refine .inl ⟨k0, .head _, ?_⟩
        rw [nth_eq] at h1
        cases hk : L[k0]? with
        | none =>
          rw [hk] at h1
          replace h1 : (T.set p .any).get p = some v := h1
          rw [get_set_same] at h1; cases h1; exact .inr rfl
        | some u =>
          rw [hk] at h1
          replace h1 : (T.set p u).get p = some v := h1
          rw [get_set_same] at h1; cases h1; exact .inl rfl
      · refine .inr ⟨?_, fun k hk => ?_⟩
        · rw [nth_eq] at h1
          cases hk : L[k0]? with
          | none =>
            rw [hk] at h1
            replace h1 : (T.set p0 .any).get p = some v := h1
            rw [get_set_ne _ _ _ _ hp] at h1; exact h1
          | some u =>
            rw [hk] at h1
            replace h1 : (T.set p0 u).get p = some v := h1
            rw [get_set_ne _ _ _ _ hp] at h1; exact h1
        · cases hk with
          | head => exact hp rfl
          | tail _ hk => exact h2 k hk
theorem wipe_get : ∀ (sv : List (Nat × Pos)) (T : PT AV) (p : Pos) (v : AV), (wipe T sv).get p = some v → ((∃ k, (k, p) ∈ sv) ∧ v = .any) ∨ (T.get p = some v ∧ ∀ k, (k, p) ∉ sv)
  | [], T, p, v, h => .inr ⟨h, fun k hk => (by cases hk)⟩
  | (k0, p0) :: sv, T, p, v, h => by
    have e : wipe T ((k0, p0) :: sv) = wipe (T.set p0 .any) sv := by
      show ((T.set p0 .any).frc fun T' => wipe T' sv) = _
      rw [frc_eq]
    rw [e] at h
    rcases wipe_get sv _ p v h with ⟨⟨k, h1⟩, h2⟩ | ⟨h1, h2⟩
    · exact .inl ⟨⟨k, .tail _ h1⟩, h2⟩
    · by_cases hp : p = p0
      · subst hp
        rw [get_set_same] at h1; cases h1
        exact .inl ⟨⟨k0, .head _⟩, rfl⟩
      · rw [get_set_ne _ _ _ _ hp] at h1
        refine .inr ⟨h1, fun k hk => ?_⟩
        cases hk with
        | head => exact hp rfl
        | tail _ hk => exact h2 k hk

theorem Fr.start (h : Fr nt X ι T a) : RInv nt ops ι T [] [] a := ⟨h.size, rfl, fun k i o d v hk => by simp at hk, fun t v ht _ => h.val t v ht⟩
theorem Fr.save (h : Fr nt X ι0 T a) {κ : Inj} {all : List Nat} {a' : Act} (hI : RInv nt ops κ T all L a') : Fr nt X κ (save T L (saves X ops.toList all)) a' := by
  refine ⟨hI.size, fun t v ht => ?_, fun t v ht => ?_⟩
  · rcases save_get _ _ _ _ ht with ⟨k, h1, _⟩ | ⟨h1, _⟩
    · obtain ⟨i, o, d, u, _, _, _, e4, e5⟩ := mem_saves.1 h1
      rw [e4]; exact ⟨u, e5⟩
    · exact h.cross t v h1
  · rcases save_get _ _ _ _ ht with ⟨k, h1, h2⟩ | ⟨h1, h2⟩
    · obtain ⟨i, o, d, u, e1, e2, e3, e4, e5⟩ := mem_saves.1 h1
      have : t = d := Pos.of_inj e4
      subst this
      rcases h2 with h2 | h2
      · exact hI.val k i o t v e1 (by rw [← Array.getElem?_toList]; exact e2) e3 h2
      · subst h2; exact .any _
    · refine hI.old t v h1 fun i hi o ho hd => ?_
      obtain ⟨u, hu⟩ := h.cross t v h1
      obtain ⟨k, hk⟩ := List.getElem?_of_mem hi
      exact h2 k (mem_saves.2 ⟨i, o, t, u, hk, by rw [Array.getElem?_toList]; exact ho, hd, rfl, hu⟩)
theorem Fr.wipe (h : Fr nt X ι0 T a) {κ : Inj} {all : List Nat} (hall : ∀ (i : Nat) (o : Oper), ops[i]? = some o → i ∈ all) {a' : Act} (hI : OldOk nt ops κ T a') : Fr nt X κ (wipe T (saves X ops.toList all)) a' := by
  refine ⟨hI.1, fun t v ht => ?_, fun t v ht => ?_⟩
  · rcases wipe_get _ _ _ _ ht with ⟨⟨k, h1⟩, _⟩ | ⟨h1, _⟩
    · obtain ⟨i, o, d, u, _, _, _, e4, e5⟩ := mem_saves.1 h1
      rw [e4]; exact ⟨u, e5⟩
    · exact h.cross t v h1
  · rcases wipe_get _ _ _ _ ht with ⟨_, h2⟩ | ⟨h1, h2⟩
    · subst h2; exact .any _
    · refine hI.2 t v h1 fun i o ho hd => ?_
      obtain ⟨u, hu⟩ := h.cross t v h1
      obtain ⟨k, hk⟩ := List.getElem?_of_mem (hall i o ho)
      exact h2 k (mem_saves.2 ⟨i, o, t, u, hk, by rw [Array.getElem?_toList]; exact ho, hd, rfl, hu⟩)

theorem rngF_eq (n : Nat) : rngF n = List.range n := by
  have key : ∀ (n : Nat) (a : List Nat), (Nat.rec (motive := fun _ => List Nat → List Nat) (fun a => a) (fun m ih a => ih (m :: a)) n a : List Nat) = List.range n ++ a := by
    intro n
    induction n with
    | zero => intro a; rfl
    | succ n ih =>
      intro a
      show (Nat.rec (motive := fun _ => List Nat → List Nat) (fun a => a) (fun m ih a => ih (m :: a)) n (n :: a) : List Nat) = _
      rw [ih, List.range_succ]; simp
  have := key n []
  rw [List.append_nil] at this
  exact this
theorem revF (l : List Nat) : ∀ a, (List.rec (motive := fun _ => List Nat → List Nat) (fun a => a) (fun i _ ih a => ih (i :: a)) l a : List Nat) = l.reverse ++ a := by
  induction l with
  | nil => intro a; rfl
  | cons i l ih =>
    intro a
    show (List.rec (motive := fun _ => List Nat → List Nat) (fun a => a) (fun i _ ih a => ih (i :: a)) l (i :: a) : List Nat) = _
    rw [ih]; simp

theorem de_all {ops : List Oper} {n0 : Nat} : ∀ (n : Nat) (done : List Nat) (dm : Nat) (last : Option Nat) (r : List CO × List Nat), cDraw E ops (masks ops) (2 ^ n0 - 1) n done dm last = some r → (∀ j, dm.testBit j = true ↔ j ∈ done) → ∀ i, i < n0 → i ∈ r.2
  | 0, done, dm, last, r, h, hd, i, hi => by
    obtain ⟨e, e2⟩ := cDraw_zero h
    subst e2
    exact (hd i).1 (by rw [e, Nat.testBit_two_pow_sub_one]; exact decide_eq_true hi)
  | n + 1, done, dm, last, r, h, hd, i, hi => by
    rcases cDraw_succ h with ⟨q, p, hq, hs⟩ | ⟨_, q, mq, p, hq, hmq, hlast, hs⟩
    · obtain ⟨cs, e6, e7⟩ := hs.rest
      exact de_all n _ _ _ _ e6 (dm_step hd q) i hi
    · obtain ⟨cs, e6, e7⟩ := hs.rest
      exact de_all n _ _ _ _ e6 (dm_step hd q) i hi

theorem optO_ne {α : Type} {x : Option α} {s : α → Out} {r : Out} (h : opt x .no s = r) (hr : r ≠ .no) : ∃ v, x = some v ∧ s v = r := by
  cases x with
  | none => exact absurd h.symm hr
  | some v => exact ⟨v, rfl, h⟩

theorem region_sound (hE : EnvOk P E) (hC : CallOk P E base w0 call) (hm : P.follows .mixedOrders = true) {id : Nat} {draw : Bool} (hO : OpsOk nt ops) (hW : draw = true → DrawOk ops) {r : Out} (hr : r ≠ .no)
    (he : evReg E call X ops.toList draw T D H = r) (hF : Fr nt X ι T a) (hA : AfterR E base w0 ι0 H0 D H ι a.defers w) : (Code.region id ops draw).wp P (OPost E base w0 nt X ι0 H0 r) a w := by
  obtain ⟨⟨cs, sv⟩, h1, h2⟩ := optO_ne he hr
  obtain ⟨_, h1⟩ := cnd_some h1
  have hne : evCs call T cs [] D H ≠ .no := by
    intro e
    rw [e] at h2
    exact hr h2.symm
  cases draw with
  | false =>
    cases h1
    rw [rngF_eq, revF, len_eq] at h2
    rw [rngF_eq, len_eq] at hne
    refine wp_regAt (text_sound hE hC hO hne (List.range ops.size).reverse (fun L' D' H' ι' a' w' e1 e2 e3 => ?_) (fun v D' H' ι' c a' w' e1 e2 e3 e4 => ?_) (List.range ops.size) [] [] D H ι a w (by simp) (by simp) List.nodup_range hF.start hA (by simp))
    · rw [show evCs call T (cText E ops.toList (List.range ops.toList.length) []) [] D H = .nrm L' D' H' from e1] at h2
      refine ⟨_, D', H', ι', h2.symm, ?_, e3⟩
      have := hF.save e2
      simpa using this
    · rw [show evCs call T (cText E ops.toList (List.range ops.toList.length) []) [] D H = .pan v D' H' from e1] at h2
      refine ⟨v, _, D', H', ι', c, h2.symm, rfl, e2, ?_, e4⟩
      have := hF.wipe (all := (List.range ops.size).reverse) (fun i o ho => by
        have := (Array.getElem?_eq_some_iff.1 ho).1
        simpa using this) e3
      simpa using this
  | true =>
    replace h1 : (opt (cDraw E ops.toList (masks ops.toList) (Nat.sub (Nat.pow 2 (len ops.toList)) 1) (len ops.toList) [] 0 none) none fun r => some (r.1, saves X ops.toList r.2)) = some (cs, sv) := h1
    obtain ⟨⟨cs', de⟩, g1, g2⟩ := opt_eq_some h1
    cases g2
    rw [len_eq] at g1
    replace g1 : cDraw E ops.toList (masks ops.toList) (2 ^ ops.toList.length - 1) ops.toList.length [] 0 none = some (cs', de) := g1
    have hdm : ∀ j, (0 : Nat).testBit j = true ↔ j ∈ ([] : List Nat) := fun j => by simp
    have hall := de_all _ _ _ _ _ g1 hdm
    have hrl : Rl E base w0 ι H { w with drawn := w.drawn + 1 } := hA.rl.of_heap rfl rfl rfl rfl
    have hnone : ∀ j, ¬ ((Array.replicate ops.size false).getD j false = true) := fun j => by
      rcases Nat.lt_or_ge j ops.size with h | h
      · simp [h]
      · simp [h]
    refine wp_region_any hm (draw_run (ι0 := ι0) (H0 := H0) (T := T) (r := evCs call T cs' [] D H) (de := de) hE hC hO (hW rfl) hne (fun L' D' H' ι' a' w' e1 e2 e3 => ?_) (fun v D' H' ι' c a' w' e1 e2 e3 e4 => ?_) ops.size _ D ops.toList.length [] 0 none [] H ι (fun _ => False) (fun _ => .h) cs' a _ (by simp) ?_ ?_)
    · rw [e1] at h2
      exact ⟨_, D', H', ι', h2.symm, hF.save e2, e3⟩
    · rw [e1] at h2
      exact ⟨v, _, D', H', ι', c, h2.symm, rfl, e2, hF.wipe (all := de) (fun i o ho => hall i (by have := (Array.getElem?_eq_some_iff.1 ho).1; simpa using this)) e3, e4⟩
    · exact Nat.le_trans List.countP_le_length (by simp)
    · refine ⟨⟨hF.size, rfl, List.nodup_nil, fun i hi => (by cases hi), fun i hi => absurd hi (hnone i), fun i m j hi => absurd hi (hnone i), fun k i m j hk => (by simp at hk), fun k i o d v hk => (by simp at hk), fun t v ht _ => hF.val t v ht, fun k i v hk => (by simp at hk), fun i hi => hi.elim, fun i j hi => hi.elim, hrl, hA.stp, hA.dfr⟩, hdm, g1, rfl⟩

theorem thn_nrm (T : PT AV) (D : List DF) (H : Hp) (k : PT AV → List DF → Hp → Out) : thn (.nrm T D H) k = k T D H := rfl
theorem cond1_sound (hg : ∀ g b, E.gl g = some b → ∃ z, ι b = some (g, 0, z)) (hF : Fr nt X ι T a) {c : Operand} {t : Bool} (h : cond1 E c T = some t) : a.eval c = .bool t := by
  unfold cond1 at h
  obtain ⟨x, h1, h2⟩ := opt_eq_some h
  have hl : LkOk ι T [] (fun t => some (.t (Pos.of t))) a := by
    intro t x hx
    cases hx
    show VRel ι (opt (T.get (Pos.of t)) .any fun v => v) _
    cases hT : T.get (Pos.of t) with
    | none => exact .any _
    | some v => exact hF.val t v hT
  have hv := opd_sound hg hl h1
  unfold bq at h2
  split at h2
  · rename_i b e
    cases h2
    rw [e] at hv
    generalize a.eval c = u at hv
    cases hv; rfl
  · cases h2

theorem ev_sound (hE : EnvOk P E) (hC : CallOk P E base w0 call) (hm : P.follows .mixedOrders = true) (nl : Nat) : ∀ (c : Code), CodeOk nt c → ∀ (T : PT AV) (D : List DF) (H : Hp) (r : Out), ev E call nl X c T D H = r → r ≠ .no → ∀ (ι : Inj) (a : Act) (w : World),
    Fr nt X ι T a → AfterR E base w0 ι0 H0 D H ι a.defers w → c.wp P (OPost E base w0 nt X ι0 H0 r) a w := by
  intro c
  induction c with
  | skip =>
    intro _ T D H r he hr ι a w hF hA
    exact wp_skip ⟨T, D, H, ι, he.symm, hF, hA⟩
  | region id ops draw =>
    intro hc T D H r he hr ι a w hF hA
    exact region_sound hE hC hm hc.1 hc.2 hr he hF hA
  | seq x y ihx ihy =>
    intro hc T D H r he hr ι a w hF hA
    replace he : thn (ev E call nl X x T D H) (ev E call nl X y) = r := he
    generalize hr1 : ev E call nl X x T D H = r1 at he
    have hne : r1 ≠ .no := by intro e; subst e; exact hr he.symm
    refine wp_seq (wp_mono (ihx hc.1 T D H r1 hr1 hne ι a w hF hA) fun e a' w' hp => ?_)
    cases e with
    | normal =>
      obtain ⟨T', D', H', ι', rfl, hF', hA'⟩ := hp
      exact ihy hc.2 T' D' H' r he hr ι' a' w' hF' hA'
    | exit id => obtain ⟨T', D', H', ι', rfl, hF', hA'⟩ := hp; exact ⟨T', D', H', ι', he.symm, hF', hA'⟩
    | ret => obtain ⟨T', D', H', ι', rfl, hF', hA'⟩ := hp; exact ⟨T', D', H', ι', he.symm, hF', hA'⟩
    | panic ch => obtain ⟨v, T', D', H', ι', u, rfl, h1, h2, hF', hA'⟩ := hp; exact ⟨v, T', D', H', ι', u, he.symm, h1, h2, hF', hA'⟩
    | goto l => exact hp.elim
    | outgrown => exact hp.elim
  | cond o x y ihx ihy =>
    intro hc T D H r he hr ι a w hF hA
    replace he : (opt (cond1 E o T) .no fun t => cnd t (ev E call nl X x T D H) (ev E call nl X y T D H)) = r := he
    obtain ⟨t, h1, h2⟩ := optO_ne he hr
    refine wp_cond (cond1_sound hA.rl.glob hF h1) ?_
    cases t with
    | true => exact ihx hc.1 T D H r h2 hr ι a w hF hA
    | false => exact ihy hc.2 T D H r h2 hr ι a w hF hA
  | block id x ih =>
    intro hc T D H r he hr ι a w hF hA
    replace he : sBlock id (ev E call nl X x) T D H = r := he
    unfold sBlock at he
    generalize hr1 : ev E call nl X x T D H = r1 at he
    have hne : r1 ≠ .no := by intro e; subst e; exact hr he.symm
    refine wp_block (wp_mono (ih hc T D H r1 hr1 hne ι a w hF hA) fun e a' w' hp => ?_)
    cases e with
    | normal => obtain ⟨T', D', H', ι', rfl, hF', hA'⟩ := hp; exact ⟨T', D', H', ι', he.symm, hF', hA'⟩
    | exit id' =>
      obtain ⟨T', D', H', ι', rfl, hF', hA'⟩ := hp
      replace he : cnd (Nat.beq id' id) (Out.nrm T' D' H') (.ext id' T' D' H') = r := he
      rw [cnd_eq] at he
      show if id' = id then _ else _
      split
      · rename_i e
        subst e
        rw [if_pos (Nat.beq_refl _)] at he
        exact ⟨T', D', H', ι', he.symm, hF', hA'⟩
      · rename_i e
        rw [if_neg fun h => e (Nat.eq_of_beq_eq_true h)] at he
        exact ⟨T', D', H', ι', he.symm, hF', hA'⟩
    | ret => obtain ⟨T', D', H', ι', rfl, hF', hA'⟩ := hp; exact ⟨T', D', H', ι', he.symm, hF', hA'⟩
    | panic ch => obtain ⟨v, T', D', H', ι', u, rfl, h1, h2, hF', hA'⟩ := hp; exact ⟨v, T', D', H', ι', u, he.symm, h1, h2, hF', hA'⟩
    | goto l => exact hp.elim
    | outgrown => exact hp.elim
  | loop x ih =>
    intro hc T D H r he hr ι a w hF hA
    replace he : sLoop (ev E call nl X x) nl T D H = r := he
    have key : ∀ (n : Nat) (T : PT AV) (D : List DF) (H : Hp) (ι : Inj) (a : Act) (w : World), sLoop (ev E call nl X x) n T D H = r → Fr nt X ι T a → AfterR E base w0 ι0 H0 D H ι a.defers w → Code.rounds P x (OPost E base w0 nt X ι0 H0 r) n a w := by
      intro n
      induction n with
      | zero => intro T D H ι a w he _ _; exact absurd he.symm hr
      | succ n ihn =>
        intro T D H ι a w he hF hA
        replace he : thn (ev E call nl X x T D H) (sLoop (ev E call nl X x) n) = r := he
        generalize hr1 : ev E call nl X x T D H = r1 at he
        have hne : r1 ≠ .no := by intro e; subst e; exact hr he.symm
        rw [rounds_succ]
        refine wp_mono (ih hc T D H r1 hr1 hne ι a w hF hA) fun e a' w' hp => ?_
        cases e with
        | normal =>
          obtain ⟨T', D', H', ι', rfl, hF', hA'⟩ := hp
          exact ihn T' D' H' ι' a' w' he hF' hA'
        | exit id => obtain ⟨T', D', H', ι', rfl, hF', hA'⟩ := hp; exact ⟨T', D', H', ι', he.symm, hF', hA'⟩
        | ret => obtain ⟨T', D', H', ι', rfl, hF', hA'⟩ := hp; exact ⟨T', D', H', ι', he.symm, hF', hA'⟩
        | panic ch => obtain ⟨v, T', D', H', ι', u, rfl, h1, h2, hF', hA'⟩ := hp; exact ⟨v, T', D', H', ι', u, he.symm, h1, h2, hF', hA'⟩
        | goto l => exact hp.elim
        | outgrown => exact hp.elim
    exact wp_loop_rounds nl (key nl T D H ι a w he hF hA)
  | rangeFunc f ps x y ihx ihy => intro _ T D H r he hr; exact absurd he.symm hr
  | exit id =>
    intro _ T D H r he hr ι a w hF hA
    exact wp_exit ⟨T, D, H, ι, he.symm, hF, hA⟩
  | scope x ih =>
    intro hc T D H r he hr ι a w hF hA
    refine wp_scope_straight (wp_mono (ih hc T D H r he hr ι a w hF hA) fun e a' w' hp => ?_)
    cases e with
    | goto l => exact hp.elim
    | _ => exact hp
  | label l =>
    intro _ T D H r he hr ι a w hF hA
    exact wp_label ⟨T, D, H, ι, he.symm, hF, hA⟩
  | goto l => intro _ T D H r he hr; exact absurd he.symm hr
  | ret =>
    intro _ T D H r he hr ι a w hF hA
    exact wp_ret ⟨T, D, H, ι, he.symm, hF, hA⟩
  | refuse s => intro _ T D H r he hr; exact absurd he.symm hr
end Go.Ev

namespace Go.Ev
open Go.RowKit (Below)
variable {P : Program} {E : Env} {base : Nat} {w0 : World} {T : PT AV}
variable {nt : Nat} {ops : Array Oper} {ι0 ι : Inj} {H0 H : Hp} {D : List DF} {L : List AV} {a : Act} {w : World} {X : PT Unit} {call : CallT}

theorem initT_get (X : PT Unit) : ∀ (args : List AV) (n : Nat) (T : PT AV) (t : Nat) (v : AV),
    ((List.rec (motive := fun _ => Pos → PT AV → PT AV) (fun _ T => T) (fun x _ ih p T => opt (X.get p) (ih p.succ T) fun _ => (T.set p x).frc fun T' => ih p.succ T') args (Pos.of n) T : PT AV)).get (Pos.of t) = some v →
      (∃ k, t = n + k ∧ args[k]? = some v ∧ ∃ u, X.get (Pos.of t) = some u) ∨ T.get (Pos.of t) = some v
  | [], n, T, t, v, h => .inr h
  | x :: args, n, T, t, v, h => by
    have tail : ∀ T', ((List.rec (motive := fun _ => Pos → PT AV → PT AV) (fun _ T => T) (fun x _ ih p T => opt (X.get p) (ih p.succ T) fun _ => (T.set p x).frc fun T' => ih p.succ T') args (Pos.of n).succ T' : PT AV)).get (Pos.of t) = some v →
        (∃ k, t = n + k ∧ (x :: args)[k]? = some v ∧ ∃ u, X.get (Pos.of t) = some u) ∨ T'.get (Pos.of t) = some v := by
      intro T' h'
      rw [← Pos.of_succ] at h'
      rcases initT_get X args (n + 1) T' t v h' with ⟨k, e1, e2, e3⟩ | h'
      · exact .inl ⟨k + 1, by omega, by simpa using e2, e3⟩
      · exact .inr h'
    cases hx : X.get (Pos.of n) with
    | none =>
      replace h : (opt (X.get (Pos.of n)) _ _ : PT AV).get (Pos.of t) = some v := h
      rw [hx] at h
      exact tail T h
    | some u =>
      replace h : (opt (X.get (Pos.of n)) _ _ : PT AV).get (Pos.of t) = some v := h
      rw [hx] at h
      replace h : ((T.set (Pos.of n) x).frc _ : PT AV).get (Pos.of t) = some v := h
      rw [frc_eq] at h
      rcases tail _ h with h | h
      · exact .inl h
      · by_cases htn : t = n
        · subst htn
          rw [get_set_same] at h; cases h
          exact .inl ⟨0, rfl, rfl, u, hx⟩
        · rw [get_set_ne _ _ _ _ fun e => htn (Pos.of_inj e)] at h
          exact .inr h

theorem Fr.init {fn : Func} {args : List AV} {cargs : List Value} (h : LRel ι args cargs) : Fr fn.ntmps X ι (initT X args) { tmps := cargs.toArray ++ Array.replicate (fn.ntmps - cargs.toArray.size) undef, defers := [] } := by
  have key : ∀ (t : Nat) (v : AV), (initT X args).get (Pos.of t) = some v → args[t]? = some v ∧ ∃ u, X.get (Pos.of t) = some u := by
    intro t v ht
    rcases initT_get X args 0 .l t v ht with ⟨k, e1, e2, e3⟩ | h
    · have : t = k := by omega
      subst this; exact ⟨e2, e3⟩
    · simp at h
  refine ⟨by simp; omega, fun t v ht => (key t v ht).2, fun t v ht => ?_⟩
  obtain ⟨c, h1, h2⟩ := h.get (key t v ht).1
  have hlt : t < cargs.length := (List.getElem?_eq_some_iff.1 h1).1
  have : ({ tmps := cargs.toArray ++ Array.replicate (fn.ntmps - cargs.toArray.size) undef, defers := [] } : Act).eval (.tmp t) = c := by
    have e := (List.getElem?_eq_some_iff.1 h1).2
    simp only [Act.eval, Array.getD_eq_getD_getElem?]
    rw [Array.getElem?_append_left (by simpa using hlt)]
    simp [h1]
  rw [this]; exact h2

theorem resOf_sound (hE : EnvOk P E) (hF : Fr nt X ι T a) (hR : Rl E base w0 ι H w) {r : ResultVar} {v : AV} (h : resOf E T H r = some v) :
    ∃ c, (match r with | .tmp t => pure (a.tmps.getD t undef) | .cell x t => do loadVar t (← asAddr (a.tmps.getD x undef)) : Sem Value).run P w = .ok c w ∧ VRel ι v c := by
  cases r with
  | tmp t =>
    replace h : opt (T.get (Pos.of t)) none avId = some v := h
    obtain ⟨u, h1, h2⟩ := opt_eq_some h
    rw [avId_eq] at h2; cases h2
    exact ⟨_, rfl, hF.val t _ h1⟩
  | cell x t =>
    replace h : (opt (E.isAgg t) none fun g => opt (E.size t) none fun n => (cnd g (ldn n) ld1) (opt (T.get (Pos.of x)) .any fun v => v) H) = some v := h
    obtain ⟨g, h1, h⟩ := opt_eq_some h
    obtain ⟨n, h2, h⟩ := opt_eq_some h
    have hv : VRel ι (opt (T.get (Pos.of x)) .any fun v => v) (a.tmps.getD x undef) := by
      cases hT : T.get (Pos.of x) with
      | none => exact .any _
      | some u => exact hF.val x u hT
    obtain ⟨c, k1, k2⟩ := load_gives hE hR h1 h2 hv h
    refine ⟨c, ?_, k2⟩
    show ((do loadVar t (← asAddr (a.tmps.getD x undef)) : Sem Value)).run P w = .ok c w
    generalize a.tmps.getD x undef = cx at hv k1 ⊢
    -- the address is sure where the load is
    have : ∃ ad, cx = .pointer (some ad) := by
      generalize (opt (T.get (Pos.of x)) AV.any fun v => v) = y at hv h
      cases g with
      | true =>
        replace h : ldn n y H = some v := h
        unfold ldn at h
        split at h
        · cases hv; exact ⟨_, rfl⟩
        · cases hv; exact ⟨_, rfl⟩
        · cases h
      | false =>
        replace h : ld1 y H = some v := h
        unfold ld1 at h
        split at h
        · cases hv; exact ⟨_, rfl⟩
        · cases hv; exact ⟨_, rfl⟩
        · cases h
    obtain ⟨ad, rfl⟩ := this
    simpa [asAddr, Instr.loadAt, Instr.sureAddr] using k1

theorem mapRes_sound (hE : EnvOk P E) (hF : Fr nt X ι T a) (hR : Rl E base w0 ι H w) : ∀ (l : List ResultVar) (vs : List AV), mapO (resOf E T H) l = some vs →
    ∃ C, (l.mapM fun (r : ResultVar) => (match r with | .tmp t => pure (a.tmps.getD t undef) | .cell x t => do loadVar t (← asAddr (a.tmps.getD x undef)) : Sem Value)).run P w = .ok C w ∧ LRel ι vs C
  | [], vs, h => by cases h; exact ⟨[], rfl, .nil⟩
  | r :: l, vs, h => by
    obtain ⟨y, zs, h1, h2, rfl⟩ := mapO_cons h
    obtain ⟨c, k1, k2⟩ := resOf_sound hE hF hR h1
    obtain ⟨C, k3, k4⟩ := mapRes_sound hE hF hR l zs h2
    refine ⟨c :: C, ?_, .cons _ _ _ _ k2 k4⟩
    rw [List.mapM_cons]
    simp only [Sem.run_bind, k1, Result.andThen_ok, k3, Sem.run_pure]

theorem results_sound (hE : EnvOk P E) (hF : Fr nt X ι T a) (hR : Rl E base w0 ι H w) {fn : Func} {v : AV} (h : results E fn T H = some v) : ∃ c, (Go.results fn a.tmps).run P w = .ok c w ∧ VRel ι v c := by
  unfold results at h
  obtain ⟨vs, h1, h2⟩ := opt_eq_some h
  obtain ⟨C, k1, k2⟩ := mapRes_sound hE hF hR _ vs h1
  have hrun : (Go.results fn a.tmps).run P w = .ok (if h : C.toArray.size = 1 then C.toArray[0] else .tuple C.toArray) w := by
    unfold Go.results
    rw [Array.mapM_eq_mapM_toList]
    simp only [Sem.run_bind, Sem.run_map, Sem.run_pure]
    erw [k1]
    rfl
  unfold rsM at h2
  split at h2
  · cases h2
    cases k2 with
    | cons _ c _ _ hx t =>
      cases t
      exact ⟨c, hrun, hx⟩
  · rename_i hne
    cases h2
    have hlen : C.toArray.size ≠ 1 := by
      intro e
      have hl := k2.length
      have : C.length = 1 := by simpa using e
      rw [this] at hl
      match vs, hl with
      | [x], _ => exact hne x rfl
    rw [dif_neg hlen] at hrun
    exact ⟨_, hrun, .tup _ _ k2⟩

inductive URel (ι : Inj) : UM → FrameMode → Prop
  | ret : URel ι .ret .returning
  | pan (v : AV) (c : Value) (b : Bool) (h : VRel ι v c) : URel ι (.pan v b) (.panicking [{ v := c, recovered := b }])
theorem URel.mono {κ : Inj} (hi : ι.le κ) {u : UM} {m : FrameMode} (h : URel ι u m) : URel κ u m := by
  cases h with
  | ret => exact .ret
  | pan v c b h => exact .pan v c b (h.mono hi)
theorem URel.ne {u : UM} {m : FrameMode} (h : URel ι u m) : m ≠ .run := by cases h <;> simp
theorem URel.settle {u : UM} {m : FrameMode} (h : URel ι u m) : URel ι (settleU u) (settle m) := by
  cases h with
  | ret => exact .ret
  | pan v c b h =>
    cases b with
    | true => exact .ret
    | false => exact .pan v c false h

def SPost (E : Env) (base : Nat) (w0 : World) (nt : Nat) (X : PT Unit) (ι0 : Inj) (H0 : Hp) (c0 : Frame) (cs : List Frame) (r : SO) : Exit → Act → List Frame → World → Prop
  | .normal, a, fs, w => ∃ T u H ι m, r = .nrm T u H ∧ fs = { c0 with mode := m } :: cs ∧ URel ι u m ∧ a.defers = [] ∧ Fr nt X ι T a ∧ AfterR E base w0 ι0 H0 [] H ι [] w
  | .ret, a, fs, w => ∃ T u H ι m, r = .ret T u H ∧ fs = { c0 with mode := m } :: cs ∧ URel ι u m ∧ a.defers = [] ∧ Fr nt X ι T a ∧ AfterR E base w0 ι0 H0 [] H ι [] w
  | _, _, _, _ => False

theorem wpS_mono {c : Code} {Q Q' : Exit → Act → List Frame → World → Prop} {cs : List Frame} (h : c.wpS P Q a cs w) (hq : ∀ e a cs w, Q e a cs w → Q' e a cs w) : c.wpS P Q' a cs w :=
  fun b k h1 h2 => let ⟨e, a', cs', w', q, r⟩ := h b k h1 h2; ⟨e, a', cs', w', hq _ _ _ _ q, r⟩

theorem optS_ne {α : Type} {x : Option α} {s : α → SO} {r : SO} (h : opt x .no s = r) (hr : r ≠ .no) : ∃ v, x = some v ∧ s v = r := by
  cases x with
  | none => exact absurd h.symm hr
  | some v => exact ⟨v, rfl, h⟩
theorem optL_ne {α : Type} {x : Option α} {s : α → SL} {r : SL} (h : opt x .no s = r) (hr : r ≠ .no) : ∃ v, x = some v ∧ s v = r := by
  cases x with
  | none => exact absurd h.symm hr
  | some v => exact ⟨v, rfl, h⟩
theorem mkCT_w (g : Option (Nat × Bool)) (q : K) : (mkCT g q).w = g := by cases g <;> cases q <;> rfl
theorem mkCT_q (g : Option (Nat × Bool)) (q : K) : (mkCT g q).q = q := by cases g <;> cases q <;> rfl

theorem textS_sound (hE : EnvOk P E) (hC : CallOk P E base w0 call) (hO : OpsOk nt ops) {r : SL} (hr : r ≠ .no) {Q : Exit → Act → List Frame → World → Prop} (c0 : Frame) (fs : List Frame) (all : List Nat)
    (hn : ∀ L' u H' ι' m a' w', r = .nrm L' u H' → URel ι' u m → a'.defers = [] → RInv nt ops ι' T all L' a' → AfterR E base w0 ι0 H0 [] H' ι' [] w' → Q .normal a' ({ c0 with mode := m } :: fs) w') :
    ∀ (todo done : List Nat) (L : List AV) (u : UM) (H : Hp) (ι : Inj) (m : FrameMode) (a : Act) (w : World), todo.reverse ++ done = all → (∀ i ∈ todo, i ∉ done) → todo.Nodup → URel ι u m → a.defers = [] →
      RInv nt ops ι T done L a → AfterR E base w0 ι0 H0 [] H ι [] w → evCsS call T (cText E ops.toList todo done) L u H = r → wpOpsS P ops Q todo a ({ c0 with mode := m } :: fs) w
  | [], done, L, u, H, ι, m, a, w, ha, _, _, hU, hd, hI, hA, he => by
    have : r = .nrm L u H := he.symm
    exact hn L u H ι m a w this hU hd (by simpa using ha ▸ hI) hA
  | i :: todo, done, L, u, H, ι, m, a, w, ha, hdd, hnd, hU, hd, hI, hA, he => by
    replace he : evCsS call T (opt (cOne E ops.toList done i) [coNo] fun p => mkCT p.1 p.2 :: cText E ops.toList todo (i :: done)) L u H = r := he
    have hnot : i ∉ done := hdd i (by simp)
    have hnd' := List.nodup_cons.1 hnd
    have hall : todo.reverse ++ (i :: done) = all := by rw [← ha]; simp
    have hdis : ∀ j ∈ todo, j ∉ i :: done := by
      intro j hj hm
      cases hm with
      | head => exact hnd'.1 hj
      | tail _ hm => exact hdd j (by simp [hj]) hm
    cases hc : cOne E ops.toList done i with
    | none => rw [hc] at he; exact absurd he.symm hr
    | some p =>
      rw [hc] at he
      obtain ⟨g, q⟩ := p
      replace he : (opt (guardB (mkCT g q).w L) .no fun b => cnd b
          (cnd (isRcv (mkCT g q).q) (rcvV u fun v u' => evCsS call T (cText E ops.toList todo (i :: done)) (v :: L) u' H)
            (RO.rec (motive := fun _ => SL) (fun L' D H' => match L', D with
              | [v], [] => evCsS call T (cText E ops.toList todo (i :: done)) (v :: L) u H'
              | _, _ => .no) (fun _ _ _ => .no) .no (exec (mkCT g q).q call T L [] H fun v D' H' => .nrm [v] D' H')))
          (evCsS call T (cText E ops.toList todo (i :: done)) (.tup [] :: L) u H)) = r := he
      rw [mkCT_w, mkCT_q] at he
      obtain ⟨b, h1, h2⟩ := optL_ne he hr
      obtain ⟨o, ho, hg, hk⟩ := cOne_inv hc
      have hw := guard_ok hO hI ho hg h1
      simp only [wpOpsS, ho]
      cases b with
      | false =>
        rw [if_neg (by rw [hw]; decide)]
        have hs := hI.step hO ho hnot (Inj.le_refl ι) (VRel.tup [] [] .nil) a.defers
        rw [done_self] at hs
        exact textS_sound hE hC hO hr c0 fs all hn todo (i :: done) (.tup [] :: L) u H ι m _ w hall hdis hnd'.2 hU (by rw [defers_put]; exact hd) hs hA h2
      | true =>
        rw [if_pos hw]
        replace h2 : cnd (isRcv q) (rcvV u fun v u' => evCsS call T (cText E ops.toList todo (i :: done)) (v :: L) u' H)
            (RO.rec (motive := fun _ => SL) (fun L' D H' => match L', D with
              | [v], [] => evCsS call T (cText E ops.toList todo (i :: done)) (v :: L) u H'
              | _, _ => .no) (fun _ _ _ => .no) .no (exec q call T L [] H fun v D' H' => .nrm [v] D' H')) = r := h2
        cases hq : isRcv q with
        | true =>
          rw [hq] at h2
          replace h2 : (rcvV u fun v u' => evCsS call T (cText E ops.toList todo (i :: done)) (v :: L) u' H) = r := h2
          have hqr : q = .rcv := by cases q <;> first | rfl | cases hq
          subst hqr
          obtain ⟨dst, op, type, pos, after, guard⟩ := o
          cases cK_inv hk with
          | pur _ _ hh => cases hh
          | rcv args ts =>
            have hrun : (execOp a.eval { dst := dst, op := .call { callee := .builtin .recover, args := args, argTypes := ts }, type := type, pos := pos, after := after, guard := guard }).run P w = .ok .recover w := by
              simp [execOp, resolve, invoke, builtin]
            rw [hrun]
            have nilcase : recoverD ({ c0 with mode := m } :: fs) = none → evCsS call T (cText E ops.toList todo (i :: done)) (.inil :: L) u H = r →
                (match recoverD ({ c0 with mode := m } :: fs) with
                | some (v, cs') => wpOpsS P ops Q todo (a.put dst v) cs' w
                | none => wpOpsS P ops Q todo (a.put dst .nilIface) ({ c0 with mode := m } :: fs) w) := by
              intro hrec hev
              rw [hrec]
              have hs := hI.step hO ho hnot (Inj.le_refl ι) VRel.inil a.defers
              rw [done_self] at hs
              exact textS_sound hE hC hO hr c0 fs all hn todo (i :: done) (.inil :: L) u H ι m _ w hall hdis hnd'.2 hU (by rw [defers_put]; exact hd) hs hA hev
            cases hU with
            | ret => exact nilcase rfl h2
            | pan v c b hv =>
              cases b with
              | true => exact nilcase rfl h2
              | false =>
                show wpOpsS P ops Q todo (a.put dst c) ({ c0 with mode := .panicking [{ v := c, recovered := true }] } :: fs) w
                have hs := hI.step hO ho hnot (Inj.le_refl ι) hv a.defers
                rw [done_self] at hs
                exact textS_sound hE hC hO hr c0 fs all hn todo (i :: done) (v :: L) (.pan v true) H ι _ _ w hall hdis hnd'.2 (.pan v c true hv) (by rw [defers_put]; exact hd) hs hA h2
        | false =>
          rw [hq] at h2
          generalize hx : exec q call T L [] H (fun v D' H' => RO.nrm [v] D' H') = r1 at h2
          have hne : r1 ≠ .no := by intro e; subst e; exact hr h2.symm
          have hwp : o.wp P a w (fun a' w' => wpOpsS P ops Q todo a' ({ c0 with mode := m } :: fs) w') (fun e a' w' => Q e a' ({ c0 with mode := m } :: fs) w') := by
            refine exec_sound hE hC hA.rl (lookR_ok hI) (D := []) (by rw [hd]; exact .nil) hk hx hne (fun v D' H' ι' c S w' e1 e2 => ?_) (fun v H' ι' c w' e1 e2 => ?_)
            · subst e1
              cases D' with
              | cons d D' => exact absurd h2.symm hr
              | nil =>
                replace h2 : evCsS call T (cText E ops.toList todo (i :: done)) (v :: L) u H' = r := h2
                have hS : S = [] := by cases e2.dfr; rfl
                subst hS
                exact textS_sound hE hC hO hr c0 fs all hn todo (i :: done) (v :: L) u H' ι' m _ w' hall hdis hnd'.2 (hU.mono e2.stp.le) (by unfold Act.done; rw [defers_put]) (hI.step hO ho hnot e2.stp.le e2.val []) ⟨e2.rl, hA.stp.trans e2.stp, .nil⟩ h2
            · subst e1
              exact absurd h2.symm hr
          unfold Oper.wp at hwp
          split
          · rename_i w' hrun
            rw [hrun] at hwp
            exact hwp.elim
          · exact hwp

theorem evS_sound (hE : EnvOk P E) (hC : CallOk P E base w0 call) (hm : P.follows .mixedOrders = true) (c0 : Frame) (fs : List Frame) : ∀ (c : Code), CodeOk nt c → ∀ (T : PT AV) (u : UM) (H : Hp) (r : SO), evS E call X c T u H = r → r ≠ .no → ∀ (ι : Inj) (m : FrameMode) (a : Act) (w : World),
    URel ι u m → a.defers = [] → Fr nt X ι T a → AfterR E base w0 ι0 H0 [] H ι [] w → c.wpS P (SPost E base w0 nt X ι0 H0 c0 fs r) a ({ c0 with mode := m } :: fs) w := by
  intro c
  induction c with
  | skip =>
    intro _ T u H r he hr ι m a w hU hd hF hA
    exact wpS_of_wp (wp_skip ⟨T, u, H, ι, m, he.symm, rfl, hU, hd, hF, hA⟩)
  | region id ops draw =>
    intro hc T u H r he hr ι m a w hU hd hF hA
    cases draw with
    | true =>
      replace he : (Out.rec (motive := fun _ => SO) (fun T D H => match D with | [] => .nrm T u H | _ => .no) (fun _ _ _ _ => .no) (fun _ _ _ => .no) (fun _ _ _ _ => .no) .no (evReg E call X ops.toList true T [] H)) = r := he
      generalize hx : evReg E call X ops.toList true T [] H = r1 at he
      have hne : r1 ≠ .no := by intro e; subst e; exact hr he.symm
      have hreg := region_sound (id := id) (ι0 := ι) (H0 := H) hE hC hm hc.1 hc.2 hne hx hF (w := w) ⟨hA.rl, .refl ι H, by rw [hd]; exact .nil⟩
      refine wpS_of_wp (wp_mono hreg fun e a' w' hp => ?_)
      cases e with
      | normal =>
        obtain ⟨T', D', H', ι', rfl, hF', hA'⟩ := hp
        cases D' with
        | cons d D' => exact absurd he.symm hr
        | nil =>
          have hd' : a'.defers = [] := by cases hdd : a'.defers with
            | nil => rfl
            | cons x y => have := hA'.dfr; rw [hdd] at this; cases this
          exact ⟨T', u, H', ι', m, he.symm, rfl, hU.mono hA'.stp.le, hd', hF', hA'.rl, hA.stp.trans hA'.stp, .nil⟩
      | exit id => obtain ⟨T', D', H', ι', rfl, _⟩ := hp; exact absurd he.symm hr
      | ret => obtain ⟨T', D', H', ι', rfl, _⟩ := hp; exact absurd he.symm hr
      | panic ch => obtain ⟨v, T', D', H', ι', c, rfl, _⟩ := hp; exact absurd he.symm hr
      | goto l => exact hp.elim
      | outgrown => exact hp.elim
    | false =>
      replace he : (opt (cReg E X ops.toList false) .no fun r => SL.rec (motive := fun _ => SO) (fun L u H => .nrm (save T L r.2) u H) .no (evCsS call T r.1 [] u H)) = r := he
      obtain ⟨⟨cs, sv⟩, h1, h2⟩ := optS_ne he hr
      obtain ⟨_, h1⟩ := cnd_some h1
      cases h1
      rw [rngF_eq, revF, len_eq] at h2
      generalize hx : evCsS call T (cText E ops.toList (List.range ops.toList.length) []) [] u H = r1 at h2
      have hne : r1 ≠ .no := by intro e; subst e; exact hr h2.symm
      refine wpS_region (textS_sound hE hC hc.1 hne c0 fs (List.range ops.size).reverse (fun L' u' H' ι' m' a' w' e1 e2 e3 e4 e5 => ?_) (List.range ops.size) [] [] u H ι m a w (by simp) (by simp) List.nodup_range hU hd hF.start hA (by simpa using hx))
      subst e1
      refine ⟨_, u', H', ι', m', h2.symm, rfl, e2, e3, ?_, e5⟩
      have := hF.save e4
      simpa using this
  | seq x y ihx ihy =>
    intro hc T u H r he hr ι m a w hU hd hF hA
    replace he : (SO.rec (motive := fun _ => SO) (evS E call X y) (fun T u H => .ret T u H) .no (evS E call X x T u H)) = r := he
    generalize hr1 : evS E call X x T u H = r1 at he
    have hne : r1 ≠ .no := by intro e; subst e; exact hr he.symm
    refine wpS_seq (wpS_mono (ihx hc.1 T u H r1 hr1 hne ι m a w hU hd hF hA) fun e a' cs' w' hp => ?_)
    cases e with
    | normal =>
      obtain ⟨T', u', H', ι', m', rfl, rfl, hU', hd', hF', hA'⟩ := hp
      exact ihy hc.2 T' u' H' r he hr ι' m' a' w' hU' hd' hF' hA'
    | ret =>
      obtain ⟨T', u', H', ι', m', rfl, rfl, hU', hd', hF', hA'⟩ := hp
      exact ⟨T', u', H', ι', m', he.symm, rfl, hU', hd', hF', hA'⟩
    | exit id => exact hp.elim
    | panic ch => exact hp.elim
    | goto l => exact hp.elim
    | outgrown => exact hp.elim
  | cond o x y ihx ihy =>
    intro hc T u H r he hr ι m a w hU hd hF hA
    have he' : (opt (cond1 E o T) .no fun t => cnd t (evS E call X x T u H) (evS E call X y T u H)) = r := by
      rw [← he]
      show _ = (opt (E.opd (fun t => some (.t (Pos.of t))) o) SO.no fun x' => _)
      unfold cond1
      cases E.opd (fun t => some (.t (Pos.of t))) o with
      | none => rfl
      | some z =>
        show opt (bq (z.ev T [])) _ _ = (match z.ev T [] with | .bool t => _ | _ => _)
        cases z.ev T [] <;> rfl
    obtain ⟨t, h1, h2⟩ := optS_ne he' hr
    refine wpS_cond (cond1_sound hA.rl.glob hF h1) ?_
    cases t with
    | true => exact ihx hc.1 T u H r h2 hr ι m a w hU hd hF hA
    | false => exact ihy hc.2 T u H r h2 hr ι m a w hU hd hF hA
  | ret =>
    intro _ T u H r he hr ι m a w hU hd hF hA
    exact wpS_of_wp (wp_ret ⟨T, u, H, ι, m, he.symm, rfl, hU, hd, hF, hA⟩)
  | block id x ih => intro _ T u H r he hr; exact absurd he.symm hr
  | loop x ih => intro _ T u H r he hr; exact absurd he.symm hr
  | rangeFunc f ps x y ihx ihy => intro _ T u H r he hr; exact absurd he.symm hr
  | exit id => intro _ T u H r he hr; exact absurd he.symm hr
  | scope x ih => intro _ T u H r he hr; exact absurd he.symm hr
  | label l => intro _ T u H r he hr; exact absurd he.symm hr
  | goto l => intro _ T u H r he hr; exact absurd he.symm hr
  | refuse s => intro _ T u H r he hr; exact absurd he.symm hr

end Go.Ev

namespace Go.Ev
open Go.RowKit (Below)
variable {P : Program} {E : Env} {base : Nat} {w0 : World} {T : PT AV}
variable {nt : Nat} {ι0 ι : Inj} {H0 H : Hp} {D : List DF} {a : Act} {w : World} {X : PT Unit} {call : CallT}

def CodesOk (E : Env) : Prop := ∀ (f : Nat) (fn : Func) (c : Code), fnOf E f = some fn → fn.body = some c → CodeOk fn.ntmps c
def SumsOk (P : Program) (E : Env) (base : Nat) (w0 : World) : Prop := ∀ (f : Nat) (g : List AV → Hp → Option (AV × Hp)), E.fn.get (Pos.of f) = some (.sm g) → CallOk P E base w0 fun f' args H => if f' = f then sumK (g args H) else .no

theorem optC_ne {α : Type} {x : Option α} {s : α → CR} {r : CR} (h : opt x .no s = r) (hr : r ≠ .no) : ∃ v, x = some v ∧ s v = r := by
  cases x with
  | none => exact absurd h.symm hr
  | some v => exact ⟨v, rfl, h⟩

theorem entered (hE : EnvOk P E) {f : Nat} {fn : Func} {c : Code} (h : fnOf E f = some fn) (hb : fn.body = some c) : Entered P f := by
  obtain ⟨h1, h2⟩ := hE.fn f fn h
  exact ⟨fn, h1, h2, by rw [hb]; rfl⟩

theorem evD_sound (hE : EnvOk P E) (hC : CallOk P E base w0 call) (hm : P.follows .mixedOrders = true) (hK : CodesOk E) {d : DF} {u : UM} {r : DR} (he : evD E call d u H = r) (hr : r ≠ .no) {m : FrameMode} (hU : URel ι u m)
    {A C : List Value} (ha : LRel ι d.args A) (hc : LRel ι d.cap C) (hA : AfterR E base w0 ι0 H0 [] H ι [] w) :
    Entered P d.f ∧ CallsD P d.f (A.toArray ++ C.toArray) m w fun e m' w' => match e with
      | .returned _ => ∃ u' H' ι', r = .ret u' H' ∧ URel ι' u' m' ∧ AfterR E base w0 ι0 H0 [] H' ι' [] w' ∧ ι.le ι'
      | _ => False := by
  unfold evD at he
  cases hf : fnOf E d.f with
  | none => rw [hf] at he; exact absurd he.symm hr
  | some fn =>
    rw [hf] at he
    replace he : (opt fn.body DR.no fun c => (crossF fn).frc fun X => SO.rec (motive := fun _ => DR) (fun T u H => opt (results E fn T H) .no fun _ => .ret u H) (fun T u H => opt (results E fn T H) .no fun _ => .ret u H) .no (evS E call X c (initT X (app d.args d.cap)) u H)) = r := he
    cases hb : fn.body with
    | none => rw [hb] at he; exact absurd he.symm hr
    | some c =>
      rw [hb] at he
      replace he : ((crossF fn).frc fun X => SO.rec (motive := fun _ => DR) (fun T u H => opt (results E fn T H) .no fun _ => .ret u H) (fun T u H => opt (results E fn T H) .no fun _ => .ret u H) .no (evS E call X c (initT X (app d.args d.cap)) u H)) = r := he
      rw [frc_eq, app_eq] at he
      refine ⟨entered hE hf hb, ?_⟩
      generalize hx : evS E call (crossF fn) c (initT (crossF fn) (d.args ++ d.cap)) u H = r1 at he
      have hne : r1 ≠ .no := by intro e; subst e; exact hr he.symm
      have e0 : A.toArray ++ C.toArray = (A ++ C).toArray := by simp
      rw [e0]
      refine callsD_of_wpS (hE.fn _ _ hf).1 hb fun c0 cs hmode => ?_
      have hc0 : c0 = { c0 with mode := m } := by subst hmode; rfl
      have hS := evS_sound (ι0 := ι) (H0 := H) hE hC hm c0 cs c (hK _ _ _ hf hb) _ u H r1 hx hne ι m { tmps := (A ++ C).toArray ++ Array.replicate (fn.ntmps - (A ++ C).toArray.size) undef, defers := [] } w hU rfl (Fr.init (ha.append hc)) ⟨hA.rl, .refl ι H, .nil⟩
      rw [← hc0] at hS
      refine wpS_mono hS fun e a' fs w' hp => ?_
      cases e with
      | normal =>
        obtain ⟨T', u', H', ι', m', rfl, rfl, hU', hd', hF', hA'⟩ := hp
        replace he : (opt (results E fn T' H') DR.no fun _ => .ret u' H') = r := he
        cases hres : results E fn T' H' with
        | none => rw [hres] at he; exact absurd he.symm hr
        | some v =>
          rw [hres] at he
          obtain ⟨cv, k1, _⟩ := results_sound (P := P) hE hF' hA'.rl hres
          exact ⟨hd', m', rfl, cv, k1, u', H', ι', he.symm, hU', ⟨hA'.rl, hA.stp.trans hA'.stp, .nil⟩, hA'.stp.le⟩
      | ret =>
        obtain ⟨T', u', H', ι', m', rfl, rfl, hU', hd', hF', hA'⟩ := hp
        replace he : (opt (results E fn T' H') DR.no fun _ => .ret u' H') = r := he
        cases hres : results E fn T' H' with
        | none => rw [hres] at he; exact absurd he.symm hr
        | some v =>
          rw [hres] at he
          obtain ⟨cv, k1, _⟩ := results_sound (P := P) hE hF' hA'.rl hres
          exact ⟨hd', m', rfl, cv, k1, u', H', ι', he.symm, hU', ⟨hA'.rl, hA.stp.trans hA'.stp, .nil⟩, hA'.stp.le⟩
      | exit id => exact hp.elim
      | panic ch => exact hp.elim
      | goto l => exact hp.elim
      | outgrown => exact hp.elim

theorem Fr.mono {κ : Inj} (hi : ι.le κ) (h : Fr nt X ι T a) : Fr nt X κ T a := ⟨h.size, h.cross, fun t v ht => (h.val t v ht).mono hi⟩

theorem leaves_sound (hE : EnvOk P E) (hC : CallOk P E base w0 call) (hm : P.follows .mixedOrders = true) (hK : CodesOk E) {fn : Func} {r : CR} (hr : r ≠ .no) : ∀ (D : List DF) (S : List Deferred) (u : UM) (m : FrameMode) (H : Hp) (ι : Inj) (w : World),
    leaves E call fn T D u H = r → DRel ι D S → URel ι u m → Fr nt X ι T a → AfterR E base w0 ι0 H0 [] H ι [] w → Leaves P fn a.tmps (CPost E base w0 ι0 H0 r) S m w
  | [], S, u, m, H, ι, w, he, hD, hU, hF, hA => by
    cases hD
    cases hU with
    | ret =>
      replace he : (opt (results E fn T H) CR.no fun v => .ret v H) = r := he
      obtain ⟨v, h1, h2⟩ := optC_ne he hr
      obtain ⟨c, k1, k2⟩ := results_sound (P := P) hE hF hA.rl h1
      exact ⟨c, k1, v, H, ι, h2.symm, k2, hA.rl, hA.stp⟩
    | pan v c b hv =>
      cases b with
      | false => exact ⟨v, H, ι, c, he.symm, rfl, hv, hA.rl, hA.stp⟩
      | true => exact absurd he.symm hr
  | d :: D, S, u, m, H, ι, w, he, hD, hU, hF, hA => by
    cases hD with
    | cons _ A C _ S ha hc t =>
      replace he : (DR.rec (motive := fun _ => CR) (fun u' H' => leaves E call fn T D (settleU u') H') .no (evD E call d u H)) = r := he
      generalize hx : evD E call d u H = r1 at he
      have hne : r1 ≠ .no := by intro e; subst e; exact hr he.symm
      obtain ⟨h1, h2⟩ := evD_sound hE hC hm hK hx hne hU ha hc hA
      refine leaves_cons hU.ne (h1.run _ w) (h2.mono fun e m' w' hp => ?_)
      cases e with
      | returned c =>
        obtain ⟨u', H', ι', rfl, hU', hA', hle⟩ := hp
        exact leaves_sound hE hC hm hK hr D S (settleU u') (settle m') H' ι' w' he (t.mono hle) hU'.settle (hF.mono hle) hA'
      | panicked ch => exact hp.elim
      | outgrown => exact hp.elim

theorem evFn_sound (hE : EnvOk P E) (hC : CallOk P E base w0 call) (hm : P.follows .mixedOrders = true) (hK : CodesOk E) (nl : Nat) {f : Nat} {fn : Func} (hf : fnOf E f = some fn) {args : List AV} {H : Hp} {r : CR} (he : evFn E call nl args H fn = r) (hr : r ≠ .no)
    {cargs : List Value} (hR : Rl E base w0 ι H w) (ha : LRel ι args cargs) : Entered P f ∧ Calls P f cargs.toArray w (CPost E base w0 ι H r) := by
  unfold evFn at he
  obtain ⟨c, hb, he⟩ := optC_ne he hr
  refine ⟨entered hE hf hb, ?_⟩
  rw [frc_eq] at he
  generalize hx : ev E call nl (crossF fn) c (initT (crossF fn) args) [] H = r1 at he
  have hne : r1 ≠ .no := by intro e; subst e; exact hr he.symm
  refine calls_of_wp_defers (hE.fn _ _ hf).1 hb ?_
  refine wp_mono (ev_sound (ι0 := ι) (H0 := H) hE hC hm nl c (hK _ _ _ hf hb) _ [] H r1 hx hne ι _ w (Fr.init ha) ⟨hR, .refl ι H, .nil⟩) fun e a' w' hp => ?_
  cases e with
  | normal =>
    obtain ⟨T', D', H', ι', rfl, hF', hA'⟩ := hp
    exact leaves_sound hE hC hm hK hr D' a'.defers .ret .returning H' ι' w' he hA'.dfr .ret hF' ⟨hA'.rl, hA'.stp, .nil⟩
  | ret =>
    obtain ⟨T', D', H', ι', rfl, hF', hA'⟩ := hp
    exact leaves_sound hE hC hm hK hr D' a'.defers .ret .returning H' ι' w' he hA'.dfr .ret hF' ⟨hA'.rl, hA'.stp, .nil⟩
  | panic ch =>
    obtain ⟨v, T', D', H', ι', cv, rfl, rfl, hv, hF', hA'⟩ := hp
    exact leaves_sound hE hC hm hK hr D' a'.defers (.pan v false) (.panicking [{ v := cv, recovered := false }]) H' ι' w' he hA'.dfr (.pan v cv false hv) hF' ⟨hA'.rl, hA'.stp, .nil⟩
  | exit id => obtain ⟨T', D', H', ι', rfl, _⟩ := hp; exact absurd he.symm hr
  | goto l => exact hp.elim
  | outgrown => exact hp.elim

def CcOk (E : Env) : Prop := ∀ (f : Nat) (fn : Func) (X : PT Unit) (g : CallT → Nat → StT) (rs : PT AV → Hp → Option AV), E.fn.get (Pos.of f) = some (.cc fn X g rs) →
  X = crossF fn ∧ (∃ c, fn.body = some c) ∧ (∀ call nl, g call nl = ev E call nl X (bodyOf fn)) ∧ ∀ T H, rs T H = results E fn T H
def Told (E : Env) (fn : Func) (X : PT Unit) (g : CallT → Nat → StT) (rs : PT AV → Hp → Option AV) : Prop :=
  X = crossF fn ∧ (∃ c, fn.body = some c) ∧ (∀ call nl, g call nl = ev E call nl X (bodyOf fn)) ∧ ∀ T H, rs T H = results E fn T H
theorem fin_eq {rs : PT AV → Hp → Option AV} {fn : Func} (h : ∀ T H, rs T H = results E fn T H) (T : PT AV) (D : List DF) (H : Hp) : fin E call fn rs T D H = leaves E call fn T D .ret H := by
  cases D with
  | nil =>
    show opt (rs T H) CR.no (fun v => .ret v H) = opt (results E fn T H) CR.no fun v => .ret v H
    rw [h]
  | cons d D => rfl
theorem evCc_eq (nl : Nat) (args : List AV) (H : Hp) {fn : Func} {X : PT Unit} {g : CallT → Nat → StT} {rs : PT AV → Hp → Option AV} (hX : X = crossF fn) (hb : ∃ c, fn.body = some c) (hg : ∀ call nl, g call nl = ev E call nl X (bodyOf fn))
    (hr : ∀ T H, rs T H = results E fn T H) : evCc E call nl args H fn X g rs = evFn E call nl args H fn := by
  obtain ⟨c, hb⟩ := hb
  have hc : bodyOf fn = c := by unfold bodyOf; rw [hb]; rfl
  unfold evCc evFn
  rw [hb, hg, hc, hX, funext fun T => funext fun D => funext fun H => fin_eq (E := E) (call := call) hr T D H]
  show _ = PT.frc (crossF fn) (fun X => Out.rec (motive := fun _ => CR) (fun T D H => leaves E call fn T D .ret H) (fun _ _ _ _ => .no) (fun T D H => leaves E call fn T D .ret H) (fun v T D H => leaves E call fn T D (.pan v false) H) .no (ev E call nl X c (initT X args) [] H))
  rw [frc_eq]
theorem evC_sound (hE : EnvOk P E) (hm : P.follows .mixedOrders = true) (hK : CodesOk E) (hS : SumsOk P E base w0) (hT : CcOk E) (nl : Nat) : ∀ n, CallOk P E base w0 (evC E nl n)
  | 0 => fun f args H r he hr => absurd he.symm hr
  | n + 1 => by
    intro f args H r he hr ι w cargs hR ha
    replace he : (opt (E.fn.get (Pos.of f)) CR.no fun x => FE.rec (motive := fun _ => CR) (fun fn => evFn E (evC E nl n) nl args H fn) (fun g => sumK (g args H)) (fun fn X g rs => evCc E (evC E nl n) nl args H fn X g rs) x) = r := he
    obtain ⟨x, h1, h2⟩ := optC_ne he hr
    cases x with
    | fn fn =>
      have hf : fnOf E f = some fn := by unfold fnOf; rw [h1]; rfl
      exact evFn_sound hE (evC_sound hE hm hK hS hT nl n) hm hK nl hf h2 hr hR ha
    | cc fn X g rs =>
      have hf : fnOf E f = some fn := by unfold fnOf; rw [h1]; rfl
      obtain ⟨t1, t2, t3, t4⟩ := hT f fn X g rs h1
      replace h2 : evCc E (evC E nl n) nl args H fn X g rs = r := h2
      rw [evCc_eq nl args H t1 t2 t3 t4] at h2
      exact evFn_sound hE (evC_sound hE hm hK hS hT nl n) hm hK nl hf h2 hr hR ha
    | sm g => exact hS f g h1 f args H r (by show (if f = f then sumK (g args H) else CR.no) = r; rw [if_pos rfl]; exact h2) hr ι w cargs hR ha

theorem ccOk_none (h : ∀ f fn X g rs, E.fn.get (Pos.of f) ≠ some (.cc fn X g rs)) : CcOk E := fun f fn X g rs e => absurd e (h f fn X g rs)
theorem sumsOk_none (h : ∀ f g, E.fn.get (Pos.of f) ≠ some (.sm g)) : SumsOk P E base w0 := fun f g e => absurd e (h f g)

noncomputable def ltB (a b : Nat) : Bool := Nat.ble (Nat.succ a) b
noncomputable def allN (f : Nat → Bool) (n : Nat) : Bool := Nat.rec (motive := fun _ => Bool) true (fun m ih => iand (f m) ih) n
noncomputable def hasDst (ops : List Oper) (j : Nat) : Bool := opt (nth j ops) false fun p => opt p.dst false fun _ => true
noncomputable def opsB (nt : Nat) (ops : List Oper) : Bool :=
  iand (nodupB (dsts ops)) (allB (fun o => iand (opt o.dst true fun d => ltB d nt) (opt o.guard true fun g => hasDst ops g.1)) ops)
noncomputable def bitB (ms : List Nat) (i j : Nat) : Bool := opt (nth i ms) false fun m => tb m j
noncomputable def drawB1 (ops : List Oper) (ms : List Nat) (all : List Nat) (i : Nat) (o : Oper) : Bool :=
  iand (opt o.guard true fun g => bitB ms i g.1)
    (allB (fun t => opt (locOf ops all t) true fun j => cnd (Nat.beq i j) true (cnd (bitB ms i j) true (bitB ms j i))) (readsOf o.op))
noncomputable def drawB (ops : List Oper) : Bool :=
  allN (fun i => opt (nth i ops) false fun o => drawB1 ops (masks ops) (rngF (len ops)) i o) (len ops)
noncomputable def codeB (nt : Nat) (c : Code) : Bool :=
  Code.rec (motive := fun _ => Bool) true (fun _ ops draw => iand (opsB nt ops.toList) (cnd draw (drawB ops.toList) true)) (fun _ _ a b => iand a b) (fun _ _ _ a b => iand a b) (fun _ _ c => c) (fun _ c => c) (fun _ _ _ _ a b => iand a b) (fun _ => true) (fun _ c => c) (fun _ => true) (fun _ => true) true (fun _ => true) c
noncomputable def fnB (fn : Func) : Bool := opt fn.body true fun c => codeB fn.ntmps c

theorem allN_eq {f : Nat → Bool} : ∀ {n : Nat}, allN f n = true → ∀ i, i < n → f i = true
  | 0, _, i, hi => by omega
  | n + 1, h, i, hi => by
    replace h : iand (f n) (allN f n) = true := h
    rw [iand_eq, Bool.and_eq_true] at h
    by_cases e : i = n
    · subst e; exact h.1
    · exact allN_eq h.2 i (by omega)
theorem memB_eq {i : Nat} : ∀ {l : List Nat}, memB i l = false → i ∉ l
  | [], _, h => by cases h
  | j :: l, h, hm => by
    replace h : cnd (Nat.beq i j) true (memB i l) = false := h
    rw [cnd_eq] at h
    split at h
    · cases h
    · rename_i hne
      cases hm with
      | head => exact hne (Nat.beq_refl _)
      | tail _ hm => exact memB_eq h hm
theorem nodupB_eq : ∀ {l : List Nat}, nodupB l = true → l.Nodup
  | [], _ => List.nodup_nil
  | i :: l, h => by
    replace h : iand (inot (memB i l)) (nodupB l) = true := h
    simp only [iand_eq, Bool.and_eq_true, inot_eq, Bool.not_eq_true'] at h
    exact List.nodup_cons.2 ⟨memB_eq h.1, nodupB_eq h.2⟩
theorem dsts_nd : ∀ {l : List Oper}, (dsts l).Nodup → ∀ (i j : Nat) (o p : Oper) (d : Nat), l[i]? = some o → l[j]? = some p → o.dst = some d → p.dst = some d → i = j
  | [], _, i, j, o, p, d, h, _, _, _ => by simp at h
  | x :: l, h, i, j, o, p, d, hi, hj, ho, hp => by
    have tail : (dsts l).Nodup := by
      unfold dsts at h ⊢
      cases hx : x.dst with
      | none => simpa [List.filterMap_cons, hx] using h
      | some e => rw [List.filterMap_cons, hx] at h; exact (List.nodup_cons.1 h).2
    have noHead : ∀ (k : Nat) (q : Oper), l[k]? = some q → q.dst = some d → x.dst = some d → False := by
      intro k q hk hq hx
      unfold dsts at h
      rw [List.filterMap_cons, hx] at h
      exact (List.nodup_cons.1 h).1 (List.mem_filterMap.2 ⟨q, List.mem_of_getElem? hk, hq⟩)
    cases i with
    | zero =>
      have : x = o := by simpa using hi
      subst this
      cases j with
      | zero => rfl
      | succ j => exact (noHead j p (by simpa using hj) hp ho).elim
    | succ i =>
      cases j with
      | zero =>
        have : x = p := by simpa using hj
        subst this
        exact (noHead i o (by simpa using hi) ho hp).elim
      | succ j => rw [dsts_nd tail i j o p d (by simpa using hi) (by simpa using hj) ho hp]

theorem opsB_ok {nt : Nat} {ops : Array Oper} (h : opsB nt ops.toList = true) : OpsOk nt ops := by
  unfold opsB at h
  rw [iand_eq, Bool.and_eq_true] at h
  have hall : ∀ (i : Nat) (o : Oper), ops[i]? = some o → (opt o.dst true fun d => ltB d nt) = true ∧ (opt o.guard true fun g => hasDst ops.toList g.1) = true := by
    intro i o ho
    have := allB_eq h.2 o (List.mem_of_getElem? (i := i) (by rw [Array.getElem?_toList]; exact ho))
    rw [iand_eq, Bool.and_eq_true] at this
    exact this
  refine ⟨fun i o d ho hd => ?_, fun i j o p d hi hj ho hp => ?_, fun i o j b ho hg => ?_⟩
  · have := (hall i o ho).1
    rw [hd] at this
    exact Nat.le_of_ble_eq_true (show Nat.ble (Nat.succ d) nt = true from this)
  · exact dsts_nd (nodupB_eq h.1) i j o p d (by rw [Array.getElem?_toList]; exact hi) (by rw [Array.getElem?_toList]; exact hj) ho hp
  · have := (hall i o ho).2
    rw [hg] at this
    replace this : hasDst ops.toList j = true := this
    unfold hasDst at this
    rw [nth_eq, Array.getElem?_toList] at this
    cases hp : ops[j]? with
    | none => rw [hp] at this; cases this
    | some p =>
      rw [hp] at this
      replace this : (opt p.dst false fun _ => true) = true := this
      cases hd : p.dst with
      | none => rw [hd] at this; cases this
      | some d => exact ⟨p, d, rfl, hd⟩

theorem bitB_eq {ms : List Nat} {i j m : Nat} (h : bitB ms i j = true) (hm : ms[i]? = some m) : m.testBit j = true := by
  unfold bitB at h
  rw [nth_eq, hm] at h
  rw [← tb_eq]; exact h
theorem drawB_ok {nt : Nat} {ops : Array Oper} (hO : OpsOk nt ops) (h : drawB ops.toList = true) : DrawOk ops := by
  unfold drawB at h
  rw [rngF_eq, len_eq] at h
  have one : ∀ (i : Nat) (o : Oper), ops[i]? = some o → drawB1 ops.toList (masks ops.toList) (List.range ops.toList.length) i o = true := by
    intro i o ho
    have hlt : i < ops.toList.length := by
      have := (Array.getElem?_eq_some_iff.1 ho).1
      simpa using this
    have := allN_eq h i hlt
    rw [nth_eq, Array.getElem?_toList, ho] at this
    exact this
  refine ⟨fun i j o p t mi mj ho hp hne ht hd hmi hmj => ?_, fun i j o b mi ho hg hmi => ?_⟩
  · have h1 := one i o ho
    unfold drawB1 at h1
    rw [iand_eq, Bool.and_eq_true] at h1
    have h2 := allB_eq h1.2 t ht
    cases hl : locOf ops.toList (List.range ops.toList.length) t with
    | none =>
      have hj : j < ops.toList.length := by
        have := (Array.getElem?_eq_some_iff.1 hp).1
        simpa using this
      exact absurd hd (locOf_none hl j (List.mem_range.2 hj) p (by rw [Array.getElem?_toList]; exact hp))
    | some k =>
      rw [hl] at h2
      replace h2 : cnd (Nat.beq i k) true (cnd (bitB (masks ops.toList) i k) true (bitB (masks ops.toList) k i)) = true := h2
      obtain ⟨k', q, e1, e2, e3⟩ := locOf_some hl
      have hkk : k = k' := by
        obtain ⟨hk, e⟩ := List.getElem?_eq_some_iff.1 e1
        simpa using e
      subst hkk
      rw [Array.getElem?_toList] at e2
      have hkj : k = j := hO.nd k j q p t e2 hp e3 hd
      subst hkj
      rw [cnd_eq] at h2
      split at h2
      · rename_i hb
        exact absurd (Nat.eq_of_beq_eq_true hb) hne
      · rw [cnd_eq] at h2
        split at h2
        · rename_i hb
          exact .inl (bitB_eq hb hmi)
        · exact .inr (bitB_eq h2 hmj)
  · have h1 := one i o ho
    unfold drawB1 at h1
    rw [iand_eq, Bool.and_eq_true] at h1
    have h2 := h1.1
    rw [hg] at h2
    exact bitB_eq h2 hmi

theorem codeB_ok {nt : Nat} : ∀ (c : Code), codeB nt c = true → CodeOk nt c := by
  intro c
  induction c with
  | region id ops draw =>
    intro h
    replace h : iand (opsB nt ops.toList) (cnd draw (drawB ops.toList) true) = true := h
    rw [iand_eq, Bool.and_eq_true] at h
    refine ⟨opsB_ok h.1, fun hd => ?_⟩
    subst hd
    exact drawB_ok (opsB_ok h.1) h.2
  | seq x y ihx ihy =>
    intro h
    replace h : iand (codeB nt x) (codeB nt y) = true := h
    rw [iand_eq, Bool.and_eq_true] at h
    exact ⟨ihx h.1, ihy h.2⟩
  | cond o x y ihx ihy =>
    intro h
    replace h : iand (codeB nt x) (codeB nt y) = true := h
    rw [iand_eq, Bool.and_eq_true] at h
    exact ⟨ihx h.1, ihy h.2⟩
  | rangeFunc f ps x y ihx ihy =>
    intro h
    replace h : iand (codeB nt x) (codeB nt y) = true := h
    rw [iand_eq, Bool.and_eq_true] at h
    exact ⟨ihx h.1, ihy h.2⟩
  | block id x ih => exact ih
  | loop x ih => exact ih
  | scope x ih => exact ih
  | _ => intro _; trivial
theorem fnB_ok {fn : Func} (h : fnB fn = true) {c : Code} (hb : fn.body = some c) : CodeOk fn.ntmps c := by
  unfold fnB at h
  rw [hb] at h
  exact codeB_ok c h

theorem mkPT_get {α : Type} : ∀ (l : List α) (n : Nat) (T : PT α) (t : Nat) (v : α), (List.rec (motive := fun _ => Pos → PT α → PT α) (fun _ T => T) (fun x _ ih p T => (T.set p x).frc fun T' => ih p.succ T') l (Pos.of n) T : PT α).get (Pos.of t) = some v →
    (∃ k, t = n + k ∧ l[k]? = some v) ∨ T.get (Pos.of t) = some v
  | [], n, T, t, v, h => .inr h
  | x :: l, n, T, t, v, h => by
    replace h : ((T.set (Pos.of n) x).frc fun T' => (List.rec (motive := fun _ => Pos → PT α → PT α) (fun _ T => T) (fun x _ ih p T => (T.set p x).frc fun T' => ih p.succ T') l (Pos.of n).succ T' : PT α)).get (Pos.of t) = some v := h
    rw [frc_eq, ← Pos.of_succ] at h
    rcases mkPT_get l (n + 1) _ t v h with ⟨k, e1, e2⟩ | h
    · exact .inl ⟨k + 1, by omega, by simpa using e2⟩
    · by_cases ht : t = n
      · subst ht
        rw [get_set_same] at h; cases h
        exact .inl ⟨0, rfl, rfl⟩
      · rw [get_set_ne _ _ _ _ fun e => ht (Pos.of_inj e)] at h
        exact .inr h
theorem mkPT_some {α : Type} {l : List α} {t : Nat} {v : α} (h : (mkPT l).get (Pos.of t) = some v) : l[t]? = some v := by
  rcases mkPT_get l 0 .l t v h with ⟨k, e1, e2⟩ | h
  · have : t = k := by omega
    subst this; exact e2
  · simp at h
end Go.Ev

namespace Go.Ev
variable {ι : Inj}

noncomputable def andArg (c r : Nat) : AV := .sy [.bin .and .i64 (.ofNat c)] [.int .i64 (.ofNat r)]
noncomputable def remArg (c r : Nat) : AV := .sy [.cv .u64] [.sy [.bin .rem .u64 (.ofNat c)] [.int .u64 (.ofNat r)]]

theorem inK_wf {n : Int} (h : (Lit.int .i64 n).wf = true) : inK .i64 n = true := by
  have h' : (decide (IntKind.i64.min ≤ n) && decide (n ≤ IntKind.i64.max)) = true := h
  simp only [Bool.and_eq_true, decide_eq_true_eq] at h'
  have h1 : IntKind.i64.min = -9223372036854775808 := by decide
  have h2 : IntKind.i64.max = 9223372036854775807 := by decide
  rw [h1, h2] at h'
  cases n with
  | ofNat m =>
    show Nat.ble m 9223372036854775807 = true
    exact Nat.ble_eq_true_of_le (by have h3 : (m : Int) ≤ 9223372036854775807 := h'.2; omega)
  | negSucc m =>
    show iand true (Nat.ble m 9223372036854775807) = true
    rw [iand_eq, Bool.true_and]
    exact Nat.ble_eq_true_of_le (by have := h'.1; omega)

theorem and_rel (e : Nat) (he : 2 ^ e ≤ 128) {n : Int} (h : (Lit.int .i64 n).wf = true) : ∃ r, r < 2 ^ e ∧ VRel ι (andArg (2 ^ e - 1) r) (.int .i64 n) := by
  have hp : 0 < 2 ^ e := Nat.two_pow_pos e
  have hr : Nat.land (toB .i64 n) (2 ^ e - 1) < 2 ^ e := by
    show toB .i64 n &&& (2 ^ e - 1) < 2 ^ e
    rw [Nat.and_two_pow_sub_one_eq_mod]
    exact Nat.mod_lt _ hp
  refine ⟨Nat.land (toB .i64 n) (2 ^ e - 1), hr, ?_⟩
  refine .sy _ _ .i64 n [.int .i64 (.ofNat (Nat.land (toB .i64 n) (2 ^ e - 1)))] (.cons _ _ _ _ (.int _ _) .nil) fun i o y ho hy => ?_
  cases i with
  | succ i => simp at ho
  | zero =>
    cases ho; cases hy
    refine ⟨_, .int .i64 (.ofNat (Nat.land (toB .i64 n) (2 ^ e - 1))), rfl, ?_, rfl⟩
    have hc : inK .i64 (.ofNat (2 ^ e - 1)) = true := Nat.ble_eq_true_of_le (by show 2 ^ e - 1 ≤ 9223372036854775807; omega)
    show cnd (iand (inK .i64 n) (inK .i64 (.ofNat (2 ^ e - 1)))) (vI .i64 (ofB .i64 (Nat.land (toB .i64 n) (2 ^ e - 1)))) none = _
    rw [inK_wf h, hc]
    show vI .i64 (cnd (Nat.ble (Nat.land (toB .i64 n) (2 ^ e - 1)) 9223372036854775807) (.ofNat (Nat.land (toB .i64 n) (2 ^ e - 1))) _) = _
    rw [Nat.ble_eq_true_of_le (by omega)]
    rw [vI_eq]
    rfl

theorem rem_relA (c : Nat) (hc : 0 < c) (n : Int) : ∃ r, r < c ∧ ∀ ι : Inj, VRel ι (remArg c r) (.int .i64 n) := by
  have hnn : 0 ≤ wr .u64 n := by
    rw [wr_eq]
    show 0 ≤ n % (2 ^ 64 : Int)
    exact Int.emod_nonneg _ (by decide)
  obtain ⟨u, hu⟩ := Int.eq_ofNat_of_zero_le hnn
  refine ⟨u % c, Nat.mod_lt _ hc, fun ι => ?_⟩
  refine .sy _ _ .i64 n [.int .u64 (wr .u64 n)] (.cons _ _ _ _ ?_ .nil) fun i o y ho hy => ?_
  · rw [hu]
    refine .sy _ _ .u64 _ [.int .u64 (.ofNat (u % c))] (.cons _ _ _ _ (.int _ _) .nil) fun i o y ho hy => ?_
    cases i with
    | succ i => simp at ho
    | zero =>
      cases ho; cases hy
      refine ⟨_, .int .u64 (.ofNat (u % c)), rfl, ?_, rfl⟩
      show cnd (ieq (.ofNat c) (.ofNat 0)) none (vI .u64 (Int.tmod (u : Int) (.ofNat c))) = _
      have h0 : ieq (.ofNat c) (.ofNat 0) = false := by
        rw [ieq_eq]
        cases hb : (Int.ofNat c == Int.ofNat 0) with
        | false => rfl
        | true =>
          have := eq_of_beq hb
          have : c = 0 := Int.ofNat.inj this
          omega
      rw [h0]
      show vI .u64 (Int.tmod (u : Int) (.ofNat c)) = _
      rw [vI_eq]
      rfl
  · cases i with
    | succ i => simp at ho
    | zero => cases ho; cases hy; rfl
theorem rem_rel (c : Nat) (hc : 0 < c) {n : Int} : ∃ r, r < c ∧ VRel ι (remArg c r) (.int .i64 n) := let ⟨r, h, e⟩ := rem_relA c hc n; ⟨r, h, e ι⟩
end Go.Ev

namespace Go.Ev

theorem wr32_range (n : Int) : -2147483648 ≤ wr .i32 n ∧ wr .i32 n ≤ 2147483647 := by
  rw [wr_eq]
  simp only [IntKind.wrap, IntKind.bits, IntKind.signed]
  simp
  omega
theorem wr32_id {n : Int} (h1 : -2147483648 ≤ n) (h2 : n ≤ 2147483647) : wr .i32 n = n := by
  rw [wr_eq]
  simp only [IntKind.wrap, IntKind.bits, IntKind.signed]
  simp
  omega
theorem wr64_id {n : Int} (h1 : -9223372036854775808 ≤ n) (h2 : n ≤ 9223372036854775807) : wr .i64 n = n := by
  rw [wr_eq]
  simp only [IntKind.wrap, IntKind.bits, IntKind.signed]
  simp
  omega
theorem tmod32 (n : Int) : (0 ≤ n → Int.tmod n 4294967296 = n % 4294967296) ∧ (n < 0 → Int.tmod n 4294967296 = -((-n) % 4294967296)) := by
  refine ⟨fun h => Int.tmod_eq_emod_of_nonneg h, fun h => ?_⟩
  rw [show n = -(-n) by omega, Int.neg_tmod, Int.tmod_eq_emod_of_nonneg (by omega)]
  simp
theorem wr32_tmod (n : Int) : wr .i32 n = (if Int.tmod n 4294967296 > 2147483647 then Int.tmod n 4294967296 - 4294967296 else if Int.tmod n 4294967296 < -2147483648 then Int.tmod n 4294967296 + 4294967296 else Int.tmod n 4294967296) ∧
    -4294967296 < Int.tmod n 4294967296 ∧ Int.tmod n 4294967296 < 4294967296 := by
  obtain ⟨h1, h2⟩ := tmod32 n
  rw [wr_eq]
  simp only [IntKind.wrap, IntKind.bits, IntKind.signed]
  simp
  by_cases h : 0 ≤ n
  · rw [h1 h]; split <;> omega
  · rw [h2 (by omega)]; split <;> omega

theorem wr32_idem (n : Int) : wr .i32 (wr .i32 n) = wr .i32 n := wr32_id (wr32_range n).1 (wr32_range n).2
theorem wr64_32 (n : Int) : wr .i64 (wr .i32 n) = wr .i32 n := by
  have := wr32_range n
  exact wr64_id (by omega) (by omega)

theorem atOk_nil {σ : Nat → IntKind × Int} : AtOk σ [] := fun _ _ _ h => by cases h
theorem atOk_cons {σ : Nat → IntKind × Int} {i : Nat} {o : AtO} {v : AtV} {tb : List (Nat × AtO × AtV)} (h : AtO.den σ i o = some (AtV.av σ v)) (t : AtOk σ tb) : AtOk σ ((i, o, v) :: tb) := fun i' o' v' h' => by
  cases h' with
  | head => exact h
  | tail _ h' => exact t i' o' v' h'
def sg (l : List (IntKind × Int)) (i : Nat) : IntKind × Int := (l[i]?).getD (.i64, 0)
variable {σ : Nat → IntKind × Int} {i j : Nat} {k : IntKind} {a b c : Int}
theorem den_cv {l : IntKind} (h : σ i = (k, a)) (hj : σ j = (l, c)) (e : wr l a = c) : AtO.den σ i (.cv l) = some (AtV.av σ (.at j)) := by
  show some (AV.int l (wr l (σ i).2)) = some (.int (σ j).1 (σ j).2)
  rw [h, hj, ← e]
theorem den_w32 (h : σ i = (.i64, a)) (hj : σ j = (.i64, c)) (e : wr .i32 a = c) : AtO.den σ i .w32 = some (AtV.av σ (.at j)) := by
  show (match (σ i).1 with | .i64 => some (AV.int .i64 (wr .i32 (σ i).2)) | _ => none) = some (.int (σ j).1 (σ j).2)
  rw [h, hj, ← e]
theorem kbeq_refl (k : IntKind) : kbeq k k = true := Nat.beq_refl _
theorem den_lss (h : σ i = (k, a)) {t : Bool} (e : decide (a < c) = t) : AtO.den σ i (.bc .lss k c) = some (AtV.av σ (.bool t)) := by
  show cnd (kbeq (σ i).1 k) (bI (inot (ile c (σ i).2))) none = some (.bool t)
  rw [h, kbeq_refl, cnd_true, bI_eq, inot_eq, ile_eq, ← e]
  rw [show (!decide (c ≤ a)) = decide (a < c) by rw [Bool.eq_iff_iff]; simp]
theorem den_gtr (h : σ i = (k, a)) {t : Bool} (e : decide (a > c) = t) : AtO.den σ i (.bc .gtr k c) = some (AtV.av σ (.bool t)) := by
  show cnd (kbeq (σ i).1 k) (bI (inot (ile (σ i).2 c))) none = some (.bool t)
  rw [h, kbeq_refl, cnd_true, bI_eq, inot_eq, ile_eq, ← e]
  rw [show (!decide (a ≤ c)) = decide (a > c) by rw [Bool.eq_iff_iff]; simp]
theorem den_lssA (h : σ i = (k, a)) (hj : σ j = (k, c)) {t : Bool} (e : decide (a < c) = t) : AtO.den σ i (.aa .lss j) = some (AtV.av σ (.bool t)) := by
  show cnd (kbeq (σ i).1 (σ j).1) (bI (inot (ile (σ j).2 (σ i).2))) none = some (.bool t)
  rw [h, hj, kbeq_refl, cnd_true, bI_eq, inot_eq, ile_eq, ← e]
  rw [show (!decide (c ≤ a)) = decide (a < c) by rw [Bool.eq_iff_iff]; simp]
theorem den_ec (h : σ i = (k, a)) {t : Bool} (e : (a == c) = t) : AtO.den σ i (.ec k c) = some (AtV.av σ (.bool t)) := by
  show (opt (cnd (kbeq (σ i).1 k) (some (ieq (σ i).2 c)) none) none fun b => some (AV.bool b)) = some (.bool t)
  rw [h, kbeq_refl, cnd_true, ieq_eq, ← e]
  rfl
theorem den_rem {d : Int} (h : σ i = (k, a)) (hj : σ j = (k, d)) (hc : c ≠ 0) (e : Int.tmod a c = d) : AtO.den σ i (.bc .rem k c) = some (AtV.av σ (.at j)) := by
  show cnd (kbeq (σ i).1 k) (cnd (ieq c 0) none (vI (σ i).1 (Int.tmod (σ i).2 c))) none = some (.int (σ j).1 (σ j).2)
  rw [h, hj, kbeq_refl, cnd_true, ieq_eq, beq_eq_false_iff_ne.2 hc, cnd_false, vI_eq, e]
theorem den_sub {d : Int} (h : σ i = (k, a)) (hj : σ j = (k, d)) (e : wr k (a - c) = d) : AtO.den σ i (.bc .sub k c) = some (AtV.av σ (.at j)) := by
  show cnd (kbeq (σ i).1 k) (vI (σ i).1 (wr (σ i).1 (isub (σ i).2 c))) none = some (.int (σ j).1 (σ j).2)
  rw [h, hj, kbeq_refl, cnd_true, isub_eq, vI_eq, e]
theorem den_add {d : Int} (h : σ i = (k, a)) (hj : σ j = (k, d)) (e : wr k (a + c) = d) : AtO.den σ i (.bc .add k c) = some (AtV.av σ (.at j)) := by
  show cnd (kbeq (σ i).1 k) (vI (σ i).1 (wr (σ i).1 (iadd (σ i).2 c))) none = some (.int (σ j).1 (σ j).2)
  rw [h, hj, kbeq_refl, cnd_true, iadd_eq, vI_eq, e]
theorem den_aa {op : BinOp} {f : AV → AV → Option AV} {t : Nat} {l m : IntKind} {d : Int} (hf : avBin op = some f) (h : σ i = (k, a)) (hj : σ j = (l, c)) (ht : σ t = (m, d)) (e : f (.int k a) (.int l c) = some (.int m d)) :
    AtO.den σ i (.aa op j) = some (AtV.av σ (.at t)) := by
  show (opt (avBin op) none fun f => f (.int (σ i).1 (σ i).2) (.int (σ j).1 (σ j).2)) = some (.int (σ t).1 (σ t).2)
  rw [hf, h, hj, ht, ← e]
  rfl
theorem den_bc {op : BinOp} {f : AV → AV → Option AV} {t : Nat} {l m : IntKind} {d : Int} (hf : avBin op = some f) (h : σ i = (k, a)) (ht : σ t = (m, d)) (e : f (.int k a) (.int l c) = some (.int m d)) :
    AtO.den σ i (.bc op l c) = some (AtV.av σ (.at t)) := by
  show (opt (avBin op) none fun f => f (.int (σ i).1 (σ i).2) (.int l c)) = some (.int (σ t).1 (σ t).2)
  rw [hf, h, ht, ← e]
  rfl
theorem den_cb {op : BinOp} {f : AV → AV → Option AV} {t : Nat} {l m : IntKind} {d : Int} (hf : avBin op = some f) (h : σ i = (k, a)) (ht : σ t = (m, d)) (e : f (.int l c) (.int k a) = some (.int m d)) :
    AtO.den σ i (.cb op l c) = some (AtV.av σ (.at t)) := by
  show (opt (avBin op) none fun f => f (.int l c) (.int (σ i).1 (σ i).2)) = some (.int (σ t).1 (σ t).2)
  rw [hf, h, ht, ← e]
  rfl
theorem den_geq (h : σ i = (k, a)) {t : Bool} (e : decide (a ≥ c) = t) : AtO.den σ i (.bc .geq k c) = some (AtV.av σ (.bool t)) := by
  show cnd (kbeq (σ i).1 k) (bI (ile c (σ i).2)) none = some (.bool t)
  rw [h, kbeq_refl, cnd_true, bI_eq, ile_eq, ← e]
theorem den_ea (h : σ i = (k, a)) (hj : σ j = (k, c)) {t : Bool} (e : (a == c) = t) : AtO.den σ i (.ea j) = some (AtV.av σ (.bool t)) := by
  show (opt (cnd (kbeq (σ i).1 (σ j).1) (some (ieq (σ i).2 (σ j).2)) none) none fun b => some (AV.bool b)) = some (.bool t)
  rw [h, hj, kbeq_refl, cnd_true, ieq_eq, ← e]
  rfl
theorem den_ng {d : Int} (h : σ i = (k, a)) (hj : σ j = (k, d)) (e : wr k (ineg a) = d) : AtO.den σ i .ng = some (AtV.av σ (.at j)) := by
  show vI (σ i).1 (wr (σ i).1 (ineg (σ i).2)) = some (.int (σ j).1 (σ j).2)
  rw [h, hj, vI_eq, e]
theorem wru8_range (n : Int) : 0 ≤ wr .u8 n ∧ wr .u8 n ≤ 255 := by
  rw [wr_eq]
  simp only [IntKind.wrap, IntKind.bits, IntKind.signed]
  simp
  omega
theorem wru8_idem (n : Int) : wr .u8 (wr .u8 n) = wr .u8 n := by
  obtain ⟨h1, h2⟩ := wru8_range n
  generalize wr .u8 n = a at *
  rw [wr_eq]
  simp only [IntKind.wrap, IntKind.bits, IntKind.signed]
  simp
  omega
theorem inKu8 (n : Int) : inK .u8 (wr .u8 n) = true := by
  obtain ⟨h1, h2⟩ := wru8_range n
  generalize wr .u8 n = a at *
  cases a with
  | ofNat m => exact Nat.ble_eq_true_of_le (by have : (m : Int) ≤ 255 := h2; show m ≤ 255; omega)
  | negSucc m => omega
theorem or128 (n : Int) : bit2 Nat.lor .u8 (wr .u8 n) 128 = some (.int .u8 (ofB .u8 (Nat.lor (toB .u8 (wr .u8 n)) 128))) := by
  unfold bit2
  rw [inKu8]
  show vI _ _ = _
  rw [vI_eq]
  rfl
theorem or128_idem (n : Int) : wr .u8 (ofB .u8 (Nat.lor (toB .u8 (wr .u8 n)) 128)) = ofB .u8 (Nat.lor (toB .u8 (wr .u8 n)) 128) := by
  have h : Nat.lor (toB .u8 (wr .u8 n)) 128 < 2 ^ IntKind.u8.bits := Nat.or_lt_two_pow (n := 8) (toB_lt .u8 _ (inKu8 n)) (by decide)
  rw [← ofB_eq .u8 _ h, ← wr_eq, wru8_idem]
theorem wru64_range (n : Int) : 0 ≤ wr .u64 n := by
  rw [wr_eq]
  simp only [IntKind.wrap, IntKind.bits, IntKind.signed]
  simp
  omega
noncomputable def valueS (args : List AV) (H : Hp) : Option (AV × Hp) :=
  match args with
  | [.at i tb] => opt (atL i .w32 tb) none fun v => some (v, H)
  | _ => none
end Go.Ev

namespace Go.Ev
open Go.RowKit (Below)
variable {P : Program} {E : Env} {base : Nat} {w0 : World}

noncomputable def PT.mp {α β : Type} (f : α → β) (t : PT α) : PT β := PT.rec (motive := fun _ => PT β) .l (fun _ v _ a b => .n a (opt v none fun x => some (f x)) b) t
theorem mp_get {α β : Type} (f : α → β) : ∀ (p : Pos) (t : PT α), (PT.mp f t).get p = (t.get p).map f
  | .h, .l => rfl
  | .h, .n a v b => by
    show opt v none (fun x => some (f x)) = v.map f
    cases v <;> rfl
  | .o p, .l => by show PT.get (.o p) PT.l = (PT.get (.o p) PT.l).map f; rw [get_leaf, get_leaf]; rfl
  | .o p, .n a v b => mp_get f p a
  | .i p, .l => by show PT.get (.i p) PT.l = (PT.get (.i p) PT.l).map f; rw [get_leaf, get_leaf]; rfl
  | .i p, .n a v b => mp_get f p b
noncomputable def roB (x : Blk) : Blk := Blk.rec (motive := fun _ => Blk) (fun _ l => .cells true l) (fun _ _ => .dead) .dead (fun _ _ _ _ => .dead) (fun _ => .dead) (fun _ => .dead) (fun _ _ _ => .dead) (fun _ _ _ => .dead) x
noncomputable def roH (H : Hp) : Hp := ⟨PT.mp roB H.m, H.nx⟩
theorem roH_inv {H : Hp} {b : Pos} {x : Blk} (h : (roH H).m.get b = some x) : ∃ y, H.m.get b = some y ∧ x = roB y := by
  have : (PT.mp roB H.m).get b = some x := h
  rw [mp_get] at this
  cases hy : H.m.get b with
  | none => rw [hy] at this; cases this
  | some y => rw [hy] at this; exact ⟨y, rfl, (Option.some.inj this).symm⟩

theorem Rl.of_below {ι : Inj} {H : Hp} {w w' : World} (h : Rl E base w0 ι H w) (hb : Below w.heap.size w w') : Rl E base w0 ι H w' where
  blk b r d z x e g := (h.blk b r d z x e g).same (hb.block r (h.size b r d z e))
  inj := h.inj
  fresh := h.fresh
  size b r d z e := Nat.lt_of_lt_of_le (h.size b r d z e) hb.size
  own := h.own
  below := h.below.trans (hb.mono h.base_le)
  base_le := Nat.le_trans h.base_le hb.size
  glob := h.glob
theorem Rl.ro {ι : Inj} {H : Hp} {w : World} (h : Rl E base w0 ι H w) : Rl E w.heap.size w ι (roH H) w where
  blk b r d z x e g := by
    obtain ⟨y, hy, rfl⟩ := roH_inv g
    have := h.blk b r d z y e hy
    cases y with
    | cells ro l => exact ⟨this.1, this.2.1, fun h => by cases h⟩
    | map es c => trivial
    | dead => trivial
    | iter m s q l => trivial
    | u8s t => trivial
    | chan cl => trivial
    | arr u t n => trivial
    | zrs u t n => trivial
  inj b b' r d d' z z' x x' e e' g g' l l' := by
    obtain ⟨y, hy, rfl⟩ := roH_inv g
    obtain ⟨y', hy', rfl⟩ := roH_inv g'
    have live : ∀ {y : Blk}, (roB y).live = true → y.live = true := by
      intro y hl
      cases y <;> first | rfl | cases hl
    exact h.inj b b' r d d' z z' y y' e e' hy hy' (live l) (live l')
  fresh b hb := by
    obtain ⟨f1, f2⟩ := h.fresh b hb
    refine ⟨f1, ?_⟩
    show (PT.mp roB H.m).get b = none
    rw [mp_get, f2]; rfl
  size := h.size
  own b r d z x e g hro := by
    obtain ⟨y, hy, rfl⟩ := roH_inv g
    cases y <;> cases hro
  below := Below.refl _ _
  base_le := Nat.le_refl _
  glob := h.glob
theorem ro_call {call : CallT} (hC : ∀ (base : Nat) (w0 : World), CallOk P E base w0 call) {ι : Inj} {H : Hp} {w : World} (h : Rl E base w0 ι H w) {f : Nat} {args : List AV} {cargs : List Value} (ha : LRel ι args cargs) {v : AV} {H' : Hp}
    (hr : call f args (roH H) = .ret v H') {W : World} (hb : Below w.heap.size w W) : Calls P f cargs.toArray W fun e W' => (∃ c ι', e = .returned c ∧ VRel ι' v c) ∧ Below W.heap.size W W' := by
  obtain ⟨_, h2⟩ := hC W.heap.size W f args (roH H) _ rfl (by rw [hr]; intro e; cases e) ι W cargs (h.of_below hb).ro ha
  refine Calls.mono h2 fun e W' he => ?_
  rw [hr] at he
  cases e with
  | returned c =>
    obtain ⟨v', H2, ι', e1, e2, e3, _⟩ := he
    cases e1
    exact ⟨⟨c, ι', rfl, e2⟩, e3.below⟩
  | panicked ch =>
    obtain ⟨v', H2, ι', c, e1, _⟩ := he
    cases e1
  | outgrown => exact he.elim
end Go.Ev

namespace Go.Ev
open Go.RowKit (Below)
variable {P : Program} {E : Env} {base : Nat} {w0 : World} {nt : Nat} {X : PT Unit} {call : CallT}

def StOk (P : Program) (E : Env) (base : Nat) (w0 : World) (nt : Nat) (X : PT Unit) (c : Code) (s : StT) : Prop :=
  ∀ (T : PT AV) (D : List DF) (H : Hp) (r : Out), s T D H = r → r ≠ .no → ∀ (ι0 : Inj) (H0 : Hp) (ι : Inj) (a : Act) (w : World), Fr nt X ι T a → AfterR E base w0 ι0 H0 D H ι a.defers w → c.wp P (OPost E base w0 nt X ι0 H0 r) a w

theorem stOk_ev (hE : EnvOk P E) (hC : CallOk P E base w0 call) (hm : P.follows .mixedOrders = true) (nl : Nat) {c : Code} (hK : CodeOk nt c) : StOk P E base w0 nt X c (ev E call nl X c) :=
  fun T D H r he hr _ _ ι a w hF hA => ev_sound hE hC hm nl c hK T D H r he hr ι a w hF hA
theorem stOk_seq {x y : Code} {sx sy : StT} (hx : StOk P E base w0 nt X x sx) (hy : StOk P E base w0 nt X y sy) : StOk P E base w0 nt X (.seq x y) (sSeq sx sy) := by
  intro T D H r he hr ι0 H0 ι a w hF hA
  replace he : thn (sx T D H) sy = r := he
  generalize hr1 : sx T D H = r1 at he
  have hne : r1 ≠ .no := by intro e; subst e; exact hr he.symm
  refine wp_seq (wp_mono (hx T D H r1 hr1 hne ι0 H0 ι a w hF hA) fun e a' w' hp => ?_)
  cases e with
  | normal =>
    obtain ⟨T', D', H', ι', rfl, hF', hA'⟩ := hp
    exact hy T' D' H' r he hr ι0 H0 ι' a' w' hF' hA'
  | exit id => obtain ⟨T', D', H', ι', rfl, hF', hA'⟩ := hp; exact ⟨T', D', H', ι', he.symm, hF', hA'⟩
  | ret => obtain ⟨T', D', H', ι', rfl, hF', hA'⟩ := hp; exact ⟨T', D', H', ι', he.symm, hF', hA'⟩
  | panic ch => obtain ⟨v, T', D', H', ι', u, rfl, h1, h2, hF', hA'⟩ := hp; exact ⟨v, T', D', H', ι', u, he.symm, h1, h2, hF', hA'⟩
  | goto l => exact hp.elim
  | outgrown => exact hp.elim
theorem stOk_cond {o : Operand} {x y : Code} {f : PT AV → Option Bool} {sx sy : StT} (hf : f = cond1 E o) (hx : StOk P E base w0 nt X x sx) (hy : StOk P E base w0 nt X y sy) : StOk P E base w0 nt X (.cond o x y) (sCd f sx sy) := by
  subst hf
  intro T D H r he hr ι0 H0 ι a w hF hA
  replace he : (opt (cond1 E o T) .no fun t => cnd t (sx T D H) (sy T D H)) = r := he
  obtain ⟨t, h1, h2⟩ := optO_ne he hr
  refine wp_cond (cond1_sound hA.rl.glob hF h1) ?_
  cases t with
  | true => exact hx T D H r h2 hr ι0 H0 ι a w hF hA
  | false => exact hy T D H r h2 hr ι0 H0 ι a w hF hA
theorem stOk_block {id : Nat} {x : Code} {sx : StT} (hx : StOk P E base w0 nt X x sx) : StOk P E base w0 nt X (.block id x) (sBlock id sx) := by
  intro T D H r he hr ι0 H0 ι a w hF hA
  unfold sBlock at he
  generalize hr1 : sx T D H = r1 at he
  have hne : r1 ≠ .no := by intro e; subst e; exact hr he.symm
  refine wp_block (wp_mono (hx T D H r1 hr1 hne ι0 H0 ι a w hF hA) fun e a' w' hp => ?_)
  cases e with
  | normal => obtain ⟨T', D', H', ι', rfl, hF', hA'⟩ := hp; exact ⟨T', D', H', ι', he.symm, hF', hA'⟩
  | exit id' =>
    obtain ⟨T', D', H', ι', rfl, hF', hA'⟩ := hp
    replace he : cnd (Nat.beq id' id) (Out.nrm T' D' H') (.ext id' T' D' H') = r := he
    rw [cnd_eq] at he
    show if id' = id then _ else _
    split at he
    · rename_i e
      rw [if_pos (Nat.eq_of_beq_eq_true e)]
      exact ⟨T', D', H', ι', he.symm, hF', hA'⟩
    · rename_i e
      rw [if_neg (fun h => e (by rw [h]; exact Nat.beq_refl _))]
      exact ⟨T', D', H', ι', he.symm, hF', hA'⟩
  | ret => obtain ⟨T', D', H', ι', rfl, hF', hA'⟩ := hp; exact ⟨T', D', H', ι', he.symm, hF', hA'⟩
  | panic ch => obtain ⟨v, T', D', H', ι', u, rfl, h1, h2, hF', hA'⟩ := hp; exact ⟨v, T', D', H', ι', u, he.symm, h1, h2, hF', hA'⟩
  | goto l => exact hp.elim
  | outgrown => exact hp.elim
theorem stOk_scope {x : Code} {sx : StT} (hx : StOk P E base w0 nt X x sx) : StOk P E base w0 nt X (.scope x) sx := by
  intro T D H r he hr ι0 H0 ι a w hF hA
  refine wp_scope_straight (wp_mono (hx T D H r he hr ι0 H0 ι a w hF hA) fun e a' w' hp => ?_)
  cases e with
  | goto l => exact hp.elim
  | _ => exact hp

def LoopAt (P : Program) (x : Code) (Q : Exit → Act → World → Prop) (a : Act) (w : World) : Prop :=
  ∀ (b : Frame) (k : List Item) (cs : List Frame), ∃ e a' w', Q e a' w' ∧ Arrives P (lone (b.at a (.code x :: .inLoop x :: k)) cs w) b k cs e a' w'
theorem wp_loopAt {x : Code} {Q : Exit → Act → World → Prop} {a : Act} {w : World} (h : LoopAt P x Q a w) : (Code.loop x).wp P Q a w := by
  intro b k cs
  obtain ⟨e, a', w', hq, harr⟩ := h b k cs
  exact ⟨e, a', w', hq, .of_steps (.one step_loop) harr⟩
theorem loopAt_round {x : Code} {Q : Exit → Act → World → Prop} {a : Act} {w : World} (h : x.wp P (Exit.then (LoopAt P x Q) Q) a w) : LoopAt P x Q a w := by
  intro b k cs
  obtain ⟨e, a₁, w₁, hq, harr⟩ := h b (.inLoop x :: k) cs
  cases e with
  | normal =>
    obtain ⟨e₂, a₂, w₂, hq₂, harr₂⟩ := hq b k cs
    exact ⟨e₂, a₂, w₂, hq₂, .of_steps (Steps.trans harr (.one step_inLoop)) harr₂⟩
  | exit id => exact ⟨_, a₁, w₁, hq, .pass (x := .inLoop x) rfl (fun _ _ => .inl (by simp)) harr⟩
  | goto l => exact ⟨_, a₁, w₁, hq, .pass (x := .inLoop x) rfl (fun _ _ => .inl (by simp)) harr⟩
  | ret => exact ⟨_, a₁, w₁, hq, .pass (x := .inLoop x) rfl (fun _ _ => .inl (by simp)) harr⟩
  | panic ch => exact ⟨_, a₁, w₁, hq, .pass (x := .inLoop x) rfl (fun _ _ => .inl (by simp)) harr⟩
  | outgrown => exact ⟨_, a₁, w₁, hq, .pass (x := .inLoop x) rfl (fun _ _ => .inl (by simp)) harr⟩
noncomputable def sRds (c : StT) (n : Nat) (j : StT) : StT := Nat.rec (motive := fun _ => StT) j (fun _ ih T D H => thn (c T D H) ih) n
def HdOk (P : Program) (E : Env) (base : Nat) (w0 : World) (nt : Nat) (X : PT Unit) (x : Code) (s : StT) : Prop :=
  ∀ (T : PT AV) (D : List DF) (H : Hp) (r : Out), s T D H = r → r ≠ .no → ∀ (ι0 : Inj) (H0 : Hp) (ι : Inj) (a : Act) (w : World), Fr nt X ι T a → AfterR E base w0 ι0 H0 D H ι a.defers w → LoopAt P x (OPost E base w0 nt X ι0 H0 r) a w
theorem stOk_loop {x : Code} {s : StT} (h : HdOk P E base w0 nt X x s) : StOk P E base w0 nt X (.loop x) s :=
  fun T D H r he hr ι0 H0 ι a w hF hA => wp_loopAt (h T D H r he hr ι0 H0 ι a w hF hA)
theorem hdOk_no {x : Code} {s : StT} (h : ∀ T D H, s T D H = .no) : HdOk P E base w0 nt X x s := fun T D H _ he hr => absurd (he.symm.trans (h T D H)) hr
theorem hdOk_rds {x : Code} {sb j : StT} (hb : StOk P E base w0 nt X x sb) (hj : HdOk P E base w0 nt X x j) : ∀ n, HdOk P E base w0 nt X x (sRds sb n j)
  | 0 => hj
  | n + 1 => by
    intro T D H r he hr ι0 H0 ι a w hF hA
    replace he : thn (sb T D H) (sRds sb n j) = r := he
    generalize hr1 : sb T D H = r1 at he
    have hne : r1 ≠ .no := by intro e; subst e; exact hr he.symm
    refine loopAt_round (wp_mono (hb T D H r1 hr1 hne ι0 H0 ι a w hF hA) fun e a' w' hp => ?_)
    cases e with
    | normal =>
      obtain ⟨T', D', H', ι', rfl, hF', hA'⟩ := hp
      exact hdOk_rds hb hj n T' D' H' r he hr ι0 H0 ι' a' w' hF' hA'
    | exit id => obtain ⟨T', D', H', ι', rfl, hF', hA'⟩ := hp; exact ⟨T', D', H', ι', he.symm, hF', hA'⟩
    | ret => obtain ⟨T', D', H', ι', rfl, hF', hA'⟩ := hp; exact ⟨T', D', H', ι', he.symm, hF', hA'⟩
    | panic ch => obtain ⟨v, T', D', H', ι', u, rfl, h1, h2, hF', hA'⟩ := hp; exact ⟨v, T', D', H', ι', u, he.symm, h1, h2, hF', hA'⟩
    | goto l => exact hp.elim
    | outgrown => exact hp.elim

theorem AfterR.weaken {ι0 ι : Inj} {H0 H H' : Hp} {D : List DF} {S : List Deferred} {w : World} (h : AfterR E base w0 ι0 H0 D H ι S w) (k : Wk ι H H') : AfterR E base w0 ι0 H0 D H' ι S w :=
  ⟨h.rl.weaken k, ⟨h.stp.le, fun b hb e => by
    obtain ⟨e1, e2⟩ := h.stp.keep b hb e
    exact ⟨e1, (k.same b e1).trans e2⟩, by rw [k.nx]; exact h.stp.nx⟩, h.dfr⟩
def TLe (T T' : PT AV) : Prop := ∀ p v, T'.get p = some v → T.get p = some v ∨ (v = .any ∧ ∃ u, T.get p = some u)
theorem Fr.weaken {ι : Inj} {T T' : PT AV} {a : Act} (h : Fr nt X ι T a) (k : TLe T T') : Fr nt X ι T' a where
  size := h.size
  cross t v e := by
    rcases k _ _ e with h1 | ⟨_, u, h1⟩
    · exact h.cross t v h1
    · exact h.cross t u h1
  val t v e := by
    rcases k _ _ e with h1 | ⟨rfl, _, _⟩
    · exact h.val t v h1
    · exact .any _
theorem Rl.envI {E' : Env} (hg : E'.gl = E.gl) {w : World} {ι : Inj} {H : Hp} (h : Rl E base w0 ι H w) : Rl E' base w0 ι H w where
  blk := h.blk
  inj := h.inj
  fresh := h.fresh
  size := h.size
  own := h.own
  below := h.below
  base_le := h.base_le
  glob g b hgl := h.glob g b (by rw [← hg]; exact hgl)
theorem CallOk.env {E' : Env} (hg : E'.gl = E.gl) {c : CallT} (h : CallOk P E base w0 c) : CallOk P E' base w0 c := by
  intro f args H r he hr ι w cargs hR ha
  obtain ⟨h1, h2⟩ := h f args H r he hr ι w cargs (hR.envI hg.symm) ha
  refine ⟨h1, Calls.mono h2 fun e w' hp => ?_⟩
  cases e with
  | returned c => obtain ⟨v, H', ι', e1, e2, e3, e4⟩ := hp; exact ⟨v, H', ι', e1, e2, e3.envI hg, e4⟩
  | panicked ch => obtain ⟨v, H', ι', c, e1, e0, e2, e3, e4⟩ := hp; exact ⟨v, H', ι', c, e1, e0, e2, e3.envI hg, e4⟩
  | outgrown => exact hp.elim

def CcOk2 (P : Program) (E : Env) : Prop := ∀ (f : Nat) (fn : Func) (X : PT Unit) (g : CallT → Nat → StT) (rs : PT AV → Hp → Option AV), E.fn.get (Pos.of f) = some (.cc fn X g rs) →
  X = crossF fn ∧ (∃ c, fn.body = some c ∧ ∀ (base : Nat) (w0 : World) (call : CallT) (nl : Nat), CallOk P E base w0 call → StOk P E base w0 fn.ntmps X c (g call nl)) ∧ ∀ T H, rs T H = results E fn T H
theorem told_ok2 (hE : EnvOk P E) (hm : P.follows .mixedOrders = true) (hK : CodesOk E) {f : Nat} {fn : Func} (hf : fnOf E f = some fn) {X : PT Unit} {g : CallT → Nat → StT} {rs : PT AV → Hp → Option AV} (h : Told E fn X g rs) :
    X = crossF fn ∧ (∃ c, fn.body = some c ∧ ∀ (base : Nat) (w0 : World) (call : CallT) (nl : Nat), CallOk P E base w0 call → StOk P E base w0 fn.ntmps X c (g call nl)) ∧ ∀ T H, rs T H = results E fn T H := by
  obtain ⟨h1, ⟨c, hb⟩, h3, h4⟩ := h
  refine ⟨h1, ⟨c, hb, fun base w0 call nl hC => ?_⟩, h4⟩
  have hc : bodyOf fn = c := by unfold bodyOf; rw [hb]; rfl
  rw [h3, hc]
  exact stOk_ev hE hC hm nl (hK f fn c hf hb)
theorem evCc_sound (hE : EnvOk P E) (hC : CallOk P E base w0 call) (hm : P.follows .mixedOrders = true) (hK : CodesOk E) (nl : Nat) {f : Nat} {fn : Func} (hf : fnOf E f = some fn) {X : PT Unit} {g : CallT → Nat → StT} {rs : PT AV → Hp → Option AV}
    (hX : X = crossF fn) {c : Code} (hb : fn.body = some c) (hg : StOk P E base w0 fn.ntmps X c (g call nl)) (hrs : ∀ T H, rs T H = results E fn T H) {args : List AV} {H : Hp} {r : CR} (he : evCc E call nl args H fn X g rs = r) (hr : r ≠ .no)
    {ι : Inj} {w : World} {cargs : List Value} (hR : Rl E base w0 ι H w) (ha : LRel ι args cargs) : Entered P f ∧ Calls P f cargs.toArray w (CPost E base w0 ι H r) := by
  refine ⟨entered hE hf hb, ?_⟩
  unfold evCc at he
  generalize hx : g call nl (initT X args) [] H = r1 at he
  have hne : r1 ≠ .no := by intro e; subst e; exact hr he.symm
  refine calls_of_wp_defers (hE.fn _ _ hf).1 hb ?_
  refine wp_mono (hg _ [] H r1 hx hne ι H ι _ w (by rw [hX]; exact Fr.init ha) ⟨hR, .refl ι H, .nil⟩) fun e a' w' hp => ?_
  cases e with
  | normal =>
    obtain ⟨T', D', H', ι', rfl, hF', hA'⟩ := hp
    replace he : fin E call fn rs T' D' H' = r := he
    rw [fin_eq hrs] at he
    exact leaves_sound hE hC hm hK hr D' a'.defers .ret .returning H' ι' w' he hA'.dfr .ret hF' ⟨hA'.rl, hA'.stp, .nil⟩
  | ret =>
    obtain ⟨T', D', H', ι', rfl, hF', hA'⟩ := hp
    replace he : fin E call fn rs T' D' H' = r := he
    rw [fin_eq hrs] at he
    exact leaves_sound hE hC hm hK hr D' a'.defers .ret .returning H' ι' w' he hA'.dfr .ret hF' ⟨hA'.rl, hA'.stp, .nil⟩
  | panic ch =>
    obtain ⟨v, T', D', H', ι', cv, rfl, rfl, hv, hF', hA'⟩ := hp
    exact leaves_sound hE hC hm hK hr D' a'.defers (.pan v false) (.panicking [{ v := cv, recovered := false }]) H' ι' w' he hA'.dfr (.pan v cv false hv) hF' ⟨hA'.rl, hA'.stp, .nil⟩
  | exit id => obtain ⟨T', D', H', ι', rfl, _⟩ := hp; exact absurd he.symm hr
  | goto l => exact hp.elim
  | outgrown => exact hp.elim
theorem evC_sound2 (hE : EnvOk P E) (hm : P.follows .mixedOrders = true) (hK : CodesOk E) (hS : SumsOk P E base w0) (hT : CcOk2 P E) (nl : Nat) : ∀ n, CallOk P E base w0 (evC E nl n)
  | 0 => fun f args H r he hr => absurd he.symm hr
  | n + 1 => by
    intro f args H r he hr ι w cargs hR ha
    replace he : (opt (E.fn.get (Pos.of f)) CR.no fun x => FE.rec (motive := fun _ => CR) (fun fn => evFn E (evC E nl n) nl args H fn) (fun g => sumK (g args H)) (fun fn X g rs => evCc E (evC E nl n) nl args H fn X g rs) x) = r := he
    obtain ⟨x, h1, h2⟩ := optC_ne he hr
    cases x with
    | fn fn =>
      have hf : fnOf E f = some fn := by unfold fnOf; rw [h1]; rfl
      exact evFn_sound hE (evC_sound2 hE hm hK hS hT nl n) hm hK nl hf h2 hr hR ha
    | cc fn X g rs =>
      have hf : fnOf E f = some fn := by unfold fnOf; rw [h1]; rfl
      obtain ⟨t1, ⟨c, t2, t3⟩, t4⟩ := hT f fn X g rs h1
      exact evCc_sound hE (evC_sound2 hE hm hK hS hT nl n) hm hK nl hf t1 t2 (t3 base w0 _ nl (evC_sound2 hE hm hK hS hT nl n)) t4 h2 hr hR ha
    | sm g => exact hS f g h1 f args H r (by show (if f = f then sumK (g args H) else CR.no) = r; rw [if_pos rfl]; exact h2) hr ι w cargs hR ha

noncomputable def evJ (E : Env) (call : CallT) (nl : Nat) (X : PT Unit) (k : Nat) (j : StT) (c : Code) : StT :=
  Code.rec (motive := fun _ => StT) sSkip (fun _ ops draw => evReg E call X ops.toList draw) (fun _ _ a b => sSeq a b) (fun c _ _ a b => sCond E c a b)
    (fun id _ c => cnd (Nat.beq id k) (sBlock id j) (sBlock id c)) (fun _ c => sLoop c nl) (fun _ _ _ _ _ _ => sNo) (fun id T D H => .ext id T D H) (fun _ c => c) (fun _ => sSkip) (fun _ => sNo)
    (fun T D H => .ret T D H) (fun _ => sNo) c
noncomputable def blks (k : Nat) (c : Code) : List Code :=
  Code.rec (motive := fun _ => List Code) [] (fun _ _ _ => []) (fun _ _ a b => a ++ b) (fun _ _ _ a b => a ++ b) (fun id x a => cnd (Nat.beq id k) [x] a) (fun _ a => a) (fun _ _ _ _ _ _ => []) (fun _ => []) (fun _ a => a) (fun _ => []) (fun _ => []) [] (fun _ => []) c
theorem evJ_ok (hE : EnvOk P E) (hC : CallOk P E base w0 call) (hm : P.follows .mixedOrders = true) (nl : Nat) {k : Nat} {j : StT} : ∀ (c : Code), CodeOk nt c → (∀ x, x ∈ blks k c → StOk P E base w0 nt X x j) → StOk P E base w0 nt X c (evJ E call nl X k j c) := by
  intro c
  induction c with
  | skip => exact fun hK _ => stOk_ev hE hC hm nl hK
  | region id ops draw => exact fun hK _ => stOk_ev hE hC hm nl hK
  | seq x y ihx ihy => exact fun hK hj => stOk_seq (ihx hK.1 fun z hz => hj z (List.mem_append_left _ hz)) (ihy hK.2 fun z hz => hj z (List.mem_append_right _ hz))
  | cond o x y ihx ihy => exact fun hK hj => stOk_cond rfl (ihx hK.1 fun z hz => hj z (List.mem_append_left _ hz)) (ihy hK.2 fun z hz => hj z (List.mem_append_right _ hz))
  | block id x ih =>
    intro hK hj
    show StOk P E base w0 nt X (.block id x) (cnd (Nat.beq id k) (sBlock id j) (sBlock id (evJ E call nl X k j x)))
    replace hj : ∀ z, z ∈ cnd (Nat.beq id k) [x] (blks k x) → StOk P E base w0 nt X z j := hj
    cases h : Nat.beq id k with
    | true =>
      rw [h] at hj
      exact stOk_block (hj x (.head _))
    | false =>
      rw [h] at hj
      exact stOk_block (ih hK hj)
  | loop x ih => exact fun hK hj => stOk_loop (hdOk_rds (ih hK hj) (hdOk_no fun _ _ _ => rfl) nl)
  | rangeFunc f ps x y ihx ihy => exact fun hK _ => stOk_ev hE hC hm nl hK
  | exit id => exact fun hK _ => stOk_ev hE hC hm nl hK
  | scope x ih => exact fun hK hj => stOk_scope (ih hK hj)
  | label l => exact fun hK _ => stOk_ev hE hC hm nl hK
  | goto l => exact fun hK _ => stOk_ev hE hC hm nl hK
  | ret => exact fun hK _ => stOk_ev hE hC hm nl hK
  | refuse s => exact fun hK _ => stOk_ev hE hC hm nl hK
end Go.Ev

namespace Go.Ev
open Go.RowKit (Below)
variable {P : Program} {E : Env} {base : Nat} {w0 : World}

mutual
theorem VRel.back {ι κ : Inj} (hi : ι.le κ) : ∀ {x : AV} {v0 v : Value}, VRel ι x v0 → VRel κ x v → VRel ι x v
  | _, _, _, .any _, _ => .any _
  | _, _, _, .bool b, k => by cases k; exact .bool _
  | _, _, _, .int _ _, k => by cases k; exact .int _ _
  | _, _, _, .str _ _ _, k => by cases k with | str s _ h => exact .str s _ h
  | _, _, _, .pnil, k => by cases k; exact .pnil
  | _, _, _, .ptr b o r d z h, k => by
    cases k with
    | ptr _ _ r' d' z' h' =>
      rw [hi.app _ _ h] at h'; cases h'
      exact .ptr b o r d z h
  | _, _, _, .snil, k => by cases k; exact .snil
  | _, _, _, .sl b o n c r d z h, k => by
    cases k with
    | sl _ _ _ _ r' d' z' h' =>
      rw [hi.app _ _ h] at h'; cases h'
      exact .sl b o n c r d z h
    | slv _ _ r' d' z' a _ h' hc => exact .slv b o r d z a _ h hc
  | _, _, _, .slu b o n c r d z e h hc hz, k => by
    cases k with
    | slu _ _ _ c' r' d' z' _ h' hc' hz' =>
      rw [hi.app _ _ h] at h'; cases h'
      exact .slu b o n c' r d z e h hc' hz'
    | slv _ _ r' d' z' a _ h' hc => exact .slv b o r d z a _ h hc
  | _, _, _, .slv b o r d z a c h hc, k => by
    cases k with
    | sl _ _ _ _ r' d' z' h' =>
      rw [hi.app _ _ h] at h'; cases h'
      exact .sl b o 0 _ r d z h
    | slu _ _ _ c' r' d' z' _ h' hc' hz' =>
      rw [hi.app _ _ h] at h'; cases h'
      exact .slu b o 0 c' r d z _ h hc' hz'
    | slv _ _ r' d' z' a' _ h' hc' => exact .slv b o r d z a' _ h hc'
  | _, _, _, .mnil, k => by cases k; exact .mnil
  | _, _, _, .map b r z h, k => by
    cases k with
    | map _ r' z' h' => rw [hi.app _ _ h] at h'; cases h'; exact .map b r z h
  | _, _, _, .fn f a c A C ha hc, k => by
    cases k with
    | fn _ _ _ A' C' ha' hc' => exact .fn f a c A' C' (ha.back hi ha') (hc.back hi hc')
  | _, _, _, .fnil, k => by cases k; exact .fnil
  | _, _, _, .ifc t v x h, k => by
    cases k with
    | ifc _ _ x' h' => exact .ifc t v x' (h.back hi h')
  | _, _, _, .inil, k => by cases k; exact .inil
  | _, _, _, .agg l L h, k => by
    cases k with
    | agg _ L' h' => exact .agg l L' (h.back hi h')
  | _, _, _, .tup l L h, k => by
    cases k with
    | tup _ L' h' => exact .tup l L' (h.back hi h')
  | _, _, _, .sy ops vs k n ys h hs, q => by
    cases q with
    | sy _ _ k' n' ys' h' hs' => exact .sy ops vs k' n' ys' (h.back hi h') hs'
  | _, _, _, .at i tb k n h hx, q => by
    cases q with
    | «at» _ _ k' n' h' hx' => exact .at i tb k' n' h (by rw [← hi.s]; exact hx')
  | _, _, _, .strq n s h, k => by cases k with | strq _ s' h' => exact .strq n s' h'
  | _, _, _, .slq b m n c r d Z h hm hc hz, k => by
    cases k with
    | slq _ _ n' c' r' d' Z' h' hm' hc' hz' =>
      rw [hi.app _ _ h] at h'
      obtain ⟨e1, e2, e3⟩ : r = r' ∧ d = d' ∧ code n Z = code n' Z' := by injection h' with h'; injection h' with a h'; injection h' with b c; exact ⟨a, b, c⟩
      obtain ⟨rfl, rfl⟩ := code_inj e3
      subst e1; subst e2
      exact .slq b m n c' r d Z h hm' hc' hz'
  | _, _, _, .nle m n h0 h, k => by cases k with | nle _ n' h0' h' => exact .nle m n' h0' h'
  | _, _, _, .chn b r z h, k => by
    cases k with
    | chn _ r' z' h' => rw [hi.app _ _ h] at h'; cases h'; exact .chn b r z h
  | _, _, _, .cnil, k => by cases k; exact .cnil
  | _, _, _, .stk l s h hk, k => by
    cases k with
    | stk _ s' h' hk' => exact .stk l s' (by rw [← hi.s]; exact h') hk
  | _, _, _, .pos l k n hn hl hk, q => by
    cases q with
    | pos _ _ n' hn' hl' hk' => exact .pos l k n' (by rw [← hi.s]; exact hn') hl hk
  | _, _, _, .nge m n h h2, k => by cases k with | nge _ n' h' h2' => exact .nge m n' h' h2'
  | _, _, _, .sln b e i tb n c r d Z h ho hx hc hz he, k => by
    cases k with
    | sln _ _ _ _ n' c' r' d' Z' h' ho' hx' hc' hz' he' =>
      rw [hi.app _ _ h] at h'
      obtain ⟨e1, e2, e3⟩ : r = r' ∧ d = d' ∧ code n Z = code n' Z' := by injection h' with h'; injection h' with a h'; injection h' with b c; exact ⟨a, b, c⟩
      obtain ⟨rfl, rfl⟩ := code_inj e3
      subst e1; subst e2
      exact .sln b e i tb n c' r d Z h ho hx hc' hz' he
  | _, _, _, .pat b e j tb f n r d Z q h ho hx hq hf, k => by
    cases k with
    | pat _ _ _ _ _ n' r' d' Z' q' h' ho' hx' hq' hf' =>
      rw [hi.app _ _ h] at h'
      obtain ⟨e1, e2, e3⟩ : r = r' ∧ d = d' ∧ code n Z = code n' Z' := by injection h' with h'; injection h' with a h'; injection h' with b c; exact ⟨a, b, c⟩
      obtain ⟨rfl, rfl⟩ := code_inj e3
      subst e1; subst e2
      exact .pat b e j tb f n r d Z q' h ho (by rw [← hi.s]; exact hx') hq' hf
  | _, _, _, .stn l s h, k => by cases k with | stn _ s' h' => exact .stn l s' h'
theorem LRel.back {ι κ : Inj} (hi : ι.le κ) : ∀ {l : List AV} {L0 L : List Value}, LRel ι l L0 → LRel κ l L → LRel ι l L
  | _, _, _, .nil, k => by cases k; exact .nil
  | _, _, _, .cons x v l L h t, k => by
    cases k with
    | cons _ v' _ L' h' t' => exact .cons x v' l L' (h.back hi h') (t.back hi t')
end
theorem ERel.back {ι κ : Inj} (hi : ι.le κ) : ∀ {l : List (AV × AV × Nat)} {L0 L : List MapEntry}, ERel ι l L0 → ERel κ l L → ERel ι l L
  | _, _, _, .nil, k => by cases k; exact .nil
  | _, _, _, .cons k x n K X l L hk hx t, q => by
    cases q with
    | cons _ _ _ K' X' _ L' hk' hx' t' => exact .cons k x n K' X' l L' (hk.back hi hk') (hx.back hi hx') (t.back hi t')
theorem IRel.back {ι κ : Inj} (hi : ι.le κ) {m : Option Pos} {R0 R : Option Nat} (h : IRel ι m R0) (k : IRel κ m R) : IRel ι m R := by
  cases m with
  | none => cases R with
    | none => trivial
    | some r => exact k.elim
  | some b =>
    cases R0 with
    | none => exact h.elim
    | some r0 =>
      cases R with
      | none => exact k.elim
      | some r =>
        obtain ⟨z, hz⟩ := h
        obtain ⟨z', hz'⟩ := k
        rw [hi.app _ _ hz] at hz'
        cases hz'
        exact ⟨z, hz⟩
theorem BRel.back {ι κ : Inj} (hi : ι.le κ) {w w' : World} {r d z : Nat} : ∀ {x : Blk}, BRel ι w r d z x → BRel κ w' r d z x → BRel ι w' r d z x
  | .cells _ _, ⟨hl, h, _⟩, ⟨_, h', hf'⟩ => ⟨hl, fun j x e => by
      obtain ⟨v0, _, r0⟩ := h j x e
      obtain ⟨v, a, r1⟩ := h' j x e
      exact ⟨v, a, r0.back hi r1⟩, hf'⟩
  | .map _ _, ⟨h0, _, _, h2⟩, ⟨_, ES, h1', h2'⟩ => ⟨h0, ES, h1', h2.back hi h2'⟩
  | .dead, _, _ => trivial
  | .iter _ _ _ _, ⟨h0, _, _, _, _, h3⟩, ⟨_, R, S, h1', h2', h3'⟩ => ⟨h0, R, S, h1', h2', h3.back hi h3'⟩
  | .u8s _, _, ⟨n, Z, h1, h2, h3, h4⟩ => ⟨n, Z, h1, h2, h3, by rw [← hi.s]; exact h4⟩
  | .chan _, _, h => h
  | .arr _ _ _, ⟨hl, h, _⟩, ⟨_, h', hf'⟩ => ⟨hl, fun j hj => by
      obtain ⟨v0, _, r0⟩ := h j hj
      obtain ⟨v, a, r1⟩ := h' j hj
      exact ⟨v, a, r0.back hi r1⟩, hf'⟩
  | .zrs _ _ _, ⟨n, Z, h1, h2, h3, h4, h5, h6, _⟩, ⟨n', Z', h1', _, _, _, _, h6', h7'⟩ => by
      obtain ⟨rfl, rfl⟩ := code_inj (h1.symm.trans h1')
      exact ⟨n, Z, h1, h2, h3, h4, h5, fun q f v hq hv => by
        obtain ⟨v0, _, r0⟩ := h6 q f v hq hv
        obtain ⟨c, a, r1⟩ := h6' q f v hq (by rw [hi.s]; exact hv)
        exact ⟨c, a, r0.back hi r1⟩, h7'⟩
theorem Rl.back {b0 : Nat} {w00 w w' : World} {ι κ : Inj} {H H' : Hp} (h0 : Rl E b0 w00 ι H w) (h : Rl E base w0 κ H' w') (hi : ι.le κ) (hs : ∀ b y x, ι b = some y → H.m.get b = some x → H'.m.get b = some x) : Rl E base w0 ι H w' where
  blk b r d z x e g := (h0.blk b r d z x e g).back hi (h.blk b r d z x (hi.app _ _ e) (hs b _ x e g))
  inj := h0.inj
  fresh := h0.fresh
  size b r d z e := h.size b r d z (hi.app _ _ e)
  own b r d z x e g hro := h.own b r d z x (hi.app _ _ e) (hs b _ x e g) hro
  below := h.below
  base_le := h.base_le
  glob := h0.glob

noncomputable def gnd (d : Nat) : AV → Bool :=
  Nat.rec (motive := fun _ => AV → Bool) (fun _ => false)
    (fun _ ih v => match v with
      | .any => true
      | .bool _ => true
      | .int _ _ => true
      | .str _ => true
      | .pnil => true
      | .snil => true
      | .mnil => true
      | .fnil => true
      | .inil => true
      | .cnil => true
      | .stn _ => true
      | .ifc _ v => ih v
      | .agg l => allB ih l
      | .tup l => allB ih l
      | _ => false) d
theorem allB_get {f : AV → Bool} {l : List AV} (h : allB f l = true) : ∀ x, x ∈ l → f x = true := by
  induction l with
  | nil => intro x hx; cases hx
  | cons y l ih =>
    intro x hx
    replace h : iand (f y) (allB f l) = true := h
    rw [iand_eq, Bool.and_eq_true] at h
    cases hx with
    | head => exact h.1
    | tail _ hx => exact ih h.2 x hx
theorem gndL {ι κ : Inj} {f : AV → Bool} (hf : ∀ x c, f x = true → VRel ι x c → VRel κ x c) : ∀ {l : List AV} {L : List Value}, LRel ι l L → allB f l = true → LRel κ l L
  | _, _, .nil, _ => .nil
  | _, _, .cons x v l L hx t, h => by
    replace h : iand (f x) (allB f l) = true := h
    rw [iand_eq, Bool.and_eq_true] at h
    exact .cons x v l L (hf x v h.1 hx) (gndL hf t h.2)
theorem gnd_rel {ι κ : Inj} : ∀ (d : Nat) (x : AV) (c : Value), gnd d x = true → VRel ι x c → VRel κ x c
  | 0, _, _, h, _ => by cases h
  | d + 1, x, c, h, hx => by
    cases hx with
    | any _ => exact .any _
    | bool b => exact .bool b
    | int k n => exact .int k n
    | str s l hs => exact .str s l hs
    | pnil => exact .pnil
    | snil => exact .snil
    | mnil => exact .mnil
    | fnil => exact .fnil
    | inil => exact .inil
    | cnil => exact .cnil
    | stn l s hs => exact .stn l s hs
    | ifc t v y hv => exact .ifc t v y (gnd_rel d v y h hv)
    | agg l L hl => exact .agg l L (gndL (fun x c hx hv => gnd_rel d x c hx hv) hl (show allB (gnd d) l = true from h))
    | tup l L hl => exact .tup l L (gndL (fun x c hx hv => gnd_rel d x c hx hv) hl (show allB (gnd d) l = true from h))
    | _ => cases h
theorem gnd_relL {ι κ : Inj} (d : Nat) {l : List AV} {L : List Value} (h : allB (gnd d) l = true) (hl : LRel ι l L) : LRel κ l L := gndL (fun x c hx hv => gnd_rel d x c hx hv) hl h
noncomputable def bare (d : Nat) : AV → AV :=
  Nat.rec (motive := fun _ => AV → AV) (fun _ => .any)
    (fun _ ih v => match v with
      | .bool b => .bool b
      | .int k n => .int k n
      | .str l => .str l
      | .pnil => .pnil
      | .snil => .snil
      | .mnil => .mnil
      | .fnil => .fnil
      | .inil => .inil
      | .agg l => .agg (l.map ih)
      | .tup l => .tup (l.map ih)
      | _ => .any) d
theorem bareL {ι κ : Inj} {f : AV → AV} (hf : ∀ x c, VRel ι x c → VRel κ (f x) c) : ∀ {l : List AV} {L : List Value}, LRel ι l L → LRel κ (l.map f) L
  | _, _, .nil => .nil
  | _, _, .cons x v l L hx t => .cons _ v _ L (hf x v hx) (bareL hf t)
theorem bare_rel {ι κ : Inj} : ∀ (d : Nat) (x : AV) (c : Value), VRel ι x c → VRel κ (bare d x) c
  | 0, _, c, _ => .any c
  | d + 1, x, c, hx => by
    cases hx with
    | bool b => exact .bool b
    | int k n => exact .int k n
    | str s l hs => exact .str s l hs
    | pnil => exact .pnil
    | snil => exact .snil
    | mnil => exact .mnil
    | fnil => exact .fnil
    | inil => exact .inil
    | agg l L hl => exact .agg _ L (bareL (fun x c hv => bare_rel d x c hv) hl)
    | tup l L hl => exact .tup _ L (bareL (fun x c hv => bare_rel d x c hv) hl)
    | _ => exact .any _

noncomputable def rnV (φ : PT Pos) (d : Nat) : AV → Option AV :=
  Nat.rec (motive := fun _ => AV → Option AV) (fun _ => none)
    (fun _ ih v => match v with
      | .bool b => some (.bool b)
      | .int k n => some (.int k n)
      | .str l => some (.str l)
      | .pnil => some .pnil
      | .snil => some .snil
      | .mnil => some .mnil
      | .fnil => some .fnil
      | .inil => some .inil
      | .ptr b o => opt (φ.get b) none fun b' => some (.ptr b' o)
      | .sl b o n c => opt (φ.get b) none fun b' => some (.sl b' o n c)
      | .any => some .any
      | .stn l => some (.stn l)
      | .agg l => opt (mapO ih l) none fun l' => some (.agg l')
      | .tup l => opt (mapO ih l) none fun l' => some (.tup l')
      | _ => none) d
theorem rnL {ι κ : Inj} {f : AV → Option AV} (hf : ∀ x y c, f x = some y → VRel ι x c → VRel κ y c) : ∀ {l : List AV} {L : List Value}, LRel ι l L → ∀ {l' : List AV}, mapO f l = some l' → LRel κ l' L
  | _, _, .nil, _, h => by cases h; exact .nil
  | _, _, .cons x v l L hx t, l', h => by
    replace h : opt (f x) none (fun y => opt (mapO f l) none fun ys => some (fcons y ys)) = some l' := h
    obtain ⟨y, h1, h2⟩ := opt_eq_some h
    obtain ⟨ys, h3, h4⟩ := opt_eq_some h2
    cases h4
    have : fcons y ys = y :: ys := by cases ys <;> rfl
    rw [this]
    exact .cons y v ys L (hf x y v h1 hx) (rnL hf t h3)
theorem rnV_rel {ι κ : Inj} {φ : PT Pos} (hφ : ∀ b b' q, φ.get b = some b' → ι b = some q → κ b' = some q) : ∀ (d : Nat) (x y : AV) (c : Value), rnV φ d x = some y → VRel ι x c → VRel κ y c
  | 0, _, _, _, h, _ => by cases h
  | d + 1, x, y, c, h, hx => by
    cases hx with
    | any c => cases h; exact .any _
    | stn l s hs => cases h; exact .stn l s hs
    | bool b => cases h; exact .bool b
    | int k n => cases h; exact .int k n
    | str s l hs => cases h; exact .str s l hs
    | pnil => cases h; exact .pnil
    | snil => cases h; exact .snil
    | mnil => cases h; exact .mnil
    | fnil => cases h; exact .fnil
    | inil => cases h; exact .inil
    | ptr b o r dd z hb =>
      replace h : opt (φ.get b) none (fun b' => some (AV.ptr b' o)) = some y := h
      obtain ⟨b', h1, h2⟩ := opt_eq_some h
      cases h2
      exact .ptr b' o r dd z (hφ _ _ _ h1 hb)
    | sl b o n k r dd z hb =>
      replace h : opt (φ.get b) none (fun b' => some (AV.sl b' o n (.ex k))) = some y := h
      obtain ⟨b', h1, h2⟩ := opt_eq_some h
      cases h2
      exact .sl b' o n k r dd z (hφ _ _ _ h1 hb)
    | slu b o n k r dd z e hb hc hz =>
      replace h : opt (φ.get b) none (fun b' => some (AV.sl b' o n (.op e))) = some y := h
      obtain ⟨b', h1, h2⟩ := opt_eq_some h
      cases h2
      exact .slu b' o n k r dd z e (hφ _ _ _ h1 hb) hc hz
    | slv b o r dd z a k hb hc =>
      replace h : opt (φ.get b) none (fun b' => some (AV.sl b' o 0 k)) = some y := h
      obtain ⟨b', h1, h2⟩ := opt_eq_some h
      cases h2
      exact .slv b' o r dd z a k (hφ _ _ _ h1 hb) hc
    | agg l L hl =>
      replace h : opt (mapO (rnV φ d) l) none (fun l' => some (AV.agg l')) = some y := h
      obtain ⟨l', h1, h2⟩ := opt_eq_some h
      cases h2
      exact .agg l' L (rnL (fun x y c hx hv => rnV_rel hφ d x y c hx hv) hl h1)
    | tup l L hl =>
      replace h : opt (mapO (rnV φ d) l) none (fun l' => some (AV.tup l')) = some y := h
      obtain ⟨l', h1, h2⟩ := opt_eq_some h
      cases h2
      exact .tup l' L (rnL (fun x y c hx hv => rnV_rel hφ d x y c hx hv) hl h1)
    | _ => cases h
end Go.Ev

namespace Go.Ev
noncomputable def endN (T : PT AV) (sv : List (Nat × Pos)) : List AV → List DF → Hp → Out := fun L D H => .nrm (save T L sv) D H
noncomputable def pW (T : PT AV) (sv : List (Nat × Pos)) : AV → List DF → Hp → Out := fun v D H => .pan v (wipe T sv) D H
noncomputable def roO (T : PT AV) (sv : List (Nat × Pos)) (r : RO) : Out := RO.rec (motive := fun _ => Out) (endN T sv) (pW T sv) .no r
abbrev JT := AV → List DF → Hp → Out
abbrev KN := PT AV → List AV → List DF → Hp → JT → JT → Out
noncomputable def ow (r : OR) (k : AV → Hp → Out) : Out := OR.rec (motive := fun _ => Out) (fun v H => k v H) .no r
noncomputable def cw (r : CR) (D : List DF) (p : JT) (k : AV → Hp → Out) : Out := CR.rec (motive := fun _ => Out) (fun v H => k v H) (fun v H => p v D H) .no r
noncomputable def panN (v : AV) (D : List DF) (H : Hp) (p : JT) : Out :=
  match v with
  | .ifc t v => p (.ifc t v) D H
  | _ => .no
noncomputable def exN (q : K) : CallT → KN :=
  K.rec (motive := fun _ => CallT → KN)
    (fun f x _ T L D H _ k => opt (f (x.ev T L)) .no fun v => k v D H)
    (fun f x y _ T L D H _ k => opt (f (x.ev T L) (y.ev T L)) .no fun v => k v D H)
    (fun f x y z _ T L D H _ k => opt (f (x.ev T L) (y.ev T L) (z.ev T L)) .no fun v => k v D H)
    (fun f xs _ T L D H _ k => opt (f (evs T L xs)) .no fun v => k v D H)
    (fun f x _ T L D H _ k => opt (f (x.ev T L) H) .no fun v => k v D H)
    (fun f xs _ T L D H _ k => opt (f (evs T L xs)) .no fun p => H.new p.1 fun b H' => k (p.2.av b) D H')
    (fun f x y _ T L D H _ k => ow (f (x.ev T L) (y.ev T L) H) fun v H => k v D H)
    (fun f x y z _ T L D H _ k => ow (f (x.ev T L) (y.ev T L) (z.ev T L) H) fun v H => k v D H)
    (fun f xs c T L D H p k => cw (c f (evs T L xs) H) D p fun v H => k v D H)
    (fun f xs c T L D H p k => cw (callV c (f.ev T L) (evs T L xs) H) D p fun v H => k v D H)
    (fun _ _ _ _ _ _ _ => .no)
    (fun f xs _ T L D H _ k => opt (dfOf (f.ev T L) (evs T L xs)) .no fun d => k (.tup []) (d :: D) H)
    (fun x _ T L D H p _ => panN (x.ev T L) D H p)
    (fun _ _ _ _ _ _ _ _ _ => .no) q
theorem exN_eq (T0 : PT AV) (sv : List (Nat × Pos)) (q : K) (c : CallT) (T : PT AV) (L : List AV) (D : List DF) (H : Hp) (k : AV → List DF → Hp → RO) :
    roO T0 sv (exec q c T L D H k) = exN q c T L D H (pW T0 sv) fun v D H => roO T0 sv (k v D H) := by
  cases q with
  | p1 f x => show roO T0 sv (opt (f (x.ev T L)) .no fun v => k v D H) = opt (f (x.ev T L)) .no fun v => roO T0 sv (k v D H); cases f (x.ev T L) <;> rfl
  | p2 f x y => show roO T0 sv (opt (f (x.ev T L) (y.ev T L)) .no fun v => k v D H) = opt (f (x.ev T L) (y.ev T L)) .no fun v => roO T0 sv (k v D H); cases f (x.ev T L) (y.ev T L) <;> rfl
  | p3 f x y z => show roO T0 sv (opt (f (x.ev T L) (y.ev T L) (z.ev T L)) .no fun v => k v D H) = opt (f (x.ev T L) (y.ev T L) (z.ev T L)) .no fun v => roO T0 sv (k v D H); cases f (x.ev T L) (y.ev T L) (z.ev T L) <;> rfl
  | pn f xs => show roO T0 sv (opt (f (evs T L xs)) .no fun v => k v D H) = opt (f (evs T L xs)) .no fun v => roO T0 sv (k v D H); cases f (evs T L xs) <;> rfl
  | r1 f x => show roO T0 sv (opt (f (x.ev T L) H) .no fun v => k v D H) = opt (f (x.ev T L) H) .no fun v => roO T0 sv (k v D H); cases f (x.ev T L) H <;> rfl
  | al f xs =>
    show roO T0 sv (opt (f (evs T L xs)) .no fun p => H.new p.1 fun b H' => k (p.2.av b) D H') = opt (f (evs T L xs)) .no fun p => H.new p.1 fun b H' => roO T0 sv (k (p.2.av b) D H')
    cases f (evs T L xs) with
    | none => rfl
    | some p => rw [opt_some, opt_some, new_eq, new_eq]
  | w2 f x y => show roO T0 sv (orV (f (x.ev T L) (y.ev T L) H) D k) = ow (f (x.ev T L) (y.ev T L) H) fun v H => roO T0 sv (k v D H); cases f (x.ev T L) (y.ev T L) H <;> rfl
  | w3 f x y z => show roO T0 sv (orV (f (x.ev T L) (y.ev T L) (z.ev T L) H) D k) = ow (f (x.ev T L) (y.ev T L) (z.ev T L) H) fun v H => roO T0 sv (k v D H); cases f (x.ev T L) (y.ev T L) (z.ev T L) H <;> rfl
  | call f xs => show roO T0 sv (crV (c f (evs T L xs) H) D k) = cw (c f (evs T L xs) H) D (pW T0 sv) fun v H => roO T0 sv (k v D H); cases c f (evs T L xs) H <;> rfl
  | callv f xs => show roO T0 sv (crV (callV c (f.ev T L) (evs T L xs) H) D k) = cw (callV c (f.ev T L) (evs T L xs) H) D (pW T0 sv) fun v H => roO T0 sv (k v D H); cases callV c (f.ev T L) (evs T L xs) H <;> rfl
  | rcv => rfl
  | dfr f xs => show roO T0 sv (opt (dfOf (f.ev T L) (evs T L xs)) .no fun d => k (.tup []) (d :: D) H) = opt (dfOf (f.ev T L) (evs T L xs)) .no fun d => roO T0 sv (k (.tup []) (d :: D) H); cases dfOf (f.ev T L) (evs T L xs) <;> rfl
  | pan x => show roO T0 sv (panV (x.ev T L) D H) = panN (x.ev T L) D H (pW T0 sv); cases x.ev T L <;> rfl
  | sel z x => rfl
noncomputable def evC1N (p : JT) (w : Option (Nat × Bool)) (q : K) (rc : List (Nat × (AV → Hp → Option AV) × Opd)) (call : CallT) (T : PT AV) (ih : List AV → List DF → Hp → Out) : List AV → List DF → Hp → Out :=
  fun L D H => jn (α := JT) (fun v D H => ih (v :: L) D H) fun k => opt (guardB w L) .no fun w => cnd w
    (exN q call T L D H p fun v D' H' => cnd (reB T (v :: L) H' rc) (k v D' H') .no)
    (k (.tup []) D H)
noncomputable def evCsN (p : JT) (e : List AV → List DF → Hp → Out) (call : CallT) (T : PT AV) (cs : List CO) : List AV → List DF → Hp → Out :=
  List.rec (motive := fun _ => List AV → List DF → Hp → Out) e
    (fun c _ ih L D H => CO.rec (motive := fun _ => Out) (fun q => exN q call T L D H p fun v D' H' => ih (v :: L) D' H') (fun w q rc => evC1N p w q rc call T ih L D H)
      (fun z x => opt (selF z (x.ev T L) H) .no fun v => ih (v :: L) D H) c) cs
theorem evCsN_eq (T0 : PT AV) (sv : List (Nat × Pos)) (call : CallT) (T : PT AV) : ∀ (cs : List CO) (L : List AV) (D : List DF) (H : Hp), roO T0 sv (evCs call T cs L D H) = evCsN (pW T0 sv) (endN T0 sv) call T cs L D H
  | [], _, _, _ => rfl
  | c :: cs, L, D, H => by
    have ih := evCsN_eq T0 sv call T cs
    cases c with
    | p q =>
      show roO T0 sv (exec q call T L D H fun v D' H' => evCs call T cs (v :: L) D' H') = exN q call T L D H (pW T0 sv) fun v D' H' => evCsN (pW T0 sv) (endN T0 sv) call T cs (v :: L) D' H'
      rw [exN_eq]
      congr 1
      funext v D' H'
      exact ih _ _ _
    | g w q rc =>
      show roO T0 sv (opt (guardB w L) .no fun w => cnd w (exec q call T L D H fun v D' H' => cnd (reB T (v :: L) H' rc) (evCs call T cs (v :: L) D' H') .no) (evCs call T cs (.tup [] :: L) D H)) =
        opt (guardB w L) .no fun w => cnd w (exN q call T L D H (pW T0 sv) fun v D' H' => cnd (reB T (v :: L) H' rc) (evCsN (pW T0 sv) (endN T0 sv) call T cs (v :: L) D' H') .no) (evCsN (pW T0 sv) (endN T0 sv) call T cs (.tup [] :: L) D H)
      cases guardB w L with
      | none => rfl
      | some t =>
        rw [opt_some, opt_some]
        cases t with
        | true =>
          show roO T0 sv (exec q call T L D H fun v D' H' => cnd (reB T (v :: L) H' rc) (evCs call T cs (v :: L) D' H') .no) = exN q call T L D H (pW T0 sv) fun v D' H' => cnd (reB T (v :: L) H' rc) (evCsN (pW T0 sv) (endN T0 sv) call T cs (v :: L) D' H') .no
          rw [exN_eq]
          congr 1
          funext v D' H'
          cases reB T (v :: L) H' rc with
          | true => exact ih _ _ _
          | false => rfl
        | false => exact ih _ _ _
    | s z x =>
      show roO T0 sv (opt (selF z (x.ev T L) H) .no fun v => evCs call T cs (v :: L) D H) = opt (selF z (x.ev T L) H) .no fun v => evCsN (pW T0 sv) (endN T0 sv) call T cs (v :: L) D H
      cases selF z (x.ev T L) H with
      | none => rfl
      | some v => exact ih _ _ _
noncomputable def evRegN (E : Env) (call : CallT) (X : PT Unit) (ops : List Oper) (draw : Bool) (T : PT AV) (D : List DF) (H : Hp) : Out :=
  opt (cReg E X ops draw) .no fun r => evCsN (pW T r.2) (endN T r.2) call T r.1 [] D H
theorem evRegN_eq : evRegN = evReg := by
  funext E call X ops draw T D H
  show (opt (cReg E X ops draw) Out.no fun r => evCsN (pW T r.2) (endN T r.2) call T r.1 [] D H) = opt (cReg E X ops draw) Out.no fun r => roO T r.2 (evCs call T r.1 [] D H)
  cases cReg E X ops draw with
  | none => rfl
  | some r => exact (evCsN_eq T r.2 call T r.1 [] D H).symm
noncomputable def evN (E : Env) (call : CallT) (nl : Nat) (X : PT Unit) (c : Code) : StT :=
  Code.rec (motive := fun _ => StT) sSkip (fun _ ops draw => evRegN E call X ops.toList draw) (fun _ _ a b => sSeq a b) (fun c _ _ a b => sCond E c a b)
    (fun id _ c => sBlock id c) (fun _ c => sLoop c nl) (fun _ _ _ _ _ _ => sNo) (fun id T D H => .ext id T D H) (fun _ c => c) (fun _ => sSkip) (fun _ => sNo)
    (fun T D H => .ret T D H) (fun _ => sNo) c
theorem evN_eq : evN = ev := by
  unfold evN ev
  rw [evRegN_eq]
theorem evN_of {E : Env} {call : CallT} {nl : Nat} {X : PT Unit} {c : Code} {s : StT} (h : s = evN E call nl X c) : s = ev E call nl X c := by rw [← evN_eq]; exact h
noncomputable def evJN (E : Env) (call : CallT) (nl : Nat) (X : PT Unit) (k : Nat) (j : StT) (c : Code) : StT :=
  Code.rec (motive := fun _ => StT) sSkip (fun _ ops draw => evRegN E call X ops.toList draw) (fun _ _ a b => sSeq a b) (fun c _ _ a b => sCond E c a b)
    (fun id _ c => cnd (Nat.beq id k) (sBlock id j) (sBlock id c)) (fun _ c => sLoop c nl) (fun _ _ _ _ _ _ => sNo) (fun id T D H => .ext id T D H) (fun _ c => c) (fun _ => sSkip) (fun _ => sNo)
    (fun T D H => .ret T D H) (fun _ => sNo) c
theorem evJN_eq : evJN = evJ := by
  unfold evJN evJ
  rw [evRegN_eq]
theorem evJ_of {E : Env} {call : CallT} {nl : Nat} {X : PT Unit} {k : Nat} {j : StT} {c : Code} {s : StT} (h : s = evJN E call nl X k j c) : s = evJ E call nl X k j c := by rw [← evJN_eq]; exact h
theorem toldN {E : Env} {fn : Func} {X : PT Unit} {g : CallT → Nat → StT} {rs : PT AV → Hp → Option AV} (h1 : X = crossF fn) (h2 : ∃ c, fn.body = some c) (h3 : ∀ call nl, g call nl = evN E call nl X (bodyOf fn)) (h4 : ∀ T H, rs T H = results E fn T H) : Told E fn X g rs :=
  ⟨h1, h2, fun call nl => evN_of (h3 call nl), h4⟩
noncomputable def sI (T : PT AV) : PT AV := T
noncomputable def sF (p : Pos) (v : AV) (k : PT AV → PT AV) (T : PT AV) : PT AV := (T.set p v).frc k
theorem sI_eq (T : PT AV) : sI T = T := rfl
theorem sF_eq (p : Pos) (v : AV) (k : PT AV → PT AV) (T : PT AV) : sF p v k T = k (T.set p v) := frc_eq _ _
theorem ow_val (v : AV) (H : Hp) (k : AV → Hp → Out) : ow (.val v H) k = k v H := rfl
theorem cw_ret (v : AV) (H : Hp) (D : List DF) (p : JT) (k : AV → Hp → Out) : cw (.ret v H) D p k = k v H := rfl
end Go.Ev

namespace Go.Ev
theorem cnd_tt {β : Type} (t e : β) : cnd true t e = t := rfl
theorem cnd_ff {β : Type} (t e : β) : cnd false t e = e := rfl
theorem rg_nrm (T : PT AV) (sv : List (Nat × Pos)) (L : List AV) (D : List DF) (H : Hp) : rg T sv (.nrm L D H) = .nrm (save T L sv) D H := rfl
theorem ov_val (v : AV) (H : Hp) (k : AV → Hp → RO) : ov (.val v H) k = k v H := rfl
theorem cv_ret (v : AV) (H : Hp) (D : List DF) (k : AV → Hp → RO) : cv (.ret v H) D k = k v H := rfl
theorem thn_ext (i : Nat) (T : PT AV) (D : List DF) (H : Hp) (k : PT AV → List DF → Hp → Out) : thn (.ext i T D H) k = .ext i T D H := rfl
theorem thn_ret (T : PT AV) (D : List DF) (H : Hp) (k : PT AV → List DF → Hp → Out) : thn (.ret T D H) k = .ret T D H := rfl
theorem sSeq_eq (a b : StT) (T : PT AV) (D : List DF) (H : Hp) : sSeq a b T D H = thn (a T D H) b := rfl
theorem sCd_eq (f : PT AV → Option Bool) (a b : StT) (T : PT AV) (D : List DF) (H : Hp) : sCd f a b T D H = opt (f T) .no fun t => cnd t (a T D H) (b T D H) := rfl
theorem sSkip_eq (T : PT AV) (D : List DF) (H : Hp) : sSkip T D H = .nrm T D H := rfl
noncomputable def blkO (id : Nat) (r : Out) : Out := Out.rec (motive := fun _ => Out) (fun T D H => .nrm T D H) (fun i T D H => cnd (Nat.beq i id) (.nrm T D H) (.ext i T D H)) (fun T D H => .ret T D H) (fun v T D H => .pan v T D H) .no r
theorem sBlock_eq (id : Nat) (c : StT) (T : PT AV) (D : List DF) (H : Hp) : sBlock id c T D H = blkO id (c T D H) := rfl
theorem blkO_nrm (id : Nat) (T : PT AV) (D : List DF) (H : Hp) : blkO id (.nrm T D H) = .nrm T D H := rfl
theorem blkO_ret (id : Nat) (T : PT AV) (D : List DF) (H : Hp) : blkO id (.ret T D H) = .ret T D H := rfl
theorem blkO_ext (id : Nat) (T : PT AV) (D : List DF) (H : Hp) : blkO id (.ext id T D H) = .nrm T D H := by
  show cnd (Nat.beq id id) (Out.nrm T D H) (.ext id T D H) = _
  rw [Nat.beq_refl]; rfl
theorem save_nil (T : PT AV) (L : List AV) : save T L [] = T := rfl
theorem save_cons (T : PT AV) (L : List AV) (n : Nat) (p : Pos) (sv : List (Nat × Pos)) : save T L ((n, p) :: sv) = save (opt (nth n L) (T.set p .any) fun v => T.set p v) L sv := by
  show PT.frc (opt (nth n L) (T.set p .any) fun v => T.set p v) _ = _
  rw [frc_eq]; rfl
theorem nth_z {α : Type} (x : α) (l : List α) : nth 0 (x :: l) = some x := rfl
theorem nth_s {α : Type} (n : Nat) (x : α) (l : List α) : nth (n + 1) (x :: l) = nth n l := rfl
theorem gh_n {α : Type} (a : PT α) (v : Option α) (b : PT α) : PT.get .h (.n a v b) = v := rfl
theorem go_n {α : Type} (p : Pos) (a : PT α) (v : Option α) (b : PT α) : PT.get (.o p) (.n a v b) = PT.get p a := rfl
theorem gi_n {α : Type} (p : Pos) (a : PT α) (v : Option α) (b : PT α) : PT.get (.i p) (.n a v b) = PT.get p b := rfl
theorem sh_n {α : Type} (x : α) (a : PT α) (v : Option α) (b : PT α) : PT.set .h x (.n a v b) = .n a (some x) b := rfl
theorem so_n {α : Type} (x : α) (p : Pos) (a : PT α) (v : Option α) (b : PT α) : PT.set (.o p) x (.n a v b) = .n (PT.set p x a) v b := by
  show PT.frc (PT.set p x a) (fun a' => PT.n a' v b) = _
  rw [frc_eq]
theorem si_n {α : Type} (x : α) (p : Pos) (a : PT α) (v : Option α) (b : PT α) : PT.set (.i p) x (.n a v b) = .n a v (PT.set p x b) := by
  show PT.frc (PT.set p x b) (fun b' => PT.n a v b') = _
  rw [frc_eq]
theorem sh_l {α : Type} (x : α) : PT.set .h x (.l : PT α) = .n .l (some x) .l := rfl
theorem so_l {α : Type} (x : α) (p : Pos) : PT.set (.o p) x (.l : PT α) = .n (PT.set p x .l) none .l := by
  show PT.frc (PT.set p x .l) (fun a' => PT.n a' none .l) = _
  rw [frc_eq]
theorem si_l {α : Type} (x : α) (p : Pos) : PT.set (.i p) x (.l : PT α) = .n .l none (PT.set p x .l) := by
  show PT.frc (PT.set p x .l) (fun b' => PT.n .l none b') = _
  rw [frc_eq]
theorem avNC_ptr (b : Pos) (o : Nat) : avNC (.ptr b o) = some (.ptr b o) := rfl
theorem fNat_eq' {β : Type} (n : Nat) (k : Nat → β) : fNat n k = k n := by cases n <;> rfl
theorem avFA_ptr (k : Nat) (b : Pos) (o : Nat) : avFA k (.ptr b o) = some (.ptr b (o + k)) := by
  show fNat (Nat.add o k) (fun n => some (AV.ptr b n)) = _
  rw [fNat_eq']; rfl
theorem eqP_ptr (b : Pos) (o : Nat) : avEqP (.ptr b o) .pnil = some false := rfl
theorem bI_t : bI true = some (.bool true) := rfl
theorem bI_f : bI false = some (.bool false) := rfl
theorem bN_t : bN true = some (.bool false) := rfl
theorem bN_f : bN false = some (.bool true) := rfl
theorem bq_b (b : Bool) : bq (.bool b) = some b := rfl
theorem avNot_b (b : Bool) : avNot (.bool b) = some (.bool (inot b)) := by cases b <;> rfl
theorem inot_t : inot true = false := rfl
theorem inot_f : inot false = true := rfl
theorem avExt_0 (x : AV) (l : List AV) : avExt 0 (.tup (x :: l)) = some x := rfl
theorem avExt_1 (x y : AV) (l : List AV) : avExt 1 (.tup (x :: y :: l)) = some y := rfl
theorem avLenL_sl (b : Pos) (o n : Nat) (c : Cap) : avLenL (.sl b o n c) = some (.int .i64 (.ofNat n)) := rfl
theorem eqN_int (k : IntKind) (a b : Int) : avEqN (.int k a) (.int k b) = some (ieq a b) := by
  show cnd (kbeq k k) (some (ieq a b)) none = _
  cases k <;> rfl
theorem gB_ft : gB false (.bool true) = some false := rfl
theorem gB_ff : gB false (.bool false) = some true := rfl
theorem gB_tt : gB true (.bool true) = some true := rfl
theorem gB_tf : gB true (.bool false) = some false := rfl
theorem gB_tup (w : Bool) (l : List AV) : gB w (.tup l) = some false := rfl
theorem pick_t (x y : AV) : avPick (.bool true) x y = some x := by show avId x = _; rw [avId_eq]
theorem pick_f (x y : AV) : avPick (.bool false) x y = some y := by show avId y = _; rw [avId_eq]
theorem jn_eq {α β : Type} (x : α) (f : α → β) : jn x f = f x := rfl
theorem ld1_of {H : Hp} {b : Pos} {ro : Bool} {l : List AV} (h : H.m.get b = some (.cells ro l)) (o : Nat) : ld1 (.ptr b o) H = nth o l := by
  show H.cells b _ _ = _
  unfold Hp.cells
  rw [h]; rfl
theorem ld1_arr {H : Hp} {b : Pos} {z : AV} {t : PT AV} {n : Nat} (h : H.m.get b = some (.arr z t n)) (o : Nat) (ho : o < n) : ld1 (.ptr b o) H = some (arrG z t o) := by
  show H.cells b _ _ = _
  unfold Hp.cells
  rw [h]
  show H.ar b none _ = _
  unfold Hp.ar
  rw [h]
  show cnd (Nat.ble (Nat.succ o) n) (some (arrG z t o)) none = _
  rw [Nat.ble_eq_true_of_le ho]; rfl
theorem avIA_1 {b : Pos} {o n m : Nat} {c : Cap} {k : IntKind} (h : m < n) : avIA 1 (.sl b o n c) (.int k (.ofNat m)) = some (.ptr b (o + m)) := by
  show cnd (Nat.ble (Nat.succ m) n) (fNat (Nat.add o (Nat.mul m 1)) fun q => some (AV.ptr b q)) none = _
  rw [Nat.ble_eq_true_of_le h, fNat_eq', cnd_tt]
  show some (AV.ptr b (o + m * 1)) = _
  rw [Nat.mul_one]
theorem puts_one (x : AV) : ∀ (o : Nat) (l : List AV), o < l.length → puts o [x] l = some (l.set o x)
  | _, [], h => by simp at h
  | 0, y :: l, _ => by cases l <;> rfl
  | o + 1, y :: l, h => by
    show opt (puts o [x] l) none (fun r' => some (fcons y r')) = _
    rw [puts_one x o l (by simpa using h)]
    show some (fcons y (l.set o x)) = some (y :: l.set o x)
    cases l.set o x <;> rfl
theorem cells_one {x : AV} (h : x.one = true) : x.cells = some [x] := by
  cases x <;> first | rfl | cases h
theorem st1_of {H : Hp} {b : Pos} {l : List AV} (h : H.m.get b = some (.cells false l)) {o : Nat} (ho : o < l.length) {x : AV} (hx : x.one = true) : st 1 (.ptr b o) x H = .val (.tup []) ⟨H.m.set b (.cells false (l.set o x)), H.nx⟩ := by
  show opt x.cells OR.no (fun xs => H.cells b (stA 1 b o xs H) fun ro l => cnd (iand (inot ro) (iand (Nat.beq (len xs) 1) (allB AV.one xs))) (opt (puts o xs l) .no fun l' => .val (.tup []) (H.put b (.cells false l'))) .no) = _
  rw [cells_one hx, opt_some]
  unfold Hp.cells
  rw [h]
  show cnd (iand (inot false) (iand (Nat.beq (len [x]) 1) (allB AV.one [x]))) (opt (puts o [x] l) OR.no fun l' => .val (.tup []) (H.put b (.cells false l'))) .no = _
  have : (iand (inot false) (iand (Nat.beq (len [x]) 1) (allB AV.one [x]))) = true := by
    show iand true (iand true (iand x.one true)) = true
    rw [hx]; rfl
  rw [this, cnd_tt, puts_one x o l ho, opt_some, put_eq]
theorem stA_of {H : Hp} {b : Pos} {z : AV} {t : PT AV} {n : Nat} (h : H.m.get b = some (.arr z t n)) {o : Nat} (ho : o < n) (hn : n ≤ 1000000) {x : AV} (hx : x.one = true) : st 1 (.ptr b o) x H = .val (.tup []) ⟨H.m.set b (.arr z (t.set (toP o) x) n), H.nx⟩ := by
  show opt x.cells OR.no (fun xs => H.cells b (stA 1 b o xs H) fun ro l => cnd (iand (inot ro) (iand (Nat.beq (len xs) 1) (allB AV.one xs))) (opt (puts o xs l) .no fun l' => .val (.tup []) (H.put b (.cells false l'))) .no) = _
  rw [cells_one hx, opt_some]
  unfold Hp.cells
  rw [h]
  show H.ar b OR.no _ = _
  unfold Hp.ar
  rw [h]
  show cnd (iand (Nat.beq 1 1) (iand (x.one) (iand (Nat.ble (Nat.succ o) n) (Nat.ble n 1000000)))) ((t.set (toP o) x).frc fun t' => OR.val (.tup []) (H.put b (.arr z t' n))) .no = _
  rw [hx, Nat.ble_eq_true_of_le ho, Nat.ble_eq_true_of_le hn, frc_eq, put_eq]; rfl
theorem add_int (k : IntKind) (a b : Int) : syBin .add strApp (.int k a) (.int k b) = some (.int k (wr k (iadd a b))) := by
  show opt (cnd (kbeq k k) (vI k (wr k (iadd a b))) none) _ _ = _
  rw [vI_eq]
  cases k <;> rfl
theorem int2_eq (op : BinOp) (f : IntKind → Int → Int → Option AV) (k : IntKind) (a b : Int) {v : AV} (h : f k a b = some v) : syBin op (int2 f) (.int k a) (.int k b) = some v := by
  show opt (cnd (kbeq k k) (f k a b) none) _ _ = _
  rw [h]
  cases k <;> rfl
theorem lss_int (k : IntKind) (a b : Int) : syBin .lss fLss (.int k a) (.int k b) = some (.bool (inot (ile b a))) := int2_eq _ _ k a b (by cases ile b a <;> rfl)
theorem rem_int {a b : Nat} (h : a < b) : syBin .rem fRem (.int .i64 (.ofNat a)) (.int .i64 (.ofNat b)) = some (.int .i64 (.ofNat a)) := by
  refine int2_eq _ _ .i64 _ _ ?_
  show cnd (ieq (.ofNat b) (.ofNat 0)) none (vI .i64 (Int.tmod (.ofNat a) (.ofNat b))) = _
  have h0 : ieq (.ofNat b) (.ofNat 0) = false := by
    show Nat.beq b 0 = false
    cases b with
    | zero => omega
    | succ b => rfl
  rw [h0, cnd_ff, vI_eq]
  show some (AV.int .i64 (.ofNat (a % b))) = _
  rw [Nat.mod_eq_of_lt h]
theorem remN_int {a b : Nat} (h : 0 < b) : syBin .rem fRem (.int .i64 (.ofNat a)) (.int .i64 (.ofNat b)) = some (.int .i64 (.ofNat (a % b))) := by
  refine int2_eq _ _ .i64 _ _ ?_
  show cnd (ieq (.ofNat b) (.ofNat 0)) none (vI .i64 (Int.tmod (.ofNat a) (.ofNat b))) = _
  have h0 : ieq (.ofNat b) (.ofNat 0) = false := by
    show Nat.beq b 0 = false
    cases b with
    | zero => omega
    | succ b => rfl
  rw [h0, cnd_ff, vI_eq]; rfl
theorem addN_int {a b : Nat} (h : a + b ≤ 9223372036854775807) : syBin .add strApp (.int .i64 (.ofNat a)) (.int .i64 (.ofNat b)) = some (.int .i64 (.ofNat (a + b))) := by
  rw [add_int]
  have : wr .i64 (iadd (.ofNat a) (.ofNat b)) = Int.ofNat (a + b) := by
    show cnd (Nat.ble (a + b) 9223372036854775807) (Int.ofNat (a + b)) (IntKind.i64.wrap (Int.ofNat (a + b))) = _
    rw [Nat.ble_eq_true_of_le h]; rfl
  rw [this]
theorem avSl_1 {b : Pos} {o m : Nat} (x y : AV) : avSl 1 true false false [.sl b o (m + 1) (.op 1), .int .i64 (.ofNat 1), x, y] = some (.sl b (o + 1) m (.op 1)) := by
  have : bnd (m + 1) (.int .i64 (.ofNat 1)) = some 1 := by
    show cnd (Nat.ble 1 (m + 1)) (some 1) none = _
    rw [Nat.ble_eq_true_of_le (by omega)]; rfl
  show cnd (Nat.ble (m + 1) (m + 1)) (opt (bnd (m + 1) (.int .i64 (.ofNat 1))) none fun lv => fNat (Nat.sub (m + 1) lv) fun q => avSlC 1 b o lv q (.op 1)) none = _
  rw [Nat.ble_eq_true_of_le (Nat.le_refl _), cnd_tt, this, opt_some, fNat_eq']
  show cnd (Nat.beq 1 1) (fNat (Nat.add o (Nat.mul 1 1)) fun o' => some (AV.sl b o' (Nat.sub (m + 1) 1) (.op 1))) none = _
  rw [fNat_eq']; rfl
theorem selF_f (z : AV) {H : Hp} {b : Pos} (h : H.m.get b = some (.chan false)) : selF z (.chn b) H = some (.tup [.int .i64 (.negSucc 0), .bool false, z]) := by
  show H.ch b none _ = _
  unfold Hp.ch
  rw [h]; rfl
theorem selF_t (z : AV) {H : Hp} {b : Pos} (h : H.m.get b = some (.chan true)) : selF z (.chn b) H = some (.tup [.int .i64 (.ofNat 0), .bool false, z]) := by
  show H.ch b none _ = _
  unfold Hp.ch
  rw [h]; rfl
theorem clF_f (y : AV) {H : Hp} {b : Pos} (h : H.m.get b = some (.chan false)) : clF (.chn b) y H = .val (.tup []) ⟨H.m.set b (.chan true), H.nx⟩ := by
  show H.ch b OR.no _ = _
  unfold Hp.ch
  rw [h]
  show OR.val (.tup []) (H.put b (.chan true)) = _
  rw [put_eq]
theorem evC_cc {E : Env} {f : Nat} {fn : Func} {X : PT Unit} {g : CallT → Nat → StT} {rs : PT AV → Hp → Option AV} (h : E.fn.get (Pos.of f) = some (.cc fn X g rs)) (nl n : Nat) (args : List AV) (H : Hp) :
    evC E nl (n + 1) f args H = evCc E (evC E nl n) nl args H fn X g rs := by
  show opt (E.fn.get (Pos.of f)) CR.no _ = _
  rw [h]; rfl
noncomputable def ccO (E : Env) (call : CallT) (fn : Func) (rs : PT AV → Hp → Option AV) (r : Out) : CR :=
  Out.rec (motive := fun _ => CR) (fun T D H => fin E call fn rs T D H) (fun _ _ _ _ => .no) (fun T D H => fin E call fn rs T D H) (fun v T D H => leaves E call fn T D (.pan v false) H) .no r
theorem evCc_ccO (E : Env) (call : CallT) (nl : Nat) (args : List AV) (H : Hp) (fn : Func) (X : PT Unit) (g : CallT → Nat → StT) (rs : PT AV → Hp → Option AV) : evCc E call nl args H fn X g rs = ccO E call fn rs (g call nl (initT X args) [] H) := rfl
theorem ccO_ret (E : Env) (call : CallT) (fn : Func) (rs : PT AV → Hp → Option AV) (T : PT AV) (H : Hp) : ccO E call fn rs (.ret T [] H) = opt (rs T H) .no fun v => .ret v H := rfl
theorem rsV_eq (l : List RV) (T : PT AV) (H : Hp) : rsV l T H = opt (mapO (rvOf T H) l) none rsM := rfl
theorem rvOf_t (T : PT AV) (H : Hp) (p : Pos) : rvOf T H (.t p) = opt (T.get p) none avId := rfl
theorem mapO_n0 {α β : Type} (f : α → Option β) : mapO f [] = some [] := rfl
theorem mapO_n1 {α β : Type} (f : α → Option β) (x : α) (l : List α) : mapO f (x :: l) = opt (f x) none fun y => opt (mapO f l) none fun ys => some (y :: ys) := by
  show opt (f x) none (fun y => opt (mapO f l) none fun ys => some (fcons y ys)) = _
  cases f x with
  | none => rfl
  | some y =>
    show opt (mapO f l) none (fun ys => some (fcons y ys)) = opt (mapO f l) none fun ys => some (y :: ys)
    cases mapO f l with
    | none => rfl
    | some ys => cases ys <;> rfl
theorem rsM_1 (v : AV) : rsM [v] = some v := rfl
theorem rsM_2 (v w : AV) : rsM [v, w] = some (.tup [v, w]) := rfl
end Go.Ev
