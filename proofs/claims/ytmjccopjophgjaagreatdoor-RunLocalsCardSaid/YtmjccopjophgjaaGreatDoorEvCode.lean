/- The evaluator at code. -/
import Derived.Test.YtmjccopjophgjaaGreatDoorEvDraw4
import Derived.LoopN
import Derived.Scope
namespace Go.Ev
open Go.RowKit (Below)
variable {P : Program} {E : Env} {base : Nat} {w0 : World} {T : PT AV}
variable {nt : Nat} {ops : Array Oper} {ι0 ι : Inj} {H0 H : Hp} {D : List DF} {L : List AV} {a : Act} {w : World} {X : PT Unit} {call : CallT}

/-- What the frame holds between regions. -/
structure Fr (nt : Nat) (X : PT Unit) (ι : Inj) (T : PT AV) (a : Act) : Prop where
  size : nt ≤ a.tmps.size
  cross : ∀ (t : Nat) (v : AV), T.get (Pos.of t) = some v → ∃ u, X.get (Pos.of t) = some u
  val : ∀ (t : Nat) (v : AV), T.get (Pos.of t) = some v → VRel ι v (a.eval (.tmp t))

/-- Code in order. -/
def CodeOk (nt : Nat) (c : Code) : Prop :=
  Code.rec (motive := fun _ => Prop) True (fun _ ops draw => OpsOk nt ops ∧ (draw = true → DrawOk ops)) (fun _ _ a b => a ∧ b) (fun _ _ _ a b => a ∧ b) (fun _ _ c => c) (fun _ c => c) (fun _ _ _ _ a b => a ∧ b) (fun _ => True) (fun _ c => c) (fun _ => True) (fun _ => True) True (fun _ => True) c

def OPost (E : Env) (base : Nat) (w0 : World) (nt : Nat) (X : PT Unit) (ι0 : Inj) (H0 : Hp) (r : Out) : Exit → Act → World → Prop
  | .normal, a, w => ∃ T D H ι, r = .nrm T D H ∧ Fr nt X ι T a ∧ AfterR E base w0 ι0 H0 D H ι a.defers w
  | .exit id, a, w => ∃ T D H ι, r = .ext id T D H ∧ Fr nt X ι T a ∧ AfterR E base w0 ι0 H0 D H ι a.defers w
  | .ret, a, w => ∃ T D H ι, r = .ret T D H ∧ Fr nt X ι T a ∧ AfterR E base w0 ι0 H0 D H ι a.defers w
  | .panic ch, a, w => ∃ v T D H ι c, r = .pan v T D H ∧ ch = [{ v := c, recovered := false }] ∧ VRel ι v c ∧ Fr nt X ι T a ∧ AfterR E base w0 ι0 H0 D H ι a.defers w
  | .goto _, _, _ => False
  | .outgrown, _, _ => False

/-! ### what is laid into the frame -/
theorem saves_spec (ops : List Oper) : ∀ (done : List Nat) (n : Nat) (k : Nat) (p : Pos), (k, p) ∈ (List.rec (motive := fun _ => Nat → List (Nat × Pos)) (fun _ => [])
    (fun i _ ih k => opt (nth i ops) (ih (Nat.succ k)) fun o => opt o.dst (ih (Nat.succ k)) fun d => opt (X.get (Pos.of d)) (ih (Nat.succ k)) fun _ => (k, Pos.of d) :: ih (Nat.succ k)) done n : List (Nat × Pos)) ↔
      ∃ m i o d u, k = n + m ∧ done[m]? = some i ∧ ops[i]? = some o ∧ o.dst = some d ∧ p = Pos.of d ∧ X.get (Pos.of d) = some u
  | [], n, k, p => by
    constructor
    · intro h; cases h
    · rintro ⟨m, i, o, d, u, _, h, _⟩; simp at h
  | i :: done, n, k, p => by
    have ih := saves_spec ops done (n + 1) k p
    have tail : (∃ m i' o d u, k = n + 1 + m ∧ done[m]? = some i' ∧ ops[i']? = some o ∧ o.dst = some d ∧ p = Pos.of d ∧ X.get (Pos.of d) = some u) →
        ∃ m i' o d u, k = n + m ∧ (i :: done)[m]? = some i' ∧ ops[i']? = some o ∧ o.dst = some d ∧ p = Pos.of d ∧ X.get (Pos.of d) = some u := by
      rintro ⟨m, i', o, d, u, e1, e2, e3⟩
      exact ⟨m + 1, i', o, d, u, by omega, by simpa using e2, e3⟩
    have untail : ∀ (P0 : Prop), (∀ o d u, k = n → ops[i]? = some o → o.dst = some d → p = Pos.of d → X.get (Pos.of d) = some u → P0) →
        ((∃ m i' o d u, k = n + 1 + m ∧ done[m]? = some i' ∧ ops[i']? = some o ∧ o.dst = some d ∧ p = Pos.of d ∧ X.get (Pos.of d) = some u) → P0) →
        (∃ m i' o d u, k = n + m ∧ (i :: done)[m]? = some i' ∧ ops[i']? = some o ∧ o.dst = some d ∧ p = Pos.of d ∧ X.get (Pos.of d) = some u) → P0 := by
      rintro P0 h1 h2 ⟨m, i', o, d, u, e1, e2, e3, e4, e5, e6⟩
      cases m with
      | zero =>
        have : i = i' := by simpa using e2
        subst this
        exact h1 o d u e1 e3 e4 e5 e6
      | succ m => exact h2 ⟨m, i', o, d, u, by omega, by simpa using e2, e3, e4, e5, e6⟩
    show (k, p) ∈ opt (nth i ops) _ _ ↔ _
    rw [nth_eq]
    cases ho : ops[i]? with
    | none =>
      show (k, p) ∈ _ ↔ _
      refine Iff.trans ih ⟨tail, untail _ (fun o d u _ e => by rw [ho] at e; cases e) id⟩
    | some o =>
      show (k, p) ∈ opt o.dst _ _ ↔ _
      cases hd : o.dst with
      | none =>
        show (k, p) ∈ _ ↔ _
        refine Iff.trans ih ⟨tail, untail _ (fun o' d u _ e e2 => by rw [ho] at e; cases e; rw [hd] at e2; cases e2) id⟩
      | some d =>
        show (k, p) ∈ opt (X.get (Pos.of d)) _ _ ↔ _
        cases hx : X.get (Pos.of d) with
        | none =>
          show (k, p) ∈ _ ↔ _
          refine Iff.trans ih ⟨tail, untail _ (fun o' d' u _ e e2 e3 e4 => by rw [ho] at e; cases e; rw [hd] at e2; cases e2; rw [hx] at e4; cases e4) id⟩
        | some u =>
          show (k, p) ∈ (n, Pos.of d) :: _ ↔ _
          constructor
          · intro h
            cases h with
            | head => exact ⟨0, i, o, d, u, rfl, rfl, ho, hd, rfl, hx⟩
            | tail _ h => exact tail (ih.1 h)
          · refine untail _ (fun o' d' u' e e2 e3 e4 e5 => ?_) fun h => .tail _ (ih.2 h)
            rw [ho] at e2; cases e2
            rw [hd] at e3; cases e3
            rw [e, e4]; exact .head _
theorem mem_saves {ops : List Oper} {done : List Nat} {k : Nat} {p : Pos} : (k, p) ∈ saves X ops done ↔ ∃ i o d u, done[k]? = some i ∧ ops[i]? = some o ∧ o.dst = some d ∧ p = Pos.of d ∧ X.get (Pos.of d) = some u := by
  constructor
  · intro h
    obtain ⟨m, i, o, d, u, e1, e2, e3⟩ := (saves_spec ops done 0 k p).1 h
    have : k = m := by omega
    subst this
    exact ⟨i, o, d, u, e2, e3⟩
  · rintro ⟨i, o, d, u, e2, e3⟩
    exact (saves_spec ops done 0 k p).2 ⟨k, i, o, d, u, by omega, e2, e3⟩

theorem save_get : ∀ (sv : List (Nat × Pos)) (T : PT AV) (p : Pos) (v : AV), (save T L sv).get p = some v → (∃ k, (k, p) ∈ sv ∧ (L[k]? = some v ∨ v = .any)) ∨ (T.get p = some v ∧ ∀ k, (k, p) ∉ sv)
  | [], T, p, v, h => .inr ⟨h, fun k hk => (by cases hk)⟩
  | (k0, p0) :: sv, T, p, v, h => by
    have e : save T L ((k0, p0) :: sv) = save (opt (nth k0 L) (T.set p0 .any) fun v => T.set p0 v) L sv := by
      show ((opt (nth k0 L) (T.set p0 .any) fun v => T.set p0 v).frc fun T' => save T' L sv) = _
      rw [frc_eq]
    rw [e] at h
    rcases save_get sv _ p v h with ⟨k, h1, h2⟩ | ⟨h1, h2⟩
    · exact .inl ⟨k, .tail _ h1, h2⟩
    · by_cases hp : p = p0
      · subst hp
        refine .inl ⟨k0, .head _, ?_⟩
        rw [nth_eq] at h1
        cases hk : L[k0]? with
        | none =>
          rw [hk] at h1
          replace h1 : (T.set p .any).get p = some v := h1
          rw [get_set_same] at h1; cases h1; exact .inr rfl
        | some u =>
          rw [hk] at h1
          replace h1 : (T.set p u).get p = some v := h1
          rw [get_set_same] at h1; cases h1; exact .inl rfl
      · refine .inr ⟨?_, fun k hk => ?_⟩
        · rw [nth_eq] at h1
          cases hk : L[k0]? with
          | none =>
            rw [hk] at h1
            replace h1 : (T.set p0 .any).get p = some v := h1
            rw [get_set_ne _ _ _ _ hp] at h1; exact h1
          | some u =>
            rw [hk] at h1
            replace h1 : (T.set p0 u).get p = some v := h1
            rw [get_set_ne _ _ _ _ hp] at h1; exact h1
        · cases hk with
          | head => exact hp rfl
          | tail _ hk => exact h2 k hk
theorem wipe_get : ∀ (sv : List (Nat × Pos)) (T : PT AV) (p : Pos) (v : AV), (wipe T sv).get p = some v → ((∃ k, (k, p) ∈ sv) ∧ v = .any) ∨ (T.get p = some v ∧ ∀ k, (k, p) ∉ sv)
  | [], T, p, v, h => .inr ⟨h, fun k hk => (by cases hk)⟩
  | (k0, p0) :: sv, T, p, v, h => by
    have e : wipe T ((k0, p0) :: sv) = wipe (T.set p0 .any) sv := by
      show ((T.set p0 .any).frc fun T' => wipe T' sv) = _
      rw [frc_eq]
    rw [e] at h
    rcases wipe_get sv _ p v h with ⟨⟨k, h1⟩, h2⟩ | ⟨h1, h2⟩
    · exact .inl ⟨⟨k, .tail _ h1⟩, h2⟩
    · by_cases hp : p = p0
      · subst hp
        rw [get_set_same] at h1; cases h1
        exact .inl ⟨⟨k0, .head _⟩, rfl⟩
      · rw [get_set_ne _ _ _ _ hp] at h1
        refine .inr ⟨h1, fun k hk => ?_⟩
        cases hk with
        | head => exact hp rfl
        | tail _ hk => exact h2 k hk

theorem Fr.start (h : Fr nt X ι T a) : RInv nt ops ι T [] [] a := ⟨h.size, rfl, fun k i o d v hk => by simp at hk, fun t v ht _ => h.val t v ht⟩
theorem Fr.save (h : Fr nt X ι0 T a) {κ : Inj} {all : List Nat} {a' : Act} (hI : RInv nt ops κ T all L a') : Fr nt X κ (save T L (saves X ops.toList all)) a' := by
  refine ⟨hI.size, fun t v ht => ?_, fun t v ht => ?_⟩
  · rcases save_get _ _ _ _ ht with ⟨k, h1, _⟩ | ⟨h1, _⟩
    · obtain ⟨i, o, d, u, _, _, _, e4, e5⟩ := mem_saves.1 h1
      rw [e4]; exact ⟨u, e5⟩
    · exact h.cross t v h1
  · rcases save_get _ _ _ _ ht with ⟨k, h1, h2⟩ | ⟨h1, h2⟩
    · obtain ⟨i, o, d, u, e1, e2, e3, e4, e5⟩ := mem_saves.1 h1
      have : t = d := Pos.of_inj e4
      subst this
      rcases h2 with h2 | h2
      · exact hI.val k i o t v e1 (by rw [← Array.getElem?_toList]; exact e2) e3 h2
      · subst h2; exact .any _
    · refine hI.old t v h1 fun i hi o ho hd => ?_
      obtain ⟨u, hu⟩ := h.cross t v h1
      obtain ⟨k, hk⟩ := List.getElem?_of_mem hi
      exact h2 k (mem_saves.2 ⟨i, o, t, u, hk, by rw [Array.getElem?_toList]; exact ho, hd, rfl, hu⟩)
theorem Fr.wipe (h : Fr nt X ι0 T a) {κ : Inj} {all : List Nat} (hall : ∀ (i : Nat) (o : Oper), ops[i]? = some o → i ∈ all) {a' : Act} (hI : OldOk nt ops κ T a') : Fr nt X κ (wipe T (saves X ops.toList all)) a' := by
  refine ⟨hI.1, fun t v ht => ?_, fun t v ht => ?_⟩
  · rcases wipe_get _ _ _ _ ht with ⟨⟨k, h1⟩, _⟩ | ⟨h1, _⟩
    · obtain ⟨i, o, d, u, _, _, _, e4, e5⟩ := mem_saves.1 h1
      rw [e4]; exact ⟨u, e5⟩
    · exact h.cross t v h1
  · rcases wipe_get _ _ _ _ ht with ⟨_, h2⟩ | ⟨h1, h2⟩
    · subst h2; exact .any _
    · refine hI.2 t v h1 fun i o ho hd => ?_
      obtain ⟨u, hu⟩ := h.cross t v h1
      obtain ⟨k, hk⟩ := List.getElem?_of_mem (hall i o ho)
      exact h2 k (mem_saves.2 ⟨i, o, t, u, hk, by rw [Array.getElem?_toList]; exact ho, hd, rfl, hu⟩)

/-! ### regions -/
theorem rngF_eq (n : Nat) : rngF n = List.range n := by
  have key : ∀ (n : Nat) (a : List Nat), (Nat.rec (motive := fun _ => List Nat → List Nat) (fun a => a) (fun m ih a => ih (m :: a)) n a : List Nat) = List.range n ++ a := by
    intro n
    induction n with
    | zero => intro a; rfl
    | succ n ih =>
      intro a
      show (Nat.rec (motive := fun _ => List Nat → List Nat) (fun a => a) (fun m ih a => ih (m :: a)) n (n :: a) : List Nat) = _
      rw [ih, List.range_succ]; simp
  have := key n []
  rw [List.append_nil] at this
  exact this
theorem revF (l : List Nat) : ∀ a, (List.rec (motive := fun _ => List Nat → List Nat) (fun a => a) (fun i _ ih a => ih (i :: a)) l a : List Nat) = l.reverse ++ a := by
  induction l with
  | nil => intro a; rfl
  | cons i l ih =>
    intro a
    show (List.rec (motive := fun _ => List Nat → List Nat) (fun a => a) (fun i _ ih a => ih (i :: a)) l (i :: a) : List Nat) = _
    rw [ih]; simp

theorem de_all {ops : List Oper} {n0 : Nat} : ∀ (n : Nat) (done : List Nat) (dm : Nat) (last : Option Nat) (r : List CO × List Nat), cDraw E ops (masks ops) (2 ^ n0 - 1) n done dm last = some r → (∀ j, dm.testBit j = true ↔ j ∈ done) → ∀ i, i < n0 → i ∈ r.2
  | 0, done, dm, last, r, h, hd, i, hi => by
    obtain ⟨e, e2⟩ := cDraw_zero h
    subst e2
    exact (hd i).1 (by rw [e, Nat.testBit_two_pow_sub_one]; exact decide_eq_true hi)
  | n + 1, done, dm, last, r, h, hd, i, hi => by
    rcases cDraw_succ h with ⟨q, p, hq, hs⟩ | ⟨_, q, mq, p, hq, hmq, hlast, hs⟩
    · obtain ⟨cs, e6, e7⟩ := hs.rest
      exact de_all n _ _ _ _ e6 (dm_step hd q) i hi
    · obtain ⟨cs, e6, e7⟩ := hs.rest
      exact de_all n _ _ _ _ e6 (dm_step hd q) i hi

theorem optO_ne {α : Type} {x : Option α} {s : α → Out} {r : Out} (h : opt x .no s = r) (hr : r ≠ .no) : ∃ v, x = some v ∧ s v = r := by
  cases x with
  | none => exact absurd h.symm hr
  | some v => exact ⟨v, rfl, h⟩

theorem region_sound (hE : EnvOk P E) (hC : CallOk P E base w0 call) (hm : P.follows .mixedOrders = true) {id : Nat} {draw : Bool} (hO : OpsOk nt ops) (hW : draw = true → DrawOk ops) {r : Out} (hr : r ≠ .no)
    (he : evReg E call X ops.toList draw T D H = r) (hF : Fr nt X ι T a) (hA : AfterR E base w0 ι0 H0 D H ι a.defers w) : (Code.region id ops draw).wp P (OPost E base w0 nt X ι0 H0 r) a w := by
  obtain ⟨⟨cs, sv⟩, h1, h2⟩ := optO_ne he hr
  obtain ⟨_, h1⟩ := cnd_some h1
  have hne : evCs call T cs [] D H ≠ .no := by
    intro e
    rw [e] at h2
    exact hr h2.symm
  cases draw with
  | false =>
    cases h1
    rw [rngF_eq, revF, len_eq] at h2
    rw [rngF_eq, len_eq] at hne
    refine wp_regAt (text_sound hE hC hO hne (List.range ops.size).reverse (fun L' D' H' ι' a' w' e1 e2 e3 => ?_) (fun v D' H' ι' c a' w' e1 e2 e3 e4 => ?_) (List.range ops.size) [] [] D H ι a w (by simp) (by simp) List.nodup_range hF.start hA (by simp))
    · rw [show evCs call T (cText E ops.toList (List.range ops.toList.length) []) [] D H = .nrm L' D' H' from e1] at h2
      refine ⟨_, D', H', ι', h2.symm, ?_, e3⟩
      have := hF.save e2
      simpa using this
    · rw [show evCs call T (cText E ops.toList (List.range ops.toList.length) []) [] D H = .pan v D' H' from e1] at h2
      refine ⟨v, _, D', H', ι', c, h2.symm, rfl, e2, ?_, e4⟩
      have := hF.wipe (all := (List.range ops.size).reverse) (fun i o ho => by
        have := (Array.getElem?_eq_some_iff.1 ho).1
        simpa using this) e3
      simpa using this
  | true =>
    replace h1 : (opt (cDraw E ops.toList (masks ops.toList) (Nat.sub (Nat.pow 2 (len ops.toList)) 1) (len ops.toList) [] 0 none) none fun r => some (r.1, saves X ops.toList r.2)) = some (cs, sv) := h1
    obtain ⟨⟨cs', de⟩, g1, g2⟩ := opt_eq_some h1
    cases g2
    rw [len_eq] at g1
    replace g1 : cDraw E ops.toList (masks ops.toList) (2 ^ ops.toList.length - 1) ops.toList.length [] 0 none = some (cs', de) := g1
    have hdm : ∀ j, (0 : Nat).testBit j = true ↔ j ∈ ([] : List Nat) := fun j => by simp
    have hall := de_all _ _ _ _ _ g1 hdm
    have hrl : Rl E base w0 ι H { w with drawn := w.drawn + 1 } := hA.rl.of_heap rfl rfl rfl rfl
    have hnone : ∀ j, ¬ ((Array.replicate ops.size false).getD j false = true) := fun j => by
      rcases Nat.lt_or_ge j ops.size with h | h
      · simp [h]
      · simp [h]
    refine wp_region_any hm (draw_run (ι0 := ι0) (H0 := H0) (T := T) (r := evCs call T cs' [] D H) (de := de) hE hC hO (hW rfl) hne (fun L' D' H' ι' a' w' e1 e2 e3 => ?_) (fun v D' H' ι' c a' w' e1 e2 e3 e4 => ?_) ops.size _ D ops.toList.length [] 0 none [] H ι (fun _ => False) (fun _ => .h) cs' a _ (by simp) ?_ ?_)
    · rw [e1] at h2
      exact ⟨_, D', H', ι', h2.symm, hF.save e2, e3⟩
    · rw [e1] at h2
      exact ⟨v, _, D', H', ι', c, h2.symm, rfl, e2, hF.wipe (all := de) (fun i o ho => hall i (by have := (Array.getElem?_eq_some_iff.1 ho).1; simpa using this)) e3, e4⟩
    · exact Nat.le_trans List.countP_le_length (by simp)
    · refine ⟨⟨hF.size, rfl, List.nodup_nil, fun i hi => (by cases hi), fun i hi => absurd hi (hnone i), fun i m j hi => absurd hi (hnone i), fun k i m j hk => (by simp at hk), fun k i o d v hk => (by simp at hk), fun t v ht _ => hF.val t v ht, fun k i v hk => (by simp at hk), fun i hi => hi.elim, fun i j hi => hi.elim, hrl, hA.stp, hA.dfr⟩, hdm, g1, rfl⟩

/-! ### code -/
theorem thn_nrm (T : PT AV) (D : List DF) (H : Hp) (k : PT AV → List DF → Hp → Out) : thn (.nrm T D H) k = k T D H := rfl
theorem cond1_sound (hg : ∀ g b, E.gl g = some b → ∃ z, ι b = some (g, 0, z)) (hF : Fr nt X ι T a) {c : Operand} {t : Bool} (h : cond1 E c T = some t) : a.eval c = .bool t := by
  unfold cond1 at h
  obtain ⟨x, h1, h2⟩ := opt_eq_some h
  have hl : LkOk ι T [] (fun t => some (.t (Pos.of t))) a := by
    intro t x hx
    cases hx
    show VRel ι (opt (T.get (Pos.of t)) .any fun v => v) _
    cases hT : T.get (Pos.of t) with
    | none => exact .any _
    | some v => exact hF.val t v hT
  have hv := opd_sound hg hl h1
  unfold bq at h2
  split at h2
  · rename_i b e
    cases h2
    rw [e] at hv
    generalize a.eval c = u at hv
    cases hv; rfl
  · cases h2

theorem ev_sound (hE : EnvOk P E) (hC : CallOk P E base w0 call) (hm : P.follows .mixedOrders = true) (nl : Nat) : ∀ (c : Code), CodeOk nt c → ∀ (T : PT AV) (D : List DF) (H : Hp) (r : Out), ev E call nl X c T D H = r → r ≠ .no → ∀ (ι : Inj) (a : Act) (w : World),
    Fr nt X ι T a → AfterR E base w0 ι0 H0 D H ι a.defers w → c.wp P (OPost E base w0 nt X ι0 H0 r) a w := by
  intro c
  induction c with
  | skip =>
    intro _ T D H r he hr ι a w hF hA
    exact wp_skip ⟨T, D, H, ι, he.symm, hF, hA⟩
  | region id ops draw =>
    intro hc T D H r he hr ι a w hF hA
    exact region_sound hE hC hm hc.1 hc.2 hr he hF hA
  | seq x y ihx ihy =>
    intro hc T D H r he hr ι a w hF hA
    replace he : thn (ev E call nl X x T D H) (ev E call nl X y) = r := he
    generalize hr1 : ev E call nl X x T D H = r1 at he
    have hne : r1 ≠ .no := by intro e; subst e; exact hr he.symm
    refine wp_seq (wp_mono (ihx hc.1 T D H r1 hr1 hne ι a w hF hA) fun e a' w' hp => ?_)
    cases e with
    | normal =>
      obtain ⟨T', D', H', ι', rfl, hF', hA'⟩ := hp
      exact ihy hc.2 T' D' H' r he hr ι' a' w' hF' hA'
    | exit id => obtain ⟨T', D', H', ι', rfl, hF', hA'⟩ := hp; exact ⟨T', D', H', ι', he.symm, hF', hA'⟩
    | ret => obtain ⟨T', D', H', ι', rfl, hF', hA'⟩ := hp; exact ⟨T', D', H', ι', he.symm, hF', hA'⟩
    | panic ch => obtain ⟨v, T', D', H', ι', u, rfl, h1, h2, hF', hA'⟩ := hp; exact ⟨v, T', D', H', ι', u, he.symm, h1, h2, hF', hA'⟩
    | goto l => exact hp.elim
    | outgrown => exact hp.elim
  | cond o x y ihx ihy =>
    intro hc T D H r he hr ι a w hF hA
    replace he : (opt (cond1 E o T) .no fun t => cnd t (ev E call nl X x T D H) (ev E call nl X y T D H)) = r := he
    obtain ⟨t, h1, h2⟩ := optO_ne he hr
    refine wp_cond (cond1_sound hA.rl.glob hF h1) ?_
    cases t with
    | true => exact ihx hc.1 T D H r h2 hr ι a w hF hA
    | false => exact ihy hc.2 T D H r h2 hr ι a w hF hA
  | block id x ih =>
    intro hc T D H r he hr ι a w hF hA
    replace he : sBlock id (ev E call nl X x) T D H = r := he
    unfold sBlock at he
    generalize hr1 : ev E call nl X x T D H = r1 at he
    have hne : r1 ≠ .no := by intro e; subst e; exact hr he.symm
    refine wp_block (wp_mono (ih hc T D H r1 hr1 hne ι a w hF hA) fun e a' w' hp => ?_)
    cases e with
    | normal => obtain ⟨T', D', H', ι', rfl, hF', hA'⟩ := hp; exact ⟨T', D', H', ι', he.symm, hF', hA'⟩
    | exit id' =>
      obtain ⟨T', D', H', ι', rfl, hF', hA'⟩ := hp
      replace he : cnd (Nat.beq id' id) (Out.nrm T' D' H') (.ext id' T' D' H') = r := he
      rw [cnd_eq] at he
      show if id' = id then _ else _
      split
      · rename_i e
        subst e
        rw [if_pos (Nat.beq_refl _)] at he
        exact ⟨T', D', H', ι', he.symm, hF', hA'⟩
      · rename_i e
        rw [if_neg fun h => e (Nat.eq_of_beq_eq_true h)] at he
        exact ⟨T', D', H', ι', he.symm, hF', hA'⟩
    | ret => obtain ⟨T', D', H', ι', rfl, hF', hA'⟩ := hp; exact ⟨T', D', H', ι', he.symm, hF', hA'⟩
    | panic ch => obtain ⟨v, T', D', H', ι', u, rfl, h1, h2, hF', hA'⟩ := hp; exact ⟨v, T', D', H', ι', u, he.symm, h1, h2, hF', hA'⟩
    | goto l => exact hp.elim
    | outgrown => exact hp.elim
  | loop x ih =>
    intro hc T D H r he hr ι a w hF hA
    replace he : sLoop (ev E call nl X x) nl T D H = r := he
    have key : ∀ (n : Nat) (T : PT AV) (D : List DF) (H : Hp) (ι : Inj) (a : Act) (w : World), sLoop (ev E call nl X x) n T D H = r → Fr nt X ι T a → AfterR E base w0 ι0 H0 D H ι a.defers w → Code.rounds P x (OPost E base w0 nt X ι0 H0 r) n a w := by
      intro n
      induction n with
      | zero => intro T D H ι a w he _ _; exact absurd he.symm hr
      | succ n ihn =>
        intro T D H ι a w he hF hA
        replace he : thn (ev E call nl X x T D H) (sLoop (ev E call nl X x) n) = r := he
        generalize hr1 : ev E call nl X x T D H = r1 at he
        have hne : r1 ≠ .no := by intro e; subst e; exact hr he.symm
        rw [rounds_succ]
        refine wp_mono (ih hc T D H r1 hr1 hne ι a w hF hA) fun e a' w' hp => ?_
        cases e with
        | normal =>
          obtain ⟨T', D', H', ι', rfl, hF', hA'⟩ := hp
          exact ihn T' D' H' ι' a' w' he hF' hA'
        | exit id => obtain ⟨T', D', H', ι', rfl, hF', hA'⟩ := hp; exact ⟨T', D', H', ι', he.symm, hF', hA'⟩
        | ret => obtain ⟨T', D', H', ι', rfl, hF', hA'⟩ := hp; exact ⟨T', D', H', ι', he.symm, hF', hA'⟩
        | panic ch => obtain ⟨v, T', D', H', ι', u, rfl, h1, h2, hF', hA'⟩ := hp; exact ⟨v, T', D', H', ι', u, he.symm, h1, h2, hF', hA'⟩
        | goto l => exact hp.elim
        | outgrown => exact hp.elim
    exact wp_loop_rounds nl (key nl T D H ι a w he hF hA)
  | rangeFunc f ps x y ihx ihy => intro _ T D H r he hr; exact absurd he.symm hr
  | exit id =>
    intro _ T D H r he hr ι a w hF hA
    exact wp_exit ⟨T, D, H, ι, he.symm, hF, hA⟩
  | scope x ih =>
    intro hc T D H r he hr ι a w hF hA
    refine wp_scope_straight (wp_mono (ih hc T D H r he hr ι a w hF hA) fun e a' w' hp => ?_)
    cases e with
    | goto l => exact hp.elim
    | _ => exact hp
  | label l =>
    intro _ T D H r he hr ι a w hF hA
    exact wp_label ⟨T, D, H, ι, he.symm, hF, hA⟩
  | goto l => intro _ T D H r he hr; exact absurd he.symm hr
  | ret =>
    intro _ T D H r he hr ι a w hF hA
    exact wp_ret ⟨T, D, H, ι, he.symm, hF, hA⟩
  | refuse s => intro _ T D H r he hr; exact absurd he.symm hr
end Go.Ev
