/- The evaluator at a region whose order is the text's. -/
import Derived.Test.YtmjccopjophgjaaGreatDoorEvReg
namespace Go.Ev
open Go.RowKit (Below)
variable {P : Program} {E : Env} {base : Nat} {w0 : World} {ι : Inj} {H : Hp} {w : World} {T : PT AV} {L : List AV} {lk : Look} {a : Act}

/-- A region's operations in order: their slots lie in the frame, each has one writer, a guard has a slot. -/
structure OpsOk (nt : Nat) (ops : Array Oper) : Prop where
  lt : ∀ (i : Nat) (o : Oper) (d : Nat), ops[i]? = some o → o.dst = some d → d < nt
  nd : ∀ (i j : Nat) (o p : Oper) (d : Nat), ops[i]? = some o → ops[j]? = some p → o.dst = some d → p.dst = some d → i = j
  gd : ∀ (i : Nat) (o : Oper) (j : Nat) (b : Bool), ops[i]? = some o → o.guard = some (j, b) → ∃ (p : Oper) (d : Nat), ops[j]? = some p ∧ p.dst = some d

theorem eval_put_same (a : Act) (d : Nat) (v : Value) (h : d < a.tmps.size) : (a.put (some d) v).eval (.tmp d) = v := by
  simp [Act.put, Act.eval, h]
theorem eval_put_ne (a : Act) (dst : Option Tmp) (v : Value) (t : Nat) (h : dst ≠ some t) : (a.put dst v).eval (.tmp t) = a.eval (.tmp t) :=
  Act.eval_put fun d hd e => by cases e; exact h hd
theorem size_put (a : Act) (dst : Option Tmp) (v : Value) : (a.put dst v).tmps.size = a.tmps.size := by
  cases dst <;> simp [Act.put]
theorem defers_put (a : Act) (dst : Option Tmp) (v : Value) : (a.put dst v).defers = a.defers := by
  cases dst <;> rfl

/-- What the frame holds inside a region: what is done, what was there. -/
structure RInv (nt : Nat) (ops : Array Oper) (ι : Inj) (T : PT AV) (done : List Nat) (L : List AV) (a : Act) : Prop where
  size : nt ≤ a.tmps.size
  len : L.length = done.length
  val : ∀ (k i : Nat) (o : Oper) (d : Nat) (v : AV), done[k]? = some i → ops[i]? = some o → o.dst = some d → L[k]? = some v → VRel ι v (a.eval (.tmp d))
  old : ∀ (t : Nat) (v : AV), T.get (Pos.of t) = some v → (∀ i ∈ done, ∀ o : Oper, ops[i]? = some o → o.dst ≠ some t) → VRel ι v (a.eval (.tmp t))

theorem locOf_spec (ops : List Oper) (t : Nat) : ∀ (done : List Nat) (n : Nat),
    (∀ k, (List.rec (motive := fun _ => Nat → Option Nat) (fun _ => none)
      (fun i _ ih k => cnd (opt (nth i ops) false fun o => opt o.dst false fun d => Nat.beq d t) (some k) (ih (Nat.succ k))) done n : Option Nat) = some k →
        ∃ j i o, k = n + j ∧ done[j]? = some i ∧ ops[i]? = some o ∧ o.dst = some t) ∧
    ((List.rec (motive := fun _ => Nat → Option Nat) (fun _ => none)
      (fun i _ ih k => cnd (opt (nth i ops) false fun o => opt o.dst false fun d => Nat.beq d t) (some k) (ih (Nat.succ k))) done n : Option Nat) = none →
        ∀ i ∈ done, ∀ o : Oper, ops[i]? = some o → o.dst ≠ some t)
  | [], n => ⟨fun k h => (by cases h), fun _ i hi => (by cases hi)⟩
  | i :: done, n => by
    obtain ⟨h1, h2⟩ := locOf_spec ops t done (n + 1)
    have tst : ∀ b, (opt (nth i ops) false fun o => opt o.dst false fun d => Nat.beq d t) = b → (b = true ↔ ∃ o, ops[i]? = some o ∧ o.dst = some t) := by
      intro b hb
      subst hb
      rw [nth_eq]
      cases ho : ops[i]? with
      | none => constructor
                · intro h; cases h
                · rintro ⟨o, h, _⟩; cases h
      | some o =>
        cases hd : o.dst with
        | none =>
          constructor
          · intro h
            have : (opt o.dst false fun d => Nat.beq d t) = true := h
            rw [hd] at this; cases this
          · rintro ⟨o', h, h'⟩; cases h; rw [hd] at h'; cases h'
        | some d =>
          constructor
          · intro h
            have : (opt o.dst false fun d => Nat.beq d t) = true := h
            rw [hd] at this
            have : d = t := Nat.eq_of_beq_eq_true this
            exact ⟨o, rfl, by rw [hd, this]⟩
          · rintro ⟨o', h, h'⟩
            cases h
            rw [hd] at h'; cases h'
            show (opt o.dst false fun d => Nat.beq d t) = true
            rw [hd]
            exact Nat.beq_refl t
    show (∀ k, cnd (opt (nth i ops) false fun o => opt o.dst false fun d => Nat.beq d t) (some n) _ = some k → _) ∧ (cnd (opt (nth i ops) false fun o => opt o.dst false fun d => Nat.beq d t) (some n) _ = none → _)
    generalize hb : (opt (nth i ops) false fun o => opt o.dst false fun d => Nat.beq d t) = b
    have ht := tst b hb
    cases b with
    | true =>
      obtain ⟨o, ho, hd⟩ := ht.1 rfl
      exact ⟨fun k h => by cases h; exact ⟨0, i, o, rfl, rfl, ho, hd⟩, fun h => by cases h⟩
    | false =>
      refine ⟨fun k h => ?_, fun h => ?_⟩
      · obtain ⟨j, i', o, e1, e2, e3, e4⟩ := h1 k h
        exact ⟨j + 1, i', o, by omega, by simpa using e2, e3, e4⟩
      · intro i' hi' o ho hd
        cases hi' with
        | head => exact absurd (ht.2 ⟨o, ho, hd⟩) (by simp)
        | tail _ hm => exact h2 h i' hm o ho hd
theorem locOf_some {ops : List Oper} {done : List Nat} {t k : Nat} (h : locOf ops done t = some k) : ∃ i o, done[k]? = some i ∧ ops[i]? = some o ∧ o.dst = some t := by
  obtain ⟨j, i, o, e1, e2, e3, e4⟩ := (locOf_spec ops t done 0).1 k h
  have : k = j := by omega
  subst this
  exact ⟨i, o, e2, e3, e4⟩
theorem locOf_none {ops : List Oper} {done : List Nat} {t : Nat} (h : locOf ops done t = none) : ∀ i ∈ done, ∀ o : Oper, ops[i]? = some o → o.dst ≠ some t := (locOf_spec ops t done 0).2 h

theorem lookR_ok {nt : Nat} {ops : Array Oper} {done : List Nat} (h : RInv nt ops ι T done L a) : LkOk ι T L (lookR ops.toList done) a := by
  intro t x hx
  unfold lookR at hx
  cases hl : locOf ops.toList done t with
  | some k =>
    rw [hl] at hx
    cases hx
    obtain ⟨i, o, e1, e2, e3⟩ := locOf_some hl
    rw [Array.getElem?_toList] at e2
    show VRel ι (opt (nth k L) .any fun v => v) _
    rw [nth_eq]
    have hk : k < L.length := by
      rw [h.len]
      exact (List.getElem?_eq_some_iff.1 e1).1
    rw [List.getElem?_eq_getElem hk]
    exact h.val k i o t _ e1 e2 e3 (List.getElem?_eq_getElem hk)
  | none =>
    rw [hl] at hx
    cases hx
    show VRel ι (opt (T.get (Pos.of t)) .any fun v => v) _
    cases hT : T.get (Pos.of t) with
    | none => exact .any _
    | some v => exact h.old t v hT fun i hi o ho => locOf_none hl i hi o (by rw [Array.getElem?_toList]; exact ho)

/-- One more is done. -/
theorem RInv.step {nt : Nat} {ops : Array Oper} (hO : OpsOk nt ops) {done : List Nat} (h : RInv nt ops ι T done L a) {i : Nat} {o : Oper} (ho : ops[i]? = some o) (hi : i ∉ done)
    {κ : Inj} (hκ : ι.le κ) {v : AV} {c : Value} (hv : VRel κ v c) (S : List Deferred) : RInv nt ops κ T (i :: done) (v :: L) (Act.done a S o.dst c) := by
  have hsz : (Act.done a S o.dst c).tmps.size = a.tmps.size := by unfold Act.done; rw [size_put]
  have hev : ∀ t, o.dst ≠ some t → (Act.done a S o.dst c).eval (.tmp t) = a.eval (.tmp t) := fun t ht => by
    unfold Act.done; rw [eval_put_ne _ _ _ _ ht]; rfl
  refine ⟨by rw [hsz]; exact h.size, by simp [h.len], ?_, ?_⟩
  · intro k j p d u hk hp hd hu
    cases k with
    | zero =>
      cases hk
      rw [ho] at hp; cases hp
      cases hu
      have : d < a.tmps.size := Nat.lt_of_lt_of_le (hO.lt i o d ho hd) h.size
      unfold Act.done
      rw [hd, eval_put_same _ _ _ (by exact this)]
      exact hv
    | succ k =>
      have hk' : done[k]? = some j := by simpa using hk
      have hne : o.dst ≠ some d := by
        intro e
        have := hO.nd i j o p d ho hp e hd
        subst this
        exact hi (List.mem_of_getElem? hk')
      rw [hev d hne]
      exact (h.val k j p d u hk' hp hd (by simpa using hu)).mono hκ
  · intro t u ht hno
    have hne : o.dst ≠ some t := hno i (by simp) o ho
    rw [hev t hne]
    exact (h.old t u ht fun j hj p hp => hno j (by simp [hj]) p hp).mono hκ

theorem idxOf_spec (j : Nat) : ∀ (done : List Nat) (n k : Nat), (List.rec (motive := fun _ => Nat → Option Nat) (fun _ => none) (fun i _ ih k => cnd (Nat.beq i j) (some k) (ih (Nat.succ k))) done n : Option Nat) = some k → ∃ m, k = n + m ∧ done[m]? = some j
  | [], n, k, h => by cases h
  | i :: done, n, k, h => by
    replace h : cnd (Nat.beq i j) (some n) (List.rec (motive := fun _ => Nat → Option Nat) (fun _ => none) (fun i _ ih k => cnd (Nat.beq i j) (some k) (ih (Nat.succ k))) done (n + 1)) = some k := h
    rw [cnd_eq] at h
    split at h
    · rename_i hb
      cases h
      exact ⟨0, rfl, by rw [Nat.eq_of_beq_eq_true hb]; rfl⟩
    · obtain ⟨m, e1, e2⟩ := idxOf_spec j done (n + 1) k h
      exact ⟨m + 1, by omega, by simpa using e2⟩
theorem idxOf_some {done : List Nat} {j k : Nat} (h : idxOf done j = some k) : done[k]? = some j := by
  obtain ⟨m, e1, e2⟩ := idxOf_spec j done 0 k h
  have : k = m := by omega
  subst this; exact e2

/-- What is yielded, of a value. -/
theorem yielded_of {ops : Array Oper} {a : Act} {j : Nat} {p : Oper} {d : Nat} (hp : ops[j]? = some p) (hd : p.dst = some d) (hs : d < a.tmps.size) : yielded ops a.tmps j = match a.eval (.tmp d) with | .bool b => some b | _ => none := by
  have e : (((ops[j]?).bind (·.dst)).bind (a.tmps[·]?)) = some (a.eval (.tmp d)) := by simp [hp, hd, Act.eval, hs]
  unfold yielded
  rw [e]
  cases a.eval (.tmp d) <;> rfl

/-- A guard, here and there. -/
theorem guard_ok {nt : Nat} {ops : Array Oper} (hO : OpsOk nt ops) {done : List Nat} (h : RInv nt ops ι T done L a) {i : Nat} {o : Oper} (ho : ops[i]? = some o) {g : Option (Nat × Bool)} (hg : cGuard done o.guard = some g) {b : Bool}
    (hb : guardB g L = some b) : Region.wanted o (yielded ops a.tmps) = b := by
  unfold cGuard at hg
  unfold Region.wanted
  split at hg
  · rename_i e
    cases hg
    rw [e]
    cases hb; rfl
  · rename_i j want e
    obtain ⟨k, h1, h2⟩ := opt_eq_some hg
    cases h2
    rw [e]
    obtain ⟨p, d, hp, hd⟩ := hO.gd i o j want ho e
    have hk := idxOf_some h1
    replace hb : (opt (nth k L) none fun v => match v with | .bool b => some (Bool.rec (inot want) want b) | .tup _ => some false | _ => none) = some b := hb
    obtain ⟨v, h3, h4⟩ := opt_eq_some hb
    rw [nth_eq] at h3
    have hv := h.val k j p d v hk hp hd h3
    have hs : d < a.tmps.size := Nat.lt_of_lt_of_le (hO.lt j p d hp hd) h.size
    show (yielded ops a.tmps j == some want) = b
    rw [yielded_of hp hd hs]
    generalize a.eval (.tmp d) = c at hv
    split at h4
    · cases hv
      rename_i b'
      cases h4
      cases b' <;> cases want <;> rfl
    · cases hv
      cases h4
      rfl
    · cases h4

theorem evCs_mk (call : CallT) (wg : Option (Nat × Bool)) (q : K) (rc : List (Nat × (AV → Hp → Option AV) × Opd)) (cs : List CO) (L : List AV) (D : List DF) (H : Hp) :
    evCs call T (mkCO wg q rc :: cs) L D H = opt (guardB wg L) .no fun b => cnd b (exec q call T L D H fun v D' H' => cnd (reB T (v :: L) H' rc) (evCs call T cs (v :: L) D' H') .no) (evCs call T cs (.tup [] :: L) D H) := by
  cases wg with
  | none => cases rc <;> rfl
  | some x => rfl

theorem cOne_inv {ops : Array Oper} {done : List Nat} {i : Nat} {p : Option (Nat × Bool) × K} (h : cOne E ops.toList done i = some p) : ∃ o, ops[i]? = some o ∧ cGuard done o.guard = some p.1 ∧ cK E (lookR ops.toList done) o.op = some p.2 := by
  obtain ⟨o, h1, h⟩ := opt_eq_some h
  obtain ⟨g, h2, h⟩ := opt_eq_some h
  obtain ⟨q, h3, h⟩ := opt_eq_some h
  cases h
  rw [nth_eq, Array.getElem?_toList] at h1
  exact ⟨o, h1, h2, h3⟩

/-- What stands behind a region. -/
structure AfterR (E : Env) (base : Nat) (w0 : World) (ι : Inj) (H : Hp) (D : List DF) (H' : Hp) (ι' : Inj) (S : List Deferred) (w' : World) : Prop where
  rl : Rl E base w0 ι' H' w'
  stp : Stp ι ι' H H'
  dfr : DRel ι' D S

def OldOk (nt : Nat) (ops : Array Oper) (ι : Inj) (T : PT AV) (a : Act) : Prop :=
  nt ≤ a.tmps.size ∧ ∀ (t : Nat) (v : AV), T.get (Pos.of t) = some v → (∀ (i : Nat) (o : Oper), ops[i]? = some o → o.dst ≠ some t) → VRel ι v (a.eval (.tmp t))

theorem mkCT_eq (wg : Option (Nat × Bool)) (q : K) : (wg = none ∧ ∃ z x, q = .sel z x) ∨ mkCT wg q = mkCO wg q [] := by
  cases wg with
  | some w => exact .inr rfl
  | none => cases q with
    | sel z x => exact .inl ⟨rfl, z, x, rfl⟩
    | _ => exact .inr rfl
theorem text_sound (hE : EnvOk P E) {call : CallT} (hC : CallOk P E base w0 call) {nt : Nat} {ops : Array Oper} (hO : OpsOk nt ops) {r : RO} (hr : r ≠ .no) {Q : Exit → Act → World → Prop} {ι0 : Inj} {H0 : Hp} (all : List Nat)
    (hn : ∀ L' D' H' ι' a' w', r = .nrm L' D' H' → RInv nt ops ι' T all L' a' → AfterR E base w0 ι0 H0 D' H' ι' a'.defers w' → Q .normal a' w')
    (hp : ∀ v D' H' ι' c a' w', r = .pan v D' H' → VRel ι' v c → OldOk nt ops ι' T a' → AfterR E base w0 ι0 H0 D' H' ι' a'.defers w' → Q (.panic [{ v := c, recovered := false }]) a' w') :
    ∀ (todo done : List Nat) (L : List AV) (D : List DF) (H : Hp) (ι : Inj) (a : Act) (w : World), todo.reverse ++ done = all → (∀ i ∈ todo, i ∉ done) → todo.Nodup →
      RInv nt ops ι T done L a → AfterR E base w0 ι0 H0 D H ι a.defers w → evCs call T (cText E ops.toList todo done) L D H = r → RegAt P ops Q todo a w
  | [], done, L, D, H, ι, a, w, ha, _, _, hI, hA, he => by
    have : r = .nrm L D H := he.symm
    exact regAt_nil (hn L D H ι a w this (by simpa using ha ▸ hI) hA)
  | i :: todo, done, L, D, H, ι, a, w, ha, hd, hnd, hI, hA, he => by
    replace he : evCs call T (opt (cOne E ops.toList done i) [coNo] fun p => mkCT p.1 p.2 :: cText E ops.toList todo (i :: done)) L D H = r := he
    cases hc : cOne E ops.toList done i with
    | none =>
      rw [hc] at he
      exact absurd he.symm hr
    | some p =>
      rw [hc] at he
      replace he : evCs call T (mkCT p.1 p.2 :: cText E ops.toList todo (i :: done)) L D H = r := he
      obtain ⟨o, ho, hg, hk⟩ := cOne_inv hc
      have hnot : i ∉ done := hd i (by simp)
      have hnd' := List.nodup_cons.1 hnd
      have hall : todo.reverse ++ (i :: done) = all := by rw [← ha]; simp
      have hdis : ∀ j ∈ todo, j ∉ i :: done := by
        intro j hj hm
        cases hm with
        | head => exact hnd'.1 hj
        | tail _ hm => exact hd j (by simp [hj]) hm
      rcases mkCT_eq p.1 p.2 with ⟨q1, z, x, q2⟩ | q1
      · rw [q1, q2] at he
        rw [q1] at hg
        rw [q2] at hk
        replace he : tryV (selF z (x.ev T L) H) D H (fun v D' H' => evCs call T (cText E ops.toList todo (i :: done)) (v :: L) D' H') = r := he
        obtain ⟨v, h1, h2⟩ := tryV_ne he hr
        have hw : Region.wanted o (yielded ops a.tmps) = true := guard_ok hO hI ho hg (b := true) rfl
        have hk' : ∃ c : SelectCase, o.op = .select #[c] false ∧ c.send = none ∧ E.zero c.elem = some z ∧ E.opd (lookR ops.toList done) c.chan = some x := by
          generalize o.op = op at hk
          generalize hq : K.sel z x = q at hk
          cases cK_inv hk with
          | sel c z' y k1 k2 k3 => cases hq; exact ⟨c, rfl, k1, k2, k3⟩
          | pur _ _ h => subst hq; cases h
          | _ => cases hq
        obtain ⟨c, hop, hs, hz, hx⟩ := hk'
        obtain ⟨zc, hz1, hz2⟩ := zero_run (P := P) (ι := ι) (w := w) hE hz
        obtain ⟨rr, cap, cl, s, qq, tm, hcx, hb, hv⟩ := sel_val hA.rl (opd_sound hA.rl.glob (lookR_ok hI) hx) hz2 h1
        have hs' := hI.step hO ho hnot (Inj.le_refl ι) hv a.defers
        rw [done_self] at hs'
        exact regAt_sel ho hop hs hw hz1 hcx hb (text_sound hE hC hO hr all hn hp todo (i :: done) (v :: L) D H ι _ w hall hdis hnd'.2 hs' ⟨hA.rl, hA.stp, by rw [defers_put]; exact hA.dfr⟩ h2)
      rw [q1, evCs_mk] at he
      obtain ⟨b, h1, h2⟩ := optR_ne he hr
      have hw := guard_ok hO hI ho hg h1
      cases b with
      | true =>
        refine regAt_wp ho hw ?_
        refine exec_sound hE hC hA.rl (lookR_ok hI) hA.dfr hk h2 hr (fun v D' H' ι' c S w' e1 e2 => ?_) (fun v H' ι' c w' e1 e2 => ?_)
        · refine text_sound hE hC hO hr all hn hp todo (i :: done) (v :: L) D' H' ι' _ w' hall hdis hnd'.2 (hI.step hO ho hnot e2.stp.le e2.val S) ⟨e2.rl, hA.stp.trans e2.stp, ?_⟩ e1
          unfold Act.done; rw [defers_put]; exact e2.dfr
        · exact hp v D H' ι' c a w' e1 e2.val ⟨hI.size, fun t u ht hno => (hI.old t u ht fun j _ p hp => hno j p hp).mono e2.stp.le⟩ ⟨e2.rl, hA.stp.trans e2.stp, e2.dfr⟩
      | false =>
        replace h2 : evCs call T (cText E ops.toList todo (i :: done)) (.tup [] :: L) D H = r := h2
        have hs := hI.step hO ho hnot (Inj.le_refl ι) (VRel.tup [] [] .nil) a.defers
        rw [done_self] at hs
        exact regAt_skip ho hw (text_sound hE hC hO hr all hn hp todo (i :: done) (.tup [] :: L) D H ι _ w hall hdis hnd'.2 hs ⟨hA.rl, hA.stp, by rw [defers_put]; exact hA.dfr⟩ h2)
end Go.Ev
