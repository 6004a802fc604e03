/- The evaluator's pure operations. -/
import Derived.Test.YtmjccopjophgjaaGreatDoorEvOps
import Derived.Laws.Strings
namespace Go.Ev
variable {P : Program} {E : Env} {ι : Inj} {w : World}

/-! ### '==' -/
/-- What '==' and '!=' come to. -/
def EqRun (P : Program) (w : World) (t : Nat) (cx cy : Value) (b : Bool) : Prop :=
  ∀ ox oy : Operand, ((do eqGuard .eql t ox oy cx cy; binOp .eql t cx cy : Sem Value).run P w = .ok (.bool b) w) ∧
    ((do eqGuard .neq t ox oy cx cy; binOp .neq t cx cy : Sem Value).run P w = .ok (.bool !b) w)
theorem und_run' {t : Nat} {d : TypeDesc} (hu : P.underlying t = some d) : (underlying t).run P w = .ok d w := by
  simp [underlying, program, Sem.run, hu]
theorem eqI_run {t : Nat} {k k' : IntKind} {a c : Int} {b : Bool} (h : avEqN (.int k a) (.int k' c) = some b) : EqRun P w t (.int k a) (.int k' c) b := by
  intro ox oy
  replace h : cnd (kbeq k k') (some (ieq a c)) none = some b := h
  rw [cnd_eq] at h
  split at h
  · rename_i hk
    have := kbeq_eq hk; subst this
    rw [ieq_eq] at h
    cases h
    exact ⟨by simp [eqGuard, binOp, Op.intCmp], by simp [eqGuard, binOp, Op.intCmp, bne]⟩
  · cases h
theorem eqN_run {t : Nat} {x y : AV} {b : Bool} {cx cy : Value} (hx : VRel ι x cx) (hy : VRel ι y cy) (h : avEqN x y = some b) : EqRun P w t cx cy b := by
  intro ox oy
  unfold avEqN at h
  split at h
  · rename_i k a k' c
    rw [cnd_eq] at h
    split at h
    · rename_i hk
      have := kbeq_eq hk; subst this
      have h1 := int_rel hx; have h2 := int_rel hy
      subst h1; subst h2
      rw [ieq_eq] at h
      cases h
      exact ⟨by simp [eqGuard, binOp, Op.intCmp], by simp [eqGuard, binOp, Op.intCmp, bne]⟩
    · cases h
  · rename_i l m
    obtain ⟨s, rfl, hs⟩ := str_rel hx
    obtain ⟨u, rfl, hu'⟩ := str_rel hy
    rw [strEq_eq] at h
    have e : (l == m) = (s.toList == u.toList) := by
      rw [Bool.eq_iff_iff, beq_iff_eq, beq_iff_eq, ← hs, ← hu', ByteArray.toList_eq, ByteArray.toList_eq]
      exact ⟨fun h => toNat_inj h, fun h => by rw [h]⟩
    rw [e] at h
    cases h
    exact ⟨by simp [eqGuard, binOp, Op.stringOp], by simp [eqGuard, binOp, Op.stringOp]⟩
  · rename_i i tb k c
    obtain ⟨h1, rfl⟩ := at_rel hx
    cases int_rel hy
    have h2 := atB_some h1 h
    obtain ⟨b', h3, h4⟩ := opt_eq_some (show (opt (avEqN (num ι.s i) (.int k c)) none fun b => some (AV.bool b)) = some (.bool b) from h2)
    cases h4
    exact eqI_run h3 ox oy
  · rename_i i tb j tb'
    obtain ⟨h1, rfl⟩ := at_rel hx
    obtain ⟨_, rfl⟩ := at_rel hy
    rw [cnd_eq] at h
    split at h
    · rename_i he
      obtain rfl := Nat.eq_of_beq_eq_true he
      cases h
      refine eqI_run ?_ ox oy
      show cnd (kbeq (ι.s i).1 (ι.s i).1) (some (ieq (ι.s i).2 (ι.s i).2)) none = some true
      rw [ieq_eq, show kbeq (ι.s i).1 (ι.s i).1 = true from Nat.beq_refl _, beq_self_eq_true]; rfl
    · have h2 := atB_some h1 h
      obtain ⟨b', h3, h4⟩ := opt_eq_some (show (opt (avEqN (num ι.s i) (num ι.s j)) none fun b => some (AV.bool b)) = some (.bool b) from h2)
      cases h4
      exact eqI_run h3 ox oy
  · rename_i c m
    rw [cnd_eq] at h
    split at h
    · rename_i hc
      cases h
      cases int_rel hx
      cases hy with
      | nge _ n h1 h2 =>
        refine eqI_run (?_ : avEqN (.int .i64 (.ofNat c)) (.int .i64 n) = some false) ox oy
        show cnd (kbeq .i64 .i64) (some (ieq (.ofNat c) n)) none = some false
        have h3 := Nat.le_of_ble_eq_true hc
        have h4 : (Int.ofNat c == n) = false := by
          rw [beq_eq_false_iff_ne]
          intro e
          have : (c : Int) = n := e
          omega
        rw [ieq_eq, h4]; rfl
    · cases h
  · cases h
theorem eqIn_bool (n : Nat) {t : Nat} (hu : P.underlying t = some .bool) (a b : Bool) : (Op.equalIn (n + 1) t (.bool a) (.bool b)).run P w = .ok (a == b) w := by
  rw [Op.equalIn, Sem.run_bind, und_run' hu]; rfl
theorem eqIn_pnn (n : Nat) {t e : Nat} (hu : P.underlying t = some (.pointer e)) (q : Option Addr) : (Op.equalIn (n + 1) t (.pointer none) (.pointer q)).run P w = .ok q.isNone w := by
  rw [Op.equalIn, Sem.run_bind, und_run' hu]; rfl
theorem eqIn_ppn (n : Nat) {t e : Nat} (hu : P.underlying t = some (.pointer e)) (q : Addr) : (Op.equalIn (n + 1) t (.pointer (some q)) (.pointer none)).run P w = .ok false w := by
  rw [Op.equalIn, Sem.run_bind, und_run' hu]; rfl
theorem eqIn_sn (n : Nat) {t e : Nat} (hu : P.underlying t = some (.slice e)) (q : Option Addr) (a b c d : Nat) : (Op.equalIn (n + 1) t (.slice none a b) (.slice q c d)).run P w = .ok q.isNone w := by
  rw [Op.equalIn, Sem.run_bind, und_run' hu]; rfl
theorem eqIn_ss (n : Nat) {t e : Nat} (hu : P.underlying t = some (.slice e)) (q : Addr) (a b c d : Nat) : (Op.equalIn (n + 1) t (.slice (some q) a b) (.slice none c d)).run P w = .ok false w := by
  rw [Op.equalIn, Sem.run_bind, und_run' hu]; rfl
theorem eqIn_mn (n : Nat) {t e f : Nat} (hu : P.underlying t = some (.map e f)) (q : Option Nat) : (Op.equalIn (n + 1) t (.map none) (.map q)).run P w = .ok q.isNone w := by
  rw [Op.equalIn, Sem.run_bind, und_run' hu]; rfl
theorem eqIn_mm (n : Nat) {t e f : Nat} (hu : P.underlying t = some (.map e f)) (q : Nat) : (Op.equalIn (n + 1) t (.map (some q)) (.map none)).run P w = .ok false w := by
  rw [Op.equalIn, Sem.run_bind, und_run' hu]; rfl
theorem eqIn_fnn (n : Nat) {t : Nat} {a b : Array TypeId} {v : Bool} (hu : P.underlying t = some (.func a b v)) : (Op.equalIn (n + 1) t .nilFunc .nilFunc).run P w = .ok true w := by
  rw [Op.equalIn, Sem.run_bind, und_run' hu]; rfl
theorem eqIn_fnf (n : Nat) {t : Nat} {a b : Array TypeId} {v : Bool} (hu : P.underlying t = some (.func a b v)) (f : Fn) (x y : Array Value) : (Op.equalIn (n + 1) t .nilFunc (.func f x y)).run P w = .ok false w := by
  rw [Op.equalIn, Sem.run_bind, und_run' hu]; rfl
theorem eqIn_ffn (n : Nat) {t : Nat} {a b : Array TypeId} {v : Bool} (hu : P.underlying t = some (.func a b v)) (f : Fn) (x y : Array Value) : (Op.equalIn (n + 1) t (.func f x y) .nilFunc).run P w = .ok false w := by
  rw [Op.equalIn, Sem.run_bind, und_run' hu]; rfl
theorem eqIn_inn (n : Nat) {t : Nat} {m : Array (String × TypeId)} (hu : P.underlying t = some (.interface m)) : (Op.equalIn (n + 1) t .nilIface .nilIface).run P w = .ok true w := by
  rw [Op.equalIn, Sem.run_bind, und_run' hu]; rfl
theorem eqIn_ini (n : Nat) {t : Nat} {m : Array (String × TypeId)} (hu : P.underlying t = some (.interface m)) (u : TypeId) (v : Value) : (Op.equalIn (n + 1) t .nilIface (.iface u v)).run P w = .ok false w := by
  rw [Op.equalIn, Sem.run_bind, und_run' hu]; rfl
theorem eqIn_iin (n : Nat) {t : Nat} {m : Array (String × TypeId)} (hu : P.underlying t = some (.interface m)) (u : TypeId) (v : Value) : (Op.equalIn (n + 1) t (.iface u v) .nilIface).run P w = .ok false w := by
  rw [Op.equalIn, Sem.run_bind, und_run' hu]; rfl

/-- From 'equal' to the operation, where no other reading of '==' is met. -/
theorem EqRun.mk {t : Nat} {cx cy : Value} {b : Bool} (h : (Op.equalIn (9999 + 1) t cx cy).run P w = .ok b w)
    (hb1 : binOp .eql t cx cy = (do pure (.bool (← Op.equal t cx cy)))) (hb2 : binOp .neq t cx cy = (do pure (.bool (!(← Op.equal t cx cy)))))
    (hg : ∀ ox oy, eqGuard .eql t ox oy cx cy = pure () ∧ eqGuard .neq t ox oy cx cy = pure ()) : EqRun P w t cx cy b := by
  intro ox oy
  obtain ⟨g1, g2⟩ := hg ox oy
  have h' : (Op.equal t cx cy).run P w = .ok b w := h
  rw [g1, g2, hb1, hb2]
  exact ⟨by simp [h'], by simp [h']⟩
theorem eq_run (hE : EnvOk P E) {t : Nat} {d : TypeDesc} (hd : E.und t = some d) {x y : AV} {b : Bool} {cx cy : Value} (hx : VRel ι x cx) (hy : VRel ι y cy)
    (h : avEqC (tyCls d) x y = some b) : EqRun P w t cx cy b := by
  have hu := und_eq hE hd
  cases d with
  | bool =>
    replace h : avEqB x y = some b := h
    unfold avEqB at h
    split at h
    · rename_i p q
      have h1 := bool_rel hx; have h2 := bool_rel hy
      subst h1; subst h2
      cases h
      have e : (Bool.rec (inot q) q p : Bool) = (p == q) := by cases p <;> cases q <;> rfl
      rw [e]
      exact .mk (eqIn_bool 9999 hu p q) rfl rfl fun _ _ => ⟨rfl, rfl⟩
    · cases h
  | pointer e =>
    replace h : avEqP x y = some b := h
    unfold avEqP at h
    split at h
    · cases hx; cases hy; cases h; exact .mk (eqIn_pnn 9999 hu none) rfl rfl fun _ _ => ⟨rfl, rfl⟩
    · cases hx; cases hy; cases h; exact .mk (eqIn_pnn 9999 hu _) rfl rfl fun _ _ => ⟨rfl, rfl⟩
    · cases hx; cases hy; cases h; exact .mk (eqIn_ppn 9999 hu _) rfl rfl fun _ _ => ⟨rfl, rfl⟩
    · cases h
  | slice e =>
    replace h : avEqS x y = some b := h
    unfold avEqS at h
    split at h
    · cases hx; cases hy; cases h; exact .mk (eqIn_sn 9999 hu none _ _ _ _) rfl rfl fun _ _ => ⟨rfl, rfl⟩
    · cases hx; cases h; cases hy <;> exact .mk (eqIn_sn 9999 hu _ _ _ _ _) rfl rfl fun _ _ => ⟨rfl, rfl⟩
    · cases hy; cases h; cases hx <;> exact .mk (eqIn_ss 9999 hu _ _ _ _ _) rfl rfl fun _ _ => ⟨rfl, rfl⟩
    · cases h
  | map e f =>
    replace h : avEqM x y = some b := h
    unfold avEqM at h
    split at h
    · cases hx; cases hy; cases h; exact .mk (eqIn_mn 9999 hu none) rfl rfl fun _ _ => ⟨rfl, rfl⟩
    · cases hx; cases hy; cases h; exact .mk (eqIn_mn 9999 hu _) rfl rfl fun _ _ => ⟨rfl, rfl⟩
    · cases hx; cases hy; cases h; exact .mk (eqIn_mm 9999 hu _) rfl rfl fun _ _ => ⟨rfl, rfl⟩
    · cases h
  | func p q v =>
    replace h : avEqF x y = some b := h
    unfold avEqF at h
    split at h
    · cases hx; cases hy; cases h; exact .mk (eqIn_fnn 9999 hu) rfl rfl fun _ _ => ⟨rfl, rfl⟩
    · cases hx; cases hy; cases h; exact .mk (eqIn_fnf 9999 hu _ _ _) rfl rfl fun _ _ => ⟨rfl, rfl⟩
    · cases hx; cases hy; cases h; exact .mk (eqIn_ffn 9999 hu _ _ _) rfl rfl fun _ _ => ⟨rfl, rfl⟩
    · cases h
  | interface m =>
    replace h : avEqI x y = some b := h
    unfold avEqI at h
    split at h
    · cases hx; cases hy; cases h; exact .mk (eqIn_ini 9999 hu _ _) rfl rfl fun _ _ => ⟨rfl, rfl⟩
    · cases hx; cases hy; cases h; exact .mk (eqIn_iin 9999 hu _ _) rfl rfl fun _ _ => ⟨rfl, rfl⟩
    · cases h
  | _ => exact eqN_run hx hy h
/-- Against the literal nil of an interface's type. -/
theorem nil_run {t : Nat} {m : Array (String × TypeId)} (hu : P.underlying t = some (.interface m)) {x : AV} {b : Bool} {cx : Value} (hx : VRel ι x cx) (h : isNil x = some b) (ox : Operand) :
    ((do eqGuard .eql t ox (.const .nilIface) cx .nilIface; binOp .eql t cx .nilIface : Sem Value).run P w = .ok (.bool b) w) ∧
    ((do eqGuard .neq t ox (.const .nilIface) cx .nilIface; binOp .neq t cx .nilIface : Sem Value).run P w = .ok (.bool !b) w) := by
  unfold isNil at h
  split at h
  · cases hx; cases h
    have h' : (Op.equal t .nilIface .nilIface).run P w = .ok true w := eqIn_inn 9999 hu
    exact ⟨by simp [eqGuard, binOp, h'], by simp [eqGuard, binOp, h']⟩
  · cases hx; cases h
    exact EqRun.mk (eqIn_iin 9999 hu _ _) rfl rfl (fun _ _ => ⟨rfl, rfl⟩) ox (.const .nilIface)
  · cases h
end Go.Ev
