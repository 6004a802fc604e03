/- Numbers that are not known, of which it is told what is left of them. -/
import Derived.Test.YtmjccopjophgjaaGreatDoorEvTop
namespace Go.Ev
variable {ι : Inj}

/-- what is left of an int by '& c' -/
noncomputable def andArg (c r : Nat) : AV := .sy [.bin .and .i64 (.ofNat c)] [.int .i64 (.ofNat r)]
/-- what is left of an int, as a uint, by '% c' -/
noncomputable def remArg (c r : Nat) : AV := .sy [.cv .u64] [.sy [.bin .rem .u64 (.ofNat c)] [.int .u64 (.ofNat r)]]

theorem inK_wf {n : Int} (h : (Lit.int .i64 n).wf = true) : inK .i64 n = true := by
  have h' : (decide (IntKind.i64.min ≤ n) && decide (n ≤ IntKind.i64.max)) = true := h
  simp only [Bool.and_eq_true, decide_eq_true_eq] at h'
  have h1 : IntKind.i64.min = -9223372036854775808 := by decide
  have h2 : IntKind.i64.max = 9223372036854775807 := by decide
  rw [h1, h2] at h'
  cases n with
  | ofNat m =>
    show Nat.ble m 9223372036854775807 = true
    exact Nat.ble_eq_true_of_le (by have h3 : (m : Int) ≤ 9223372036854775807 := h'.2; omega)
  | negSucc m =>
    show iand true (Nat.ble m 9223372036854775807) = true
    rw [iand_eq, Bool.true_and]
    exact Nat.ble_eq_true_of_le (by have := h'.1; omega)

/-- '& c', where c + 1 is a power of two -/
theorem and_rel (e : Nat) (he : 2 ^ e ≤ 128) {n : Int} (h : (Lit.int .i64 n).wf = true) : ∃ r, r < 2 ^ e ∧ VRel ι (andArg (2 ^ e - 1) r) (.int .i64 n) := by
  have hp : 0 < 2 ^ e := Nat.two_pow_pos e
  have hr : Nat.land (toB .i64 n) (2 ^ e - 1) < 2 ^ e := by
    show toB .i64 n &&& (2 ^ e - 1) < 2 ^ e
    rw [Nat.and_two_pow_sub_one_eq_mod]
    exact Nat.mod_lt _ hp
  refine ⟨Nat.land (toB .i64 n) (2 ^ e - 1), hr, ?_⟩
  refine .sy _ _ .i64 n [.int .i64 (.ofNat (Nat.land (toB .i64 n) (2 ^ e - 1)))] (.cons _ _ _ _ (.int _ _) .nil) fun i o y ho hy => ?_
  cases i with
  | succ i => simp at ho
  | zero =>
    cases ho; cases hy
    refine ⟨_, .int .i64 (.ofNat (Nat.land (toB .i64 n) (2 ^ e - 1))), rfl, ?_, rfl⟩
    have hc : inK .i64 (.ofNat (2 ^ e - 1)) = true := Nat.ble_eq_true_of_le (by show 2 ^ e - 1 ≤ 9223372036854775807; omega)
    show cnd (iand (inK .i64 n) (inK .i64 (.ofNat (2 ^ e - 1)))) (vI .i64 (ofB .i64 (Nat.land (toB .i64 n) (2 ^ e - 1)))) none = _
    rw [inK_wf h, hc]
    show vI .i64 (cnd (Nat.ble (Nat.land (toB .i64 n) (2 ^ e - 1)) 9223372036854775807) (.ofNat (Nat.land (toB .i64 n) (2 ^ e - 1))) _) = _
    rw [Nat.ble_eq_true_of_le (by omega)]
    rw [vI_eq]
    rfl

/-- 'uint(n) % c' -/
theorem rem_relA (c : Nat) (hc : 0 < c) (n : Int) : ∃ r, r < c ∧ ∀ ι : Inj, VRel ι (remArg c r) (.int .i64 n) := by
  have hnn : 0 ≤ wr .u64 n := by
    rw [wr_eq]
    show 0 ≤ n % (2 ^ 64 : Int)
    exact Int.emod_nonneg _ (by decide)
  obtain ⟨u, hu⟩ := Int.eq_ofNat_of_zero_le hnn
  refine ⟨u % c, Nat.mod_lt _ hc, fun ι => ?_⟩
  refine .sy _ _ .i64 n [.int .u64 (wr .u64 n)] (.cons _ _ _ _ ?_ .nil) fun i o y ho hy => ?_
  · rw [hu]
    refine .sy _ _ .u64 _ [.int .u64 (.ofNat (u % c))] (.cons _ _ _ _ (.int _ _) .nil) fun i o y ho hy => ?_
    cases i with
    | succ i => simp at ho
    | zero =>
      cases ho; cases hy
      refine ⟨_, .int .u64 (.ofNat (u % c)), rfl, ?_, rfl⟩
      show cnd (ieq (.ofNat c) (.ofNat 0)) none (vI .u64 (Int.tmod (u : Int) (.ofNat c))) = _
      have h0 : ieq (.ofNat c) (.ofNat 0) = false := by
        rw [ieq_eq]
        cases hb : (Int.ofNat c == Int.ofNat 0) with
        | false => rfl
        | true =>
          have := eq_of_beq hb
          have : c = 0 := Int.ofNat.inj this
          omega
      rw [h0]
      show vI .u64 (Int.tmod (u : Int) (.ofNat c)) = _
      rw [vI_eq]
      rfl
  · cases i with
    | succ i => simp at ho
    | zero => cases ho; cases hy; rfl
theorem rem_rel (c : Nat) (hc : 0 < c) {n : Int} : ∃ r, r < c ∧ VRel ι (remArg c r) (.int .i64 n) := let ⟨r, h, e⟩ := rem_relA c hc n; ⟨r, h, e ι⟩
end Go.Ev
