/- What is told of the atoms of 'RunRefArrays'. -/
import Derived.Test.YtbehlkbeofoahaaGreatDoorEvRn
namespace Go.Ev

theorem den_leq {σ : Nat → IntKind × Int} {i : Nat} {k : IntKind} {a c : Int} (h : σ i = (k, a)) {t : Bool} (e : decide (a ≤ c) = t) : AtO.den σ i (.bc .leq k c) = some (AtV.av σ (.bool t)) := by
  show cnd (kbeq (σ i).1 k) (bI (ile (σ i).2 c)) none = some (.bool t)
  rw [h, kbeq_refl, cnd_true, bI_eq, ile_eq, ← e]
theorem den_geqA {σ : Nat → IntKind × Int} {i j : Nat} {k : IntKind} {a c : Int} (h : σ i = (k, a)) (hj : σ j = (k, c)) {t : Bool} (e : decide (a ≥ c) = t) : AtO.den σ i (.aa .geq j) = some (AtV.av σ (.bool t)) := by
  show cnd (kbeq (σ i).1 (σ j).1) (bI (ile (σ j).2 (σ i).2)) none = some (.bool t)
  rw [h, hj, kbeq_refl, cnd_true, bI_eq, ile_eq, ← e]
theorem addC {c k : Int} (h1 : -9223372036854775808 ≤ k + c) (h2 : k + c ≤ 9223372036854775807) : strApp (.int .i64 c) (.int .i64 k) = some (.int .i64 (k + c)) := by
  show vI .i64 (wr .i64 (iadd c k)) = _
  rw [vI_eq, iadd_eq, show c + k = k + c by omega, wr64_id h1 h2]
theorem wru_id {n : Int} (h1 : 0 ≤ n) (h2 : n ≤ 9223372036854775807) : wr .u64 n = n := by
  rw [wr_eq]
  simp only [IntKind.wrap, IntKind.bits, IntKind.signed]
  simp
  omega
theorem wru_nn (n : Int) : 0 ≤ wr .u64 n := by
  rw [wr_eq]
  simp only [IntKind.wrap, IntKind.bits, IntKind.signed]
  simp
  omega
theorem rem_aa (k : IntKind) {a c : Int} (hc : c ≠ 0) : fRem (.int k a) (.int k c) = some (.int k (Int.tmod a c)) := by
  show cnd (kbeq k k) (cnd (ieq c 0) none (vI k (Int.tmod a c))) none = _
  rw [kbeq_refl, cnd_true, ieq_eq, beq_eq_false_iff_ne.2 hc, cnd_false, vI_eq]
noncomputable def sgRf (x y s i p : Int) : Nat → IntKind × Int := sg [(.i64, x), (.i64, y), (.i64, s), (.i64, s + 1), (.u64, s + 1), (.u64, wr .u64 y), (.u64, i), (.i64, i), (.i64, i + 1), (.i64, p), (.i32, s + 1), (.i64, s + 1 - 11), (.i32, i), (.i64, i - 11), (.i32, p), (.i64, p - 11), (.i64, s + 1 + 16), (.i64, s + 1 + 16 + 144)]

theorem andF {n : Int} (h : (Lit.int .i64 n).wf = true) : ∃ s : Nat, s < 32 ∧ fAnd (.int .i64 n) (.int .i64 31) = some (.int .i64 (.ofNat s)) := by
  have hr : Nat.land (toB .i64 n) 31 < 32 := by
    show toB .i64 n &&& (2 ^ 5 - 1) < 32
    rw [Nat.and_two_pow_sub_one_eq_mod]
    omega
  refine ⟨Nat.land (toB .i64 n) 31, hr, ?_⟩
  show cnd (iand (inK .i64 n) (inK .i64 (.ofNat 31))) (vI .i64 (ofB .i64 (Nat.land (toB .i64 n) 31))) none = _
  rw [inK_wf h]
  show vI .i64 (cnd (Nat.ble (Nat.land (toB .i64 n) 31) 9223372036854775807) (.ofNat (Nat.land (toB .i64 n) 31)) _) = _
  rw [Nat.ble_eq_true_of_le (by omega)]
  rw [vI_eq]
  rfl
theorem andV {ι : Inj} {n : Int} {s : Nat} (h : fAnd (.int .i64 n) (.int .i64 31) = some (.int .i64 (.ofNat s))) : VRel ι (andArg 31 s) (.int .i64 n) := by
  refine .sy _ _ .i64 n [.int .i64 (.ofNat s)] (.cons _ _ _ _ (.int _ _) .nil) fun i o y ho hy => ?_
  cases i with
  | succ i => simp at ho
  | zero =>
    cases ho; cases hy
    exact ⟨_, .int .i64 (.ofNat s), rfl, h, rfl⟩
noncomputable def tbRf : List (Nat × AtO × AtV) := [(0, .bc .and .i64 31, .at 2), (2, .cb .add .i64 1, .at 3), (3, .cv .u64, .at 4), (1, .cv .u64, .at 5), (5, .aa .rem 4, .at 6), (6, .cv .i64, .at 7), (7, .bc .add .i64 1, .at 8), (8, .aa .rem 3, .at 9), (3, .ec .i64 1, .bool false), (3, .w32, .at 3), (3, .cv .i32, .at 10), (10, .cv .i64, .at 3), (3, .bc .sub .i64 11, .at 11), (7, .w32, .at 7), (7, .cv .i32, .at 12), (12, .cv .i64, .at 7), (7, .bc .sub .i64 11, .at 13), (9, .w32, .at 9), (9, .cv .i32, .at 14), (14, .cv .i64, .at 9), (9, .bc .sub .i64 11, .at 15), (3, .cb .add .i64 16, .at 16), (16, .cb .add .i64 144, .at 17), (17, .bc .gtr .i64 2048, .bool false), (3, .bc .lss .i64 0, .bool false), (3, .bc .lss .i64 1, .bool false), (3, .bc .gtr .i64 1000, .bool false), (3, .bc .geq .i64 0, .bool true), (3, .bc .leq .i64 1000, .bool true), (3, .bc .gtr .i64 1000000, .bool false), (7, .bc .lss .i64 0, .bool false), (7, .aa .geq 3, .bool false), (7, .aa .lss 3, .bool true), (9, .bc .lss .i64 0, .bool false), (9, .aa .geq 3, .bool false), (9, .aa .lss 3, .bool true), (9, .ea 7, .bool false), (7, .ea 9, .bool false)]
theorem tbRf_ok {x y s i p : Int} (hs : fAnd (.int .i64 x) (.int .i64 31) = some (.int .i64 s)) (hi : fRem (.int .u64 (wr .u64 y)) (.int .u64 (s + 1)) = some (.int .u64 i)) (hp : fRem (.int .i64 (i + 1)) (.int .i64 (s + 1)) = some (.int .i64 p)) (h1 : 1 ≤ s ∧ s ≤ 31) (h2 : 0 ≤ i ∧ i ≤ s) (h3 : 0 ≤ p ∧ p ≤ s) (h4 : p ≠ i) : AtOk (sgRf x y s i p) tbRf := by
  exact atOk_cons (den_bc rfl rfl rfl hs) <|
    atOk_cons (den_cb rfl rfl rfl (addC (by omega) (by omega))) <|
    atOk_cons (den_cv rfl rfl (wru_id (by omega) (by omega))) <|
    atOk_cons (den_cv rfl rfl rfl) <|
    atOk_cons (den_aa rfl rfl rfl rfl hi) <|
    atOk_cons (den_cv rfl rfl (wr64_id (by omega) (by omega))) <|
    atOk_cons (den_add rfl rfl (wr64_id (by omega) (by omega))) <|
    atOk_cons (den_aa rfl rfl rfl rfl hp) <|
    atOk_cons (den_ec rfl (beq_eq_false_iff_ne.2 (by omega))) <|
    atOk_cons (den_w32 rfl rfl (wr32_id (by omega) (by omega))) <|
    atOk_cons (den_cv rfl rfl (wr32_id (by omega) (by omega))) <|
    atOk_cons (den_cv rfl rfl (wr64_id (by omega) (by omega))) <|
    atOk_cons (den_sub rfl rfl (wr64_id (by omega) (by omega))) <|
    atOk_cons (den_w32 rfl rfl (wr32_id (by omega) (by omega))) <|
    atOk_cons (den_cv rfl rfl (wr32_id (by omega) (by omega))) <|
    atOk_cons (den_cv rfl rfl (wr64_id (by omega) (by omega))) <|
    atOk_cons (den_sub rfl rfl (wr64_id (by omega) (by omega))) <|
    atOk_cons (den_w32 rfl rfl (wr32_id (by omega) (by omega))) <|
    atOk_cons (den_cv rfl rfl (wr32_id (by omega) (by omega))) <|
    atOk_cons (den_cv rfl rfl (wr64_id (by omega) (by omega))) <|
    atOk_cons (den_sub rfl rfl (wr64_id (by omega) (by omega))) <|
    atOk_cons (den_cb rfl rfl rfl (addC (by omega) (by omega))) <|
    atOk_cons (den_cb rfl rfl rfl (addC (by omega) (by omega))) <|
    atOk_cons (den_gtr rfl (decide_eq_false (by omega))) <|
    atOk_cons (den_lss rfl (decide_eq_false (by omega))) <|
    atOk_cons (den_lss rfl (decide_eq_false (by omega))) <|
    atOk_cons (den_gtr rfl (decide_eq_false (by omega))) <|
    atOk_cons (den_geq rfl (decide_eq_true (by omega))) <|
    atOk_cons (den_leq rfl (decide_eq_true (by omega))) <|
    atOk_cons (den_gtr rfl (decide_eq_false (by omega))) <|
    atOk_cons (den_lss rfl (decide_eq_false (by omega))) <|
    atOk_cons (den_geqA rfl rfl (decide_eq_false (by omega))) <|
    atOk_cons (den_lssA rfl rfl (decide_eq_true (by omega))) <|
    atOk_cons (den_lss rfl (decide_eq_false (by omega))) <|
    atOk_cons (den_geqA rfl rfl (decide_eq_false (by omega))) <|
    atOk_cons (den_lssA rfl rfl (decide_eq_true (by omega))) <|
    atOk_cons (den_ea rfl rfl (beq_eq_false_iff_ne.2 (by omega))) <|
    atOk_cons (den_ea rfl rfl (beq_eq_false_iff_ne.2 (by omega))) <| atOk_nil

end Go.Ev
