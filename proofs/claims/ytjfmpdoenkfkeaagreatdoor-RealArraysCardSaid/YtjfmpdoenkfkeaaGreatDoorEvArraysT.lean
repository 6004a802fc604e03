/- What is told of the atoms of 'RealArrays'. -/
import Derived.Test.YtjfmpdoenkfkeaaGreatDoorEvCl
namespace Go.Ev

theorem den_leq {σ : Nat → IntKind × Int} {i : Nat} {k : IntKind} {a c : Int} (h : σ i = (k, a)) {t : Bool} (e : decide (a ≤ c) = t) : AtO.den σ i (.bc .leq k c) = some (AtV.av σ (.bool t)) := by
  show cnd (kbeq (σ i).1 k) (bI (ile (σ i).2 c)) none = some (.bool t)
  rw [h, kbeq_refl, cnd_true, bI_eq, ile_eq, ← e]
theorem den_geqA {σ : Nat → IntKind × Int} {i j : Nat} {k : IntKind} {a c : Int} (h : σ i = (k, a)) (hj : σ j = (k, c)) {t : Bool} (e : decide (a ≥ c) = t) : AtO.den σ i (.aa .geq j) = some (AtV.av σ (.bool t)) := by
  show cnd (kbeq (σ i).1 (σ j).1) (bI (ile (σ j).2 (σ i).2)) none = some (.bool t)
  rw [h, hj, kbeq_refl, cnd_true, bI_eq, ile_eq, ← e]
theorem addC {c k : Int} (h1 : -9223372036854775808 ≤ k + c) (h2 : k + c ≤ 9223372036854775807) : strApp (.int .i64 c) (.int .i64 k) = some (.int .i64 (k + c)) := by
  show vI .i64 (wr .i64 (iadd c k)) = _
  rw [vI_eq, iadd_eq, show c + k = k + c by omega, wr64_id h1 h2]
noncomputable def sgAy (s t x k i : Int) : Nat → IntKind × Int := sg [(.i64, s), (.i64, t), (.i64, x), (.i64, Int.tmod s 1100), (.i64, Int.tmod t 20), (.i64, wr .i32 x), (.i32, wr .i32 x), (.i64, wr .i32 x - 11), (.i32, k), (.i64, k + 16), (.i64, k + 16 + 144), (.i32, i), (.i64, k - 11), (.i64, i - 11)]
noncomputable def tbAyneg : List (Nat × AtO × AtV) := [(0, .bc .rem .i64 1100, .at 3), (1, .bc .rem .i64 20, .at 4), (2, .w32, .at 5), (5, .w32, .at 5), (5, .cv .i32, .at 6), (6, .cv .i64, .at 5), (5, .bc .sub .i64 11, .at 7), (3, .w32, .at 3), (3, .cv .i32, .at 8), (8, .cv .i64, .at 3), (3, .bc .sub .i64 11, .at 12), (4, .w32, .at 4), (4, .cv .i32, .at 11), (11, .cv .i64, .at 4), (4, .bc .sub .i64 11, .at 13), (3, .cb .add .i64 16, .at 9), (3, .bc .lss .i64 0, .bool true), (3, .bc .geq .i64 0, .bool false)]
theorem tbAyneg_ok (s t x : Int) {k i : Int} (hk : Int.tmod s 1100 = k) (hi : Int.tmod t 20 = i) (hk2 : -1100 < k ∧ k < 1100) (hi2 : -20 < i ∧ i < 20) (h : k < 0) : AtOk (sgAy s t x k i) tbAyneg := by
  have e3 : sgAy s t x k i 3 = (.i64, k) := by rw [← hk]; rfl
  have e4 : sgAy s t x k i 4 = (.i64, i) := by rw [← hi]; rfl
  exact atOk_cons (den_rem rfl e3 (by decide) hk) <|
    atOk_cons (den_rem rfl e4 (by decide) hi) <|
    atOk_cons (den_w32 rfl rfl rfl) <|
    atOk_cons (den_w32 rfl rfl (wr32_idem x)) <|
    atOk_cons (den_cv rfl rfl (wr32_idem x)) <|
    atOk_cons (den_cv rfl rfl (wr64_32 x)) <|
    atOk_cons (den_sub rfl rfl (wr64_id (by have := wr32_range x; omega) (by have := wr32_range x; omega))) <|
    atOk_cons (den_w32 e3 e3 (wr32_id (by omega) (by omega))) <|
    atOk_cons (den_cv e3 rfl (wr32_id (by omega) (by omega))) <|
    atOk_cons (den_cv rfl e3 (wr64_id (by omega) (by omega))) <|
    atOk_cons (den_sub e3 rfl (wr64_id (by omega) (by omega))) <|
    atOk_cons (den_w32 e4 e4 (wr32_id (by omega) (by omega))) <|
    atOk_cons (den_cv e4 rfl (wr32_id (by omega) (by omega))) <|
    atOk_cons (den_cv rfl e4 (wr64_id (by omega) (by omega))) <|
    atOk_cons (den_sub e4 rfl (wr64_id (by omega) (by omega))) <|
    atOk_cons (den_cb rfl e3 rfl (addC (by omega) (by omega))) <|
    atOk_cons (den_lss e3 (decide_eq_true (by omega))) <|
    atOk_cons (den_geq e3 (decide_eq_false (by omega))) <| atOk_nil
noncomputable def tbAybig : List (Nat × AtO × AtV) := [(0, .bc .rem .i64 1100, .at 3), (1, .bc .rem .i64 20, .at 4), (2, .w32, .at 5), (5, .w32, .at 5), (5, .cv .i32, .at 6), (6, .cv .i64, .at 5), (5, .bc .sub .i64 11, .at 7), (3, .w32, .at 3), (3, .cv .i32, .at 8), (8, .cv .i64, .at 3), (3, .bc .sub .i64 11, .at 12), (4, .w32, .at 4), (4, .cv .i32, .at 11), (11, .cv .i64, .at 4), (4, .bc .sub .i64 11, .at 13), (3, .cb .add .i64 16, .at 9), (3, .bc .lss .i64 0, .bool false), (3, .bc .gtr .i64 1000, .bool true), (3, .bc .geq .i64 0, .bool true), (3, .bc .leq .i64 1000, .bool false)]
theorem tbAybig_ok (s t x : Int) {k i : Int} (hk : Int.tmod s 1100 = k) (hi : Int.tmod t 20 = i) (hk2 : -1100 < k ∧ k < 1100) (hi2 : -20 < i ∧ i < 20) (h : 1000 < k) : AtOk (sgAy s t x k i) tbAybig := by
  have e3 : sgAy s t x k i 3 = (.i64, k) := by rw [← hk]; rfl
  have e4 : sgAy s t x k i 4 = (.i64, i) := by rw [← hi]; rfl
  exact atOk_cons (den_rem rfl e3 (by decide) hk) <|
    atOk_cons (den_rem rfl e4 (by decide) hi) <|
    atOk_cons (den_w32 rfl rfl rfl) <|
    atOk_cons (den_w32 rfl rfl (wr32_idem x)) <|
    atOk_cons (den_cv rfl rfl (wr32_idem x)) <|
    atOk_cons (den_cv rfl rfl (wr64_32 x)) <|
    atOk_cons (den_sub rfl rfl (wr64_id (by have := wr32_range x; omega) (by have := wr32_range x; omega))) <|
    atOk_cons (den_w32 e3 e3 (wr32_id (by omega) (by omega))) <|
    atOk_cons (den_cv e3 rfl (wr32_id (by omega) (by omega))) <|
    atOk_cons (den_cv rfl e3 (wr64_id (by omega) (by omega))) <|
    atOk_cons (den_sub e3 rfl (wr64_id (by omega) (by omega))) <|
    atOk_cons (den_w32 e4 e4 (wr32_id (by omega) (by omega))) <|
    atOk_cons (den_cv e4 rfl (wr32_id (by omega) (by omega))) <|
    atOk_cons (den_cv rfl e4 (wr64_id (by omega) (by omega))) <|
    atOk_cons (den_sub e4 rfl (wr64_id (by omega) (by omega))) <|
    atOk_cons (den_cb rfl e3 rfl (addC (by omega) (by omega))) <|
    atOk_cons (den_lss e3 (decide_eq_false (by omega))) <|
    atOk_cons (den_gtr e3 (decide_eq_true (by omega))) <|
    atOk_cons (den_geq e3 (decide_eq_true (by omega))) <|
    atOk_cons (den_leq e3 (decide_eq_false (by omega))) <| atOk_nil
noncomputable def tbAylow : List (Nat × AtO × AtV) := [(0, .bc .rem .i64 1100, .at 3), (1, .bc .rem .i64 20, .at 4), (2, .w32, .at 5), (5, .w32, .at 5), (5, .cv .i32, .at 6), (6, .cv .i64, .at 5), (5, .bc .sub .i64 11, .at 7), (3, .w32, .at 3), (3, .cv .i32, .at 8), (8, .cv .i64, .at 3), (3, .bc .sub .i64 11, .at 12), (4, .w32, .at 4), (4, .cv .i32, .at 11), (11, .cv .i64, .at 4), (4, .bc .sub .i64 11, .at 13), (3, .cb .add .i64 16, .at 9), (3, .bc .lss .i64 0, .bool false), (3, .bc .gtr .i64 1000, .bool false), (3, .bc .geq .i64 0, .bool true), (3, .bc .leq .i64 1000, .bool true), (3, .bc .gtr .i64 1000000, .bool false), (9, .cb .add .i64 144, .at 10), (10, .bc .gtr .i64 2048, .bool false), (4, .bc .lss .i64 0, .bool true)]
theorem tbAylow_ok (s t x : Int) {k i : Int} (hk : Int.tmod s 1100 = k) (hi : Int.tmod t 20 = i) (hk2 : -1100 < k ∧ k < 1100) (hi2 : -20 < i ∧ i < 20) (h : (0 ≤ k ∧ k ≤ 1000) ∧ i < 0) : AtOk (sgAy s t x k i) tbAylow := by
  have e3 : sgAy s t x k i 3 = (.i64, k) := by rw [← hk]; rfl
  have e4 : sgAy s t x k i 4 = (.i64, i) := by rw [← hi]; rfl
  exact atOk_cons (den_rem rfl e3 (by decide) hk) <|
    atOk_cons (den_rem rfl e4 (by decide) hi) <|
    atOk_cons (den_w32 rfl rfl rfl) <|
    atOk_cons (den_w32 rfl rfl (wr32_idem x)) <|
    atOk_cons (den_cv rfl rfl (wr32_idem x)) <|
    atOk_cons (den_cv rfl rfl (wr64_32 x)) <|
    atOk_cons (den_sub rfl rfl (wr64_id (by have := wr32_range x; omega) (by have := wr32_range x; omega))) <|
    atOk_cons (den_w32 e3 e3 (wr32_id (by omega) (by omega))) <|
    atOk_cons (den_cv e3 rfl (wr32_id (by omega) (by omega))) <|
    atOk_cons (den_cv rfl e3 (wr64_id (by omega) (by omega))) <|
    atOk_cons (den_sub e3 rfl (wr64_id (by omega) (by omega))) <|
    atOk_cons (den_w32 e4 e4 (wr32_id (by omega) (by omega))) <|
    atOk_cons (den_cv e4 rfl (wr32_id (by omega) (by omega))) <|
    atOk_cons (den_cv rfl e4 (wr64_id (by omega) (by omega))) <|
    atOk_cons (den_sub e4 rfl (wr64_id (by omega) (by omega))) <|
    atOk_cons (den_cb rfl e3 rfl (addC (by omega) (by omega))) <|
    atOk_cons (den_lss e3 (decide_eq_false (by omega))) <|
    atOk_cons (den_gtr e3 (decide_eq_false (by omega))) <|
    atOk_cons (den_geq e3 (decide_eq_true (by omega))) <|
    atOk_cons (den_leq e3 (decide_eq_true (by omega))) <|
    atOk_cons (den_gtr e3 (decide_eq_false (by omega))) <|
    atOk_cons (den_cb rfl rfl rfl (addC (by omega) (by omega))) <|
    atOk_cons (den_gtr rfl (decide_eq_false (by omega))) <|
    atOk_cons (den_lss e4 (decide_eq_true (by omega))) <| atOk_nil
noncomputable def tbAyhigh : List (Nat × AtO × AtV) := [(0, .bc .rem .i64 1100, .at 3), (1, .bc .rem .i64 20, .at 4), (2, .w32, .at 5), (5, .w32, .at 5), (5, .cv .i32, .at 6), (6, .cv .i64, .at 5), (5, .bc .sub .i64 11, .at 7), (3, .w32, .at 3), (3, .cv .i32, .at 8), (8, .cv .i64, .at 3), (3, .bc .sub .i64 11, .at 12), (4, .w32, .at 4), (4, .cv .i32, .at 11), (11, .cv .i64, .at 4), (4, .bc .sub .i64 11, .at 13), (3, .cb .add .i64 16, .at 9), (3, .bc .lss .i64 0, .bool false), (3, .bc .gtr .i64 1000, .bool false), (3, .bc .geq .i64 0, .bool true), (3, .bc .leq .i64 1000, .bool true), (3, .bc .gtr .i64 1000000, .bool false), (9, .cb .add .i64 144, .at 10), (10, .bc .gtr .i64 2048, .bool false), (4, .bc .lss .i64 0, .bool false), (4, .aa .geq 3, .bool true), (4, .aa .lss 3, .bool false)]
theorem tbAyhigh_ok (s t x : Int) {k i : Int} (hk : Int.tmod s 1100 = k) (hi : Int.tmod t 20 = i) (hk2 : -1100 < k ∧ k < 1100) (hi2 : -20 < i ∧ i < 20) (h : (0 ≤ k ∧ k ≤ 1000) ∧ 0 ≤ i ∧ k ≤ i) : AtOk (sgAy s t x k i) tbAyhigh := by
  have e3 : sgAy s t x k i 3 = (.i64, k) := by rw [← hk]; rfl
  have e4 : sgAy s t x k i 4 = (.i64, i) := by rw [← hi]; rfl
  exact atOk_cons (den_rem rfl e3 (by decide) hk) <|
    atOk_cons (den_rem rfl e4 (by decide) hi) <|
    atOk_cons (den_w32 rfl rfl rfl) <|
    atOk_cons (den_w32 rfl rfl (wr32_idem x)) <|
    atOk_cons (den_cv rfl rfl (wr32_idem x)) <|
    atOk_cons (den_cv rfl rfl (wr64_32 x)) <|
    atOk_cons (den_sub rfl rfl (wr64_id (by have := wr32_range x; omega) (by have := wr32_range x; omega))) <|
    atOk_cons (den_w32 e3 e3 (wr32_id (by omega) (by omega))) <|
    atOk_cons (den_cv e3 rfl (wr32_id (by omega) (by omega))) <|
    atOk_cons (den_cv rfl e3 (wr64_id (by omega) (by omega))) <|
    atOk_cons (den_sub e3 rfl (wr64_id (by omega) (by omega))) <|
    atOk_cons (den_w32 e4 e4 (wr32_id (by omega) (by omega))) <|
    atOk_cons (den_cv e4 rfl (wr32_id (by omega) (by omega))) <|
    atOk_cons (den_cv rfl e4 (wr64_id (by omega) (by omega))) <|
    atOk_cons (den_sub e4 rfl (wr64_id (by omega) (by omega))) <|
    atOk_cons (den_cb rfl e3 rfl (addC (by omega) (by omega))) <|
    atOk_cons (den_lss e3 (decide_eq_false (by omega))) <|
    atOk_cons (den_gtr e3 (decide_eq_false (by omega))) <|
    atOk_cons (den_geq e3 (decide_eq_true (by omega))) <|
    atOk_cons (den_leq e3 (decide_eq_true (by omega))) <|
    atOk_cons (den_gtr e3 (decide_eq_false (by omega))) <|
    atOk_cons (den_cb rfl rfl rfl (addC (by omega) (by omega))) <|
    atOk_cons (den_gtr rfl (decide_eq_false (by omega))) <|
    atOk_cons (den_lss e4 (decide_eq_false (by omega))) <|
    atOk_cons (den_geqA e4 e3 (decide_eq_true (by omega))) <|
    atOk_cons (den_lssA e4 e3 (decide_eq_false (by omega))) <| atOk_nil
noncomputable def tbAyin : List (Nat × AtO × AtV) := [(0, .bc .rem .i64 1100, .at 3), (1, .bc .rem .i64 20, .at 4), (2, .w32, .at 5), (5, .w32, .at 5), (5, .cv .i32, .at 6), (6, .cv .i64, .at 5), (5, .bc .sub .i64 11, .at 7), (3, .w32, .at 3), (3, .cv .i32, .at 8), (8, .cv .i64, .at 3), (3, .bc .sub .i64 11, .at 12), (4, .w32, .at 4), (4, .cv .i32, .at 11), (11, .cv .i64, .at 4), (4, .bc .sub .i64 11, .at 13), (3, .cb .add .i64 16, .at 9), (3, .bc .lss .i64 0, .bool false), (3, .bc .gtr .i64 1000, .bool false), (3, .bc .geq .i64 0, .bool true), (3, .bc .leq .i64 1000, .bool true), (3, .bc .gtr .i64 1000000, .bool false), (9, .cb .add .i64 144, .at 10), (10, .bc .gtr .i64 2048, .bool false), (4, .bc .lss .i64 0, .bool false), (4, .aa .geq 3, .bool false), (4, .aa .lss 3, .bool true)]
theorem tbAyin_ok (s t x : Int) {k i : Int} (hk : Int.tmod s 1100 = k) (hi : Int.tmod t 20 = i) (hk2 : -1100 < k ∧ k < 1100) (hi2 : -20 < i ∧ i < 20) (h : (0 ≤ k ∧ k ≤ 1000) ∧ 0 ≤ i ∧ i < k) : AtOk (sgAy s t x k i) tbAyin := by
  have e3 : sgAy s t x k i 3 = (.i64, k) := by rw [← hk]; rfl
  have e4 : sgAy s t x k i 4 = (.i64, i) := by rw [← hi]; rfl
  exact atOk_cons (den_rem rfl e3 (by decide) hk) <|
    atOk_cons (den_rem rfl e4 (by decide) hi) <|
    atOk_cons (den_w32 rfl rfl rfl) <|
    atOk_cons (den_w32 rfl rfl (wr32_idem x)) <|
    atOk_cons (den_cv rfl rfl (wr32_idem x)) <|
    atOk_cons (den_cv rfl rfl (wr64_32 x)) <|
    atOk_cons (den_sub rfl rfl (wr64_id (by have := wr32_range x; omega) (by have := wr32_range x; omega))) <|
    atOk_cons (den_w32 e3 e3 (wr32_id (by omega) (by omega))) <|
    atOk_cons (den_cv e3 rfl (wr32_id (by omega) (by omega))) <|
    atOk_cons (den_cv rfl e3 (wr64_id (by omega) (by omega))) <|
    atOk_cons (den_sub e3 rfl (wr64_id (by omega) (by omega))) <|
    atOk_cons (den_w32 e4 e4 (wr32_id (by omega) (by omega))) <|
    atOk_cons (den_cv e4 rfl (wr32_id (by omega) (by omega))) <|
    atOk_cons (den_cv rfl e4 (wr64_id (by omega) (by omega))) <|
    atOk_cons (den_sub e4 rfl (wr64_id (by omega) (by omega))) <|
    atOk_cons (den_cb rfl e3 rfl (addC (by omega) (by omega))) <|
    atOk_cons (den_lss e3 (decide_eq_false (by omega))) <|
    atOk_cons (den_gtr e3 (decide_eq_false (by omega))) <|
    atOk_cons (den_geq e3 (decide_eq_true (by omega))) <|
    atOk_cons (den_leq e3 (decide_eq_true (by omega))) <|
    atOk_cons (den_gtr e3 (decide_eq_false (by omega))) <|
    atOk_cons (den_cb rfl rfl rfl (addC (by omega) (by omega))) <|
    atOk_cons (den_gtr rfl (decide_eq_false (by omega))) <|
    atOk_cons (den_lss e4 (decide_eq_false (by omega))) <|
    atOk_cons (den_geqA e4 e3 (decide_eq_false (by omega))) <|
    atOk_cons (den_lssA e4 e3 (decide_eq_true (by omega))) <| atOk_nil

end Go.Ev
