/- What is told of the atoms of 'RealAsks'. -/
import Derived.Test.YtmbpojfjpiahiaaGreatDoorEvCl
namespace Go.Ev

theorem den_leq {σ : Nat → IntKind × Int} {i : Nat} {k : IntKind} {a c : Int} (h : σ i = (k, a)) {t : Bool} (e : decide (a ≤ c) = t) : AtO.den σ i (.bc .leq k c) = some (AtV.av σ (.bool t)) := by
  show cnd (kbeq (σ i).1 k) (bI (ile (σ i).2 c)) none = some (.bool t)
  rw [h, kbeq_refl, cnd_true, bI_eq, ile_eq, ← e]
theorem addC {c k d : Int} (e : k + c = d) (h : -9223372036854775808 ≤ d ∧ d ≤ 9223372036854775807) : strApp (.int .i64 c) (.int .i64 k) = some (.int .i64 d) := by
  show vI .i64 (wr .i64 (iadd c k)) = _
  rw [vI_eq, iadd_eq, show c + k = d by omega, wr64_id h.1 h.2]
theorem addA {c k d : Int} (e : c + k = d) (h1 : -9223372036854775808 ≤ d) (h2 : d ≤ 9223372036854775807) : strApp (.int .i64 c) (.int .i64 k) = some (.int .i64 d) := addC (by omega) ⟨h1, h2⟩
theorem subA {c k d : Int} (e : c - k = d) (h1 : -9223372036854775808 ≤ d) (h2 : d ≤ 9223372036854775807) : int2 (fun k a b => vI k (wr k (isub a b))) (.int .i64 c) (.int .i64 k) = some (.int .i64 d) := by
  show vI .i64 (wr .i64 (isub c k)) = _
  rw [vI_eq, isub_eq, e, wr64_id h1 h2]
noncomputable def sgAk (s : Int) : Nat → IntKind × Int := sg [(.i64, s), (.i32, s), (.i64, s - 11), (.i64, s + 16), (.i64, 1 * (s + 16) + 144), (.i64, 2 * (s + 16) + 144), (.i64, 3 * (s + 16) + 144), (.i64, 4 * (s + 16) + 144), (.i64, 5 * (s + 16) + 144), (.i64, 6 * (s + 16) + 144), (.i64, 7 * (s + 16) + 144), (.i64, 8 * (s + 16) + 144), (.i64, 144)]
noncomputable def tbLo : List (Nat × AtO × AtV) := [(0, .w32, .at 0), (0, .cv .i32, .at 1), (1, .cv .i64, .at 0), (0, .bc .sub .i64 11, .at 2), (0, .cb .add .i64 16, .at 3), (3, .cb .add .i64 144, .at 4), (0, .bc .lss .i64 0, .bool false), (0, .bc .geq .i64 0, .bool true), (0, .bc .gtr .i64 1000, .bool false), (0, .bc .leq .i64 1000, .bool true), (0, .bc .gtr .i64 1000000, .bool false), (0, .bc .geq .i64 (-2147483648), .bool true), (0, .bc .leq .i64 2147483647, .bool true), (4, .bc .gtr .i64 1024, .bool false), (4, .aa .add 3, .at 5), (4, .aa .sub 3, .at 12), (5, .bc .gtr .i64 1024, .bool false), (5, .aa .add 3, .at 6), (5, .aa .sub 3, .at 4), (6, .bc .gtr .i64 1024, .bool false), (6, .aa .add 3, .at 7), (6, .aa .sub 3, .at 5), (7, .bc .gtr .i64 1024, .bool false), (7, .aa .add 3, .at 8), (7, .aa .sub 3, .at 6), (8, .bc .gtr .i64 1024, .bool false), (8, .aa .add 3, .at 9), (8, .aa .sub 3, .at 7), (9, .bc .gtr .i64 1024, .bool false), (9, .aa .add 3, .at 10), (9, .aa .sub 3, .at 8), (10, .bc .gtr .i64 1024, .bool false), (10, .aa .add 3, .at 11), (10, .aa .sub 3, .at 9), (11, .bc .gtr .i64 1024, .bool false), (11, .aa .sub 3, .at 10), (0, .bc .lss .i64 12, .bool true), (0, .bc .lss .i64 11, .bool true), (0, .bc .geq .i64 12, .bool false), (2, .bc .geq .i64 1, .bool false)]
theorem tbLo_ok {s : Int} (h0 : 0 ≤ s) (h1 : s < 11) : AtOk (sgAk s) tbLo :=
  atOk_cons (den_w32 rfl rfl (wr32_id (by omega) (by omega))) <|
    atOk_cons (den_cv rfl rfl (wr32_id (by omega) (by omega))) <|
    atOk_cons (den_cv rfl rfl (wr64_id (by omega) (by omega))) <|
    atOk_cons (den_sub rfl rfl (wr64_id (by omega) (by omega))) <|
    atOk_cons (den_cb rfl rfl rfl (addC (by omega) (by omega))) <|
    atOk_cons (den_cb rfl rfl rfl (addC (by omega) (by omega))) <|
    atOk_cons (den_lss rfl (decide_eq_false (by omega))) <|
    atOk_cons (den_geq rfl (decide_eq_true (by omega))) <|
    atOk_cons (den_gtr rfl (decide_eq_false (by omega))) <|
    atOk_cons (den_leq rfl (decide_eq_true (by omega))) <|
    atOk_cons (den_gtr rfl (decide_eq_false (by omega))) <|
    atOk_cons (den_geq rfl (decide_eq_true (by omega))) <|
    atOk_cons (den_leq rfl (decide_eq_true (by omega))) <|
    atOk_cons (den_gtr rfl (decide_eq_false (by omega))) <|
    atOk_cons (den_aa (op := .add) rfl rfl rfl rfl (addA (by omega) (by omega) (by omega))) <|
    atOk_cons (den_aa (op := .sub) rfl rfl rfl rfl (subA (by omega) (by omega) (by omega))) <|
    atOk_cons (den_gtr rfl (decide_eq_false (by omega))) <|
    atOk_cons (den_aa (op := .add) rfl rfl rfl rfl (addA (by omega) (by omega) (by omega))) <|
    atOk_cons (den_aa (op := .sub) rfl rfl rfl rfl (subA (by omega) (by omega) (by omega))) <|
    atOk_cons (den_gtr rfl (decide_eq_false (by omega))) <|
    atOk_cons (den_aa (op := .add) rfl rfl rfl rfl (addA (by omega) (by omega) (by omega))) <|
    atOk_cons (den_aa (op := .sub) rfl rfl rfl rfl (subA (by omega) (by omega) (by omega))) <|
    atOk_cons (den_gtr rfl (decide_eq_false (by omega))) <|
    atOk_cons (den_aa (op := .add) rfl rfl rfl rfl (addA (by omega) (by omega) (by omega))) <|
    atOk_cons (den_aa (op := .sub) rfl rfl rfl rfl (subA (by omega) (by omega) (by omega))) <|
    atOk_cons (den_gtr rfl (decide_eq_false (by omega))) <|
    atOk_cons (den_aa (op := .add) rfl rfl rfl rfl (addA (by omega) (by omega) (by omega))) <|
    atOk_cons (den_aa (op := .sub) rfl rfl rfl rfl (subA (by omega) (by omega) (by omega))) <|
    atOk_cons (den_gtr rfl (decide_eq_false (by omega))) <|
    atOk_cons (den_aa (op := .add) rfl rfl rfl rfl (addA (by omega) (by omega) (by omega))) <|
    atOk_cons (den_aa (op := .sub) rfl rfl rfl rfl (subA (by omega) (by omega) (by omega))) <|
    atOk_cons (den_gtr rfl (decide_eq_false (by omega))) <|
    atOk_cons (den_aa (op := .add) rfl rfl rfl rfl (addA (by omega) (by omega) (by omega))) <|
    atOk_cons (den_aa (op := .sub) rfl rfl rfl rfl (subA (by omega) (by omega) (by omega))) <|
    atOk_cons (den_gtr rfl (decide_eq_false (by omega))) <|
    atOk_cons (den_aa (op := .sub) rfl rfl rfl rfl (subA (by omega) (by omega) (by omega))) <|
    atOk_cons (den_lss rfl (decide_eq_true (by omega))) <|
    atOk_cons (den_lss rfl (decide_eq_true (by omega))) <|
    atOk_cons (den_geq rfl (decide_eq_false (by omega))) <|
    atOk_cons (den_geq rfl (decide_eq_false (by omega))) <| atOk_nil
noncomputable def tbHi : List (Nat × AtO × AtV) := [(0, .w32, .at 0), (0, .cv .i32, .at 1), (1, .cv .i64, .at 0), (0, .bc .sub .i64 11, .at 2), (0, .cb .add .i64 16, .at 3), (3, .cb .add .i64 144, .at 4), (0, .bc .lss .i64 0, .bool false), (0, .bc .geq .i64 0, .bool true), (0, .bc .gtr .i64 1000, .bool false), (0, .bc .leq .i64 1000, .bool true), (0, .bc .gtr .i64 1000000, .bool false), (0, .bc .geq .i64 (-2147483648), .bool true), (0, .bc .leq .i64 2147483647, .bool true), (4, .bc .gtr .i64 1024, .bool false), (4, .aa .add 3, .at 5), (4, .aa .sub 3, .at 12), (5, .bc .gtr .i64 1024, .bool false), (5, .aa .add 3, .at 6), (5, .aa .sub 3, .at 4), (6, .bc .gtr .i64 1024, .bool false), (6, .aa .add 3, .at 7), (6, .aa .sub 3, .at 5), (7, .bc .gtr .i64 1024, .bool false), (7, .aa .add 3, .at 8), (7, .aa .sub 3, .at 6), (8, .bc .gtr .i64 1024, .bool false), (8, .aa .add 3, .at 9), (8, .aa .sub 3, .at 7), (9, .bc .gtr .i64 1024, .bool false), (9, .aa .add 3, .at 10), (9, .aa .sub 3, .at 8), (10, .bc .gtr .i64 1024, .bool false), (10, .aa .add 3, .at 11), (10, .aa .sub 3, .at 9), (11, .bc .gtr .i64 1024, .bool false), (11, .aa .sub 3, .at 10), (0, .bc .lss .i64 12, .bool false), (0, .bc .lss .i64 11, .bool false), (0, .bc .geq .i64 12, .bool true), (2, .bc .geq .i64 1, .bool true)]
theorem tbHi_ok {s : Int} (h0 : 12 ≤ s) (h1 : s < 32) : AtOk (sgAk s) tbHi :=
  atOk_cons (den_w32 rfl rfl (wr32_id (by omega) (by omega))) <|
    atOk_cons (den_cv rfl rfl (wr32_id (by omega) (by omega))) <|
    atOk_cons (den_cv rfl rfl (wr64_id (by omega) (by omega))) <|
    atOk_cons (den_sub rfl rfl (wr64_id (by omega) (by omega))) <|
    atOk_cons (den_cb rfl rfl rfl (addC (by omega) (by omega))) <|
    atOk_cons (den_cb rfl rfl rfl (addC (by omega) (by omega))) <|
    atOk_cons (den_lss rfl (decide_eq_false (by omega))) <|
    atOk_cons (den_geq rfl (decide_eq_true (by omega))) <|
    atOk_cons (den_gtr rfl (decide_eq_false (by omega))) <|
    atOk_cons (den_leq rfl (decide_eq_true (by omega))) <|
    atOk_cons (den_gtr rfl (decide_eq_false (by omega))) <|
    atOk_cons (den_geq rfl (decide_eq_true (by omega))) <|
    atOk_cons (den_leq rfl (decide_eq_true (by omega))) <|
    atOk_cons (den_gtr rfl (decide_eq_false (by omega))) <|
    atOk_cons (den_aa (op := .add) rfl rfl rfl rfl (addA (by omega) (by omega) (by omega))) <|
    atOk_cons (den_aa (op := .sub) rfl rfl rfl rfl (subA (by omega) (by omega) (by omega))) <|
    atOk_cons (den_gtr rfl (decide_eq_false (by omega))) <|
    atOk_cons (den_aa (op := .add) rfl rfl rfl rfl (addA (by omega) (by omega) (by omega))) <|
    atOk_cons (den_aa (op := .sub) rfl rfl rfl rfl (subA (by omega) (by omega) (by omega))) <|
    atOk_cons (den_gtr rfl (decide_eq_false (by omega))) <|
    atOk_cons (den_aa (op := .add) rfl rfl rfl rfl (addA (by omega) (by omega) (by omega))) <|
    atOk_cons (den_aa (op := .sub) rfl rfl rfl rfl (subA (by omega) (by omega) (by omega))) <|
    atOk_cons (den_gtr rfl (decide_eq_false (by omega))) <|
    atOk_cons (den_aa (op := .add) rfl rfl rfl rfl (addA (by omega) (by omega) (by omega))) <|
    atOk_cons (den_aa (op := .sub) rfl rfl rfl rfl (subA (by omega) (by omega) (by omega))) <|
    atOk_cons (den_gtr rfl (decide_eq_false (by omega))) <|
    atOk_cons (den_aa (op := .add) rfl rfl rfl rfl (addA (by omega) (by omega) (by omega))) <|
    atOk_cons (den_aa (op := .sub) rfl rfl rfl rfl (subA (by omega) (by omega) (by omega))) <|
    atOk_cons (den_gtr rfl (decide_eq_false (by omega))) <|
    atOk_cons (den_aa (op := .add) rfl rfl rfl rfl (addA (by omega) (by omega) (by omega))) <|
    atOk_cons (den_aa (op := .sub) rfl rfl rfl rfl (subA (by omega) (by omega) (by omega))) <|
    atOk_cons (den_gtr rfl (decide_eq_false (by omega))) <|
    atOk_cons (den_aa (op := .add) rfl rfl rfl rfl (addA (by omega) (by omega) (by omega))) <|
    atOk_cons (den_aa (op := .sub) rfl rfl rfl rfl (subA (by omega) (by omega) (by omega))) <|
    atOk_cons (den_gtr rfl (decide_eq_false (by omega))) <|
    atOk_cons (den_aa (op := .sub) rfl rfl rfl rfl (subA (by omega) (by omega) (by omega))) <|
    atOk_cons (den_lss rfl (decide_eq_false (by omega))) <|
    atOk_cons (den_lss rfl (decide_eq_false (by omega))) <|
    atOk_cons (den_geq rfl (decide_eq_true (by omega))) <|
    atOk_cons (den_geq rfl (decide_eq_true (by omega))) <| atOk_nil
theorem and_at {n : Int} (h : (Lit.int .i64 n).wf = true) : ∃ r : Int, 0 ≤ r ∧ r < 32 ∧ ∀ (ι : Inj) (x : AV), VRel ι x (.int .i64 r) → VRel ι (.sy [.bin .and .i64 (.ofNat 31)] [x]) (.int .i64 n) := by
  have hr : Nat.land (toB .i64 n) 31 < 32 := by
    show toB .i64 n &&& (2 ^ 5 - 1) < 2 ^ 5
    rw [Nat.and_two_pow_sub_one_eq_mod]
    exact Nat.mod_lt _ (by decide)
  refine ⟨(Nat.land (toB .i64 n) 31 : Nat), by omega, by omega, fun ι x hx => ?_⟩
  refine .sy _ _ .i64 n [.int .i64 ((Nat.land (toB .i64 n) 31 : Nat) : Int)] (.cons _ _ _ _ hx .nil) fun i o y ho hy => ?_
  cases i with
  | succ i => simp at ho
  | zero =>
    cases ho; cases hy
    refine ⟨_, .int .i64 ((Nat.land (toB .i64 n) 31 : Nat) : Int), rfl, ?_, rfl⟩
    show cnd (iand (inK .i64 n) (inK .i64 (.ofNat 31))) (vI .i64 (ofB .i64 (Nat.land (toB .i64 n) 31))) none = _
    rw [inK_wf h]
    show vI .i64 (cnd (Nat.ble (Nat.land (toB .i64 n) 31) 9223372036854775807) (.ofNat (Nat.land (toB .i64 n) 31)) _) = _
    rw [Nat.ble_eq_true_of_le (by omega), vI_eq]
    rfl

end Go.Ev
