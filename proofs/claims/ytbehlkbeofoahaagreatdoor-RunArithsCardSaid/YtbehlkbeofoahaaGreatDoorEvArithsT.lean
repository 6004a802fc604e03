/- What is told of the atoms of 'RunAriths'. -/
import Derived.Test.YtbehlkbeofoahaaGreatDoorEvRn
namespace Go.Ev

theorem inK32 (n : Int) : inK .i32 (wr .i32 n) = true := by
  have := wr32_range n
  generalize wr .i32 n = a at this
  cases a with
  | ofNat m => exact Nat.ble_eq_true_of_le (by have : (m : Int) ≤ 2147483647 := this.2; show m ≤ 2147483647; omega)
  | negSucc m =>
    show iand true (Nat.ble m 2147483647) = true
    rw [iand_eq, Bool.true_and]
    exact Nat.ble_eq_true_of_le (by have := this.1; omega)
theorem ofB32 (n : Nat) (h : n < 4294967296) : wr .i32 (ofB .i32 n) = ofB .i32 n := by
  rw [← ofB_eq .i32 n h, ← wr_eq, wr32_idem]
theorem toB32 (n : Int) : toB .i32 (wr .i32 n) < 4294967296 := toB_lt .i32 _ (inK32 n)
theorem bit32 (f : Nat → Nat → Nat) (x y : Int) : bit2 f .i32 (wr .i32 x) (wr .i32 y) = some (.int .i32 (ofB .i32 (f (toB .i32 (wr .i32 x)) (toB .i32 (wr .i32 y))))) := by
  unfold bit2
  rw [inK32, inK32]
  show vI _ _ = _
  rw [vI_eq]
noncomputable def lowB (y : Int) : Nat := Nat.land (toB .i32 (wr .i32 y)) 31
theorem lowB_le (y : Int) : lowB y ≤ 31 := by
  show toB .i32 (wr .i32 y) &&& 31 ≤ 31
  exact Nat.and_le_right
theorem low32 (y : Int) : bit2 Nat.land .i32 (wr .i32 y) 31 = some (.int .i32 (.ofNat (lowB y))) := by
  unfold bit2
  rw [inK32]
  show vI .i32 (ofB .i32 (lowB y)) = _
  rw [vI_eq]
  show some (AV.int .i32 (cnd (Nat.ble (lowB y) 2147483647) (Int.ofNat (lowB y)) _)) = _
  rw [Nat.ble_eq_true_of_le (Nat.le_trans (lowB_le y) (by decide)), cnd_true]
noncomputable def bsAr : List (Nat × AtO × AtV) := [(0, .w32, .at 2), (1, .w32, .at 3), (2, .w32, .at 2), (3, .w32, .at 3), (2, .cv .i32, .at 4), (4, .cv .i64, .at 2), (3, .cv .i32, .at 5), (5, .cv .i64, .at 3), (6, .cv .i64, .at 7), (7, .cv .i32, .at 6), (2, .bc .sub .i64 11, .at 12), (3, .bc .sub .i64 11, .at 13)]
noncomputable def sgAr (x y v r u s q : Int) : Nat → IntKind × Int := sg [(.i64, x), (.i64, y), (.i64, wr .i32 x), (.i64, wr .i32 y), (.i32, wr .i32 x), (.i32, wr .i32 y), (.i32, v), (.i64, v), (.i32, r), (.u32, u), (.u32, s), (.i64, q), (.i64, wr .i32 x - 11), (.i64, wr .i32 y - 11)]
variable {x y v r u s q : Int}
theorem bsAr_ok (hv : wr .i32 v = v) : AtOk (sgAr x y v r u s q) bsAr :=
  atOk_cons (den_w32 rfl rfl rfl) <| atOk_cons (den_w32 rfl rfl rfl) <| atOk_cons (den_w32 rfl rfl (wr32_idem x)) <| atOk_cons (den_w32 rfl rfl (wr32_idem y)) <| atOk_cons (den_cv rfl rfl (wr32_idem x)) <| atOk_cons (den_cv rfl rfl (wr64_32 x)) <|
    atOk_cons (den_cv rfl rfl (wr32_idem y)) <| atOk_cons (den_cv rfl rfl (wr64_32 y)) <| atOk_cons (den_cv rfl rfl (by have := wr64_32 v; rw [hv] at this; exact this)) <| atOk_cons (den_cv rfl rfl hv) <| atOk_cons (den_sub rfl rfl (wr_sub11 x)) <| atOk_cons (den_sub rfl rfl (wr_sub11 y)) <| atOk_nil
noncomputable def tbAr (o : Nat) (z : Bool) : List (Nat × AtO × AtV) :=
  match o with
  | 0 => (4, .aa .add 5, .at 6) :: bsAr
  | 1 => (4, .aa .sub 5, .at 6) :: bsAr
  | 2 => (4, .aa .mul 5, .at 6) :: bsAr
  | 3 => cnd z ((5, .ec .i32 0, .bool true) :: bsAr) ((5, .ec .i32 0, .bool false) :: (2, .aa .quo 3, .at 11) :: (11, .cv .i32, .at 6) :: bsAr)
  | 4 => cnd z ((5, .ec .i32 0, .bool true) :: bsAr) ((5, .ec .i32 0, .bool false) :: (2, .aa .rem 3, .at 11) :: (11, .cv .i32, .at 6) :: bsAr)
  | 5 => (5, .ng, .at 6) :: bsAr
  | 6 => (4, .aa .and 5, .at 6) :: bsAr
  | 7 => (4, .aa .or 5, .at 6) :: bsAr
  | 8 => (4, .aa .xor 5, .at 6) :: bsAr
  | 9 => (5, .bc .and .i32 31, .at 8) :: (4, .aa .shl 8, .at 6) :: bsAr
  | 10 => (5, .bc .and .i32 31, .at 8) :: (4, .aa .shr 8, .at 6) :: bsAr
  | _ => (5, .bc .and .i32 31, .at 8) :: (4, .cv .u32, .at 9) :: (9, .aa .shr 8, .at 10) :: (10, .cv .i32, .at 6) :: bsAr
theorem i32_wr (n : Int) : wr .i32 (IntKind.i32.wrap n) = IntKind.i32.wrap n := by rw [← wr_eq, wr32_idem]
theorem ieqA0 {b : Int} (h : b ≠ 0) : ieq b 0 = false := by rw [ieq_eq]; exact beq_eq_false_iff_ne.2 h
theorem fdiv_rng {a b : Int} (h : -2147483648 ≤ a ∧ a ≤ 2147483647) (hb : 1 ≤ b) : -2147483648 ≤ Int.fdiv a b ∧ Int.fdiv a b ≤ 2147483647 := by
  rw [Int.fdiv_eq_ediv_of_nonneg a (by omega)]
  constructor
  · have h1 : -2147483648 * b ≤ -2147483648 := by
      have : (2147483648 : Int) * 1 ≤ 2147483648 * b := Int.mul_le_mul_of_nonneg_left hb (by decide)
      rw [Int.neg_mul]; omega
    exact (Int.le_ediv_iff_mul_le (by omega)).2 (by omega)
  · by_cases ha : 0 ≤ a
    · exact Int.le_trans (Int.ediv_le_self b ha) h.2
    · have := Int.ediv_neg_of_neg_of_pos (show a < 0 by omega) (show 0 < b by omega)
      omega
theorem tbAr_ok (x y : Int) (o : Nat) (ho : o < 12) : ∃ z v r u s q, AtOk (sgAr x y v r u s q) (tbAr o z) ∧ (z = true → o = 3 ∨ o = 4) := by
  have nz : ∀ o' : Nat, (false = true → o' = 3 ∨ o' = 4) := fun _ h => by cases h
  match o, ho with
  | 0, _ => exact ⟨false, wr .i32 (iadd (wr .i32 x) (wr .i32 y)), 0, 0, 0, 0, atOk_cons (den_aa rfl rfl rfl rfl (vI_eq .i32 _)) (bsAr_ok (wr32_idem _)), nz _⟩
  | 1, _ => exact ⟨false, wr .i32 (isub (wr .i32 x) (wr .i32 y)), 0, 0, 0, 0, atOk_cons (den_aa rfl rfl rfl rfl (vI_eq .i32 _)) (bsAr_ok (wr32_idem _)), nz _⟩
  | 2, _ => exact ⟨false, wr .i32 (Int.mul (wr .i32 x) (wr .i32 y)), 0, 0, 0, 0, atOk_cons (den_aa rfl rfl rfl rfl (vI_eq .i32 _)) (bsAr_ok (wr32_idem _)), nz _⟩
  | 3, _ =>
    by_cases h : wr .i32 y = 0
    · exact ⟨true, 0, 0, 0, 0, 0, atOk_cons (den_ec (k := .i32) (a := wr .i32 y) rfl (beq_iff_eq.2 h)) (bsAr_ok rfl), fun _ => .inl rfl⟩
    · refine ⟨false, wr .i32 (wr .i64 (Int.tdiv (wr .i32 x) (wr .i32 y))), 0, 0, 0, wr .i64 (Int.tdiv (wr .i32 x) (wr .i32 y)), atOk_cons (den_ec (k := .i32) (a := wr .i32 y) rfl (beq_eq_false_iff_ne.2 h)) <| atOk_cons (den_aa rfl rfl rfl rfl ?_) <| atOk_cons (den_cv rfl rfl rfl) (bsAr_ok (wr32_idem _)), nz _⟩
      show cnd (ieq (wr .i32 y) 0) none (vI .i64 _) = _
      rw [ieqA0 h, cnd_false, vI_eq]
  | 4, _ =>
    by_cases h : wr .i32 y = 0
    · exact ⟨true, 0, 0, 0, 0, 0, atOk_cons (den_ec (k := .i32) (a := wr .i32 y) rfl (beq_iff_eq.2 h)) (bsAr_ok rfl), fun _ => .inr rfl⟩
    · refine ⟨false, wr .i32 (Int.tmod (wr .i32 x) (wr .i32 y)), 0, 0, 0, Int.tmod (wr .i32 x) (wr .i32 y), atOk_cons (den_ec (k := .i32) (a := wr .i32 y) rfl (beq_eq_false_iff_ne.2 h)) <| atOk_cons (den_aa rfl rfl rfl rfl ?_) <| atOk_cons (den_cv rfl rfl rfl) (bsAr_ok (wr32_idem _)), nz _⟩
      show cnd (ieq (wr .i32 y) 0) none (vI .i64 _) = _
      rw [ieqA0 h, cnd_false, vI_eq]
  | 5, _ => exact ⟨false, wr .i32 (ineg (wr .i32 y)), 0, 0, 0, 0, atOk_cons (den_ng rfl rfl rfl) (bsAr_ok (wr32_idem _)), nz _⟩
  | 6, _ => exact ⟨false, _, 0, 0, 0, 0, atOk_cons (den_aa rfl rfl rfl rfl (bit32 Nat.land x y)) (bsAr_ok (ofB32 _ (Nat.lt_of_le_of_lt Nat.and_le_left (toB32 x)))), nz _⟩
  | 7, _ => exact ⟨false, _, 0, 0, 0, 0, atOk_cons (den_aa rfl rfl rfl rfl (bit32 Nat.lor x y)) (bsAr_ok (ofB32 _ (Nat.or_lt_two_pow (n := 32) (toB32 x) (toB32 y)))), nz _⟩
  | 8, _ => exact ⟨false, _, 0, 0, 0, 0, atOk_cons (den_aa rfl rfl rfl rfl (bit32 Nat.xor x y)) (bsAr_ok (ofB32 _ (Nat.xor_lt_two_pow (n := 32) (toB32 x) (toB32 y)))), nz _⟩
  | 9, _ => exact ⟨false, _, .ofNat (lowB y), 0, 0, 0, atOk_cons (den_bc rfl rfl rfl (low32 y)) <| atOk_cons (den_aa rfl rfl rfl rfl (vI_eq .i32 _)) (bsAr_ok (i32_wr _)), nz _⟩
  | 10, _ =>
    have := fdiv_rng (b := .ofNat (Nat.pow 2 (cnd (Nat.ble (lowB y) 32) (lowB y) 32))) (wr32_range x) (by
      have : 0 < Nat.pow 2 (cnd (Nat.ble (lowB y) 32) (lowB y) 32) := Nat.two_pow_pos _
      show (1 : Int) ≤ ((Nat.pow 2 (cnd (Nat.ble (lowB y) 32) (lowB y) 32) : Nat) : Int)
      omega)
    exact ⟨false, _, .ofNat (lowB y), 0, 0, 0, atOk_cons (den_bc rfl rfl rfl (low32 y)) <| atOk_cons (den_aa rfl rfl rfl rfl (vI_eq .i32 _)) (bsAr_ok (wr32_id this.1 this.2)), nz _⟩
  | 11, _ => exact ⟨false, _, .ofNat (lowB y), _, _, 0, atOk_cons (den_bc rfl rfl rfl (low32 y)) <| atOk_cons (den_cv rfl rfl rfl) <| atOk_cons (den_aa rfl rfl rfl rfl (vI_eq .u32 _)) <| atOk_cons (den_cv rfl rfl rfl) (bsAr_ok (wr32_idem _)), nz _⟩

end Go.Ev
