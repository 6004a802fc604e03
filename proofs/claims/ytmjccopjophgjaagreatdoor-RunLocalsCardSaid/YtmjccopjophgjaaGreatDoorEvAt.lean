/- Atoms: what is told of them, entry by entry; numbers of 32 bits. -/
import Derived.Test.YtmjccopjophgjaaGreatDoorEvSy
namespace Go.Ev

theorem wr32_range (n : Int) : -2147483648 ≤ wr .i32 n ∧ wr .i32 n ≤ 2147483647 := by
  rw [wr_eq]
  simp only [IntKind.wrap, IntKind.bits, IntKind.signed]
  simp
  omega
theorem wr32_id {n : Int} (h1 : -2147483648 ≤ n) (h2 : n ≤ 2147483647) : wr .i32 n = n := by
  rw [wr_eq]
  simp only [IntKind.wrap, IntKind.bits, IntKind.signed]
  simp
  omega
theorem wr64_id {n : Int} (h1 : -9223372036854775808 ≤ n) (h2 : n ≤ 9223372036854775807) : wr .i64 n = n := by
  rw [wr_eq]
  simp only [IntKind.wrap, IntKind.bits, IntKind.signed]
  simp
  omega
theorem tmod32 (n : Int) : (0 ≤ n → Int.tmod n 4294967296 = n % 4294967296) ∧ (n < 0 → Int.tmod n 4294967296 = -((-n) % 4294967296)) := by
  refine ⟨fun h => Int.tmod_eq_emod_of_nonneg h, fun h => ?_⟩
  rw [show n = -(-n) by omega, Int.neg_tmod, Int.tmod_eq_emod_of_nonneg (by omega)]
  simp
/-- the 32 bits of a number, by the remainder -/
theorem wr32_tmod (n : Int) : wr .i32 n = (if Int.tmod n 4294967296 > 2147483647 then Int.tmod n 4294967296 - 4294967296 else if Int.tmod n 4294967296 < -2147483648 then Int.tmod n 4294967296 + 4294967296 else Int.tmod n 4294967296) ∧
    -4294967296 < Int.tmod n 4294967296 ∧ Int.tmod n 4294967296 < 4294967296 := by
  obtain ⟨h1, h2⟩ := tmod32 n
  rw [wr_eq]
  simp only [IntKind.wrap, IntKind.bits, IntKind.signed]
  simp
  by_cases h : 0 ≤ n
  · rw [h1 h]; split <;> omega
  · rw [h2 (by omega)]; split <;> omega

theorem wr32_idem (n : Int) : wr .i32 (wr .i32 n) = wr .i32 n := wr32_id (wr32_range n).1 (wr32_range n).2
theorem wr64_32 (n : Int) : wr .i64 (wr .i32 n) = wr .i32 n := by
  have := wr32_range n
  exact wr64_id (by omega) (by omega)

/-- entry by entry -/
theorem atOk_nil {σ : Nat → IntKind × Int} : AtOk σ [] := fun _ _ _ h => by cases h
theorem atOk_cons {σ : Nat → IntKind × Int} {i : Nat} {o : AtO} {v : AtV} {tb : List (Nat × AtO × AtV)} (h : AtO.den σ i o = some (AtV.av σ v)) (t : AtOk σ tb) : AtOk σ ((i, o, v) :: tb) := fun i' o' v' h' => by
  cases h' with
  | head => exact h
  | tail _ h' => exact t i' o' v' h'
/-- the numbers of atoms -/
def sg (l : List (IntKind × Int)) (i : Nat) : IntKind × Int := (l[i]?).getD (.i64, 0)
variable {σ : Nat → IntKind × Int} {i j : Nat} {k : IntKind} {a b c : Int}
theorem den_cv {l : IntKind} (h : σ i = (k, a)) (hj : σ j = (l, c)) (e : wr l a = c) : AtO.den σ i (.cv l) = some (AtV.av σ (.at j)) := by
  show some (AV.int l (wr l (σ i).2)) = some (.int (σ j).1 (σ j).2)
  rw [h, hj, ← e]
theorem den_w32 (h : σ i = (.i64, a)) (hj : σ j = (.i64, c)) (e : wr .i32 a = c) : AtO.den σ i .w32 = some (AtV.av σ (.at j)) := by
  show (match (σ i).1 with | .i64 => some (AV.int .i64 (wr .i32 (σ i).2)) | _ => none) = some (.int (σ j).1 (σ j).2)
  rw [h, hj, ← e]
theorem kbeq_refl (k : IntKind) : kbeq k k = true := Nat.beq_refl _
/-- a comparison with a known number -/
theorem den_lss (h : σ i = (k, a)) {t : Bool} (e : decide (a < c) = t) : AtO.den σ i (.bc .lss k c) = some (AtV.av σ (.bool t)) := by
  show cnd (kbeq (σ i).1 k) (bI (inot (ile c (σ i).2))) none = some (.bool t)
  rw [h, kbeq_refl, cnd_true, bI_eq, inot_eq, ile_eq, ← e]
  rw [show (!decide (c ≤ a)) = decide (a < c) by rw [Bool.eq_iff_iff]; simp]
theorem den_gtr (h : σ i = (k, a)) {t : Bool} (e : decide (a > c) = t) : AtO.den σ i (.bc .gtr k c) = some (AtV.av σ (.bool t)) := by
  show cnd (kbeq (σ i).1 k) (bI (inot (ile (σ i).2 c))) none = some (.bool t)
  rw [h, kbeq_refl, cnd_true, bI_eq, inot_eq, ile_eq, ← e]
  rw [show (!decide (a ≤ c)) = decide (a > c) by rw [Bool.eq_iff_iff]; simp]
theorem den_lssA (h : σ i = (k, a)) (hj : σ j = (k, c)) {t : Bool} (e : decide (a < c) = t) : AtO.den σ i (.aa .lss j) = some (AtV.av σ (.bool t)) := by
  show cnd (kbeq (σ i).1 (σ j).1) (bI (inot (ile (σ j).2 (σ i).2))) none = some (.bool t)
  rw [h, hj, kbeq_refl, cnd_true, bI_eq, inot_eq, ile_eq, ← e]
  rw [show (!decide (c ≤ a)) = decide (a < c) by rw [Bool.eq_iff_iff]; simp]
theorem den_ec (h : σ i = (k, a)) {t : Bool} (e : (a == c) = t) : AtO.den σ i (.ec k c) = some (AtV.av σ (.bool t)) := by
  show (opt (cnd (kbeq (σ i).1 k) (some (ieq (σ i).2 c)) none) none fun b => some (AV.bool b)) = some (.bool t)
  rw [h, kbeq_refl, cnd_true, ieq_eq, ← e]
  rfl
theorem den_rem {d : Int} (h : σ i = (k, a)) (hj : σ j = (k, d)) (hc : c ≠ 0) (e : Int.tmod a c = d) : AtO.den σ i (.bc .rem k c) = some (AtV.av σ (.at j)) := by
  show cnd (kbeq (σ i).1 k) (cnd (ieq c 0) none (vI (σ i).1 (Int.tmod (σ i).2 c))) none = some (.int (σ j).1 (σ j).2)
  rw [h, hj, kbeq_refl, cnd_true, ieq_eq, beq_eq_false_iff_ne.2 hc, cnd_false, vI_eq, e]
theorem den_sub {d : Int} (h : σ i = (k, a)) (hj : σ j = (k, d)) (e : wr k (a - c) = d) : AtO.den σ i (.bc .sub k c) = some (AtV.av σ (.at j)) := by
  show cnd (kbeq (σ i).1 k) (vI (σ i).1 (wr (σ i).1 (isub (σ i).2 c))) none = some (.int (σ j).1 (σ j).2)
  rw [h, hj, kbeq_refl, cnd_true, isub_eq, vI_eq, e]
theorem den_add {d : Int} (h : σ i = (k, a)) (hj : σ j = (k, d)) (e : wr k (a + c) = d) : AtO.den σ i (.bc .add k c) = some (AtV.av σ (.at j)) := by
  show cnd (kbeq (σ i).1 k) (vI (σ i).1 (wr (σ i).1 (iadd (σ i).2 c))) none = some (.int (σ j).1 (σ j).2)
  rw [h, hj, kbeq_refl, cnd_true, iadd_eq, vI_eq, e]
/-- two atoms, by what the operation comes to -/
theorem den_aa {op : BinOp} {f : AV → AV → Option AV} {t : Nat} {l m : IntKind} {d : Int} (hf : avBin op = some f) (h : σ i = (k, a)) (hj : σ j = (l, c)) (ht : σ t = (m, d)) (e : f (.int k a) (.int l c) = some (.int m d)) :
    AtO.den σ i (.aa op j) = some (AtV.av σ (.at t)) := by
  show (opt (avBin op) none fun f => f (.int (σ i).1 (σ i).2) (.int (σ j).1 (σ j).2)) = some (.int (σ t).1 (σ t).2)
  rw [hf, h, hj, ht, ← e]
  rfl
theorem den_bc {op : BinOp} {f : AV → AV → Option AV} {t : Nat} {l m : IntKind} {d : Int} (hf : avBin op = some f) (h : σ i = (k, a)) (ht : σ t = (m, d)) (e : f (.int k a) (.int l c) = some (.int m d)) :
    AtO.den σ i (.bc op l c) = some (AtV.av σ (.at t)) := by
  show (opt (avBin op) none fun f => f (.int (σ i).1 (σ i).2) (.int l c)) = some (.int (σ t).1 (σ t).2)
  rw [hf, h, ht, ← e]
  rfl
theorem den_cb {op : BinOp} {f : AV → AV → Option AV} {t : Nat} {l m : IntKind} {d : Int} (hf : avBin op = some f) (h : σ i = (k, a)) (ht : σ t = (m, d)) (e : f (.int l c) (.int k a) = some (.int m d)) :
    AtO.den σ i (.cb op l c) = some (AtV.av σ (.at t)) := by
  show (opt (avBin op) none fun f => f (.int l c) (.int (σ i).1 (σ i).2)) = some (.int (σ t).1 (σ t).2)
  rw [hf, h, ht, ← e]
  rfl
theorem den_geq (h : σ i = (k, a)) {t : Bool} (e : decide (a ≥ c) = t) : AtO.den σ i (.bc .geq k c) = some (AtV.av σ (.bool t)) := by
  show cnd (kbeq (σ i).1 k) (bI (ile c (σ i).2)) none = some (.bool t)
  rw [h, kbeq_refl, cnd_true, bI_eq, ile_eq, ← e]
theorem den_ea (h : σ i = (k, a)) (hj : σ j = (k, c)) {t : Bool} (e : (a == c) = t) : AtO.den σ i (.ea j) = some (AtV.av σ (.bool t)) := by
  show (opt (cnd (kbeq (σ i).1 (σ j).1) (some (ieq (σ i).2 (σ j).2)) none) none fun b => some (AV.bool b)) = some (.bool t)
  rw [h, hj, kbeq_refl, cnd_true, ieq_eq, ← e]
  rfl
theorem den_ng {d : Int} (h : σ i = (k, a)) (hj : σ j = (k, d)) (e : wr k (ineg a) = d) : AtO.den σ i .ng = some (AtV.av σ (.at j)) := by
  show vI (σ i).1 (wr (σ i).1 (ineg (σ i).2)) = some (.int (σ j).1 (σ j).2)
  rw [h, hj, vI_eq, e]
/-! ### a number's bytes, seven bits each -/
theorem wru8_range (n : Int) : 0 ≤ wr .u8 n ∧ wr .u8 n ≤ 255 := by
  rw [wr_eq]
  simp only [IntKind.wrap, IntKind.bits, IntKind.signed]
  simp
  omega
theorem wru8_idem (n : Int) : wr .u8 (wr .u8 n) = wr .u8 n := by
  obtain ⟨h1, h2⟩ := wru8_range n
  generalize wr .u8 n = a at *
  rw [wr_eq]
  simp only [IntKind.wrap, IntKind.bits, IntKind.signed]
  simp
  omega
theorem inKu8 (n : Int) : inK .u8 (wr .u8 n) = true := by
  obtain ⟨h1, h2⟩ := wru8_range n
  generalize wr .u8 n = a at *
  cases a with
  | ofNat m => exact Nat.ble_eq_true_of_le (by have : (m : Int) ≤ 255 := h2; show m ≤ 255; omega)
  | negSucc m => omega
theorem or128 (n : Int) : bit2 Nat.lor .u8 (wr .u8 n) 128 = some (.int .u8 (ofB .u8 (Nat.lor (toB .u8 (wr .u8 n)) 128))) := by
  unfold bit2
  rw [inKu8]
  show vI _ _ = _
  rw [vI_eq]
  rfl
theorem or128_idem (n : Int) : wr .u8 (ofB .u8 (Nat.lor (toB .u8 (wr .u8 n)) 128)) = ofB .u8 (Nat.lor (toB .u8 (wr .u8 n)) 128) := by
  have h : Nat.lor (toB .u8 (wr .u8 n)) 128 < 2 ^ IntKind.u8.bits := Nat.or_lt_two_pow (n := 8) (toB_lt .u8 _ (inKu8 n)) (by decide)
  rw [← ofB_eq .u8 _ h, ← wr_eq, wru8_idem]
theorem wru64_range (n : Int) : 0 ≤ wr .u64 n := by
  rw [wr_eq]
  simp only [IntKind.wrap, IntKind.bits, IntKind.signed]
  simp
  omega
/-- the word of a function that gives a number's 32 bits -/
noncomputable def valueS (args : List AV) (H : Hp) : Option (AV × Hp) :=
  match args with
  | [.at i tb] => opt (atL i .w32 tb) none fun v => some (v, H)
  | _ => none
end Go.Ev
