/- What is told of the atoms of 'RunConfigs'. -/
import Derived.Test.YtbehlkbeofoahaaGreatDoorEvRn
namespace Go.Ev

theorem den_leq {σ : Nat → IntKind × Int} {i : Nat} {k : IntKind} {a c : Int} (h : σ i = (k, a)) {t : Bool} (e : decide (a ≤ c) = t) : AtO.den σ i (.bc .leq k c) = some (AtV.av σ (.bool t)) := by
  show cnd (kbeq (σ i).1 k) (bI (ile (σ i).2 c)) none = some (.bool t)
  rw [h, kbeq_refl, cnd_true, bI_eq, ile_eq, ← e]
theorem den_remV {σ : Nat → IntKind × Int} {i : Nat} {k : IntKind} {a c d : Int} (h : σ i = (k, a)) (hc : c ≠ 0) (e : Int.tmod a c = d) : AtO.den σ i (.bc .rem k c) = some (AtV.av σ (.int k d)) := by
  show cnd (kbeq (σ i).1 k) (cnd (ieq c 0) none (vI (σ i).1 (Int.tmod (σ i).2 c))) none = some (.int k d)
  rw [h, kbeq_refl, cnd_true, ieq_eq, beq_eq_false_iff_ne.2 hc, cnd_false, vI_eq, e]
theorem quo4 {w : Int} (h1 : 2048 ≤ w) (h2 : w ≤ 65536) : fQuo (.int .i64 w) (.int .i64 4) = some (.int .i64 (Int.tdiv w 4)) := by
  show cnd (ieq 4 0) none (vI .i64 (wr .i64 (Int.tdiv w 4))) = _
  have h3 : Int.tdiv w 4 = w / 4 := Int.tdiv_eq_ediv_of_nonneg (by omega)
  rw [show ieq 4 0 = false from rfl, cnd_false, vI_eq, h3, wr64_id (by omega) (by omega)]
theorem wru64 (n : Int) : 0 ≤ wr .u64 n := by
  rw [wr_eq]
  simp only [IntKind.wrap, IntKind.bits, IntKind.signed]
  simp
  omega
noncomputable def sgCf (w t m k : Int) : Nat → IntKind × Int := sg [(.i64, w), (.i64, t), (.i64, m), (.u64, wr .u64 m), (.u64, k), (.i64, k), (.i64, Int.tdiv w 4)]
noncomputable def tbCfwl : List (Nat × AtO × AtV) := [(2, .cv .u64, .at 3), (3, .bc .rem .u64 21000, .at 4), (4, .cv .i64, .at 5), (5, .bc .lss .i64 0, .bool false), (5, .bc .gtr .i64 1000000, .bool false), (0, .bc .lss .i64 2048, .bool true), (0, .bc .geq .i64 2048, .bool false)]
theorem tbCfwl_ok {w t m k : Int} (hk : Int.tmod (wr .u64 m) 21000 = k) (hk2 : 0 ≤ k ∧ k < 21000) (h : w < 2048) : AtOk (sgCf w t m k) tbCfwl := by
  exact atOk_cons (den_cv rfl rfl rfl) <|
    atOk_cons (den_rem rfl rfl (by decide) hk) <|
    atOk_cons (den_cv rfl rfl (wr64_id (by omega) (by omega))) <|
    atOk_cons (den_lss rfl (decide_eq_false (by omega))) <|
    atOk_cons (den_gtr rfl (decide_eq_false (by omega))) <|
    atOk_cons (den_lss rfl (decide_eq_true (by omega))) <|
    atOk_cons (den_geq rfl (decide_eq_false (by omega))) <| atOk_nil
noncomputable def tbCfwh : List (Nat × AtO × AtV) := [(2, .cv .u64, .at 3), (3, .bc .rem .u64 21000, .at 4), (4, .cv .i64, .at 5), (5, .bc .lss .i64 0, .bool false), (5, .bc .gtr .i64 1000000, .bool false), (0, .bc .lss .i64 2048, .bool false), (0, .bc .gtr .i64 65536, .bool true), (0, .bc .geq .i64 2048, .bool true), (0, .bc .leq .i64 65536, .bool false)]
theorem tbCfwh_ok {w t m k : Int} (hk : Int.tmod (wr .u64 m) 21000 = k) (hk2 : 0 ≤ k ∧ k < 21000) (h : 65536 < w) : AtOk (sgCf w t m k) tbCfwh := by
  exact atOk_cons (den_cv rfl rfl rfl) <|
    atOk_cons (den_rem rfl rfl (by decide) hk) <|
    atOk_cons (den_cv rfl rfl (wr64_id (by omega) (by omega))) <|
    atOk_cons (den_lss rfl (decide_eq_false (by omega))) <|
    atOk_cons (den_gtr rfl (decide_eq_false (by omega))) <|
    atOk_cons (den_lss rfl (decide_eq_false (by omega))) <|
    atOk_cons (den_gtr rfl (decide_eq_true (by omega))) <|
    atOk_cons (den_geq rfl (decide_eq_true (by omega))) <|
    atOk_cons (den_leq rfl (decide_eq_false (by omega))) <| atOk_nil
noncomputable def tbCftl : List (Nat × AtO × AtV) := [(2, .cv .u64, .at 3), (3, .bc .rem .u64 21000, .at 4), (4, .cv .i64, .at 5), (5, .bc .lss .i64 0, .bool false), (5, .bc .gtr .i64 1000000, .bool false), (0, .bc .lss .i64 2048, .bool false), (0, .bc .gtr .i64 65536, .bool false), (0, .bc .geq .i64 2048, .bool true), (0, .bc .leq .i64 65536, .bool true), (0, .bc .quo .i64 4, .at 6), (1, .bc .lss .i64 2, .bool true), (1, .bc .geq .i64 2, .bool false)]
theorem tbCftl_ok {w t m k : Int} (hk : Int.tmod (wr .u64 m) 21000 = k) (hk2 : 0 ≤ k ∧ k < 21000) (h : (2048 ≤ w ∧ w ≤ 65536) ∧ t < 2) : AtOk (sgCf w t m k) tbCftl := by
  exact atOk_cons (den_cv rfl rfl rfl) <|
    atOk_cons (den_rem rfl rfl (by decide) hk) <|
    atOk_cons (den_cv rfl rfl (wr64_id (by omega) (by omega))) <|
    atOk_cons (den_lss rfl (decide_eq_false (by omega))) <|
    atOk_cons (den_gtr rfl (decide_eq_false (by omega))) <|
    atOk_cons (den_lss rfl (decide_eq_false (by omega))) <|
    atOk_cons (den_gtr rfl (decide_eq_false (by omega))) <|
    atOk_cons (den_geq rfl (decide_eq_true (by omega))) <|
    atOk_cons (den_leq rfl (decide_eq_true (by omega))) <|
    atOk_cons (den_bc rfl rfl rfl (quo4 (by omega) (by omega))) <|
    atOk_cons (den_lss rfl (decide_eq_true (by omega))) <|
    atOk_cons (den_geq rfl (decide_eq_false (by omega))) <| atOk_nil
noncomputable def tbCfth : List (Nat × AtO × AtV) := [(2, .cv .u64, .at 3), (3, .bc .rem .u64 21000, .at 4), (4, .cv .i64, .at 5), (5, .bc .lss .i64 0, .bool false), (5, .bc .gtr .i64 1000000, .bool false), (0, .bc .lss .i64 2048, .bool false), (0, .bc .gtr .i64 65536, .bool false), (0, .bc .geq .i64 2048, .bool true), (0, .bc .leq .i64 65536, .bool true), (0, .bc .quo .i64 4, .at 6), (1, .bc .lss .i64 2, .bool false), (1, .bc .gtr .i64 8, .bool true), (1, .bc .geq .i64 2, .bool true), (1, .bc .leq .i64 8, .bool false)]
theorem tbCfth_ok {w t m k : Int} (hk : Int.tmod (wr .u64 m) 21000 = k) (hk2 : 0 ≤ k ∧ k < 21000) (h : (2048 ≤ w ∧ w ≤ 65536) ∧ 8 < t) : AtOk (sgCf w t m k) tbCfth := by
  exact atOk_cons (den_cv rfl rfl rfl) <|
    atOk_cons (den_rem rfl rfl (by decide) hk) <|
    atOk_cons (den_cv rfl rfl (wr64_id (by omega) (by omega))) <|
    atOk_cons (den_lss rfl (decide_eq_false (by omega))) <|
    atOk_cons (den_gtr rfl (decide_eq_false (by omega))) <|
    atOk_cons (den_lss rfl (decide_eq_false (by omega))) <|
    atOk_cons (den_gtr rfl (decide_eq_false (by omega))) <|
    atOk_cons (den_geq rfl (decide_eq_true (by omega))) <|
    atOk_cons (den_leq rfl (decide_eq_true (by omega))) <|
    atOk_cons (den_bc rfl rfl rfl (quo4 (by omega) (by omega))) <|
    atOk_cons (den_lss rfl (decide_eq_false (by omega))) <|
    atOk_cons (den_gtr rfl (decide_eq_true (by omega))) <|
    atOk_cons (den_geq rfl (decide_eq_true (by omega))) <|
    atOk_cons (den_leq rfl (decide_eq_false (by omega))) <| atOk_nil
noncomputable def tbCfkh : List (Nat × AtO × AtV) := [(2, .cv .u64, .at 3), (3, .bc .rem .u64 21000, .at 4), (4, .cv .i64, .at 5), (5, .bc .lss .i64 0, .bool false), (5, .bc .gtr .i64 1000000, .bool false), (0, .bc .lss .i64 2048, .bool false), (0, .bc .gtr .i64 65536, .bool false), (0, .bc .geq .i64 2048, .bool true), (0, .bc .leq .i64 65536, .bool true), (0, .bc .quo .i64 4, .at 6), (1, .bc .lss .i64 2, .bool false), (1, .bc .gtr .i64 8, .bool false), (1, .bc .geq .i64 2, .bool true), (1, .bc .leq .i64 8, .bool true), (5, .bc .gtr .i64 20000, .bool true), (5, .bc .leq .i64 20000, .bool false)]
theorem tbCfkh_ok {w t m k : Int} (hk : Int.tmod (wr .u64 m) 21000 = k) (hk2 : 0 ≤ k ∧ k < 21000) (h : (2048 ≤ w ∧ w ≤ 65536) ∧ (2 ≤ t ∧ t ≤ 8) ∧ 20000 < k) : AtOk (sgCf w t m k) tbCfkh := by
  exact atOk_cons (den_cv rfl rfl rfl) <|
    atOk_cons (den_rem rfl rfl (by decide) hk) <|
    atOk_cons (den_cv rfl rfl (wr64_id (by omega) (by omega))) <|
    atOk_cons (den_lss rfl (decide_eq_false (by omega))) <|
    atOk_cons (den_gtr rfl (decide_eq_false (by omega))) <|
    atOk_cons (den_lss rfl (decide_eq_false (by omega))) <|
    atOk_cons (den_gtr rfl (decide_eq_false (by omega))) <|
    atOk_cons (den_geq rfl (decide_eq_true (by omega))) <|
    atOk_cons (den_leq rfl (decide_eq_true (by omega))) <|
    atOk_cons (den_bc rfl rfl rfl (quo4 (by omega) (by omega))) <|
    atOk_cons (den_lss rfl (decide_eq_false (by omega))) <|
    atOk_cons (den_gtr rfl (decide_eq_false (by omega))) <|
    atOk_cons (den_geq rfl (decide_eq_true (by omega))) <|
    atOk_cons (den_leq rfl (decide_eq_true (by omega))) <|
    atOk_cons (den_gtr rfl (decide_eq_true (by omega))) <|
    atOk_cons (den_leq rfl (decide_eq_false (by omega))) <| atOk_nil
noncomputable def tbCfz : List (Nat × AtO × AtV) := [(2, .cv .u64, .at 3), (3, .bc .rem .u64 21000, .int .u64 0), (0, .bc .lss .i64 2048, .bool false), (0, .bc .gtr .i64 65536, .bool false), (0, .bc .geq .i64 2048, .bool true), (0, .bc .leq .i64 65536, .bool true), (0, .bc .quo .i64 4, .at 6)]
theorem tbCfz_ok {w t m k : Int} (hk : Int.tmod (wr .u64 m) 21000 = k) (hk2 : 0 ≤ k ∧ k < 21000) (h : (2048 ≤ w ∧ w ≤ 65536) ∧ k = 0) : AtOk (sgCf w t m k) tbCfz := by
  have h0 := h.2
  exact atOk_cons (den_cv rfl rfl rfl) <|
    atOk_cons (den_remV rfl (by decide) (hk.trans h0)) <|
    atOk_cons (den_lss rfl (decide_eq_false (by omega))) <|
    atOk_cons (den_gtr rfl (decide_eq_false (by omega))) <|
    atOk_cons (den_geq rfl (decide_eq_true (by omega))) <|
    atOk_cons (den_leq rfl (decide_eq_true (by omega))) <|
    atOk_cons (den_bc rfl rfl rfl (quo4 (by omega) (by omega))) <| atOk_nil
noncomputable def tbCff : List (Nat × AtO × AtV) := [(2, .cv .u64, .at 3), (3, .bc .rem .u64 21000, .at 4), (4, .cv .i64, .at 5), (5, .bc .lss .i64 0, .bool false), (5, .bc .gtr .i64 1000000, .bool false), (0, .bc .lss .i64 2048, .bool false), (0, .bc .gtr .i64 65536, .bool false), (0, .bc .geq .i64 2048, .bool true), (0, .bc .leq .i64 65536, .bool true), (0, .bc .quo .i64 4, .at 6), (5, .bc .gtr .i64 20000, .bool false), (5, .bc .leq .i64 20000, .bool true), (5, .bc .lss .i64 1, .bool false), (5, .ec .i64 0, .bool false)]
theorem tbCff_ok {w t m k : Int} (hk : Int.tmod (wr .u64 m) 21000 = k) (hk2 : 0 ≤ k ∧ k < 21000) (h : (2048 ≤ w ∧ w ≤ 65536) ∧ 1 ≤ k ∧ k ≤ 20000) : AtOk (sgCf w t m k) tbCff := by
  exact atOk_cons (den_cv rfl rfl rfl) <|
    atOk_cons (den_rem rfl rfl (by decide) hk) <|
    atOk_cons (den_cv rfl rfl (wr64_id (by omega) (by omega))) <|
    atOk_cons (den_lss rfl (decide_eq_false (by omega))) <|
    atOk_cons (den_gtr rfl (decide_eq_false (by omega))) <|
    atOk_cons (den_lss rfl (decide_eq_false (by omega))) <|
    atOk_cons (den_gtr rfl (decide_eq_false (by omega))) <|
    atOk_cons (den_geq rfl (decide_eq_true (by omega))) <|
    atOk_cons (den_leq rfl (decide_eq_true (by omega))) <|
    atOk_cons (den_bc rfl rfl rfl (quo4 (by omega) (by omega))) <|
    atOk_cons (den_gtr rfl (decide_eq_false (by omega))) <|
    atOk_cons (den_leq rfl (decide_eq_true (by omega))) <|
    atOk_cons (den_lss rfl (decide_eq_false (by omega))) <|
    atOk_cons (den_ec rfl (beq_eq_false_iff_ne.2 (by omega))) <| atOk_nil

end Go.Ev
