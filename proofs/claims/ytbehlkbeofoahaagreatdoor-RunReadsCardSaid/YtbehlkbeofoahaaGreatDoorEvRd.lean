/- Runs with a slice of ints among the arguments: the start. -/
import Derived.Test.YtbehlkbeofoahaaGreatDoorEvRn
import Derived.ChangeSlices
import Derived.Carry
namespace Go.Ev
set_option maxRecDepth 100000
open Go.Proofs Go.Proofs.YtbehlkbeofoahaaGreatDoor Go.ChangeShapes Go.WideShapes Go.ChangeAt Go.WideMaps Go.WideElems Go.RowKit
theorem ascii_none {W : World} (h : laidMetH Tryz.prog laid2 W) (r : Nat) (hr : 256 ≤ r) : W.cell? ⟨0, r, none⟩ = none := by
  rw [MakeChecks.laidMetH_plain _ _ _ (by kernel_rfl)] at h
  obtain ⟨ps, ⟨g0, t0, cs0, f0, p0, q0, hg0, ht0, hv0, hd0, ⟨g, t, cs, fuel, p, q, hg, ht, hv, hd, _, _⟩, _⟩, _, _⟩ := h
  obtain rfl := Option.some.inj ((show Tryz.prog.globalNamed "strings.asciiSpace" = some 0 by kernel_rfl).symm.trans hg)
  obtain rfl := Option.some.inj ((show (Tryz.prog.globals[0]?).map (·.type) = some 367 by kernel_rfl).symm.trans ht)
  rw [laid_ascii] at hd
  obtain ⟨xs, m, _, ex, hcl, hl, hel⟩ := DataW.trod_array Tryz.underlying367 hd
  rw [show Tryz.prog.cellsOf 367 = 256 by kernel_rfl] at hcl
  rw [World.var?_cell hg hv r]
  exact Array.getElem?_eq_none (by have : cs.size = 256 := by simpa using hcl
                                   omega)
theorem ascii_u8 {W : World} (h : laidMetH Tryz.prog laid2 W) {r : Nat} {v : Value} (hv : W.cell? ⟨0, r, none⟩ = some v) : ∃ z, v = .int .u8 z := by
  rcases Nat.lt_or_ge r 256 with hr | hr
  · rw [ascii_cell h r hr] at hv; cases hv; exact ⟨_, rfl⟩
  · rw [ascii_none h r hr] at hv; cases hv
noncomputable def tbRd : List (Nat × AtO × AtV) := [(0, .w32, .at 8), (1, .w32, .at 9), (2, .w32, .at 10), (3, .w32, .at 11), (4, .w32, .at 12), (5, .w32, .at 13), (6, .w32, .at 14), (7, .w32, .at 15), (8, .cv .i32, .at 16), (9, .cv .i32, .at 17), (10, .cv .i32, .at 18), (11, .cv .i32, .at 19), (12, .cv .i32, .at 20), (13, .cv .i32, .at 21), (14, .cv .i32, .at 22), (15, .cv .i32, .at 23), (16, .cv .i64, .at 8), (17, .cv .i64, .at 9), (18, .cv .i64, .at 10), (19, .cv .i64, .at 11), (20, .cv .i64, .at 12), (21, .cv .i64, .at 13), (22, .cv .i64, .at 14), (23, .cv .i64, .at 15)]
noncomputable def sgRd (x : Nat → Int) : Nat → IntKind × Int := sg [(.i64, x 0), (.i64, x 1), (.i64, x 2), (.i64, x 3), (.i64, x 4), (.i64, x 5), (.i64, x 6), (.i64, x 7), (.i64, wr .i32 (x 0)), (.i64, wr .i32 (x 1)), (.i64, wr .i32 (x 2)), (.i64, wr .i32 (x 3)), (.i64, wr .i32 (x 4)), (.i64, wr .i32 (x 5)), (.i64, wr .i32 (x 6)), (.i64, wr .i32 (x 7)), (.i32, wr .i32 (x 0)), (.i32, wr .i32 (x 1)), (.i32, wr .i32 (x 2)), (.i32, wr .i32 (x 3)), (.i32, wr .i32 (x 4)), (.i32, wr .i32 (x 5)), (.i32, wr .i32 (x 6)), (.i32, wr .i32 (x 7))]
theorem tbRd_ok (x : Nat → Int) : AtOk (sgRd x) tbRd :=
  atOk_cons (den_w32 rfl rfl rfl) <| atOk_cons (den_w32 rfl rfl rfl) <| atOk_cons (den_w32 rfl rfl rfl) <| atOk_cons (den_w32 rfl rfl rfl) <| atOk_cons (den_w32 rfl rfl rfl) <| atOk_cons (den_w32 rfl rfl rfl) <| atOk_cons (den_w32 rfl rfl rfl) <| atOk_cons (den_w32 rfl rfl rfl) <| atOk_cons (den_cv rfl rfl (wr32_idem (x 0))) <| atOk_cons (den_cv rfl rfl (wr32_idem (x 1))) <| atOk_cons (den_cv rfl rfl (wr32_idem (x 2))) <| atOk_cons (den_cv rfl rfl (wr32_idem (x 3))) <| atOk_cons (den_cv rfl rfl (wr32_idem (x 4))) <| atOk_cons (den_cv rfl rfl (wr32_idem (x 5))) <| atOk_cons (den_cv rfl rfl (wr32_idem (x 6))) <| atOk_cons (den_cv rfl rfl (wr32_idem (x 7))) <| atOk_cons (den_cv rfl rfl (wr64_32 (x 0))) <| atOk_cons (den_cv rfl rfl (wr64_32 (x 1))) <| atOk_cons (den_cv rfl rfl (wr64_32 (x 2))) <| atOk_cons (den_cv rfl rfl (wr64_32 (x 3))) <| atOk_cons (den_cv rfl rfl (wr64_32 (x 4))) <| atOk_cons (den_cv rfl rfl (wr64_32 (x 5))) <| atOk_cons (den_cv rfl rfl (wr64_32 (x 6))) <| atOk_cons (den_cv rfl rfl (wr64_32 (x 7))) <| atOk_nil
theorem sgRd_at (x : Nat → Int) {j : Nat} (h : j < 8) : sgRd x j = (.i64, x j) := by
  match j, h with
  | 0, _ => rfl
  | 1, _ => rfl
  | 2, _ => rfl
  | 3, _ => rfl
  | 4, _ => rfl
  | 5, _ => rfl
  | 6, _ => rfl
  | 7, _ => rfl
  | j + 8, h =>
    have h' : j + 8 < 8 := h
    omega
noncomputable def insRd (n : Nat) : List AV := (List.range n).map fun j => .at j tbRd
noncomputable def HR (n : Nat) : Hp := ⟨mkPT [Blk.cells true asciiSp, Blk.cells true (insRd n)], Pos.of 2⟩
noncomputable def injR (x : Nat → Int) (r d z : Nat) : Inj := ⟨fun b => if b.nat = 1 then some (0, 0, 256) else if b.nat = 2 then some (r, d, z) else none, sgRd x⟩
theorem injR_inv {x : Nat → Int} {r d z : Nat} {b : Pos} {q : Nat × Nat × Nat} (h : injR x r d z b = some q) : (b = Pos.of 0 ∧ q = (0, 0, 256)) ∨ b = Pos.of 1 ∧ q = (r, d, z) := by
  replace h : (if b.nat = 1 then some (0, 0, 256) else if b.nat = 2 then some (r, d, z) else none) = some q := h
  split at h
  · rename_i e
    cases h
    exact .inl ⟨Pos.nat_inj (by rw [e]; rfl), rfl⟩
  · split at h
    · rename_i e
      cases h
      exact .inr ⟨Pos.nat_inj (by rw [e]; rfl), rfl⟩
    · cases h
theorem HR_m (n : Nat) : (HR n).m = PT.set (Pos.of 1) (Blk.cells true (insRd n)) (PT.set (Pos.of 0) (Blk.cells true asciiSp) .l) := rfl
theorem HR_inv {n : Nat} {b : Pos} {x : Blk} (h : (HR n).m.get b = some x) : (b = Pos.of 0 ∧ x = .cells true asciiSp) ∨ b = Pos.of 1 ∧ x = .cells true (insRd n) := by
  rw [HR_m] at h
  by_cases h1 : b = Pos.of 1
  · subst h1
    rw [get_set_same] at h; cases h
    exact .inr ⟨rfl, rfl⟩
  · rw [get_set_ne _ _ _ _ h1] at h
    by_cases h0 : b = Pos.of 0
    · subst h0
      rw [get_set_same] at h; cases h
      exact .inl ⟨rfl, rfl⟩
    · rw [get_set_ne _ _ _ _ h0] at h
      simp at h
theorem startR {E : Env} (hgl : E.gl = env.gl) {W : World} (hL : laidMetH Tryz.prog laid2 W) {x : Nat → Int} {r d z n : Nat} (hr : r < W.heap.size) (hne : r ≠ 0) (hn : n ≤ z) (hn8 : n ≤ 8)
    (hc : ∀ j, j < n → W.cell? ⟨r, d + j, none⟩ = some (.int .i64 (x j))) : Rl E W.heap.size W (injR x r d z) (HR n) W := by
  have hA : AsciiOk W := ascii_cell hL
  have hpos := hA.pos
  have h01 : Pos.of 0 ≠ Pos.of 1 := fun e => by cases e
  refine ⟨fun b r' d' z' y hi hg => ?_, fun b b' r' d' d'' z' z'' y y' hi hi' _ _ _ _ => ?_, fun b hb => ?_, fun b r' d' z' hi => ?_, fun b r' d' z' y hi hg hro => ?_, Below.refl _ _, Nat.le_refl _, fun g b hg => ?_⟩
  · rcases injR_inv hi with ⟨rfl, e⟩ | ⟨rfl, e⟩
    · cases e
      rcases HR_inv hg with ⟨_, rfl⟩ | ⟨e, _⟩
      · refine ⟨by unfold asciiSp; rw [List.length_map, asciiZ_len]; exact Nat.le_refl _, fun j y hx => ?_, fun h => by cases h⟩
        unfold asciiSp at hx
        rw [List.getElem?_map] at hx
        cases hz : asciiZ[j]? with
        | none => rw [hz] at hx; cases hx
        | some q =>
          rw [hz] at hx; cases hx
          have hj : j < 256 := by rw [← asciiZ_len]; exact (List.getElem?_eq_some_iff.1 hz).1
          refine ⟨_, by rw [Nat.zero_add]; exact hA j hj, ?_⟩
          rw [List.getD, hz]
          exact .int _ _
      · exact absurd e h01
    · cases e
      rcases HR_inv hg with ⟨e, _⟩ | ⟨_, rfl⟩
      · exact absurd e.symm h01
      · refine ⟨by unfold insRd; simpa using hn, fun j y hx => ?_, fun h => by cases h⟩
        unfold insRd at hx
        rw [List.getElem?_map] at hx
        cases hz : (List.range n)[j]? with
        | none => rw [hz] at hx; cases hx
        | some q =>
          rw [hz] at hx; cases hx
          have hj : j < n := by simpa using (List.getElem?_eq_some_iff.1 hz).1
          obtain rfl : q = j := by simpa using (List.getElem?_eq_some_iff.1 hz).2.symm
          exact ⟨_, hc q hj, .at q tbRd .i64 (x q) (tbRd_ok x) (sgRd_at x (by omega))⟩
  · rcases injR_inv hi with ⟨rfl, e⟩ | ⟨rfl, e⟩ <;> rcases injR_inv hi' with ⟨rfl, e'⟩ | ⟨rfl, e'⟩
    · rfl
    · cases e; cases e'; exact absurd rfl hne
    · cases e; cases e'; exact absurd rfl hne
    · rfl
  · have hb' : 3 ≤ b.nat := hb
    refine ⟨?_, ?_⟩
    · show (if b.nat = 1 then some (0, 0, 256) else if b.nat = 2 then some (r, d, z) else none) = none
      rw [if_neg (by omega), if_neg (by omega)]
    · cases hx : (HR n).m.get b with
      | none => rfl
      | some y =>
        rcases HR_inv hx with ⟨e, _⟩ | ⟨e, _⟩
        · subst e
          have : (Pos.of 0).nat = 1 := rfl
          omega
        · subst e
          have : (Pos.of 1).nat = 2 := rfl
          omega
  · rcases injR_inv hi with ⟨_, e⟩ | ⟨_, e⟩
    · cases e; exact hpos
    · cases e; exact hr
  · rcases HR_inv hg with ⟨_, rfl⟩ | ⟨_, rfl⟩ <;> cases hro
  · rw [hgl] at hg
    replace hg : cnd (Nat.beq g 0) (some (Pos.of 0)) none = some b := hg
    rw [cnd_eq] at hg
    split at hg
    · rename_i e
      obtain rfl := Nat.eq_of_beq_eq_true e
      cases hg
      exact ⟨256, rfl⟩
    · cases hg
theorem runH_true {f nl n : Nat} {args : List AV} {H : Hp} (h : isTrue (evC envR nl n f args H) = true) {W : World} (hL : laidMetH Tryz.prog laid2 W) {ι : Inj} (hR : Rl envR W.heap.size W ι H W) {cargs : List Value} (ha : LRel ι args cargs) :
    Calls Tryz.prog f cargs.toArray W fun e W' => e = .returned (.bool true) ∧ Below W.heap.size W W' := by
  obtain ⟨H', hr⟩ := isTrue_inv h
  obtain ⟨_, hc⟩ := envR_call (ascii_cell hL) nl n f args H _ rfl (by rw [hr]; intro e; cases e) ι W cargs hR ha
  refine Calls.mono hc fun e W' he => ?_
  rw [hr] at he
  cases e with
  | returned c =>
    obtain ⟨v, H2, ι', e1, e2, e3, _⟩ := he
    cases e1
    cases e2
    exact ⟨rfl, e3.below⟩
  | panicked ch =>
    obtain ⟨v, H2, ι', c, e1, _⟩ := he
    cases e1
  | outgrown => exact he.elim
end Go.Ev
