/- The rows of the seat: the start, and what a run gives. -/
import Derived.Test.YtjpcncllagooeaaDoorEvSeat
import Derived.Test.YtjpcncllagooeaaDoorRows
import Derived.Test.YtjpcncllagooeaaDoorTie
import Derived.ProofKit
import Derived.LaidMore
import Derived.OpenShut
import Derived.Stop.Joined
namespace Go.Ev
set_option maxRecDepth 100000
open Go.Proofs Go.Proofs.YtjpcncllagooeaaDoor Go.ChangeShapes Go.WideShapes Go.ChangeAt Go.WideMaps Go.WideElems Go.RowKit

theorem own : ownKnob Tryd.prog.godebug = none := by kernel_rfl
theorem laidOut : laidOutB Tryd.prog = true := by kernel_rfl
abbrev laid2 : List (String × DataW Unit) := [("unicode.White_Space", Rows.laid_unicode_White_Space), ("strings.asciiSpace", Rows.laid_strings_asciiSpace)]
noncomputable def asciiZ : List Int := (List.range 256).map fun i => if i == 9 || i == 10 || i == 11 || i == 12 || i == 13 || i == 32 then 1 else 0
noncomputable def asciiSp : List AV := asciiZ.map fun n => .int .u8 n
noncomputable def H0 : Hp := ⟨mkPT [Blk.cells true asciiSp], Pos.of 1⟩

theorem laid_ascii : (Rows.laid_strings_asciiSpace : DataW Unit) = .agg (asciiZ.map fun n => .lit (.int .u8 n)) := by kernel_rfl
theorem asciiZ_len : asciiZ.length = 256 := by kernel_rfl
/-- WHAT THE CONDITION GIVES: the table's cells. -/
theorem ascii_cell {W : World} (h : laidMetH Tryd.prog laid2 W) (r : Nat) (hr : r < 256) : W.cell? ⟨0, r, none⟩ = some (.int .u8 (asciiZ.getD r 0)) := by
  rw [MakeChecks.laidMetH_plain _ _ _ (by kernel_rfl)] at h
  obtain ⟨ps, ⟨g0, t0, cs0, f0, p0, q0, hg0, ht0, hv0, hd0, ⟨g, t, cs, fuel, p, q, hg, ht, hv, hd, _, _⟩, _⟩, _, _⟩ := h
  obtain rfl := Option.some.inj ((show Tryd.prog.globalNamed "strings.asciiSpace" = some 0 by kernel_rfl).symm.trans hg)
  obtain rfl := Option.some.inj ((show (Tryd.prog.globals[0]?).map (·.type) = some 130 by kernel_rfl).symm.trans ht)
  rw [laid_ascii] at hd
  obtain ⟨xs, m, _, ex, _, hl, hel⟩ := DataW.trod_array Tryd.underlying130 hd
  have c5 : Tryd.prog.cellsOf 5 = 1 := by kernel_rfl
  have hE := hel r hr
  rw [c5, Nat.mul_one, List.getElem?_eq_getElem (by omega)] at hE
  obtain ⟨z, e1, e2, _⟩ := DataW.trod_int Tryd.underlying5 hE
  have hlen := asciiZ_len
  have e3 : (xs.map (·.1)) = asciiZ.map fun n => .lit (.int .u8 n) := (DataW.agg.inj (Prod.mk.inj ex).1).symm
  have e4 : (xs.map (·.1))[r]? = (asciiZ.map fun n => (DataW.lit (.int .u8 n) : DataW Unit))[r]? := by rw [e3]
  rw [List.getElem?_map, List.getElem?_map, List.getElem?_eq_getElem (by omega : r < xs.length), List.getElem?_eq_getElem (by omega : r < asciiZ.length), e2] at e4
  have hz : z = asciiZ.getD r 0 := by
    simp only [Option.map_some, Option.some.injEq, DataW.lit.injEq, Lit.int.injEq, true_and] at e4
    rw [e4, List.getD, List.getElem?_eq_getElem (by omega : r < asciiZ.length)]; rfl
  rw [World.var?_cell hg hv r, ← hz]
  have : cs.toList[r]? = some (.int .u8 z) := by
    have h0 : ((cs.toList.drop r).take 1)[0]? = some (.int .u8 z) := by rw [e1]; rfl
    simpa using h0
  simpa using this

noncomputable def inj0 : Inj := fun b => if b.nat = 1 then some (0, 0, 256) else none
theorem inj0_inv {b : Pos} {x : Nat × Nat × Nat} (h : inj0 b = some x) : b = Pos.of 0 ∧ x = (0, 0, 256) := by
  unfold inj0 at h
  split at h
  · rename_i e
    cases h
    exact ⟨Pos.nat_inj (by rw [e]; rfl), rfl⟩
  · cases h
theorem H0_get : H0.m.get (Pos.of 0) = some (.cells true asciiSp) := rfl
theorem H0_inv {b : Pos} {x : Blk} (h : H0.m.get b = some x) : b = Pos.of 0 := by
  refine Classical.byContradiction fun hne => ?_
  have e : H0.m = PT.set (Pos.of 0) (Blk.cells true asciiSp) .l := rfl
  rw [e, get_set_ne _ _ _ _ hne] at h
  simp at h

/-- THE START. -/
theorem start {W : World} (h : laidMetH Tryd.prog laid2 W) : Rl env W.heap.size W inj0 H0 W := by
  have hc := ascii_cell h
  have hpos : 0 < W.heap.size := by
    have := hc 0 (by decide)
    unfold World.cell? at this
    rcases Nat.eq_zero_or_pos W.heap.size with h0 | h0
    · have hn : W.heap[0]? = none := Array.getElem?_eq_none (by omega)
      simp [hn] at this
    · exact h0
  refine ⟨fun b r d z x hi hg => ?_, fun b b' r d d' z z' x x' hi hi' _ _ _ _ => ?_, fun b hb => ?_, fun b r d z hi => ?_, fun b r d z x hi hg hro => ?_, Below.refl _ _, Nat.le_refl _, fun g b hg => ?_⟩
  · obtain ⟨rfl, e⟩ := inj0_inv hi
    cases e
    rw [H0_get] at hg; cases hg
    refine ⟨by unfold asciiSp; rw [List.length_map, asciiZ_len]; exact Nat.le_refl _, fun j x hx => ?_, fun h => by cases h⟩
    unfold asciiSp at hx
    rw [List.getElem?_map] at hx
    cases hz : asciiZ[j]? with
    | none => rw [hz] at hx; cases hx
    | some n =>
      rw [hz] at hx; cases hx
      have hj : j < 256 := by rw [← asciiZ_len]; exact (List.getElem?_eq_some_iff.1 hz).1
      refine ⟨_, by rw [Nat.zero_add]; exact hc j hj, ?_⟩
      rw [List.getD, hz]
      exact .int _ _
  · exact (inj0_inv hi).1.trans (inj0_inv hi').1.symm
  · have hb' : 2 ≤ b.nat := hb
    refine ⟨?_, ?_⟩
    · unfold inj0; rw [if_neg (by omega)]
    · cases hx : H0.m.get b with
      | none => rfl
      | some x =>
        have := H0_inv hx
        subst this
        have : (Pos.of 0).nat = 1 := rfl
        omega
  · obtain ⟨_, e⟩ := inj0_inv hi
    cases e; exact hpos
  · obtain ⟨rfl, e⟩ := inj0_inv hi
    rw [H0_get] at hg; cases hg; cases hro
  · cases g with
    | zero => cases hg; exact ⟨256, rfl⟩
    | succ g => cases hg

/-- does a call come to true? -/
noncomputable def avTrue (v : AV) : Bool :=
  match v with
  | .bool b => b
  | _ => false
noncomputable def isTrue (r : CR) : Bool := CR.rec (motive := fun _ => Bool) (fun v _ => avTrue v) (fun _ _ => false) false r
theorem isTrue_inv {r : CR} (h : isTrue r = true) : ∃ H, r = .ret (.bool true) H := by
  cases r with
  | no => cases h
  | pan v H => cases h
  | ret v H =>
    replace h : avTrue v = true := h
    unfold avTrue at h
    split at h
    · subst h; exact ⟨H, rfl⟩
    · cases h

/-- What a run in the kernel says of a call. -/
theorem run_true {f nl n : Nat} {args : List AV} (h : isTrue (evC env nl n f args H0) = true) {W : World} (hW : laidMetH Tryd.prog laid2 W) {cargs : List Value} (ha : LRel inj0 args cargs) :
    Calls Tryd.prog f cargs.toArray W fun e W' => e = .returned (.bool true) ∧ Below W.heap.size W W' := by
  obtain ⟨H', hr⟩ := isTrue_inv h
  have hc := (env_call (base := W.heap.size) (w0 := W) nl n f args H0 _ rfl (by rw [hr]; intro e; cases e) inj0 W cargs (start hW) ha).2
  refine Calls.mono hc fun e W' he => ?_
  rw [hr] at he
  cases e with
  | returned c =>
    obtain ⟨v, H2, ι', e1, e2, e3, _⟩ := he
    cases e1
    cases e2
    exact ⟨rfl, e3.below⟩
  | panicked ch =>
    obtain ⟨v, H2, ι', c, e1, _⟩ := he
    cases e1
  | outgrown => exact he.elim

/-- The door's own heap meets the condition. -/
theorem door_met (os : Os) (args : Array Value) : laidMetH Tryd.prog laid2 ((World.doorLaid Tryd.prog 400 os).forCall (fun _ _ => 0) ⟨#[], args, []⟩).memory :=
  laidMetH_of_parts3 (fuel := 8) (laidMet_of_run' 8 (by kernel_rfl) (by kernel_rfl)) (by kernel_rfl) (by kernel_rfl)
end Go.Ev
