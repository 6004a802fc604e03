/- The rows of the seat: the start, and what a run gives. -/
import Derived.Test.YtjpcncllagooeaaDoorEvSeat
import Derived.Test.YtjpcncllagooeaaDoorRows
import Derived.Test.YtjpcncllagooeaaDoorTie
import Derived.ProofKit
import Derived.LaidMore
import Derived.OpenShut
import Derived.Stop.Joined
namespace Go.Ev
set_option maxRecDepth 100000
open Go.Proofs Go.Proofs.YtjpcncllagooeaaDoor Go.ChangeShapes Go.WideShapes Go.ChangeAt Go.WideMaps Go.WideElems Go.RowKit

theorem own : ownKnob Tryd.prog.godebug = none := by kernel_rfl
theorem laidOut : laidOutB Tryd.prog = true := by kernel_rfl
abbrev laid2 : List (String × DataW Unit) := [("unicode.White_Space", Rows.laid_unicode_White_Space), ("strings.asciiSpace", Rows.laid_strings_asciiSpace)]
noncomputable def asciiZ : List Int := (List.range 256).map fun i => if i == 9 || i == 10 || i == 11 || i == 12 || i == 13 || i == 32 then 1 else 0
noncomputable def asciiSp : List AV := asciiZ.map fun n => .int .u8 n
noncomputable def H0 : Hp := ⟨mkPT [Blk.cells true asciiSp], Pos.of 1⟩

theorem laid_ascii : (Rows.laid_strings_asciiSpace : DataW Unit) = .agg (asciiZ.map fun n => .lit (.int .u8 n)) := by kernel_rfl
theorem asciiZ_len : asciiZ.length = 256 := by kernel_rfl
/-- WHAT THE CONDITION GIVES: the table's cells. -/
theorem ascii_cell {W : World} (h : laidMetH Tryd.prog laid2 W) (r : Nat) (hr : r < 256) : W.cell? ⟨0, r, none⟩ = some (.int .u8 (asciiZ.getD r 0)) := by
  rw [MakeChecks.laidMetH_plain _ _ _ (by kernel_rfl)] at h
  obtain ⟨ps, ⟨g0, t0, cs0, f0, p0, q0, hg0, ht0, hv0, hd0, ⟨g, t, cs, fuel, p, q, hg, ht, hv, hd, _, _⟩, _⟩, _, _⟩ := h
  obtain rfl := Option.some.inj ((show Tryd.prog.globalNamed "strings.asciiSpace" = some 0 by kernel_rfl).symm.trans hg)
  obtain rfl := Option.some.inj ((show (Tryd.prog.globals[0]?).map (·.type) = some 130 by kernel_rfl).symm.trans ht)
  rw [laid_ascii] at hd
  obtain ⟨xs, m, _, ex, _, hl, hel⟩ := DataW.trod_array Tryd.underlying130 hd
  have c5 : Tryd.prog.cellsOf 5 = 1 := by kernel_rfl
  have hE := hel r hr
  rw [c5, Nat.mul_one, List.getElem?_eq_getElem (by omega)] at hE
  obtain ⟨z, e1, e2, _⟩ := DataW.trod_int Tryd.underlying5 hE
  have hlen := asciiZ_len
  have e3 : (xs.map (·.1)) = asciiZ.map fun n => .lit (.int .u8 n) := (DataW.agg.inj (Prod.mk.inj ex).1).symm
  have e4 : (xs.map (·.1))[r]? = (asciiZ.map fun n => (DataW.lit (.int .u8 n) : DataW Unit))[r]? := by rw [e3]
  rw [List.getElem?_map, List.getElem?_map, List.getElem?_eq_getElem (by omega : r < xs.length), List.getElem?_eq_getElem (by omega : r < asciiZ.length), e2] at e4
  have hz : z = asciiZ.getD r 0 := by
    simp only [Option.map_some, Option.some.injEq, DataW.lit.injEq, Lit.int.injEq, true_and] at e4
    rw [e4, List.getD, List.getElem?_eq_getElem (by omega : r < asciiZ.length)]; rfl
  rw [World.var?_cell hg hv r, ← hz]
  have : cs.toList[r]? = some (.int .u8 z) := by
    have h0 : ((cs.toList.drop r).take 1)[0]? = some (.int .u8 z) := by rw [e1]; rfl
    simpa using h0
  simpa using this

noncomputable def inj0 : Inj := fun b => if b.nat = 1 then some (0, 0, 256) else none
theorem inj0_inv {b : Pos} {x : Nat × Nat × Nat} (h : inj0 b = some x) : b = Pos.of 0 ∧ x = (0, 0, 256) := by
  unfold inj0 at h
  split at h
  · rename_i e
    cases h
    exact ⟨Pos.nat_inj (by rw [e]; rfl), rfl⟩
  · cases h
theorem H0_get : H0.m.get (Pos.of 0) = some (.cells true asciiSp) := rfl
theorem H0_inv {b : Pos} {x : Blk} (h : H0.m.get b = some x) : b = Pos.of 0 := by
  refine Classical.byContradiction fun hne => ?_
  have e : H0.m = PT.set (Pos.of 0) (Blk.cells true asciiSp) .l := rfl
  rw [e, get_set_ne _ _ _ _ hne] at h
  simp at h

/-- THE START. -/
def AsciiOk (W : World) : Prop := ∀ r, r < 256 → W.cell? ⟨0, r, none⟩ = some (.int .u8 (asciiZ.getD r 0))
theorem AsciiOk.pos {W : World} (hc : AsciiOk W) : 0 < W.heap.size := by
  have := hc 0 (by decide)
  unfold World.cell? at this
  rcases Nat.eq_zero_or_pos W.heap.size with h0 | h0
  · have hn : W.heap[0]? = none := Array.getElem?_eq_none (by omega)
    simp [hn] at this
  · exact h0
theorem start {E : Env} (hgl : E.gl = env.gl) {W : World} (hc : AsciiOk W) : Rl E W.heap.size W inj0 H0 W := by
  have hpos := hc.pos
  refine ⟨fun b r d z x hi hg => ?_, fun b b' r d d' z z' x x' hi hi' _ _ _ _ => ?_, fun b hb => ?_, fun b r d z hi => ?_, fun b r d z x hi hg hro => ?_, Below.refl _ _, Nat.le_refl _, fun g b hg => ?_⟩
  · obtain ⟨rfl, e⟩ := inj0_inv hi
    cases e
    rw [H0_get] at hg; cases hg
    refine ⟨by unfold asciiSp; rw [List.length_map, asciiZ_len]; exact Nat.le_refl _, fun j x hx => ?_, fun h => by cases h⟩
    unfold asciiSp at hx
    rw [List.getElem?_map] at hx
    cases hz : asciiZ[j]? with
    | none => rw [hz] at hx; cases hx
    | some n =>
      rw [hz] at hx; cases hx
      have hj : j < 256 := by rw [← asciiZ_len]; exact (List.getElem?_eq_some_iff.1 hz).1
      refine ⟨_, by rw [Nat.zero_add]; exact hc j hj, ?_⟩
      rw [List.getD, hz]
      exact .int _ _
  · exact (inj0_inv hi).1.trans (inj0_inv hi').1.symm
  · have hb' : 2 ≤ b.nat := hb
    refine ⟨?_, ?_⟩
    · unfold inj0; rw [if_neg (by omega)]
    · cases hx : H0.m.get b with
      | none => rfl
      | some x =>
        have := H0_inv hx
        subst this
        have : (Pos.of 0).nat = 1 := rfl
        omega
  · obtain ⟨_, e⟩ := inj0_inv hi
    cases e; exact hpos
  · obtain ⟨rfl, e⟩ := inj0_inv hi
    rw [H0_get] at hg; cases hg; cases hro
  · rw [hgl] at hg
    cases g with
    | zero => cases hg; exact ⟨256, rfl⟩
    | succ g => cases hg

/-- does a call come to true? -/
noncomputable def avTrue (v : AV) : Bool :=
  match v with
  | .bool b => b
  | _ => false
noncomputable def isTrue (r : CR) : Bool := CR.rec (motive := fun _ => Bool) (fun v _ => avTrue v) (fun _ _ => false) false r
theorem isTrue_inv {r : CR} (h : isTrue r = true) : ∃ H, r = .ret (.bool true) H := by
  cases r with
  | no => cases h
  | pan v H => cases h
  | ret v H =>
    replace h : avTrue v = true := h
    unfold avTrue at h
    split at h
    · subst h; exact ⟨H, rfl⟩
    · cases h

/-- What a run in the kernel says of a call. -/
theorem run_of {E : Env} (hgl : E.gl = env.gl) {f nl n : Nat} {args : List AV} (h : isTrue (evC E nl n f args H0) = true) {W : World} (hE : CallOk Tryd.prog E W.heap.size W (evC E nl n)) (hW : AsciiOk W) {cargs : List Value} (ha : LRel inj0 args cargs) :
    Entered Tryd.prog f ∧ Calls Tryd.prog f cargs.toArray W fun e W' => e = .returned (.bool true) ∧ Below W.heap.size W W' := by
  obtain ⟨H', hr⟩ := isTrue_inv h
  obtain ⟨h1, hc⟩ := hE f args H0 _ rfl (by rw [hr]; intro e; cases e) inj0 W cargs (start hgl hW) ha
  refine ⟨h1, Calls.mono hc fun e W' he => ?_⟩
  rw [hr] at he
  cases e with
  | returned c =>
    obtain ⟨v, H2, ι', e1, e2, e3, _⟩ := he
    cases e1
    cases e2
    exact ⟨rfl, e3.below⟩
  | panicked ch =>
    obtain ⟨v, H2, ι', c, e1, _⟩ := he
    cases e1
  | outgrown => exact he.elim

/-! ### 'awake', once: the words in the place of its text -/
noncomputable def awakeS (args : List AV) (H : Hp) : Option (AV × Hp) :=
  match args with
  | [] => some (.bool true, H)
  | _ => none
noncomputable def fnL2 : List FE := fnL.zipIdx.map fun p => cnd (Nat.beq p.2 16) (FE.sm awakeS) (FE.fn p.1)
noncomputable def env1 : Env := ⟨env.ty, mkPT fnL2, env.gl⟩
theorem fnL2_get {f : Nat} {y : FE} (h : fnL2[f]? = some y) : (f = 16 ∧ y = .sm awakeS) ∨ ∃ x, fnL[f]? = some x ∧ y = .fn x := by
  unfold fnL2 at h
  rw [List.getElem?_map, List.getElem?_zipIdx] at h
  cases hx : fnL[f]? with
  | none => rw [hx] at h; cases h
  | some x =>
    rw [hx] at h
    have e : cnd (Nat.beq (0 + f) 16) (FE.sm awakeS) (FE.fn x) = y := Option.some.inj h
    rw [cnd_eq, Nat.zero_add] at e
    split at e
    · rename_i hb
      exact .inl ⟨Nat.eq_of_beq_eq_true hb, e.symm⟩
    · exact .inr ⟨x, rfl, e.symm⟩
theorem env1_fn {f : Nat} {x : Func} (h : fnOf env1 f = some x) : fnL[f]? = some x := by
  unfold fnOf at h
  obtain ⟨y, h1, h2⟩ := opt_eq_some h
  rcases fnL2_get (mkPT_some (l := fnL2) h1) with ⟨_, e⟩ | ⟨z, e1, e2⟩
  · subst e; cases h2
  · subst e2; cases h2; exact e1
theorem env1_ok : EnvOk Tryd.prog env1 where
  ty := env_ok.ty
  fn f x h := by
    have h3 := env1_fn h
    refine ⟨by rw [env_funcs]; simpa using h3, ?_⟩
    have := List.all_eq_true.1 env_names x (List.mem_of_getElem? h3)
    simpa using this
theorem env1_code : CodesOk env1 := fun _ fn _ h hb => fnB_ok (allB_eq env_codes fn (List.mem_of_getElem? (env1_fn h))) hb

/-- Nothing that was there has turned. -/
theorem Rl.of_below {E : Env} {base : Nat} {w0 w w' : World} {ι : Inj} {H : Hp} (h : Rl E base w0 ι H w) (hb : Below w.heap.size w w') : Rl E base w0 ι H w' where
  blk b r d z x e g := (h.blk b r d z x e g).same (hb.block r (h.size b r d z e))
  inj := h.inj
  fresh := h.fresh
  size b r d z e := Nat.lt_of_lt_of_le (h.size b r d z e) hb.size
  own := h.own
  below := h.below.trans (hb.mono h.base_le)
  base_le := Nat.le_trans h.base_le hb.size
  glob := h.glob

theorem awake_run : isTrue (evC env 100000 1000 16 [] H0) = true := by kernel_rfl
theorem env1_sums {W : World} (hW : AsciiOk W) : SumsOk Tryd.prog env1 W.heap.size W := by
  intro f g hg f' args H r he hr ι w cargs hR ha
  rcases fnL2_get (mkPT_some (l := fnL2) hg) with ⟨e1, e2⟩ | ⟨x, _, e2⟩
  case inr => cases e2
  subst e1
  cases e2
  have hf : f' = 16 := Classical.byContradiction fun hne => by
    replace he : (if f' = 16 then sumK (awakeS args H) else CR.no) = r := he
    rw [if_neg hne] at he
    exact hr he.symm
  subst hf
  replace he : (if 16 = 16 then sumK (awakeS args H) else CR.no) = r := he
  rw [if_pos rfl] at he
  cases args with
  | cons x l => exact absurd he.symm hr
  | nil =>
    replace he : CR.ret (.bool true) H = r := he
    have hc : cargs = [] := by cases ha; rfl
    subst hc
    have hw : AsciiOk w := fun k hk => by
      rw [hR.below.cell (p := ⟨0, k, none⟩) hW.pos]
      exact hW k hk
    obtain ⟨h1, h2⟩ := run_of (E := env) rfl awake_run (W := w) (env_call 100000 1000) hw (cargs := []) .nil
    refine ⟨h1, Calls.mono h2 fun e W' h3 => ?_⟩
    obtain ⟨h3, h4⟩ := h3
    subst h3
    exact ⟨.bool true, H, ι, he.symm, .bool true, hR.of_below h4, .refl ι H⟩
/-- THE LAW, 'awake' in words. -/
theorem env1_call {W : World} (hW : AsciiOk W) (nl n : Nat) : CallOk Tryd.prog env1 W.heap.size W (evC env1 nl n) := evC_sound env1_ok env_mixed env1_code (env1_sums hW) nl n
/-- A run that comes to true. -/
theorem run_true {f nl n : Nat} {args : List AV} (h : isTrue (evC env1 nl n f args H0) = true) {W : World} (hL : laidMetH Tryd.prog laid2 W) {cargs : List Value} (ha : LRel inj0 args cargs) :
    Calls Tryd.prog f cargs.toArray W fun e W' => e = .returned (.bool true) ∧ Below W.heap.size W W' :=
  (run_of (E := env1) rfl h (env1_call (ascii_cell hL) nl n) (ascii_cell hL) ha).2

/-- The door's own heap meets the condition. -/
theorem door_met (os : Os) (args : Array Value) : laidMetH Tryd.prog laid2 ((World.doorLaid Tryd.prog 400 os).forCall (fun _ _ => 0) ⟨#[], args, []⟩).memory :=
  laidMetH_of_parts3 (fuel := 8) (laidMet_of_run' 8 (by kernel_rfl) (by kernel_rfl)) (by kernel_rfl) (by kernel_rfl)
end Go.Ev
