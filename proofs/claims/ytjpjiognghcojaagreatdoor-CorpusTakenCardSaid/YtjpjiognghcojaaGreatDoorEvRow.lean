/- The rows of the seat: the start, and what a run gives. -/
import Derived.Test.YtjpjiognghcojaaGreatDoorEvCc
import Derived.Test.YtjpjiognghcojaaGreatDoorRows
import Derived.Test.YtjpjiognghcojaaGreatDoorTie
import Derived.ProofKit
import Derived.LaidMore
import Derived.Lay
import Derived.Lib.LaidU8
import Derived.Lib.SmallJoins
import Derived.Shelf.Strconv.Itoa3
import Derived.OpenShut
import Derived.Stop.Joined
namespace Go.Ev
set_option maxRecDepth 100000
open Go.Proofs Go.Proofs.YtjpjiognghcojaaGreatDoor Go.ChangeShapes Go.WideShapes Go.ChangeAt Go.WideMaps Go.WideElems Go.RowKit

theorem env_types : Tryz.prog.types = tyL.toArray := by kernel_rfl
theorem env_funcs : Tryz.prog.funcs = fnL.toArray := by kernel_rfl
theorem env_names : (fnL.all fun fn => !(fn.name == "runtime.NumGoroutine")) = true := by kernel_rfl
theorem env_codes : allB fnB fnL = true := by kernel_rfl
theorem env_mixed : Tryz.prog.follows .mixedOrders = true := by kernel_rfl

theorem ccL_get {f : Nat} {y : FE} {x : Func} (h : ccL[f]? = some y) (hx : feF y = some x) : fnL[f]? = some x := by
  have h1 : (ccL.map feF)[f]? = some (feF y) := by rw [List.getElem?_map, h]; rfl
  rw [ccL_fns, List.getElem?_map, hx] at h1
  cases hf : fnL[f]? with
  | none => rw [hf] at h1; cases h1
  | some z => rw [hf] at h1; cases h1; rfl
theorem env_fn {f : Nat} {x : Func} (h : fnOf env f = some x) : fnL[f]? = some x := by
  unfold fnOf at h
  obtain ⟨y, h1, h2⟩ := opt_eq_some h
  exact ccL_get (mkPT_some (l := ccL) h1) h2
theorem env_cc : CcOk env := fun _ _ _ _ _ h => ccL_ok _ _ (List.mem_of_getElem? (mkPT_some (l := ccL) h))
theorem ok_of {E : Env} (ht : E.ty = env.ty) (hf : ∀ f x, fnOf E f = some x → fnL[f]? = some x) : EnvOk Tryz.prog E where
  ty t i h := by
    replace h : E.ty.get (Pos.of t) = some i := h
    rw [ht] at h
    have h3 := mkPT_some (l := tyL) h
    have h4 : Tryz.prog.types[t]? = some i := by rw [env_types]; simpa using h3
    have hlt : t < Tryz.prog.types.size := (Array.getElem?_eq_some_iff.1 h4).1
    unfold Tables.info?
    rw [if_pos hlt]
    exact h4
  fn f x h := by
    have h3 := hf f x h
    refine ⟨by rw [env_funcs]; simpa using h3, ?_⟩
    have := List.all_eq_true.1 env_names x (List.mem_of_getElem? h3)
    simpa using this
theorem code_of {E : Env} (hf : ∀ f x, fnOf E f = some x → fnL[f]? = some x) : CodesOk E := fun _ fn _ h hb => fnB_ok (allB_eq env_codes fn (List.mem_of_getElem? (hf _ _ h))) hb
theorem env_sums {base : Nat} {w0 : World} : SumsOk Tryz.prog env base w0 := sumsOk_none fun _ _ h => ccL_ok .l _ (List.mem_of_getElem? (mkPT_some (l := ccL) h))
theorem env_call (base : Nat) (w0 : World) (nl n : Nat) : CallOk Tryz.prog env base w0 (evC env nl n) := evC_sound (ok_of rfl fun _ _ => env_fn) env_mixed (code_of fun _ _ => env_fn) env_sums env_cc nl n

theorem Rl.env {E E' : Env} (hg : E'.gl = E.gl) {base : Nat} {w0 w : World} {ι : Inj} {H : Hp} (h : Rl E base w0 ι H w) : Rl E' base w0 ι H w where
  blk := h.blk
  inj := h.inj
  fresh := h.fresh
  size := h.size
  own := h.own
  below := h.below
  base_le := h.base_le
  glob g b hgl := h.glob g b (by rw [← hg]; exact hgl)

theorem own : ownKnob Tryz.prog.godebug = none := by kernel_rfl
theorem laidOut : laidOutB Tryz.prog = true := by kernel_rfl
abbrev laid2 : List (String × DataW Unit) := [("math/bits.deBruijn32tab", Rows.laid_math_bits_deBruijn32tab), ("math/bits.deBruijn64tab", Rows.laid_math_bits_deBruijn64tab), ("internal/strconv.uint64pow10", Rows.laid_internal_strconv_uint64pow10), ("unicode/utf8.acceptRanges", Rows.laid_unicode_utf8_acceptRanges), ("strconv.ErrRange", Rows.laid_strconv_ErrRange), ("strconv.ErrSyntax", Rows.laid_strconv_ErrSyntax), ("unicode.White_Space", Rows.laid_unicode_White_Space), ("strings.asciiSpace", Rows.laid_strings_asciiSpace), ("unicode/utf8.first", Rows.laid_unicode_utf8_first)]
noncomputable def asciiZ : List Int := (List.range 256).map fun i => if i == 9 || i == 10 || i == 11 || i == 12 || i == 13 || i == 32 then 1 else 0
noncomputable def asciiSp : List AV := asciiZ.map fun n => .int .u8 n
noncomputable def H0 : Hp := ⟨mkPT [Blk.cells true asciiSp], Pos.of 1⟩

theorem laid_ascii : (Rows.laid_strings_asciiSpace : DataW Unit) = .agg (asciiZ.map fun n => .lit (.int .u8 n)) := by kernel_rfl
theorem asciiZ_len : asciiZ.length = 256 := by kernel_rfl
theorem ascii_cell {W : World} (h : laidMetH Tryz.prog laid2 W) (r : Nat) (hr : r < 256) : W.cell? ⟨1, r, none⟩ = some (.int .u8 (asciiZ.getD r 0)) := by
  rw [MakeChecks.laidMetH_plain _ _ _ (by kernel_rfl)] at h
  obtain ⟨ps, ⟨g0, t0, cs0, f0, p0, q0, hg0, ht0, hv0, hd0, ⟨g1, t1, cs1, f1, p1, q1, hg1, ht1, hv1, hd1, ⟨g2, t2, cs2, f2, p2, q2, hg2, ht2, hv2, hd2, ⟨g3, t3, cs3, f3, p3, q3, hg3, ht3, hv3, hd3, ⟨g4, t4, cs4, f4, p4, q4, hg4, ht4, hv4, hd4, ⟨g5, t5, cs5, f5, p5, q5, hg5, ht5, hv5, hd5, ⟨g6, t6, cs6, f6, p6, q6, hg6, ht6, hv6, hd6, ⟨g, t, cs, fuel, p, q, hg, ht, hv, hd, _, _⟩, _⟩, _⟩, _⟩, _⟩, _⟩, _⟩, _⟩, _, _⟩ := h
  obtain rfl := Option.some.inj ((show Tryz.prog.globalNamed "strings.asciiSpace" = some 1 by kernel_rfl).symm.trans hg)
  obtain rfl := Option.some.inj ((show (Tryz.prog.globals[1]?).map (·.type) = some 210 by kernel_rfl).symm.trans ht)
  rw [laid_ascii] at hd
  obtain ⟨xs, m, _, ex, _, hl, hel⟩ := DataW.trod_array Tryz.underlying210 hd
  have c5 : Tryz.prog.cellsOf 5 = 1 := by kernel_rfl
  have hE := hel r hr
  rw [c5, Nat.mul_one, List.getElem?_eq_getElem (by omega)] at hE
  obtain ⟨z, e1, e2, _⟩ := DataW.trod_int Tryz.underlying5 hE
  have hlen := asciiZ_len
  have e3 : (xs.map (·.1)) = asciiZ.map fun n => .lit (.int .u8 n) := (DataW.agg.inj (Prod.mk.inj ex).1).symm
  have e4 : (xs.map (·.1))[r]? = (asciiZ.map fun n => (DataW.lit (.int .u8 n) : DataW Unit))[r]? := by rw [e3]
  rw [List.getElem?_map, List.getElem?_map, List.getElem?_eq_getElem (by omega : r < xs.length), List.getElem?_eq_getElem (by omega : r < asciiZ.length), e2] at e4
  have hz : z = asciiZ.getD r 0 := by
    simp only [Option.map_some, Option.some.injEq, DataW.lit.injEq, Lit.int.injEq, true_and] at e4
    rw [e4, List.getD, List.getElem?_eq_getElem (by omega : r < asciiZ.length)]; rfl
  rw [World.var?_cell hg hv r, ← hz]
  have : cs.toList[r]? = some (.int .u8 z) := by
    have h0 : ((cs.toList.drop r).take 1)[0]? = some (.int .u8 z) := by rw [e1]; rfl
    simpa using h0
  simpa using this

noncomputable def injS (σ : Nat → IntKind × Int) : Inj := ⟨fun b => if b.nat = 1 then some (1, 0, 256) else none, σ⟩
noncomputable abbrev inj0 : Inj := injS fun _ => (.i64, 0)
variable {σ : Nat → IntKind × Int}
theorem inj0_inv {b : Pos} {x : Nat × Nat × Nat} (h : (injS σ) b = some x) : b = Pos.of 0 ∧ x = (1, 0, 256) := by
  replace h : (if b.nat = 1 then some (1, 0, 256) else none) = some x := h
  split at h
  · rename_i e
    cases h
    exact ⟨Pos.nat_inj (by rw [e]; rfl), rfl⟩
  · cases h
theorem H0_get : H0.m.get (Pos.of 0) = some (.cells true asciiSp) := rfl
theorem H0_inv {b : Pos} {x : Blk} (h : H0.m.get b = some x) : b = Pos.of 0 := by
  refine Classical.byContradiction fun hne => ?_
  have e : H0.m = PT.set (Pos.of 0) (Blk.cells true asciiSp) .l := rfl
  rw [e, get_set_ne _ _ _ _ hne] at h
  simp at h

def AsciiOk (W : World) : Prop := (∀ r, r < 256 → W.cell? ⟨1, r, none⟩ = some (.int .u8 (asciiZ.getD r 0))) ∧ Lib.TabIs Tryz.prog W "internal/strconv.uint64pow10" .u64 Lib.pow10Tab
theorem AsciiOk.at {W : World} (h : AsciiOk W) (r : Nat) (hr : r < 256) : W.cell? ⟨1, r, none⟩ = some (.int .u8 (asciiZ.getD r 0)) := h.1 r hr
theorem AsciiOk.pos {W : World} (hc : AsciiOk W) : 1 < W.heap.size := by
  have := hc.at 0 (by decide)
  unfold World.cell? at this
  rcases Nat.lt_or_ge 1 W.heap.size with h0 | h0
  · exact h0
  · have hn : W.heap[1]? = none := Array.getElem?_eq_none (by omega)
    simp [hn] at this
theorem AsciiOk.stays {W w : World} (h : AsciiOk W) (hb : Below W.heap.size W w) : AsciiOk w := ⟨fun k hk => by
  rw [hb.cell (p := ⟨1, k, none⟩) h.pos]
  exact h.at k hk, Joins.tab_stays (g := 7) (by kernel_rfl) h.2 hb (Nat.le_refl _)⟩
theorem tab_ok {W : World} (h : laidMetH Tryz.prog laid2 W) : Lib.TabIs Tryz.prog W "internal/strconv.uint64pow10" .u64 Lib.pow10Tab := by
  rw [MakeChecks.laidMetH_plain _ _ _ (by kernel_rfl)] at h
  obtain ⟨g, t, cs, fuel, p, hg, hty, hv, hd⟩ := Lib.laidMet.reads h (n := "internal/strconv.uint64pow10") (d := Lib.tabData .u64 Lib.pow10Tab) (by
    rw [show (Lib.tabData .u64 Lib.pow10Tab : DataW Unit) = Rows.laid_internal_strconv_uint64pow10 by kernel_rfl]
    exact .tail _ (.tail _ (.head _)))
  obtain rfl := Option.some.inj ((show Tryz.prog.globalNamed "internal/strconv.uint64pow10" = some 7 by kernel_rfl).symm.trans hg)
  obtain rfl := Option.some.inj ((show (Tryz.prog.globals[7]?).map (·.type) = some 263 by kernel_rfl).symm.trans hty)
  unfold Lib.TabIs
  rw [hv, ← Lib.cells_of_tab Tryz.underlying263 Tryz.underlying178 (by kernel_rfl) (by kernel_rfl) hd]
theorem ascii_ok {W : World} (h : laidMetH Tryz.prog laid2 W) : AsciiOk W := ⟨ascii_cell h, tab_ok h⟩
theorem start {E : Env} (hgl : E.gl = env.gl) {W : World} (hc : AsciiOk W) : Rl E W.heap.size W (injS σ) H0 W := by
  have hpos := hc.pos
  refine ⟨fun b r d z x hi hg => ?_, fun b b' r d d' z z' x x' hi hi' _ _ _ _ => ?_, fun b hb => ?_, fun b r d z hi => ?_, fun b r d z x hi hg hro => ?_, Below.refl _ _, Nat.le_refl _, fun g b hg => ?_⟩
  · obtain ⟨rfl, e⟩ := inj0_inv hi
    cases e
    rw [H0_get] at hg; cases hg
    refine ⟨by unfold asciiSp; rw [List.length_map, asciiZ_len]; exact Nat.le_refl _, fun j x hx => ?_, fun h => by cases h⟩
    unfold asciiSp at hx
    rw [List.getElem?_map] at hx
    cases hz : asciiZ[j]? with
    | none => rw [hz] at hx; cases hx
    | some n =>
      rw [hz] at hx; cases hx
      have hj : j < 256 := by rw [← asciiZ_len]; exact (List.getElem?_eq_some_iff.1 hz).1
      refine ⟨_, by rw [Nat.zero_add]; exact hc.at j hj, ?_⟩
      rw [List.getD, hz]
      exact .int _ _
  · exact (inj0_inv hi).1.trans (inj0_inv hi').1.symm
  · have hb' : 2 ≤ b.nat := hb
    refine ⟨?_, ?_⟩
    · show (if b.nat = 1 then some (1, 0, 256) else none) = none
      rw [if_neg (by omega)]
    · cases hx : H0.m.get b with
      | none => rfl
      | some x =>
        have := H0_inv hx
        subst this
        have : (Pos.of 0).nat = 1 := rfl
        omega
  · obtain ⟨_, e⟩ := inj0_inv hi
    cases e; exact hpos
  · obtain ⟨rfl, e⟩ := inj0_inv hi
    rw [H0_get] at hg; cases hg; cases hro
  · rw [hgl] at hg
    replace hg : cnd (Nat.beq g 1) (some (Pos.of 0)) none = some b := hg
    rw [cnd_eq] at hg
    split at hg
    · rename_i e
      obtain rfl := Nat.eq_of_beq_eq_true e
      cases hg
      exact ⟨256, rfl⟩
    · cases hg

noncomputable def avTrue (v : AV) : Bool :=
  match v with
  | .bool b => b
  | _ => false
noncomputable def isTrue (r : CR) : Bool := CR.rec (motive := fun _ => Bool) (fun v _ => avTrue v) (fun _ _ => false) false r
theorem isTrue_inv {r : CR} (h : isTrue r = true) : ∃ H, r = .ret (.bool true) H := by
  cases r with
  | no => cases h
  | pan v H => cases h
  | ret v H =>
    replace h : avTrue v = true := h
    unfold avTrue at h
    split at h
    · subst h; exact ⟨H, rfl⟩
    · cases h

theorem run_of {E : Env} (hgl : E.gl = env.gl) {f nl n : Nat} {args : List AV} (h : isTrue (evC E nl n f args H0) = true) {W : World} (hE : CallOk Tryz.prog E W.heap.size W (evC E nl n)) (hW : AsciiOk W) {cargs : List Value} (ha : LRel (injS σ) args cargs) :
    Entered Tryz.prog f ∧ Calls Tryz.prog f cargs.toArray W fun e W' => e = .returned (.bool true) ∧ Below W.heap.size W W' := by
  obtain ⟨H', hr⟩ := isTrue_inv h
  obtain ⟨h1, hc⟩ := hE f args H0 _ rfl (by rw [hr]; intro e; cases e) (injS σ) W cargs (start hgl hW) ha
  refine ⟨h1, Calls.mono hc fun e W' he => ?_⟩
  rw [hr] at he
  cases e with
  | returned c =>
    obtain ⟨v, H2, ι', e1, e2, e3, _⟩ := he
    cases e1
    cases e2
    exact ⟨rfl, e3.below⟩
  | panicked ch =>
    obtain ⟨v, H2, ι', c, e1, _⟩ := he
    cases e1
  | outgrown => exact he.elim

end Go.Ev
