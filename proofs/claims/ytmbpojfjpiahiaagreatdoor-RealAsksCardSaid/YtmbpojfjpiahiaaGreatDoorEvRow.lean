/- The rows of the seat: the start, and what a run gives. -/
import Derived.Test.YtmbpojfjpiahiaaGreatDoorEvCc
import Derived.Test.YtmbpojfjpiahiaaGreatDoorEvUp
import Derived.Test.YtmbpojfjpiahiaaGreatDoorRows
import Derived.Test.YtmbpojfjpiahiaaGreatDoorTie
import Derived.ProofKit
import Derived.LaidMore
import Derived.OpenShut
import Derived.Stop.Joined
namespace Go.Ev
set_option maxRecDepth 100000
open Go.Proofs Go.Proofs.YtmbpojfjpiahiaaGreatDoor Go.ChangeShapes Go.WideShapes Go.ChangeAt Go.WideMaps Go.WideElems Go.RowKit

theorem env_types : Tryz.prog.types = tyL.toArray := by kernel_rfl
theorem env_funcs : Tryz.prog.funcs = fnL.toArray := by kernel_rfl
theorem env_names : (fnL.all fun fn => !(fn.name == "runtime.NumGoroutine")) = true := by kernel_rfl
theorem env_codes : allB fnB fnL = true := by kernel_rfl
theorem env_mixed : Tryz.prog.follows .mixedOrders = true := by kernel_rfl

theorem ccL_get {f : Nat} {y : FE} {x : Func} (h : ccL[f]? = some y) (hx : feF y = some x) : fnL[f]? = some x := by
  have h1 : (ccL.map feF)[f]? = some (feF y) := by rw [List.getElem?_map, h]; rfl
  rw [ccL_fns, List.getElem?_map, hx] at h1
  cases hf : fnL[f]? with
  | none => rw [hf] at h1; cases h1
  | some z => rw [hf] at h1; cases h1; rfl
theorem ccW_get {w : Nat → Option (List AV → Hp → Option (AV × Hp))} {f : Nat} {y : FE} (h : (ccW w)[f]? = some y) : ∃ x, ccL[f]? = some x ∧ y = opt (w f) x FE.sm := by
  unfold ccW at h
  rw [List.getElem?_map, List.getElem?_zipIdx] at h
  cases hx : ccL[f]? with
  | none => rw [hx] at h; cases h
  | some x =>
    rw [hx] at h
    have e : opt (w (0 + f)) x FE.sm = y := Option.some.inj h
    rw [Nat.zero_add] at e
    exact ⟨x, rfl, e.symm⟩
theorem words_fn {w : Nat → Option (List AV → Hp → Option (AV × Hp))} {f : Nat} {x : Func} (h : fnOf (eF (mkPT (ccW w))) f = some x) : fnL[f]? = some x := by
  unfold fnOf at h
  obtain ⟨y, h1, h2⟩ := opt_eq_some h
  replace h2 : feF y = some x := h2
  obtain ⟨z, e1, e2⟩ := ccW_get (mkPT_some (l := ccW w) h1)
  subst e2
  cases hw : w f with
  | none => rw [hw] at h2; exact ccL_get e1 h2
  | some g => rw [hw] at h2; cases h2
theorem words_sm {w : Nat → Option (List AV → Hp → Option (AV × Hp))} {f : Nat} {g : List AV → Hp → Option (AV × Hp)} (h : (mkPT (ccW w)).get (Pos.of f) = some (.sm g)) : w f = some g := by
  obtain ⟨z, e1, e2⟩ := ccW_get (mkPT_some (l := ccW w) h)
  cases hw : w f with
  | none =>
    rw [hw] at e2
    replace e2 : FE.sm g = z := e2
    subst e2
    exact (ccL_ok .l _ (List.mem_of_getElem? e1)).elim
  | some g' => rw [hw] at e2; cases e2; rfl
theorem words_cc {w : Nat → Option (List AV → Hp → Option (AV × Hp))} : CcOk (eF (mkPT (ccW w))) := by
  intro f fn X g rs h
  obtain ⟨z, e1, e2⟩ := ccW_get (mkPT_some (l := ccW w) h)
  cases hw : w f with
  | none =>
    rw [hw] at e2
    replace e2 : FE.cc fn X g rs = z := e2
    subst e2
    exact ccL_ok _ _ (List.mem_of_getElem? e1)
  | some g' => rw [hw] at e2; cases e2
theorem env_fn {f : Nat} {x : Func} (h : fnOf env f = some x) : fnL[f]? = some x := by
  unfold fnOf at h
  obtain ⟨y, h1, h2⟩ := opt_eq_some h
  exact ccL_get (mkPT_some (l := ccL) h1) h2
theorem env_cc : CcOk env := fun _ _ _ _ _ h => ccL_ok _ _ (List.mem_of_getElem? (mkPT_some (l := ccL) h))
theorem ok_of {E : Env} (ht : E.ty = env.ty) (hf : ∀ f x, fnOf E f = some x → fnL[f]? = some x) : EnvOk Tryz.prog E where
  ty t i h := by
    replace h : E.ty.get (Pos.of t) = some i := h
    rw [ht] at h
    have h3 := mkPT_some (l := tyL) h
    have h4 : Tryz.prog.types[t]? = some i := by rw [env_types]; simpa using h3
    have hlt : t < Tryz.prog.types.size := (Array.getElem?_eq_some_iff.1 h4).1
    unfold Tables.info?
    rw [if_pos hlt]
    exact h4
  fn f x h := by
    have h3 := hf f x h
    refine ⟨by rw [env_funcs]; simpa using h3, ?_⟩
    have := List.all_eq_true.1 env_names x (List.mem_of_getElem? h3)
    simpa using this
theorem code_of {E : Env} (hf : ∀ f x, fnOf E f = some x → fnL[f]? = some x) : CodesOk E := fun _ fn _ h hb => fnB_ok (allB_eq env_codes fn (List.mem_of_getElem? (hf _ _ h))) hb
theorem env_sums {base : Nat} {w0 : World} : SumsOk Tryz.prog env base w0 := sumsOk_none fun _ _ h => ccL_ok .l _ (List.mem_of_getElem? (mkPT_some (l := ccL) h))
theorem env_call (base : Nat) (w0 : World) (nl n : Nat) : CallOk Tryz.prog env base w0 (evC env nl n) := evC_sound (ok_of rfl fun _ _ => env_fn) env_mixed (code_of fun _ _ => env_fn) env_sums env_cc nl n

theorem Rl.env {E E' : Env} (hg : E'.gl = E.gl) {base : Nat} {w0 w : World} {ι : Inj} {H : Hp} (h : Rl E base w0 ι H w) : Rl E' base w0 ι H w where
  blk := h.blk
  inj := h.inj
  fresh := h.fresh
  size := h.size
  own := h.own
  below := h.below
  base_le := h.base_le
  glob g b hgl := h.glob g b (by rw [← hg]; exact hgl)

theorem intCR_inv {r : CR} {n : Int} (h : intCR r = some n) : ∃ H, r = .ret (.int .i64 n) H := by
  cases r with
  | no => cases h
  | pan v H => cases h
  | ret v H =>
    cases v with
    | int k m =>
      cases k with
      | i64 => cases h; exact ⟨H, rfl⟩
      | _ => cases h
    | _ => cases h
theorem gv_of {base : Nat} {w0 : World} {ι : Inj} {H : Hp} {w : World} (hR : Rl env base w0 ι H w) {f : Nat} {args : List AV} {cargs : List Value} (ha : LRel ι args cargs) {n : Int} (h : intCR (evC env 1000 100 f args (roH H)) = some n) : Gv Tryz.prog f cargs.toArray w.heap.size w (.int .i64 n) := by
  intro W hb
  obtain ⟨H', hr⟩ := intCR_inv h
  refine Calls.mono (ro_call (fun base w0 => env_call base w0 1000 100) hR ha hr hb) ?_
  rintro e W' ⟨⟨c, ι', rfl, hv⟩, hb'⟩
  cases hv
  exact ⟨rfl, hb'⟩
theorem supRow_path {base : Nat} {w0 : World} {ι : Inj} {H : Hp} {w : World} (hR : Rl env base w0 ι H w) {lp : AV} {lv : Value} (hl : VRel ι lp lv) : ∀ (n : Nat) (a : Int) (xs : List Int), supRow lp (roH H) n a = some xs → Path Tryz.prog 221 w.heap.size w lv a xs
  | 0, _, _, h => by cases h
  | n + 1, a, xs, h => by
    replace h : opt (intCR (evC env 1000 100 221 [lp, .int .i64 a] (roH H))) none (fun s => cnd (ile (.ofNat 0) s) (opt (supRow lp (roH H) n s) none fun r => some (s :: r)) (some [])) = some xs := h
    obtain ⟨s, h1, h2⟩ := opt_eq_some h
    have hg : Gv Tryz.prog 221 #[lv, .int .i64 a] w.heap.size w (.int .i64 s) := gv_of hR (.cons _ _ _ _ hl (.cons _ _ _ _ (.int _ _) .nil)) h1
    rw [cnd_eq, ile_eq] at h2
    split at h2
    · rename_i h0
      obtain ⟨r, h3, h4⟩ := opt_eq_some h2
      cases h4
      exact ⟨of_decide_eq_true h0, hg, supRow_path hR hl n s r h3⟩
    · rename_i h0
      cases h2
      refine ⟨s, ?_, hg⟩
      have h0' : ¬ (Int.ofNat 0 ≤ s) := by simpa using h0
      have : (Int.ofNat 0 : Int) = 0 := rfl
      omega
theorem notIn_inv {c : Int} : ∀ {xs : List Int}, notIn c xs = true → c ∉ xs
  | [], _, h => by cases h
  | x :: xs, h, hm => by
    replace h : iand (inot (ieq x c)) (notIn c xs) = true := h
    simp only [iand_eq, Bool.and_eq_true, inot_eq, Bool.not_eq_true', ieq_eq, beq_eq_false_iff_ne, ne_eq] at h
    cases hm with
    | head => exact h.1 rfl
    | tail _ hm => exact notIn_inv h.2 hm
theorem supersV_inv {c : Int} {lp : AV} {H : Hp} {r : AV × Hp} (h : supersV c lp H = some r) : r = (.bool false, H) ∧ ∃ b o, lp = .ptr b o ∧ ∃ xs M, supRow lp (roH H) 40 c = some xs ∧ intCR (evC env 1000 100 153 [lp] (roH H)) = some (Int.ofNat M) ∧ xs.length ≤ M ∧ M ≤ 1000 ∧ c ∉ xs := by
  unfold supersV at h
  split at h
  · rename_i b o
    rw [frc_eq] at h
    obtain ⟨xs, h1, h⟩ := opt_eq_some h
    obtain ⟨M, h2, h⟩ := opt_eq_some h
    cases M with
    | negSucc k => cases h
    | ofNat k =>
      replace h : cnd (iand (Nat.ble (len xs) k) (iand (Nat.ble k 1000) (notIn c xs))) (some (.bool false, H)) none = some r := h
      rw [cnd_eq] at h
      split at h
      · rename_i hc
        cases h
        simp only [iand_eq, Bool.and_eq_true, len_eq] at hc
        exact ⟨rfl, b, o, rfl, xs, k, h1, h2, Nat.le_of_ble_eq_true hc.1, Nat.le_of_ble_eq_true hc.2.1, notIn_inv hc.2.2⟩
      · cases h
  · cases h
theorem supers_ok {E : Env} (hgl : env.gl = E.gl) {base : Nat} {w0 : World} : CallOk Tryz.prog E base w0 fun f' args H => if f' = 207 then sumK (supersS args H) else .no := by
  intro f' args H r he hr ι w cargs hR0 ha
  have hR := hR0.env hgl
  replace he : (if f' = 207 then sumK (supersS args H) else CR.no) = r := he
  have hf : f' = 207 := Classical.byContradiction fun hne => by
    rw [if_neg hne] at he
    exact hr he.symm
  subst hf
  rw [if_pos rfl] at he
  unfold sumK at he
  obtain ⟨p, h1, h2⟩ := optC_ne he hr
  refine ⟨⟨_, Tryz.func207, by kernel_rfl, by kernel_rfl⟩, ?_⟩
  unfold supersS at h1
  split at h1
  · rename_i c x b o
    obtain ⟨lp, k1, k2⟩ := opt_eq_some h1
    obtain ⟨rfl, lb, lo, rfl, xs, M, j1, j2, j3, j4, j5⟩ := supersV_inv k2
    cases ha with
    | cons _ v0 _ L hv0 ha =>
      cases hv0
      cases ha with
      | cons _ v1 _ L hv1 ha =>
        cases ha with
        | cons _ v2 _ L hv2 ha =>
          cases ha
          cases hv2 with
          | ptr _ _ r0 d z hi =>
            replace k1 : H.cells b none (fun _ l => nth o l) = some (.ptr lb lo) := k1
            obtain ⟨ro, l, e1, e2⟩ := cells_inv k1
            rw [nth_eq] at e2
            obtain ⟨lv, f1, f2⟩ := (hR.blk b r0 d z _ hi e1).2.1 o _ e2
            have hlp : ∃ ad, lv = .pointer ad := by cases f2; exact ⟨_, rfl⟩
            have hP := supRow_path hR f2 40 c xs j1
            have hM : Gv Tryz.prog 153 #[lv] w.heap.size w (.int .i64 M) := gv_of hR (.cons _ _ _ _ f2 .nil) j2
            refine Calls.mono (supers2 w lv hlp r0 (d + o) M f1 c v1 xs hP hM j3 (by omega) j5) ?_
            rintro e W' ⟨rfl, hb⟩
            exact ⟨.bool false, H, ι, h2.symm, .bool false, hR0.of_below hb, .refl ι H⟩
  · cases h1
theorem envL_ty : envL.ty = env.ty := by unfold envL env eF; rfl
theorem envL_gl : envL.gl = env.gl := by unfold envL env eF; rfl
theorem env1_ty : env1.ty = env.ty := by unfold env1 env eF; rfl
theorem env1_gl : env1.gl = env.gl := by unfold env1 env eF; rfl
theorem envL_cc : CcOk envL := words_cc
theorem env1_cc : CcOk env1 := words_cc
theorem envL_fn {f : Nat} {x : Func} (h : fnOf envL f = some x) : fnL[f]? = some x := words_fn h
theorem env1_fn {f : Nat} {x : Func} (h : fnOf env1 f = some x) : fnL[f]? = some x := words_fn h
theorem wordL_inv {f : Nat} {g : List AV → Hp → Option (AV × Hp)} (h : wordL f = some g) : f = 207 ∧ g = supersS := by
  unfold wordL at h
  rw [cnd_eq] at h
  split at h
  · rename_i e
    cases h
    exact ⟨Nat.eq_of_beq_eq_true e, rfl⟩
  · cases h
theorem envL_sums {base : Nat} {w0 : World} : SumsOk Tryz.prog envL base w0 := by
  intro f g h
  obtain ⟨e1, e2⟩ := wordL_inv (words_sm h)
  subst e1
  subst e2
  exact supers_ok envL_gl.symm
theorem envL_call {base : Nat} {w0 : World} (nl n : Nat) : CallOk Tryz.prog envL base w0 (evC envL nl n) := evC_sound (ok_of envL_ty fun _ _ => envL_fn) env_mixed (code_of fun _ _ => envL_fn) envL_sums envL_cc nl n

theorem own : ownKnob Tryz.prog.godebug = none := by kernel_rfl
theorem laidOut : laidOutB Tryz.prog = true := by kernel_rfl
abbrev laid2 : List (String × DataW Unit) := [("unicode.White_Space", Rows.laid_unicode_White_Space), ("strings.asciiSpace", Rows.laid_strings_asciiSpace)]
noncomputable def asciiZ : List Int := (List.range 256).map fun i => if i == 9 || i == 10 || i == 11 || i == 12 || i == 13 || i == 32 then 1 else 0
noncomputable def asciiSp : List AV := asciiZ.map fun n => .int .u8 n
noncomputable def H0 : Hp := ⟨mkPT [Blk.cells true asciiSp], Pos.of 1⟩

theorem laid_ascii : (Rows.laid_strings_asciiSpace : DataW Unit) = .agg (asciiZ.map fun n => .lit (.int .u8 n)) := by kernel_rfl
theorem asciiZ_len : asciiZ.length = 256 := by kernel_rfl
theorem ascii_cell {W : World} (h : laidMetH Tryz.prog laid2 W) (r : Nat) (hr : r < 256) : W.cell? ⟨0, r, none⟩ = some (.int .u8 (asciiZ.getD r 0)) := by
  rw [MakeChecks.laidMetH_plain _ _ _ (by kernel_rfl)] at h
  obtain ⟨ps, ⟨g0, t0, cs0, f0, p0, q0, hg0, ht0, hv0, hd0, ⟨g, t, cs, fuel, p, q, hg, ht, hv, hd, _, _⟩, _⟩, _, _⟩ := h
  obtain rfl := Option.some.inj ((show Tryz.prog.globalNamed "strings.asciiSpace" = some 0 by kernel_rfl).symm.trans hg)
  obtain rfl := Option.some.inj ((show (Tryz.prog.globals[0]?).map (·.type) = some 407 by kernel_rfl).symm.trans ht)
  rw [laid_ascii] at hd
  obtain ⟨xs, m, _, ex, _, hl, hel⟩ := DataW.trod_array Tryz.underlying407 hd
  have c5 : Tryz.prog.cellsOf 5 = 1 := by kernel_rfl
  have hE := hel r hr
  rw [c5, Nat.mul_one, List.getElem?_eq_getElem (by omega)] at hE
  obtain ⟨z, e1, e2, _⟩ := DataW.trod_int Tryz.underlying5 hE
  have hlen := asciiZ_len
  have e3 : (xs.map (·.1)) = asciiZ.map fun n => .lit (.int .u8 n) := (DataW.agg.inj (Prod.mk.inj ex).1).symm
  have e4 : (xs.map (·.1))[r]? = (asciiZ.map fun n => (DataW.lit (.int .u8 n) : DataW Unit))[r]? := by rw [e3]
  rw [List.getElem?_map, List.getElem?_map, List.getElem?_eq_getElem (by omega : r < xs.length), List.getElem?_eq_getElem (by omega : r < asciiZ.length), e2] at e4
  have hz : z = asciiZ.getD r 0 := by
    simp only [Option.map_some, Option.some.injEq, DataW.lit.injEq, Lit.int.injEq, true_and] at e4
    rw [e4, List.getD, List.getElem?_eq_getElem (by omega : r < asciiZ.length)]; rfl
  rw [World.var?_cell hg hv r, ← hz]
  have : cs.toList[r]? = some (.int .u8 z) := by
    have h0 : ((cs.toList.drop r).take 1)[0]? = some (.int .u8 z) := by rw [e1]; rfl
    simpa using h0
  simpa using this

noncomputable def injS (σ : Nat → IntKind × Int) : Inj := ⟨fun b => if b.nat = 1 then some (0, 0, 256) else none, σ⟩
noncomputable abbrev inj0 : Inj := injS fun _ => (.i64, 0)
variable {σ : Nat → IntKind × Int}
theorem inj0_inv {b : Pos} {x : Nat × Nat × Nat} (h : (injS σ) b = some x) : b = Pos.of 0 ∧ x = (0, 0, 256) := by
  replace h : (if b.nat = 1 then some (0, 0, 256) else none) = some x := h
  split at h
  · rename_i e
    cases h
    exact ⟨Pos.nat_inj (by rw [e]; rfl), rfl⟩
  · cases h
theorem H0_get : H0.m.get (Pos.of 0) = some (.cells true asciiSp) := rfl
theorem H0_inv {b : Pos} {x : Blk} (h : H0.m.get b = some x) : b = Pos.of 0 := by
  refine Classical.byContradiction fun hne => ?_
  have e : H0.m = PT.set (Pos.of 0) (Blk.cells true asciiSp) .l := rfl
  rw [e, get_set_ne _ _ _ _ hne] at h
  simp at h

def AsciiOk (W : World) : Prop := ∀ r, r < 256 → W.cell? ⟨0, r, none⟩ = some (.int .u8 (asciiZ.getD r 0))
theorem AsciiOk.pos {W : World} (hc : AsciiOk W) : 0 < W.heap.size := by
  have := hc 0 (by decide)
  unfold World.cell? at this
  rcases Nat.lt_or_ge 0 W.heap.size with h0 | h0
  · exact h0
  · have hn : W.heap[0]? = none := Array.getElem?_eq_none (by omega)
    simp [hn] at this
theorem start {E : Env} (hgl : E.gl = env.gl) {W : World} (hc : AsciiOk W) : Rl E W.heap.size W (injS σ) H0 W := by
  have hpos := hc.pos
  refine ⟨fun b r d z x hi hg => ?_, fun b b' r d d' z z' x x' hi hi' _ _ _ _ => ?_, fun b hb => ?_, fun b r d z hi => ?_, fun b r d z x hi hg hro => ?_, Below.refl _ _, Nat.le_refl _, fun g b hg => ?_⟩
  · obtain ⟨rfl, e⟩ := inj0_inv hi
    cases e
    rw [H0_get] at hg; cases hg
    refine ⟨by unfold asciiSp; rw [List.length_map, asciiZ_len]; exact Nat.le_refl _, fun j x hx => ?_, fun h => by cases h⟩
    unfold asciiSp at hx
    rw [List.getElem?_map] at hx
    cases hz : asciiZ[j]? with
    | none => rw [hz] at hx; cases hx
    | some n =>
      rw [hz] at hx; cases hx
      have hj : j < 256 := by rw [← asciiZ_len]; exact (List.getElem?_eq_some_iff.1 hz).1
      refine ⟨_, by rw [Nat.zero_add]; exact hc j hj, ?_⟩
      rw [List.getD, hz]
      exact .int _ _
  · exact (inj0_inv hi).1.trans (inj0_inv hi').1.symm
  · have hb' : 2 ≤ b.nat := hb
    refine ⟨?_, ?_⟩
    · show (if b.nat = 1 then some (0, 0, 256) else none) = none
      rw [if_neg (by omega)]
    · cases hx : H0.m.get b with
      | none => rfl
      | some x =>
        have := H0_inv hx
        subst this
        have : (Pos.of 0).nat = 1 := rfl
        omega
  · obtain ⟨_, e⟩ := inj0_inv hi
    cases e; exact hpos
  · obtain ⟨rfl, e⟩ := inj0_inv hi
    rw [H0_get] at hg; cases hg; cases hro
  · rw [hgl] at hg
    replace hg : cnd (Nat.beq g 0) (some (Pos.of 0)) none = some b := hg
    rw [cnd_eq] at hg
    split at hg
    · rename_i e
      obtain rfl := Nat.eq_of_beq_eq_true e
      cases hg
      exact ⟨256, rfl⟩
    · cases hg

noncomputable def avTrue (v : AV) : Bool :=
  match v with
  | .bool b => b
  | _ => false
noncomputable def isTrue (r : CR) : Bool := CR.rec (motive := fun _ => Bool) (fun v _ => avTrue v) (fun _ _ => false) false r
theorem isTrue_inv {r : CR} (h : isTrue r = true) : ∃ H, r = .ret (.bool true) H := by
  cases r with
  | no => cases h
  | pan v H => cases h
  | ret v H =>
    replace h : avTrue v = true := h
    unfold avTrue at h
    split at h
    · subst h; exact ⟨H, rfl⟩
    · cases h

theorem run_of {E : Env} (hgl : E.gl = env.gl) {f nl n : Nat} {args : List AV} (h : isTrue (evC E nl n f args H0) = true) {W : World} (hE : CallOk Tryz.prog E W.heap.size W (evC E nl n)) (hW : AsciiOk W) {cargs : List Value} (ha : LRel (injS σ) args cargs) :
    Entered Tryz.prog f ∧ Calls Tryz.prog f cargs.toArray W fun e W' => e = .returned (.bool true) ∧ Below W.heap.size W W' := by
  obtain ⟨H', hr⟩ := isTrue_inv h
  obtain ⟨h1, hc⟩ := hE f args H0 _ rfl (by rw [hr]; intro e; cases e) (injS σ) W cargs (start hgl hW) ha
  refine ⟨h1, Calls.mono hc fun e W' he => ?_⟩
  rw [hr] at he
  cases e with
  | returned c =>
    obtain ⟨v, H2, ι', e1, e2, e3, _⟩ := he
    cases e1
    cases e2
    exact ⟨rfl, e3.below⟩
  | panicked ch =>
    obtain ⟨v, H2, ι', c, e1, _⟩ := he
    cases e1
  | outgrown => exact he.elim

theorem awake_run : isTrue (evC envL 100000 1000 4 [] H0) = true := by kernel_rfl
theorem awake_ok {E : Env} {W : World} (hW : AsciiOk W) : CallOk Tryz.prog E W.heap.size W fun f' args H => if f' = 4 then sumK (awakeS args H) else .no := by
  intro f' args H r he hr ι w cargs hR ha
  replace he : (if f' = 4 then sumK (awakeS args H) else CR.no) = r := he
  have hf : f' = 4 := Classical.byContradiction fun hne => by
    rw [if_neg hne] at he
    exact hr he.symm
  subst hf
  rw [if_pos rfl] at he
  cases args with
  | cons x l => exact absurd he.symm hr
  | nil =>
    replace he : CR.ret (.bool true) H = r := he
    have hc : cargs = [] := by cases ha; rfl
    subst hc
    have hw : AsciiOk w := fun k hk => by
      rw [hR.below.cell (p := ⟨0, k, none⟩) hW.pos]
      exact hW k hk
    obtain ⟨h1, h2⟩ := run_of (E := envL) (σ := fun _ => (.i64, 0)) envL_gl awake_run (W := w) (envL_call 100000 1000) hw (cargs := []) .nil
    refine ⟨h1, Calls.mono h2 fun e W' h3 => ?_⟩
    obtain ⟨h3, h4⟩ := h3
    subst h3
    exact ⟨.bool true, H, ι, he.symm, .bool true, hR.of_below h4, .refl ι H⟩
theorem word1_ok {E : Env} (hgl : E.gl = env.gl) {W : World} (hW : AsciiOk W) {f : Nat} {g : List AV → Hp → Option (AV × Hp)} (h1 : word1 f = some g) : CallOk Tryz.prog E W.heap.size W fun f' args H => if f' = f then sumK (g args H) else .no := by
  unfold word1 at h1
  rw [cnd_eq] at h1
  split at h1
  · rename_i e
    obtain rfl := Nat.eq_of_beq_eq_true e
    cases h1
    exact awake_ok hW
  · obtain ⟨e1, e2⟩ := wordL_inv h1
    subst e1
    subst e2
    exact supers_ok hgl.symm
theorem env1_sums {W : World} (hW : AsciiOk W) : SumsOk Tryz.prog env1 W.heap.size W := fun _ _ h => word1_ok env1_gl hW (words_sm h)
theorem env1_call {W : World} (hW : AsciiOk W) (nl n : Nat) : CallOk Tryz.prog env1 W.heap.size W (evC env1 nl n) := evC_sound (ok_of env1_ty fun _ _ => env1_fn) env_mixed (code_of fun _ _ => env1_fn) (env1_sums hW) env1_cc nl n
theorem run_true {f nl n : Nat} {args : List AV} (h : isTrue (evC env1 nl n f args H0) = true) {W : World} (hL : laidMetH Tryz.prog laid2 W) {cargs : List Value} (ha : LRel (injS σ) args cargs) :
    Calls Tryz.prog f cargs.toArray W fun e W' => e = .returned (.bool true) ∧ Below W.heap.size W W' :=
  (run_of (E := env1) env1_gl h (env1_call (ascii_cell hL) nl n) (ascii_cell hL) ha).2

theorem door_met (os : Os) (args : Array Value) : laidMetH Tryz.prog laid2 ((World.doorLaid Tryz.prog 400 os).forCall (fun _ _ => 0) ⟨#[], args, []⟩).memory :=
  laidMetH_of_parts3 (fuel := 8) (laidMet_of_run' 8 (by kernel_rfl) (by kernel_rfl)) (by kernel_rfl) (by kernel_rfl)
end Go.Ev
