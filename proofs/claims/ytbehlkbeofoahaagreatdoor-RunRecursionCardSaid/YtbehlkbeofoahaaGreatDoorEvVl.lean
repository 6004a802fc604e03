/- The word for 'value', and the environment with it. -/
import Derived.Test.YtbehlkbeofoahaaGreatDoorEvRow
import Derived.Test.YtbehlkbeofoahaaGreatDoorEvLd
namespace Go.Ev
set_option maxRecDepth 100000
open Go.Proofs Go.Proofs.YtbehlkbeofoahaaGreatDoor Go.RowKit
variable {σ : Nat → IntKind × Int}
noncomputable def word2 (i : Nat) : Option (List AV → Hp → Option (AV × Hp)) := cnd (Nat.beq i 15) (some valueS) (word1 i)
noncomputable def env2 : Env := eF (mkPT (ccW word2))
theorem env2_ty : env2.ty = env.ty := by unfold env2 env eF; rfl
theorem env2_gl : env2.gl = env.gl := by unfold env2 env eF; rfl
theorem env2_cc : CcOk env2 := words_cc
theorem env2_fn {f : Nat} {x : Func} (h : fnOf env2 f = some x) : fnL[f]? = some x := words_fn h

noncomputable def avAt (j : Nat) (v : AV) : Bool :=
  match v with
  | .at i _ => Nat.beq i j
  | _ => false
noncomputable def isAt (j : Nat) (r : CR) : Bool := CR.rec (motive := fun _ => Bool) (fun v _ => avAt j v) (fun _ _ => false) false r
theorem isAt_inv {j : Nat} {r : CR} (h : isAt j r = true) : ∃ tb H, r = .ret (.at j tb) H := by
  cases r with
  | no => cases h
  | pan v H => cases h
  | ret v H =>
    replace h : avAt j v = true := h
    unfold avAt at h
    split at h
    · rename_i i tb; exact ⟨tb, H, by rw [Nat.eq_of_beq_eq_true h]⟩
    · cases h
theorem at_of {E : Env} (hgl : E.gl = env.gl) {f nl n j : Nat} {args : List AV} (h : isAt j (evC E nl n f args H0) = true) {W : World} (hE : CallOk Tryz.prog E W.heap.size W (evC E nl n)) (hW : AsciiOk W) {cargs : List Value} (ha : LRel (injS σ) args cargs) :
    Entered Tryz.prog f ∧ Calls Tryz.prog f cargs.toArray W fun e W' => e = .returned (.int (σ j).1 (σ j).2) ∧ Below W.heap.size W W' := by
  obtain ⟨tb, H', hr⟩ := isAt_inv h
  obtain ⟨h1, hc⟩ := hE f args H0 _ rfl (by rw [hr]; intro e; cases e) (injS σ) W cargs (start hgl hW) ha
  refine ⟨h1, Calls.mono hc fun e W' he => ?_⟩
  rw [hr] at he
  cases e with
  | returned c =>
    obtain ⟨v, H2, ι', e1, e2, e3, e4⟩ := he
    cases e1
    obtain ⟨_, rfl⟩ := at_rel e2
    have hs : ι'.s = σ := e4.le.s
    rw [hs]
    exact ⟨rfl, e3.below⟩
  | panicked ch =>
    obtain ⟨v, H2, ι', c, e1, _⟩ := he
    cases e1
  | outgrown => exact he.elim

noncomputable def tbA : List (Nat × AtO × AtV) := [(0, .bc .rem .i64 4294967296, .at 1), (1, .bc .gtr .i64 2147483647, .bool false), (1, .bc .lss .i64 (-2147483648), .bool false)]
noncomputable def tbB : List (Nat × AtO × AtV) := [(0, .bc .rem .i64 4294967296, .at 1), (1, .bc .gtr .i64 2147483647, .bool true), (1, .bc .sub .i64 4294967296, .at 2), (2, .bc .lss .i64 (-2147483648), .bool false)]
noncomputable def tbC : List (Nat × AtO × AtV) := [(0, .bc .rem .i64 4294967296, .at 1), (1, .bc .gtr .i64 2147483647, .bool false), (1, .bc .lss .i64 (-2147483648), .bool true), (1, .bc .add .i64 4294967296, .at 2)]
theorem value_runA : isAt 1 (evC envL 1000 100 15 [.at 0 tbA] H0) = true := by kernel_rfl
theorem value_runB : isAt 2 (evC envL 1000 100 15 [.at 0 tbB] H0) = true := by kernel_rfl
theorem value_runC : isAt 2 (evC envL 1000 100 15 [.at 0 tbC] H0) = true := by kernel_rfl

theorem value_calls {W : World} (hW : AsciiOk W) (n : Int) : Entered Tryz.prog 15 ∧ Calls Tryz.prog 15 #[.int .i64 n] W fun e W' => e = .returned (.int .i64 (wr .i32 n)) ∧ Below W.heap.size W W' := by
  obtain ⟨h1, h2, h3⟩ := wr32_tmod n
  have hE := envL_call (base := W.heap.size) (w0 := W) 1000 100
  generalize ht : Int.tmod n 4294967296 = t at h1 h2 h3
  by_cases c1 : t > 2147483647
  · rw [if_pos c1] at h1
    have h := at_of (σ := sg [(.i64, n), (.i64, t), (.i64, t - 4294967296)]) envL_gl value_runB hE hW (cargs := [.int .i64 n])
      (.cons _ _ _ _ (.at 0 tbB .i64 n (atOk_cons (den_rem rfl rfl (by decide) ht) <| atOk_cons (den_gtr rfl (decide_eq_true c1)) <| atOk_cons (den_sub rfl rfl (wr64_id (by omega) (by omega))) <| atOk_cons (den_lss rfl (decide_eq_false (by omega))) <| atOk_nil) rfl) .nil)
    rw [h1]; exact h
  · rw [if_neg c1] at h1
    by_cases c2 : t < -2147483648
    · rw [if_pos c2] at h1
      have h := at_of (σ := sg [(.i64, n), (.i64, t), (.i64, t + 4294967296)]) envL_gl value_runC hE hW (cargs := [.int .i64 n])
        (.cons _ _ _ _ (.at 0 tbC .i64 n (atOk_cons (den_rem rfl rfl (by decide) ht) <| atOk_cons (den_gtr rfl (decide_eq_false c1)) <| atOk_cons (den_lss rfl (decide_eq_true c2)) <| atOk_cons (den_add rfl rfl (wr64_id (by omega) (by omega))) <| atOk_nil) rfl) .nil)
      rw [h1]; exact h
    · rw [if_neg c2] at h1
      have h := at_of (σ := sg [(.i64, n), (.i64, t)]) envL_gl value_runA hE hW (cargs := [.int .i64 n])
        (.cons _ _ _ _ (.at 0 tbA .i64 n (atOk_cons (den_rem rfl rfl (by decide) ht) <| atOk_cons (den_gtr rfl (decide_eq_false c1)) <| atOk_cons (den_lss rfl (decide_eq_false c2)) <| atOk_nil) rfl) .nil)
      rw [h1]; exact h

theorem value_ok {E : Env} {W : World} (hW : AsciiOk W) : CallOk Tryz.prog E W.heap.size W fun f' args H => if f' = 15 then sumK (valueS args H) else .no := by
  intro f' args H r he hr ι w cargs hR ha
  replace he : (if f' = 15 then sumK (valueS args H) else CR.no) = r := he
  have hf : f' = 15 := Classical.byContradiction fun hne => by
    rw [if_neg hne] at he
    exact hr he.symm
  subst hf
  rw [if_pos rfl] at he
  unfold sumK at he
  obtain ⟨p, h1, h2⟩ := optC_ne he hr
  unfold valueS at h1
  split at h1
  · rename_i i tb
    obtain ⟨v, k1, k2⟩ := opt_eq_some h1
    cases k2
    cases ha with
    | cons _ c _ L hc ha =>
      cases ha
      obtain ⟨ho, rfl⟩ := at_rel hc
      obtain ⟨r, g1, g2⟩ := atL_some ho k1
      generalize hs : ι.s i = s at *
      obtain ⟨k, n⟩ := s
      have hk : k = .i64 ∧ AtV.av ι.s r = .int .i64 (wr .i32 n) := by
        replace g1 : (match (ι.s i).1 with | .i64 => some (AV.int .i64 (wr .i32 (ι.s i).2)) | _ => none) = some (AtV.av ι.s r) := g1
        rw [hs] at g1
        cases k <;> first | (cases g1; done) | exact ⟨rfl, (Option.some.inj g1).symm⟩
      obtain ⟨rfl, hv⟩ := hk
      have hw : AsciiOk w := fun k hk => by
        rw [hR.below.cell (p := ⟨0, k, none⟩) hW.pos]
        exact hW k hk
      obtain ⟨h3, h4⟩ := value_calls hw n
      refine ⟨h3, Calls.mono h4 fun e W' h5 => ?_⟩
      obtain ⟨rfl, h6⟩ := h5
      refine ⟨v, H, ι, h2.symm, at_lift ho g2 ?_, hR.of_below h6, .refl ι H⟩
      rw [hv]; exact .int _ _
  · cases h1
theorem word2_ok {E : Env} (hgl : E.gl = env.gl) {W : World} (hW : AsciiOk W) {f : Nat} {g : List AV → Hp → Option (AV × Hp)} (h1 : word2 f = some g) : CallOk Tryz.prog E W.heap.size W fun f' args H => if f' = f then sumK (g args H) else .no := by
  unfold word2 at h1
  rw [cnd_eq] at h1
  split at h1
  · rename_i e
    obtain rfl := Nat.eq_of_beq_eq_true e
    cases h1
    exact value_ok hW
  · exact word1_ok hgl hW h1
theorem env2_sums {W : World} (hW : AsciiOk W) : SumsOk Tryz.prog env2 W.heap.size W := fun _ _ h => word2_ok env2_gl hW (words_sm h)
theorem env2_call {W : World} (hW : AsciiOk W) (nl n : Nat) : CallOk Tryz.prog env2 W.heap.size W (evC env2 nl n) := evC_sound (ok_of env2_ty fun _ _ => env2_fn) env_mixed (code_of fun _ _ => env2_fn) (env2_sums hW) env2_cc nl n
theorem run2_true {f nl n : Nat} {args : List AV} (h : isTrue (evC env2 nl n f args H0) = true) {W : World} (hL : laidMetH Tryz.prog laid2 W) {cargs : List Value} (ha : LRel (injS σ) args cargs) :
    Calls Tryz.prog f cargs.toArray W fun e W' => e = .returned (.bool true) ∧ Below W.heap.size W W' :=
  (run_of (E := env2) env2_gl h (env2_call (ascii_cell hL) nl n) (ascii_cell hL) ha).2
end Go.Ev
