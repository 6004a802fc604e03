/- The environment with two calls that were run beforehand: of 'run.read' and of 'model.Program'. -/
import Derived.Test.YtbehlkbeofoahaaGreatDoorEvRn
import Derived.Test.YtbehlkbeofoahaaGreatDoorEvMem
namespace Go.Ev
set_option maxRecDepth 100000
open Go.Proofs
open Go.RowKit (Below)
noncomputable def fbR (_args : List AV) : Option Pos := some .h
noncomputable def fbP (args : List AV) : Option Pos :=
  match args with
  | [.agg [_, .sl b _ _ _]] => some b
  | _ => none
noncomputable def ccM (M1 M2 : Memo) : List FE := (ccR.set 26 (.sm (memoS M1 fbR))).set 98 (.sm (memoS M2 fbP))
noncomputable def envM (M1 M2 : Memo) : Env := eF (mkPT (ccM M1 M2))
variable {M1 M2 : Memo}
theorem ccM_get {f : Nat} {y : FE} (h : (ccM M1 M2)[f]? = some y) : (f = 98 ∧ y = .sm (memoS M2 fbP)) ∨ (f = 26 ∧ y = .sm (memoS M1 fbR)) ∨ ccR[f]? = some y := by
  unfold ccM at h
  by_cases e1 : f = 98
  · subst e1
    rw [List.getElem?_set] at h
    split at h
    · split at h
      · cases h; exact .inl ⟨rfl, rfl⟩
      · cases h
    · rename_i e; exact absurd rfl e
  rw [List.getElem?_set_ne (Ne.symm e1)] at h
  by_cases e2 : f = 26
  · subst e2
    rw [List.getElem?_set] at h
    split at h
    · split at h
      · cases h; exact .inr (.inl ⟨rfl, rfl⟩)
      · cases h
    · rename_i e; exact absurd rfl e
  rw [List.getElem?_set_ne (Ne.symm e2)] at h
  exact .inr (.inr h)
theorem envM_get {f : Nat} {y : FE} (h : (envM M1 M2).fn.get (Pos.of f) = some y) : (ccM M1 M2)[f]? = some y := mkPT_some (l := ccM M1 M2) h
theorem envM_fn {f : Nat} {x : Func} (h : fnOf (envM M1 M2) f = some x) : fnL[f]? = some x := by
  unfold fnOf at h
  obtain ⟨y, h1, h2⟩ := opt_eq_some h
  replace h2 : feF y = some x := h2
  rcases ccM_get (envM_get h1) with ⟨_, rfl⟩ | ⟨_, rfl⟩ | h3
  · cases h2
  · cases h2
  · exact ccR_fn h3 h2
theorem envM_ty : (envM M1 M2).ty = env.ty := by unfold envM env eF; rfl
theorem envM_gl : (envM M1 M2).gl = env.gl := by unfold envM env eF; rfl
theorem envM_ok : EnvOk Tryz.prog (envM M1 M2) := ok_of envM_ty fun _ _ => envM_fn
theorem envM_codes : CodesOk (envM M1 M2) := code_of fun _ _ => envM_fn
theorem envM_cc : CcOk2 Tryz.prog (envM M1 M2) := by
  intro f fn X g rs h
  have hf : fnOf (envM M1 M2) f = some fn := by unfold fnOf; rw [h]; rfl
  rcases ccM_get (envM_get h) with ⟨_, e⟩ | ⟨_, e⟩ | h3
  · cases e
  · cases e
  · exact ccR_cc envM_ok envM_codes hf h3
structure MemosOk (M1 M2 : Memo) : Prop where
  f1 : M1.f = 26
  f2 : M2.f = 98
  r1 : memoR M1 (evC envR 100000 1000 M1.f M1.args (memoH M1)) = true
  r2 : memoR M2 (evC envR 100000 1000 M2.f M2.args (memoH M2)) = true
  n1 : ndB (outsP M1.outs) = true
  n2 : ndB (outsP M2.outs) = true
theorem envM_sums (hM : MemosOk M1 M2) {W : World} (hW : AsciiOk W) : SumsOk Tryz.prog (envM M1 M2) W.heap.size W := by
  intro f g h
  rcases ccM_get (envM_get h) with ⟨rfl, e⟩ | ⟨rfl, e⟩ | h3
  · cases e
    have := memo_ok (E := envM M1 M2) (fb := fbP) envR_gl (fun W hW => envR_call hW 100000 1000) hM.r2 hM.n2 hW
    rw [hM.f2] at this
    exact this
  · cases e
    have := memo_ok (E := envM M1 M2) (fb := fbR) envR_gl (fun W hW => envR_call hW 100000 1000) hM.r1 hM.n1 hW
    rw [hM.f1] at this
    exact this
  · exact ccR_sm envM_gl hW h3
theorem envM_call (hM : MemosOk M1 M2) {W : World} (hW : AsciiOk W) (nl n : Nat) : CallOk Tryz.prog (envM M1 M2) W.heap.size W (evC (envM M1 M2) nl n) := evC_sound2 envM_ok env_mixed envM_codes (envM_sums hM hW) envM_cc nl n
theorem runM_true (hM : MemosOk M1 M2) {σ : Nat → IntKind × Int} {f nl n : Nat} {args : List AV} (h : isTrue (evC (envM M1 M2) nl n f args H0) = true) {W : World} (hL : laidMetH Tryz.prog laid2 W) {cargs : List Value} (ha : LRel (injS σ) args cargs) :
    Calls Tryz.prog f cargs.toArray W fun e W' => e = .returned (.bool true) ∧ Below W.heap.size W W' :=
  (run_of (E := envM M1 M2) envM_gl h (envM_call hM (ascii_cell hL) nl n) (ascii_cell hL) ha).2
end Go.Ev
