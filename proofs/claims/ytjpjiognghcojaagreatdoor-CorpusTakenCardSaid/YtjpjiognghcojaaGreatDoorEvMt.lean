/- Environments in which some functions' calls are told that were run beforehand. -/
import Derived.Test.YtjpjiognghcojaaGreatDoorEvRow
import Derived.Test.YtjpjiognghcojaaGreatDoorEvMem
namespace Go.Ev
set_option maxRecDepth 100000
open Go.Proofs
open Go.RowKit (Below)
abbrev SmT := List AV → Hp → Option (AV × Hp)
noncomputable def memoT (fb : List AV → Option Pos) (Ms : List Memo) : SmT := fun args H => List.rec (motive := fun _ => Option (AV × Hp)) none (fun M _ ih => opt (memoS M fb args H) ih some) Ms
noncomputable def fb0 (_args : List AV) : Option Pos := some .h
structure Good (E1 : Env) : Prop where
  gl : E1.gl = env.gl
  call : ∀ W, AsciiOk W → ∀ nl n, CallOk Tryz.prog E1 W.heap.size W (evC E1 nl n)
theorem good_env : Good env := ⟨rfl, fun W _ nl n => env_call W.heap.size W nl n⟩
structure MemoOk (E1 : Env) (f : Nat) (M : Memo) : Prop where
  f : M.f = f
  r : memoR M (evC E1 100000 1000 M.f M.args (memoH M)) = true
  n : ndB (outsP M.outs) = true
def SmOk (f : Nat) (g : SmT) : Prop := ∀ (E : Env) (W : World), AsciiOk W → CallOk Tryz.prog E W.heap.size W fun f' args H => if f' = f then sumK (g args H) else .no
theorem memoT_ok {E1 : Env} (hE : Good E1) {f : Nat} {fb : List AV → Option Pos} : ∀ {Ms : List Memo}, (∀ M, M ∈ Ms → MemoOk E1 f M) → SmOk f (memoT fb Ms)
  | [], _ => fun E W hW f' args H r he hr => by
    exfalso
    apply hr
    rw [← he]
    show (if f' = f then sumK none else CR.no) = .no
    split <;> rfl
  | M :: Ms, h => fun E W hW f' args H r he hr => by
    have hM := h M (.head _)
    cases hm : memoS M fb args H with
    | none =>
      refine memoT_ok hE (fb := fb) (Ms := Ms) (fun M hM => h M (.tail _ hM)) E W hW f' args H r ?_ hr
      replace he : (if f' = f then sumK (opt (memoS M fb args H) (memoT fb Ms args H) some) else CR.no) = r := he
      rw [hm] at he
      exact he
    | some p =>
      refine memo_ok (E := E) (fb := fb) hE.gl (fun W hW => hE.call W hW 100000 1000) hM.r hM.n hW f' args H r ?_ hr
      replace he : (if f' = f then sumK (opt (memoS M fb args H) (memoT fb Ms args H) some) else CR.no) = r := he
      show (if f' = M.f then sumK (memoS M fb args H) else CR.no) = r
      rw [hM.f]
      rw [hm] at he ⊢
      exact he
noncomputable def ccT (L : List (Nat × SmT)) : List FE := L.foldl (fun c p => c.set p.1 (.sm p.2)) ccL
theorem ccT_get' : ∀ (L : List (Nat × SmT)) (c : List FE) {f : Nat} {y : FE}, (L.foldl (fun c p => c.set p.1 (.sm p.2)) c)[f]? = some y → (∃ p, p ∈ L ∧ p.1 = f ∧ y = .sm p.2) ∨ c[f]? = some y
  | [], _, _, _, h => .inr h
  | p :: L, c, f, y, h => by
    rcases ccT_get' L _ h with ⟨q, h1, h2⟩ | h1
    · exact .inl ⟨q, .tail _ h1, h2⟩
    · by_cases e : f = p.1
      · subst e
        rw [List.getElem?_set] at h1
        split at h1
        · split at h1
          · cases h1; exact .inl ⟨p, .head _, rfl, rfl⟩
          · cases h1
        · rename_i e; exact absurd rfl e
      · rw [List.getElem?_set_ne (Ne.symm e)] at h1
        exact .inr h1
theorem ccT_get {L : List (Nat × SmT)} {f : Nat} {y : FE} (h : (ccT L)[f]? = some y) : (∃ p, p ∈ L ∧ p.1 = f ∧ y = .sm p.2) ∨ ccL[f]? = some y := ccT_get' L ccL h
noncomputable def envT (L : List (Nat × SmT)) : Env := eF (mkPT (ccT L))
variable {L : List (Nat × SmT)}
theorem envT_get {f : Nat} {y : FE} (h : (envT L).fn.get (Pos.of f) = some y) : (ccT L)[f]? = some y := mkPT_some (l := ccT L) h
theorem envT_fn {f : Nat} {x : Func} (h : fnOf (envT L) f = some x) : fnL[f]? = some x := by
  unfold fnOf at h
  obtain ⟨y, h1, h2⟩ := opt_eq_some h
  replace h2 : feF y = some x := h2
  rcases ccT_get (envT_get h1) with ⟨p, _, _, rfl⟩ | h3
  · cases h2
  · exact ccL_get h3 h2
theorem envT_ty : (envT L).ty = env.ty := by unfold envT env eF; rfl
theorem envT_gl : (envT L).gl = env.gl := by unfold envT env eF; rfl
theorem envT_cc : CcOk (envT L) := by
  intro f fn X g rs h
  rcases ccT_get (envT_get h) with ⟨p, _, _, e⟩ | h3
  · cases e
  · exact ccL_ok _ _ (List.mem_of_getElem? h3)
theorem good_envT (hL : ∀ p, p ∈ L → SmOk p.1 p.2) : Good (envT L) := ⟨envT_gl, fun W hW nl n =>
  evC_sound (ok_of envT_ty fun _ _ => envT_fn) env_mixed (code_of fun _ _ => envT_fn) (fun f g h => by
    rcases ccT_get (envT_get h) with ⟨p, h1, rfl, e⟩ | h3
    · cases e
      exact hL p h1 (envT L) W hW
    · exact (ccL_ok (mkPT (ccT L)) _ (List.mem_of_getElem? h3)).elim) envT_cc nl n⟩
theorem good_true {E1 : Env} (hE : Good E1) {σ : Nat → IntKind × Int} {f nl n : Nat} {args : List AV} (h : isTrue (evC E1 nl n f args H0) = true) {W : World} (hl : laidMetH Tryz.prog laid2 W) {cargs : List Value} (ha : LRel (injS σ) args cargs) :
    Calls Tryz.prog f cargs.toArray W fun e W' => e = .returned (.bool true) ∧ Below W.heap.size W W' :=
  (run_of (E := E1) hE.gl h (hE.call W (ascii_ok hl) nl n) (ascii_ok hl) ha).2
end Go.Ev
