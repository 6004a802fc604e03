/- The environment with the words for the loop of 'run.Run' and for those that lay scripts. -/
import Derived.Test.YtbehlkbeofoahaaGreatDoorEvIdle
import Derived.Test.YtbehlkbeofoahaaGreatDoorEvScr
import Derived.Test.YtbehlkbeofoahaaGreatDoorEvThr
import Derived.Test.YtbehlkbeofoahaaGreatDoorEvCl
namespace Go.Ev
set_option maxRecDepth 100000
set_option linter.unusedSimpArgs false
set_option linter.unusedVariables false
open Go.Proofs
open Go.RowKit (Below)
noncomputable def ccR : List FE := ((((ccW word4).set 13 (.cc Tryz.f13 x13 gW13 (rsV [.c (.i (.o (.o .h))) true 8]))).set 21 (.cc Tryz.f21 x21 gW21 (rsV [.t (.i (.i .h)), .t (.o (.o (.o .h))), .t (.i (.o (.o .h)))]))).set 57 (.cc Tryz.f57 x57 gW57 (rsV [.t (.i .h)])))
noncomputable def envR : Env := eF (mkPT ccR)
theorem ccR_get {f : Nat} {y : FE} (h : ccR[f]? = some y) : (f = 57 ∧ y = .cc Tryz.f57 x57 gW57 (rsV [.t (.i .h)])) ∨ (f = 21 ∧ y = .cc Tryz.f21 x21 gW21 (rsV [.t (.i (.i .h)), .t (.o (.o (.o .h))), .t (.i (.o (.o .h)))])) ∨ (f = 13 ∧ y = .cc Tryz.f13 x13 gW13 (rsV [.c (.i (.o (.o .h))) true 8])) ∨ (ccW word4)[f]? = some y := by
  unfold ccR at h
  by_cases e57 : f = 57
  · subst e57
    rw [List.getElem?_set] at h
    split at h
    · split at h
      · cases h; exact .inl ⟨rfl, rfl⟩
      · cases h
    · rename_i e; exact absurd rfl e
  rw [List.getElem?_set_ne (Ne.symm e57)] at h
  by_cases e21 : f = 21
  · subst e21
    rw [List.getElem?_set] at h
    split at h
    · split at h
      · cases h; exact .inr (.inl ⟨rfl, rfl⟩)
      · cases h
    · rename_i e; exact absurd rfl e
  rw [List.getElem?_set_ne (Ne.symm e21)] at h
  by_cases e13 : f = 13
  · subst e13
    rw [List.getElem?_set] at h
    split at h
    · split at h
      · cases h; exact .inr (.inr (.inl ⟨rfl, rfl⟩))
      · cases h
    · rename_i e; exact absurd rfl e
  rw [List.getElem?_set_ne (Ne.symm e13)] at h
  exact .inr (.inr (.inr h))
theorem ccW_fn {w : Nat → Option (List AV → Hp → Option (AV × Hp))} {f : Nat} {y : FE} {x : Func} (h1 : (ccW w)[f]? = some y) (h2 : feF y = some x) : fnL[f]? = some x := by
  obtain ⟨z, e1, e2⟩ := ccW_get h1
  subst e2
  cases hw : w f with
  | none => rw [hw] at h2; exact ccL_get e1 h2
  | some g => rw [hw] at h2; cases h2
theorem ccW_sm {w : Nat → Option (List AV → Hp → Option (AV × Hp))} {f : Nat} {g : List AV → Hp → Option (AV × Hp)} (h : (ccW w)[f]? = some (.sm g)) : w f = some g := by
  obtain ⟨z, e1, e2⟩ := ccW_get h
  cases hw : w f with
  | none =>
    rw [hw] at e2
    replace e2 : FE.sm g = z := e2
    subst e2
    exact (ccL_ok .l _ (List.mem_of_getElem? e1)).elim
  | some g' => rw [hw] at e2; cases e2; rfl
theorem ccW_told {w : Nat → Option (List AV → Hp → Option (AV × Hp))} {F : PT FE} {f : Nat} {fn : Func} {X : PT Unit} {g : CallT → Nat → StT} {rs : PT AV → Hp → Option AV} (h : (ccW w)[f]? = some (.cc fn X g rs)) : Told (eF F) fn X g rs := by
  obtain ⟨z, e1, e2⟩ := ccW_get h
  cases hw : w f with
  | none =>
    rw [hw] at e2
    replace e2 : FE.cc fn X g rs = z := e2
    subst e2
    exact ccL_ok _ _ (List.mem_of_getElem? e1)
  | some g' => rw [hw] at e2; cases e2
theorem envR_get {f : Nat} {y : FE} (h : envR.fn.get (Pos.of f) = some y) : ccR[f]? = some y := mkPT_some (l := ccR) h
theorem ccR_fn {f : Nat} {y : FE} {x : Func} (h1 : ccR[f]? = some y) (h2 : feF y = some x) : fnL[f]? = some x := by
  rcases ccR_get h1 with ⟨rfl, rfl⟩ | ⟨rfl, rfl⟩ | ⟨rfl, rfl⟩ | h3
  · have e := Option.some.inj h2
    subst e
    exact (show fnL[57]? = some Tryz.f57 by kernel_rfl)
  · have e := Option.some.inj h2
    subst e
    exact (show fnL[21]? = some Tryz.f21 by kernel_rfl)
  · have e := Option.some.inj h2
    subst e
    exact (show fnL[13]? = some Tryz.f13 by kernel_rfl)
  · exact ccW_fn h3 h2
theorem envR_fn {f : Nat} {x : Func} (h : fnOf envR f = some x) : fnL[f]? = some x := by
  unfold fnOf at h
  obtain ⟨y, h1, h2⟩ := opt_eq_some h
  exact ccR_fn (envR_get h1) h2
theorem envR_ty : envR.ty = env.ty := by unfold envR env eF; rfl
theorem envR_gl : envR.gl = env.gl := by unfold envR env eF; rfl
theorem sm_ne {g : List AV → Hp → Option (AV × Hp)} {fn : Func} {X : PT Unit} {g' : CallT → Nat → StT} {rs : PT AV → Hp → Option AV} : FE.sm g ≠ FE.cc fn X g' rs := by intro h; cases h
theorem envR_ok : EnvOk Tryz.prog envR := ok_of envR_ty fun _ _ => envR_fn
theorem envR_codes : CodesOk envR := code_of fun _ _ => envR_fn
theorem ccR_cc {F : PT FE} (hE : EnvOk Tryz.prog (eF F)) (hK : CodesOk (eF F)) {f : Nat} {fn : Func} {X : PT Unit} {g : CallT → Nat → StT} {rs : PT AV → Hp → Option AV} (hf : fnOf (eF F) f = some fn) (h : ccR[f]? = some (.cc fn X g rs)) :
    X = crossF fn ∧ (∃ c, fn.body = some c ∧ ∀ (base : Nat) (w0 : World) (call : CallT) (nl : Nat), CallOk Tryz.prog (eF F) base w0 call → StOk Tryz.prog (eF F) base w0 fn.ntmps X c (g call nl)) ∧ ∀ T H, rs T H = results (eF F) fn T H := by
  rcases ccR_get h with ⟨rfl, e⟩ | ⟨rfl, e⟩ | ⟨rfl, e⟩ | h3
  · cases e; exact gW57_cc hE env_mixed
  · cases e; exact gW21_cc hE env_mixed
  · cases e; exact gW13_cc hE env_mixed
  · exact told_ok2 hE env_mixed hK hf (ccW_told h3)
theorem ccR_sm {E : Env} (hgl : E.gl = env.gl) {W : World} (hW : AsciiOk W) {f : Nat} {g : List AV → Hp → Option (AV × Hp)} (h : ccR[f]? = some (.sm g)) : CallOk Tryz.prog E W.heap.size W fun f' args H => if f' = f then sumK (g args H) else .no := by
  rcases ccR_get h with ⟨_, e⟩ | ⟨_, e⟩ | ⟨_, e⟩ | h3
  · exact absurd e sm_ne
  · exact absurd e sm_ne
  · exact absurd e sm_ne
  · exact word4_ok hgl hW (ccW_sm h3)
theorem envR_cc : CcOk2 Tryz.prog envR := by
  intro f fn X g rs h
  have hf : fnOf envR f = some fn := by unfold fnOf; rw [h]; rfl
  exact ccR_cc envR_ok envR_codes hf (envR_get h)
theorem envR_sums {W : World} (hW : AsciiOk W) : SumsOk Tryz.prog envR W.heap.size W := fun _ _ h => ccR_sm envR_gl hW (envR_get h)
theorem envR_call {W : World} (hW : AsciiOk W) (nl n : Nat) : CallOk Tryz.prog envR W.heap.size W (evC envR nl n) := evC_sound2 envR_ok env_mixed envR_codes (envR_sums hW) envR_cc nl n
theorem runR_true {σ : Nat → IntKind × Int} {f nl n : Nat} {args : List AV} (h : isTrue (evC envR nl n f args H0) = true) {W : World} (hL : laidMetH Tryz.prog laid2 W) {cargs : List Value} (ha : LRel (injS σ) args cargs) :
    Calls Tryz.prog f cargs.toArray W fun e W' => e = .returned (.bool true) ∧ Below W.heap.size W W' :=
  (run_of (E := envR) envR_gl h (envR_call (ascii_cell hL) nl n) (ascii_cell hL) ha).2
end Go.Ev
