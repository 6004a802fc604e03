/- 'VerifyForms' returns true for every input and its arguments read behind the call as they read before. Conditions: the two listed package-level variables start as the program's text lays them (the card ties them to the text); a verified evaluator ('Go.Ev', EvDef .. EvTop) is run in the kernel once for each case of the input. -/
import Derived.Test.YtjpcncllagooeaaDoorEvFormsR0
import Derived.Test.YtjpcncllagooeaaDoorEvFormsR1
import Derived.Test.YtjpcncllagooeaaDoorEvFormsR2
import Derived.Test.YtjpcncllagooeaaDoorEvFormsR3
import Derived.Test.YtjpcncllagooeaaDoorEvFormsR4
import Derived.Test.YtjpcncllagooeaaDoorEvFormsR5
import Derived.Test.YtjpcncllagooeaaDoorEvFormsR6
import Derived.Test.YtjpcncllagooeaaDoorCards
import Derived.SevenTiedAt
namespace Go.Ev
set_option maxRecDepth 100000
open Go.Proofs Go.Proofs.YtjpcncllagooeaaDoor Go.ChangeShapes Go.WideShapes Go.ChangeAt Go.WideMaps Go.WideElems Go.RowKit

theorem forms_all {x0 : Int} (w0 : (Lit.int .i64 x0).wf = true) {x1 : Int} (w1 : (Lit.int .i64 x1).wf = true) : ∃ args, LRel inj0 args [.int .i64 x0, .int .i64 x1] ∧ isTrue (evC env1 100000 1000 8 args H0) = true := by
  obtain ⟨r0, h0, e0⟩ := and_rel (ι := inj0) 3 (by decide) w0
  match r0, h0 with
  | 0, _ =>
    exact ⟨_, .cons _ _ _ _ e0 (.cons _ _ _ _ (.any _) .nil), forms_run_0⟩
  | 1, _ =>
    obtain ⟨r1, h1, e1⟩ := and_rel (ι := inj0) 4 (by decide) w1
    refine ⟨_, .cons _ _ _ _ e0 (.cons _ _ _ _ e1 .nil), ?_⟩
    match r1, h1 with
    | 0, _ => exact forms_run_1_0
    | 1, _ => exact forms_run_1_1
    | 2, _ => exact forms_run_1_2
    | 3, _ => exact forms_run_1_3
    | 4, _ => exact forms_run_1_4
    | 5, _ => exact forms_run_1_5
    | 6, _ => exact forms_run_1_6
    | 7, _ => exact forms_run_1_7
    | 8, _ => exact forms_run_1_8
    | 9, _ => exact forms_run_1_9
    | 10, _ => exact forms_run_1_10
    | 11, _ => exact forms_run_1_11
    | 12, _ => exact forms_run_1_12
    | 13, _ => exact forms_run_1_13
    | 14, _ => exact forms_run_1_14
    | 15, _ => exact forms_run_1_15
    | r + 16, h =>
      have h' : r + 16 < 16 := h
      omega
  | 2, _ =>
    exact ⟨_, .cons _ _ _ _ e0 (.cons _ _ _ _ (.any _) .nil), forms_run_2⟩
  | 3, _ =>
    exact ⟨_, .cons _ _ _ _ e0 (.cons _ _ _ _ (.any _) .nil), forms_run_3⟩
  | 4, _ =>
    obtain ⟨r1, h1, e1⟩ := and_rel (ι := inj0) 2 (by decide) w1
    refine ⟨_, .cons _ _ _ _ e0 (.cons _ _ _ _ e1 .nil), ?_⟩
    match r1, h1 with
    | 0, _ => exact forms_run_4_0
    | 1, _ => exact forms_run_4_1
    | 2, _ => exact forms_run_4_2
    | 3, _ => exact forms_run_4_3
    | r + 4, h =>
      have h' : r + 4 < 4 := h
      omega
  | 5, _ =>
    exact ⟨_, .cons _ _ _ _ e0 (.cons _ _ _ _ (.any _) .nil), forms_run_5⟩
  | 6, _ =>
    exact ⟨_, .cons _ _ _ _ e0 (.cons _ _ _ _ (.any _) .nil), forms_run_6⟩
  | 7, _ =>
    exact ⟨_, .cons _ _ _ _ e0 (.cons _ _ _ _ (.any _) .nil), forms_run_7⟩
  | r + 8, h =>
    have h' : r + 8 < 8 := h
    omega

theorem forms_lifted (os : Os) (started : os.Started) (H : Type) (enc : TypeId × Value → H) :
    ReturnsInHanded {} Tryd.checked os 8 .any (fun w args => (Rows.verifyFormsSpec.pre enc Tryd.prog Tryd.f8 [] false w args ∧ laidMetH Tryd.prog laid2 w) ∧ sizedMet enc Tryd.prog Tryd.f8 (OpenSpec.ofChange Rows.verifyFormsSpec) false w args)
      (Rows.verifyFormsSpec.post enc Tryd.prog Tryd.f8 false true false false) := by
  refine returnsInHanded_of_change_and (C := Tryd.checked) (X := fun w _ => laidMetH Tryd.prog laid2 w) (fun _ _ _ hh h => h.of_heap hh) own started (by kernel_rfl) Tryd.func8
    (ChangeSpec.witness_shaped (enc := enc) (C := Tryd.checked) (os := os) (X := fun w _ => laidMetH Tryd.prog laid2 w) false (World.doorLaid Tryd.prog 400 os) #[.int .i64 0, .int .i64 0] 8 rfl (World.shaped_of_RefB (by kernel_rfl) (by kernel_rfl)) (by kernel_rfl) (by kernel_rfl) (by kernel_rfl) (door_met os _)) ?_
  intro W base args ds gs before hval0 hW _ _ hL _
  have hval : ∀ (j : Nat) t v, Tryd.f8.params[j]? = some t → args[j]? = some v → Value.okWide Tryd.prog W .any base t v := hval0
  have hW' := hW
  obtain ⟨p, q, hA0, hV, rfl, hfz, hnd⟩ := hW
  have hA : DataW.TrodAll enc Tryd.prog W 0 (fun _ => true) true Tryd.f8.params.toList args.toList ds p := hA0
  rw [Tryd.params8] at hA hval
  obtain ⟨v0, v1, d0, d1, p0, p1, rfl, rfl, rfl, h0, h1⟩ := trodAll_two hA
  obtain ⟨rfl, rfl⟩ := trodVars_none hV
  obtain ⟨x0, rfl, rfl, rfl, w0⟩ := open_int Tryd.underlying3 (hval 0 3 v0 rfl rfl) h0
  obtain ⟨x1, rfl, rfl, rfl, w1⟩ := open_int Tryd.underlying3 (hval 1 3 v1 rfl rfl) h1
  clear hA0 hval0
  simp only [List.append_nil] at hW'
  obtain ⟨argsA, ha, hrun⟩ := forms_all w0 w1
  refine (run_true hrun hL ha).mono fun e W' ⟨he, hb⟩ => ?_
  subst he
  refine ⟨_, rfl, [.lit (.int .i64 x0), .lit (.int .i64 x1)], [], [], [], [], [], hW', ?_, ?_, rfl, hb.frame _, fun h => by cases h⟩
  · exact trodAll_mk1 (shut_bool Tryd.underlying4 _)
  · exact trodAll_mk2 (shut_int Tryd.underlying3 w0) (shut_int Tryd.underlying3 w1)

theorem forms_holds : Rows.VerifyFormsSaid :=
  OpenClaim.holds_of_wide 8 Tryd.f8 rfl rfl rfl rfl rfl rfl rfl ⟨rfl, rfl, rfl, rfl, rfl⟩ rfl rfl rfl rfl rfl (by kernel_rfl) Tryd.func8 (by kernel_rfl)
    (of_decide_eq_true (by kernel_rfl)) (by unfold Func.isWrapper; first | (rw [if_pos (by decide +kernel)]; kernel_rfl) | (rw [if_neg (by decide +kernel)]; exact ⟨rfl, rfl⟩))
    (fun os started H enc _ => forms_lifted os started H enc)

theorem forms_card : Rows.VerifyFormsCardSaid :=
  Claim7.holds_tied_plain_at .later [] [.listed, .data] true (true, "723e1c8e6aae577151c2eb82f9142ce590763f8481064b04f69042648b11b070") true
    forms_holds (fun _ h => by cases h) (by kernel_rfl) (fun _ h => by cases h) verifyForms_row_tie rfl ⟨rfl, rfl⟩ (by kernel_rfl) rfl
    (fun f fn hf hfn => by
      obtain rfl : f = 8 := Option.some.inj ((show Tryd.prog.funcNamed "gneiss/gneisslaw18.VerifyForms" = some 8 by kernel_rfl).symm.trans hf) |>.symm
      obtain rfl : fn = Tryd.f8 := (Option.some.inj (Tryd.func8.symm.trans hfn)).symm
      exact ⟨by kernel_rfl, fun j t ht => by
        rw [Tryd.params8] at ht
        have h3 : t = 3 := by
          rcases j with _ | _ | j
          · simpa using ht.symm
          · simpa using ht.symm
          · simp at ht
        subst h3
        exact (show Tryd.prog.wantsStandIn 3 = false by kernel_rfl)⟩)
    (by kernel_rfl)
end Go.Ev
namespace Go.Proofs.YtjpcncllagooeaaDoor
theorem verifyForms_card_holds : Rows.VerifyFormsCardSaid := Go.Ev.forms_card
#print axioms verifyForms_card_holds
end Go.Proofs.YtjpcncllagooeaaDoor
