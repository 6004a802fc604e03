/- 'VerifyTypes' returns true for every input and its arguments read behind the call as they read before. Conditions: the two listed package-level variables start as the program's text lays them (the card ties them to the text); a verified evaluator ('Go.Ev', EvDef .. EvTop) is run in the kernel once for each case of the input. -/
import Derived.Test.YtjpcncllagooeaaDoorEvTypesR0
import Derived.Test.YtjpcncllagooeaaDoorEvTypesR1
import Derived.Test.YtjpcncllagooeaaDoorEvTypesR2
import Derived.Test.YtjpcncllagooeaaDoorEvTypesR3
import Derived.Test.YtjpcncllagooeaaDoorEvTypesR4
import Derived.Test.YtjpcncllagooeaaDoorEvTypesR5
import Derived.Test.YtjpcncllagooeaaDoorCards
import Derived.SevenTiedAt
namespace Go.Ev
set_option maxRecDepth 100000
open Go.Proofs Go.Proofs.YtjpcncllagooeaaDoor Go.ChangeShapes Go.WideShapes Go.ChangeAt Go.WideMaps Go.WideElems Go.RowKit

theorem types_all (x0 : Int) (x1 : Bool) : ∃ args, LRel inj0 args [.int .i64 x0, .bool x1] ∧ isTrue (evC env1 100000 1000 5 args H0) = true := by
  obtain ⟨r0, h0, e0⟩ := rem_rel (ι := inj0) 12 (by decide) (n := x0)
  refine ⟨_, .cons _ _ _ _ e0 (.cons _ _ _ _ (.bool x1) .nil), ?_⟩
  match r0, h0 with
  | 0, _ =>
    cases x1 with
    | false =>
      exact types_run_0_false
    | true =>
      exact types_run_0_true
  | 1, _ =>
    cases x1 with
    | false =>
      exact types_run_1_false
    | true =>
      exact types_run_1_true
  | 2, _ =>
    cases x1 with
    | false =>
      exact types_run_2_false
    | true =>
      exact types_run_2_true
  | 3, _ =>
    cases x1 with
    | false =>
      exact types_run_3_false
    | true =>
      exact types_run_3_true
  | 4, _ =>
    cases x1 with
    | false =>
      exact types_run_4_false
    | true =>
      exact types_run_4_true
  | 5, _ =>
    cases x1 with
    | false =>
      exact types_run_5_false
    | true =>
      exact types_run_5_true
  | 6, _ =>
    cases x1 with
    | false =>
      exact types_run_6_false
    | true =>
      exact types_run_6_true
  | 7, _ =>
    cases x1 with
    | false =>
      exact types_run_7_false
    | true =>
      exact types_run_7_true
  | 8, _ =>
    cases x1 with
    | false =>
      exact types_run_8_false
    | true =>
      exact types_run_8_true
  | 9, _ =>
    cases x1 with
    | false =>
      exact types_run_9_false
    | true =>
      exact types_run_9_true
  | 10, _ =>
    cases x1 with
    | false =>
      exact types_run_10_false
    | true =>
      exact types_run_10_true
  | 11, _ =>
    cases x1 with
    | false =>
      exact types_run_11_false
    | true =>
      exact types_run_11_true
  | r + 12, h =>
    have h' : r + 12 < 12 := h
    omega

theorem types_lifted (os : Os) (started : os.Started) (H : Type) (enc : TypeId × Value → H) :
    ReturnsInHanded {} Tryd.checked os 5 .any (fun w args => (Rows.verifyTypesSpec.pre enc Tryd.prog Tryd.f5 [] false w args ∧ laidMetH Tryd.prog laid2 w) ∧ sizedMet enc Tryd.prog Tryd.f5 (OpenSpec.ofChange Rows.verifyTypesSpec) false w args)
      (Rows.verifyTypesSpec.post enc Tryd.prog Tryd.f5 false true false false) := by
  refine returnsInHanded_of_change_and (C := Tryd.checked) (X := fun w _ => laidMetH Tryd.prog laid2 w) (fun _ _ _ hh h => h.of_heap hh) own started (by kernel_rfl) Tryd.func5
    (ChangeSpec.witness_shaped (enc := enc) (C := Tryd.checked) (os := os) (X := fun w _ => laidMetH Tryd.prog laid2 w) false (World.doorLaid Tryd.prog 400 os) #[.int .i64 0, .bool false] 8 rfl (World.shaped_of_RefB (by kernel_rfl) (by kernel_rfl)) (by kernel_rfl) (by kernel_rfl) (by kernel_rfl) (door_met os _)) ?_
  intro W base args ds gs before hval0 hW _ _ hL _
  have hval : ∀ (j : Nat) t v, Tryd.f5.params[j]? = some t → args[j]? = some v → Value.okWide Tryd.prog W .any base t v := hval0
  have hW' := hW
  obtain ⟨p, q, hA0, hV, rfl, hfz, hnd⟩ := hW
  have hA : DataW.TrodAll enc Tryd.prog W 0 (fun _ => true) true Tryd.f5.params.toList args.toList ds p := hA0
  rw [Tryd.params5] at hA hval
  obtain ⟨v0, v1, d0, d1, p0, p1, rfl, rfl, rfl, h0, h1⟩ := trodAll_two hA
  obtain ⟨rfl, rfl⟩ := trodVars_none hV
  obtain ⟨x0, rfl, rfl, rfl, w0⟩ := open_int Tryd.underlying3 (hval 0 3 v0 rfl rfl) h0
  obtain ⟨x1, rfl, rfl, rfl⟩ := open_bool Tryd.underlying4 (hval 1 4 v1 rfl rfl) h1
  clear hA0 hval0
  simp only [List.append_nil] at hW'
  obtain ⟨argsA, ha, hrun⟩ := types_all x0 x1
  refine (run_true hrun hL ha).mono fun e W' ⟨he, hb⟩ => ?_
  subst he
  refine ⟨_, rfl, [.lit (.int .i64 x0), .lit (.bool x1)], [], [], [], [], [], hW', ?_, ?_, rfl, hb.frame _, fun h => by cases h⟩
  · exact trodAll_mk1 (shut_bool Tryd.underlying4 _)
  · exact trodAll_mk2 (shut_int Tryd.underlying3 w0) (shut_bool Tryd.underlying4 _)

theorem types_holds : Rows.VerifyTypesSaid :=
  OpenClaim.holds_of_wide 5 Tryd.f5 rfl rfl rfl rfl rfl rfl rfl ⟨rfl, rfl, rfl, rfl, rfl⟩ rfl rfl rfl rfl rfl (by kernel_rfl) Tryd.func5 (by kernel_rfl)
    (of_decide_eq_true (by kernel_rfl)) (by unfold Func.isWrapper; first | (rw [if_pos (by decide +kernel)]; kernel_rfl) | (rw [if_neg (by decide +kernel)]; exact ⟨rfl, rfl⟩))
    (fun os started H enc _ => types_lifted os started H enc)

theorem types_card : Rows.VerifyTypesCardSaid :=
  Claim7.holds_tied_plain_at .later [] [.listed, .data] true (true, "723e1c8e6aae577151c2eb82f9142ce590763f8481064b04f69042648b11b070") true
    types_holds (fun _ h => by cases h) (by kernel_rfl) (fun _ h => by cases h) verifyTypes_row_tie rfl ⟨rfl, rfl⟩ (by kernel_rfl) rfl
    (fun f fn hf hfn => by
      obtain rfl : f = 5 := Option.some.inj ((show Tryd.prog.funcNamed "gneiss/gneisslaw18.VerifyTypes" = some 5 by kernel_rfl).symm.trans hf) |>.symm
      obtain rfl : fn = Tryd.f5 := (Option.some.inj (Tryd.func5.symm.trans hfn)).symm
      exact ⟨by kernel_rfl, fun j t ht => by
        rw [Tryd.params5] at ht
        have h3 : t = 3 ∨ t = 4 := by
          rcases j with _ | _ | j
          · exact .inl (by simpa using ht.symm)
          · exact .inr (by simpa using ht.symm)
          · simp at ht
        rcases h3 with rfl | rfl
        · exact (show Tryd.prog.wantsStandIn 3 = false by kernel_rfl)
        · exact (show Tryd.prog.wantsStandIn 4 = false by kernel_rfl)⟩)
    (by kernel_rfl)
end Go.Ev
namespace Go.Proofs.YtjpcncllagooeaaDoor
theorem verifyTypes_card_holds : Rows.VerifyTypesCardSaid := Go.Ev.types_card
#print axioms verifyTypes_card_holds
end Go.Proofs.YtjpcncllagooeaaDoor
