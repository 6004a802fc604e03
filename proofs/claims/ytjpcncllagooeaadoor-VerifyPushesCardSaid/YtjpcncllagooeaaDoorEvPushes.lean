/- 'VerifyPushes' returns true for every input and its arguments read behind the call as they read before. Conditions: the two listed package-level variables start as the program's text lays them (the card ties them to the text); a verified evaluator ('Go.Ev', EvDef .. EvTop) is run in the kernel once for each case of the input. -/
import Derived.Test.YtjpcncllagooeaaDoorEvPushesR0
import Derived.Test.YtjpcncllagooeaaDoorEvPushesR1
import Derived.Test.YtjpcncllagooeaaDoorEvPushesR2
import Derived.Test.YtjpcncllagooeaaDoorEvPushesR3
import Derived.Test.YtjpcncllagooeaaDoorEvPushesR4
import Derived.Test.YtjpcncllagooeaaDoorEvPushesR5
import Derived.Test.YtjpcncllagooeaaDoorCards
import Derived.SevenTiedAt
namespace Go.Ev
set_option maxRecDepth 100000
open Go.Proofs Go.Proofs.YtjpcncllagooeaaDoor Go.ChangeShapes Go.WideShapes Go.ChangeAt Go.WideMaps Go.WideElems Go.RowKit

theorem pushes_all (x0 : Int) : ∃ args, LRel inj0 args [.int .i64 x0] ∧ isTrue (evC env1 100000 1000 13 args H0) = true := by
  obtain ⟨r0, h0, e0⟩ := rem_rel (ι := inj0) 11 (by decide) (n := x0)
  refine ⟨_, .cons _ _ _ _ e0 .nil, ?_⟩
  match r0, h0 with
  | 0, _ =>
    exact pushes_run_0
  | 1, _ =>
    exact pushes_run_1
  | 2, _ =>
    exact pushes_run_2
  | 3, _ =>
    exact pushes_run_3
  | 4, _ =>
    exact pushes_run_4
  | 5, _ =>
    exact pushes_run_5
  | 6, _ =>
    exact pushes_run_6
  | 7, _ =>
    exact pushes_run_7
  | 8, _ =>
    exact pushes_run_8
  | 9, _ =>
    exact pushes_run_9
  | 10, _ =>
    exact pushes_run_10
  | r + 11, h =>
    have h' : r + 11 < 11 := h
    omega

theorem pushes_lifted (os : Os) (started : os.Started) (H : Type) (enc : TypeId × Value → H) :
    ReturnsInHanded {} Tryd.checked os 13 .any (fun w args => (Rows.verifyPushesSpec.pre enc Tryd.prog Tryd.f13 [] false w args ∧ laidMetH Tryd.prog laid2 w) ∧ sizedMet enc Tryd.prog Tryd.f13 (OpenSpec.ofChange Rows.verifyPushesSpec) false w args)
      (Rows.verifyPushesSpec.post enc Tryd.prog Tryd.f13 false true false false) := by
  refine returnsInHanded_of_change_and (C := Tryd.checked) (X := fun w _ => laidMetH Tryd.prog laid2 w) (fun _ _ _ hh h => h.of_heap hh) own started (by kernel_rfl) Tryd.func13
    (ChangeSpec.witness_shaped (enc := enc) (C := Tryd.checked) (os := os) (X := fun w _ => laidMetH Tryd.prog laid2 w) false (World.doorLaid Tryd.prog 400 os) #[.int .i64 0] 8 rfl (World.shaped_of_RefB (by kernel_rfl) (by kernel_rfl)) (by kernel_rfl) (by kernel_rfl) (by kernel_rfl) (door_met os _)) ?_
  intro W base args ds gs before hval0 hW _ _ hL _
  have hval : ∀ (j : Nat) t v, Tryd.f13.params[j]? = some t → args[j]? = some v → Value.okWide Tryd.prog W .any base t v := hval0
  have hW' := hW
  obtain ⟨p, q, hA0, hV, rfl, hfz, hnd⟩ := hW
  have hA : DataW.TrodAll enc Tryd.prog W 0 (fun _ => true) true Tryd.f13.params.toList args.toList ds p := hA0
  rw [Tryd.params13] at hA hval
  obtain ⟨v0, d0, rfl, rfl, h0⟩ := trodAll_one hA
  obtain ⟨rfl, rfl⟩ := trodVars_none hV
  obtain ⟨x0, rfl, rfl, rfl, w0⟩ := open_int Tryd.underlying3 (hval 0 3 v0 rfl rfl) h0
  clear hA0 hval0
  simp only [List.append_nil] at hW'
  obtain ⟨argsA, ha, hrun⟩ := pushes_all x0
  refine (run_true hrun hL ha).mono fun e W' ⟨he, hb⟩ => ?_
  subst he
  refine ⟨_, rfl, [.lit (.int .i64 x0)], [], [], [], [], [], hW', ?_, ?_, rfl, hb.frame _, fun h => by cases h⟩
  · exact trodAll_mk1 (shut_bool Tryd.underlying4 _)
  · exact trodAll_mk1 (shut_int Tryd.underlying3 w0)

theorem pushes_holds : Rows.VerifyPushesSaid :=
  OpenClaim.holds_of_wide 13 Tryd.f13 rfl rfl rfl rfl rfl rfl rfl ⟨rfl, rfl, rfl, rfl, rfl⟩ rfl rfl rfl rfl rfl (by kernel_rfl) Tryd.func13 (by kernel_rfl)
    (of_decide_eq_true (by kernel_rfl)) (by unfold Func.isWrapper; first | (rw [if_pos (by decide +kernel)]; kernel_rfl) | (rw [if_neg (by decide +kernel)]; exact ⟨rfl, rfl⟩))
    (fun os started H enc _ => pushes_lifted os started H enc)

theorem pushes_card : Rows.VerifyPushesCardSaid :=
  Claim7.holds_tied_plain_at .later [] [.listed, .data] true (true, "723e1c8e6aae577151c2eb82f9142ce590763f8481064b04f69042648b11b070") true
    pushes_holds (fun _ h => by cases h) (by kernel_rfl) (fun _ h => by cases h) verifyPushes_row_tie rfl ⟨rfl, rfl⟩ (by kernel_rfl) rfl
    (fun f fn hf hfn => by
      obtain rfl : f = 13 := Option.some.inj ((show Tryd.prog.funcNamed "gneiss/gneisslaw18.VerifyPushes" = some 13 by kernel_rfl).symm.trans hf) |>.symm
      obtain rfl : fn = Tryd.f13 := (Option.some.inj (Tryd.func13.symm.trans hfn)).symm
      exact ⟨by kernel_rfl, fun j t ht => by
        rw [Tryd.params13] at ht
        have h3 : t = 3 := by
          rcases j with _ | j
          · simpa using ht.symm
          · simp at ht
        subst h3
        exact (show Tryd.prog.wantsStandIn 3 = false by kernel_rfl)⟩)
    (by kernel_rfl)
end Go.Ev
namespace Go.Proofs.YtjpcncllagooeaaDoor
theorem verifyPushes_card_holds : Rows.VerifyPushesCardSaid := Go.Ev.pushes_card
#print axioms verifyPushes_card_holds
end Go.Proofs.YtjpcncllagooeaaDoor
