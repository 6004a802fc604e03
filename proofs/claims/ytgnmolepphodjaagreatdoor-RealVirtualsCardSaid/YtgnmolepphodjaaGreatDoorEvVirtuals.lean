/- 'RealVirtuals' returns true for every input and its arguments read behind the call as they read before. Conditions: the two listed package-level variables start as the program's text lays them (the card ties them to the text); a verified evaluator ('Go.Ev', EvDef .. EvTop) is run in the kernel once for each case of the input. -/
import Derived.Test.YtgnmolepphodjaaGreatDoorEvVirtualsR0
import Derived.Test.YtgnmolepphodjaaGreatDoorEvVirtualsR1
import Derived.Test.YtgnmolepphodjaaGreatDoorEvVirtualsR2
import Derived.Test.YtgnmolepphodjaaGreatDoorEvVirtualsR3
import Derived.Test.YtgnmolepphodjaaGreatDoorEvVirtualsR4
import Derived.Test.YtgnmolepphodjaaGreatDoorEvVirtualsR5
import Derived.Test.YtgnmolepphodjaaGreatDoorCards
import Derived.SevenTiedAt
namespace Go.Ev
set_option maxRecDepth 100000
open Go.Proofs Go.Proofs.YtgnmolepphodjaaGreatDoor Go.ChangeShapes Go.WideShapes Go.ChangeAt Go.WideMaps Go.WideElems Go.RowKit

theorem virtuals_all (x0 : Int) (x1 : Bool) : ∃ args, LRel inj0 args [.int .i64 x0, .bool x1] ∧ isTrue (evC env1 100000 1000 4 args H0) = true := by
  obtain ⟨r0, h0, e0⟩ := rem_rel (ι := inj0) 3 (by decide) (n := x0)
  refine ⟨_, .cons _ _ _ _ e0 (.cons _ _ _ _ (.bool x1) .nil), ?_⟩
  match r0, h0 with
  | 0, _ =>
    cases x1 with
    | false =>
      exact virtuals_run_0_false
    | true =>
      exact virtuals_run_0_true
  | 1, _ =>
    cases x1 with
    | false =>
      exact virtuals_run_1_false
    | true =>
      exact virtuals_run_1_true
  | 2, _ =>
    cases x1 with
    | false =>
      exact virtuals_run_2_false
    | true =>
      exact virtuals_run_2_true
  | r + 3, h =>
    have h' : r + 3 < 3 := h
    omega

theorem virtuals_lifted (os : Os) (started : os.Started) (H : Type) (enc : TypeId × Value → H) :
    ReturnsInHanded {} Tryz.checked os 4 .any (fun w args => (Rows.realVirtualsSpec.pre enc Tryz.prog Tryz.f4 [] false w args ∧ laidMetH Tryz.prog laid2 w) ∧ sizedMet enc Tryz.prog Tryz.f4 (OpenSpec.ofChange Rows.realVirtualsSpec) false w args)
      (Rows.realVirtualsSpec.post enc Tryz.prog Tryz.f4 false true false false) := by
  refine returnsInHanded_of_change_and (C := Tryz.checked) (X := fun w _ => laidMetH Tryz.prog laid2 w) (fun _ _ _ hh h => h.of_heap hh) own started (by kernel_rfl) Tryz.func4
    (ChangeSpec.witness_shaped (enc := enc) (C := Tryz.checked) (os := os) (X := fun w _ => laidMetH Tryz.prog laid2 w) false (World.doorLaid Tryz.prog 400 os) #[.int .i64 0, .bool false] 8 rfl (World.shaped_of_RefB (by kernel_rfl) (by kernel_rfl)) (by kernel_rfl) (by kernel_rfl) (by kernel_rfl) (door_met os _)) ?_
  intro W base args ds gs before hval0 hW _ _ hL _
  have hval : ∀ (j : Nat) t v, Tryz.f4.params[j]? = some t → args[j]? = some v → Value.okWide Tryz.prog W .any base t v := hval0
  have hW' := hW
  obtain ⟨p, q, hA0, hV, rfl, hfz, hnd⟩ := hW
  have hA : DataW.TrodAll enc Tryz.prog W 0 (fun _ => true) true Tryz.f4.params.toList args.toList ds p := hA0
  rw [Tryz.params4] at hA hval
  obtain ⟨v0, v1, d0, d1, p0, p1, rfl, rfl, rfl, h0, h1⟩ := trodAll_two hA
  obtain ⟨rfl, rfl⟩ := trodVars_none hV
  obtain ⟨x0, rfl, rfl, rfl, w0⟩ := open_int Tryz.underlying3 (hval 0 3 v0 rfl rfl) h0
  obtain ⟨x1, rfl, rfl, rfl⟩ := open_bool Tryz.underlying4 (hval 1 4 v1 rfl rfl) h1
  clear hA0 hval0
  simp only [List.append_nil] at hW'
  obtain ⟨argsA, ha, hrun⟩ := virtuals_all x0 x1
  refine (run_true hrun hL ha).mono fun e W' ⟨he, hb⟩ => ?_
  subst he
  refine ⟨_, rfl, [.lit (.int .i64 x0), .lit (.bool x1)], [], [], [], [], [], hW', ?_, ?_, rfl, hb.frame _, fun h => by cases h⟩
  · exact trodAll_mk1 (shut_bool Tryz.underlying4 _)
  · exact trodAll_mk2 (shut_int Tryz.underlying3 w0) (shut_bool Tryz.underlying4 _)

theorem virtuals_holds : Rows.RealVirtualsSaid :=
  OpenClaim.holds_of_wide 4 Tryz.f4 rfl rfl rfl rfl rfl rfl rfl ⟨rfl, rfl, rfl, rfl, rfl⟩ rfl rfl rfl rfl rfl (by kernel_rfl) Tryz.func4 (by kernel_rfl)
    (of_decide_eq_true (by kernel_rfl)) (by unfold Func.isWrapper; first | (rw [if_pos (by decide +kernel)]; kernel_rfl) | (rw [if_neg (by decide +kernel)]; exact ⟨rfl, rfl⟩))
    (fun os started H enc _ => virtuals_lifted os started H enc)

theorem virtuals_card : Rows.RealVirtualsCardSaid :=
  Claim7.holds_tied_plain_at .later [] [.listed, .data] true (true, "f1dffc4224963b3df0faf7874f5a088284be3220ab322fe575f3ea04534fcf50") true
    virtuals_holds (fun _ h => by cases h) (by kernel_rfl) (fun _ h => by cases h) realVirtuals_row_tie rfl ⟨rfl, rfl⟩ (by kernel_rfl) rfl
    (fun f fn hf hfn => by
      obtain rfl : f = 4 := Option.some.inj ((show Tryz.prog.funcNamed "gneiss/gneisslaw23.RealVirtuals" = some 4 by kernel_rfl).symm.trans hf) |>.symm
      obtain rfl : fn = Tryz.f4 := (Option.some.inj (Tryz.func4.symm.trans hfn)).symm
      exact ⟨by kernel_rfl, fun j t ht => by
        rw [Tryz.params4] at ht
        have h3 : t = 3 ∨ t = 4 := by
          rcases j with _ | _ | j
          · exact .inl (by simpa using ht.symm)
          · exact .inr (by simpa using ht.symm)
          · simp at ht
        rcases h3 with rfl | rfl
        · exact (show Tryz.prog.wantsStandIn 3 = false by kernel_rfl)
        · exact (show Tryz.prog.wantsStandIn 4 = false by kernel_rfl)⟩)
    (by kernel_rfl)
end Go.Ev
namespace Go.Proofs.YtgnmolepphodjaaGreatDoor
theorem realVirtuals_card_holds : Rows.RealVirtualsCardSaid := Go.Ev.virtuals_card
#print axioms realVirtuals_card_holds
end Go.Proofs.YtgnmolepphodjaaGreatDoor
