/- 'RunRecursion' returns true for every input and its arguments read behind the call as they read before. Conditions: the two listed package-level variables start as the program's text lays them (the card ties them to the text); a verified evaluator ('Go.Ev', EvDef .. EvTop) is run in the kernel once for each case of the input. -/
import Derived.Test.YtbehlkbeofoahaaGreatDoorEvRecursionR0
import Derived.Test.YtbehlkbeofoahaaGreatDoorEvRecursionR1
import Derived.Test.YtbehlkbeofoahaaGreatDoorEvRecursionR2
import Derived.Test.YtbehlkbeofoahaaGreatDoorEvRecursionR3
import Derived.Test.YtbehlkbeofoahaaGreatDoorEvRecursionR4
import Derived.Test.YtbehlkbeofoahaaGreatDoorEvRecursionR5
import Derived.Test.YtbehlkbeofoahaaGreatDoorEvRecursionR6
import Derived.Test.YtbehlkbeofoahaaGreatDoorEvRecursionR7
import Derived.Test.YtbehlkbeofoahaaGreatDoorEvRecursionR8
import Derived.Test.YtbehlkbeofoahaaGreatDoorEvRecursionR9
import Derived.Test.YtbehlkbeofoahaaGreatDoorEvRecursionR10
import Derived.Test.YtbehlkbeofoahaaGreatDoorEvRecursionR11
import Derived.Test.YtbehlkbeofoahaaGreatDoorEvRecursionR12
import Derived.Test.YtbehlkbeofoahaaGreatDoorEvRecursionR13
import Derived.Test.YtbehlkbeofoahaaGreatDoorEvRecursionR14
import Derived.Test.YtbehlkbeofoahaaGreatDoorEvRecursionR15
import Derived.Test.YtbehlkbeofoahaaGreatDoorCards
import Derived.SevenTiedAt
namespace Go.Ev
set_option maxRecDepth 100000
open Go.Proofs Go.Proofs.YtbehlkbeofoahaaGreatDoor Go.ChangeShapes Go.WideShapes Go.ChangeAt Go.WideMaps Go.WideElems Go.RowKit

theorem recursion_all {x0 : Int} (w0 : (Lit.int .i64 x0).wf = true) : ∃ M1 M2 args, MemosOk M1 M2 ∧ LRel inj0 args [.int .i64 x0] ∧ isTrue (evC (envM M1 M2) 100000 1000 8 args H0) = true := by
  obtain ⟨r0, h0, e0⟩ := and_rel (ι := inj0) 5 (by decide) w0
  match r0, h0 with
  | 0, _ => exact ⟨_, _, _, recursion_ok_0, .cons _ _ _ _ e0 .nil, recursion_run_0⟩
  | 1, _ => exact ⟨_, _, _, recursion_ok_1, .cons _ _ _ _ e0 .nil, recursion_run_1⟩
  | 2, _ => exact ⟨_, _, _, recursion_ok_2, .cons _ _ _ _ e0 .nil, recursion_run_2⟩
  | 3, _ => exact ⟨_, _, _, recursion_ok_3, .cons _ _ _ _ e0 .nil, recursion_run_3⟩
  | 4, _ => exact ⟨_, _, _, recursion_ok_4, .cons _ _ _ _ e0 .nil, recursion_run_4⟩
  | 5, _ => exact ⟨_, _, _, recursion_ok_5, .cons _ _ _ _ e0 .nil, recursion_run_5⟩
  | 6, _ => exact ⟨_, _, _, recursion_ok_6, .cons _ _ _ _ e0 .nil, recursion_run_6⟩
  | 7, _ => exact ⟨_, _, _, recursion_ok_7, .cons _ _ _ _ e0 .nil, recursion_run_7⟩
  | 8, _ => exact ⟨_, _, _, recursion_ok_8, .cons _ _ _ _ e0 .nil, recursion_run_8⟩
  | 9, _ => exact ⟨_, _, _, recursion_ok_9, .cons _ _ _ _ e0 .nil, recursion_run_9⟩
  | 10, _ => exact ⟨_, _, _, recursion_ok_10, .cons _ _ _ _ e0 .nil, recursion_run_10⟩
  | 11, _ => exact ⟨_, _, _, recursion_ok_11, .cons _ _ _ _ e0 .nil, recursion_run_11⟩
  | 12, _ => exact ⟨_, _, _, recursion_ok_12, .cons _ _ _ _ e0 .nil, recursion_run_12⟩
  | 13, _ => exact ⟨_, _, _, recursion_ok_13, .cons _ _ _ _ e0 .nil, recursion_run_13⟩
  | 14, _ => exact ⟨_, _, _, recursion_ok_14, .cons _ _ _ _ e0 .nil, recursion_run_14⟩
  | 15, _ => exact ⟨_, _, _, recursion_ok_15, .cons _ _ _ _ e0 .nil, recursion_run_15⟩
  | 16, _ => exact ⟨_, _, _, recursion_ok_16, .cons _ _ _ _ e0 .nil, recursion_run_16⟩
  | 17, _ => exact ⟨_, _, _, recursion_ok_17, .cons _ _ _ _ e0 .nil, recursion_run_17⟩
  | 18, _ => exact ⟨_, _, _, recursion_ok_18, .cons _ _ _ _ e0 .nil, recursion_run_18⟩
  | 19, _ => exact ⟨_, _, _, recursion_ok_19, .cons _ _ _ _ e0 .nil, recursion_run_19⟩
  | 20, _ => exact ⟨_, _, _, recursion_ok_20, .cons _ _ _ _ e0 .nil, recursion_run_20⟩
  | 21, _ => exact ⟨_, _, _, recursion_ok_21, .cons _ _ _ _ e0 .nil, recursion_run_21⟩
  | 22, _ => exact ⟨_, _, _, recursion_ok_22, .cons _ _ _ _ e0 .nil, recursion_run_22⟩
  | 23, _ => exact ⟨_, _, _, recursion_ok_23, .cons _ _ _ _ e0 .nil, recursion_run_23⟩
  | 24, _ => exact ⟨_, _, _, recursion_ok_24, .cons _ _ _ _ e0 .nil, recursion_run_24⟩
  | 25, _ => exact ⟨_, _, _, recursion_ok_25, .cons _ _ _ _ e0 .nil, recursion_run_25⟩
  | 26, _ => exact ⟨_, _, _, recursion_ok_26, .cons _ _ _ _ e0 .nil, recursion_run_26⟩
  | 27, _ => exact ⟨_, _, _, recursion_ok_27, .cons _ _ _ _ e0 .nil, recursion_run_27⟩
  | 28, _ => exact ⟨_, _, _, recursion_ok_28, .cons _ _ _ _ e0 .nil, recursion_run_28⟩
  | 29, _ => exact ⟨_, _, _, recursion_ok_29, .cons _ _ _ _ e0 .nil, recursion_run_29⟩
  | 30, _ => exact ⟨_, _, _, recursion_ok_30, .cons _ _ _ _ e0 .nil, recursion_run_30⟩
  | 31, _ => exact ⟨_, _, _, recursion_ok_31, .cons _ _ _ _ e0 .nil, recursion_run_31⟩
  | r + 32, h =>
    have h' : r + 32 < 32 := h
    omega

theorem recursion_lifted (os : Os) (started : os.Started) (H : Type) (enc : TypeId × Value → H) :
    ReturnsInHanded {} Tryz.checked os 8 .any (fun w args => (Rows.runRecursionSpec.pre enc Tryz.prog Tryz.f8 [] false w args ∧ laidMetH Tryz.prog laid2 w) ∧ sizedMet enc Tryz.prog Tryz.f8 (OpenSpec.ofChange Rows.runRecursionSpec) false w args)
      (Rows.runRecursionSpec.post enc Tryz.prog Tryz.f8 false true false false) := by
  refine returnsInHanded_of_change_and (C := Tryz.checked) (X := fun w _ => laidMetH Tryz.prog laid2 w) (fun _ _ _ hh h => h.of_heap hh) own started (by kernel_rfl) Tryz.func8
    (ChangeSpec.witness_shaped (enc := enc) (C := Tryz.checked) (os := os) (X := fun w _ => laidMetH Tryz.prog laid2 w) false (World.doorLaid Tryz.prog 400 os) #[.int .i64 0] 8 rfl (World.shaped_of_RefB (by kernel_rfl) (by kernel_rfl)) (by kernel_rfl) (by kernel_rfl) (by kernel_rfl) (door_met os _)) ?_
  intro W base args ds gs before hval0 hW _ _ hL _
  have hval : ∀ (j : Nat) t v, Tryz.f8.params[j]? = some t → args[j]? = some v → Value.okWide Tryz.prog W .any base t v := hval0
  have hW' := hW
  obtain ⟨p, q, hA0, hV, rfl, hfz, hnd⟩ := hW
  have hA : DataW.TrodAll enc Tryz.prog W 0 (fun _ => true) true Tryz.f8.params.toList args.toList ds p := hA0
  rw [Tryz.params8] at hA hval
  obtain ⟨v0, d0, rfl, rfl, h0⟩ := trodAll_one hA
  obtain ⟨rfl, rfl⟩ := trodVars_none hV
  obtain ⟨x0, rfl, rfl, rfl, w0⟩ := open_int Tryz.underlying3 (hval 0 3 v0 rfl rfl) h0
  clear hA0 hval0
  simp only [List.append_nil] at hW'
  obtain ⟨M1, M2, argsA, hM, ha, hrun⟩ := recursion_all w0
  refine (runM_true hM hrun hL ha).mono fun e W' ⟨he, hb⟩ => ?_
  subst he
  refine ⟨_, rfl, [.lit (.int .i64 x0)], [], [], [], [], [], hW', ?_, ?_, rfl, hb.frame _, fun h => by cases h⟩
  · exact trodAll_mk1 (shut_bool Tryz.underlying4 _)
  · exact trodAll_mk1 (shut_int Tryz.underlying3 w0)

theorem recursion_q1 : (Rows.runRecursionRow.inPlace == Tryz.pinned.checked.prog.inPlace 8) = true := by kernel_rfl
theorem recursion_q2 : (Rows.runRecursionRow.unfollowed == Tryz.pinned.checked.prog.unfollowed 8) = true := by kernel_rfl
theorem recursion_q3 : (Rows.runRecursionRow.recurses == Tryz.pinned.checked.prog.recurses 8) = true := by kernel_rfl
theorem recursion_q4 : (Rows.runRecursionRow.named == Tryz.pinned.checked.prog.varsNamed 8) = true := by kernel_rfl
theorem recursion_facts : joinedFacts Tryz.pinned.checked.prog 8 Tryz.f8 Rows.runRecursionSpec Rows.runRecursionRow = true := by
  unfold joinedFacts
  rw [recursion_q1, recursion_q2, recursion_q3, recursion_q4]
  kernel_rfl
theorem recursion_holds : Rows.RunRecursionSaid :=
  OpenClaim.holds_of_wide 8 Tryz.f8 rfl rfl rfl rfl rfl rfl rfl ⟨rfl, rfl, rfl, rfl, rfl⟩ rfl rfl rfl rfl rfl (by kernel_rfl) Tryz.func8 recursion_facts
    (of_decide_eq_true (by kernel_rfl)) (by unfold Func.isWrapper; first | (rw [if_pos (by decide +kernel)]; kernel_rfl) | (rw [if_neg (by decide +kernel)]; exact ⟨rfl, rfl⟩))
    (fun os started H enc _ => recursion_lifted os started H enc)

theorem recursion_q5 : true = Tryz.pinned.checked.prog.looks [] := by kernel_rfl
theorem recursion_q6 : false = Rows.runRecursionRow.goesBy Tryz.pinned.checked.prog := by kernel_rfl
theorem recursion_q7 : Tryz.pinned.checked.prog.mainIs = some ((true, "1079f25ad37c2ef5bd58db438085494c850a6ee59dd903de61aa31810cc6bffd").1, (true, "1079f25ad37c2ef5bd58db438085494c850a6ee59dd903de61aa31810cc6bffd").2.toList) := by kernel_rfl
theorem recursion_card : Rows.RunRecursionCardSaid :=
  Claim7.holds_tied_plain_at .later [] [.listed, .data] true (true, "1079f25ad37c2ef5bd58db438085494c850a6ee59dd903de61aa31810cc6bffd") true
    recursion_holds (fun _ h => by cases h) (by kernel_rfl) (fun _ h => by cases h) runRecursion_row_tie rfl ⟨rfl, rfl⟩ recursion_q7 rfl
    (fun f fn hf hfn => by
      obtain rfl : f = 8 := Option.some.inj ((show Tryz.prog.funcNamed "gneiss/gneisslaw25.RunRecursion" = some 8 by kernel_rfl).symm.trans hf) |>.symm
      obtain rfl : fn = Tryz.f8 := (Option.some.inj (Tryz.func8.symm.trans hfn)).symm
      exact ⟨recursion_q5, fun j t ht => by
        rw [Tryz.params8] at ht
        have h3 : t = 3 := by
          rcases j with _ | j
          · simpa using ht.symm
          · simp at ht
        subst h3
        exact (show Tryz.prog.wantsStandIn 3 = false by kernel_rfl)⟩)
    recursion_q6
end Go.Ev
namespace Go.Proofs.YtbehlkbeofoahaaGreatDoor
theorem runRecursion_card_holds : Rows.RunRecursionCardSaid := Go.Ev.recursion_card
#print axioms runRecursion_card_holds
end Go.Proofs.YtbehlkbeofoahaaGreatDoor
