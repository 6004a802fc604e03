/- 'RealRecursion' returns true for every input and its arguments read behind the call as they read before. Conditions: the two listed package-level variables start as the program's text lays them (the card ties them to the text); a verified evaluator ('Go.Ev', EvDef .. EvTop) is run in the kernel once for each case of the input. -/
import Derived.Test.YthhfkiffnmiilaaGreatDoorEvRecursionR0
import Derived.Test.YthhfkiffnmiilaaGreatDoorEvRecursionR1
import Derived.Test.YthhfkiffnmiilaaGreatDoorEvRecursionR2
import Derived.Test.YthhfkiffnmiilaaGreatDoorEvRecursionR3
import Derived.Test.YthhfkiffnmiilaaGreatDoorEvRecursionR4
import Derived.Test.YthhfkiffnmiilaaGreatDoorEvRecursionR5
import Derived.Test.YthhfkiffnmiilaaGreatDoorEvRecursionR6
import Derived.Test.YthhfkiffnmiilaaGreatDoorEvRecursionR7
import Derived.Test.YthhfkiffnmiilaaGreatDoorCards
import Derived.SevenTiedAt
namespace Go.Ev
set_option maxRecDepth 100000
open Go.Proofs Go.Proofs.YthhfkiffnmiilaaGreatDoor Go.ChangeShapes Go.WideShapes Go.ChangeAt Go.WideMaps Go.WideElems Go.RowKit

theorem recursion_all {x0 : Int} (w0 : (Lit.int .i64 x0).wf = true) : ∃ args, LRel inj0 args [.int .i64 x0] ∧ isTrue (evC env1 100000 1000 11 args H0) = true := by
  obtain ⟨r0, h0, e0⟩ := and_rel (ι := inj0) 5 (by decide) w0
  refine ⟨_, .cons _ _ _ _ e0 .nil, ?_⟩
  match r0, h0 with
  | 0, _ =>
    exact recursion_run_0
  | 1, _ =>
    exact recursion_run_1
  | 2, _ =>
    exact recursion_run_2
  | 3, _ =>
    exact recursion_run_3
  | 4, _ =>
    exact recursion_run_4
  | 5, _ =>
    exact recursion_run_5
  | 6, _ =>
    exact recursion_run_6
  | 7, _ =>
    exact recursion_run_7
  | 8, _ =>
    exact recursion_run_8
  | 9, _ =>
    exact recursion_run_9
  | 10, _ =>
    exact recursion_run_10
  | 11, _ =>
    exact recursion_run_11
  | 12, _ =>
    exact recursion_run_12
  | 13, _ =>
    exact recursion_run_13
  | 14, _ =>
    exact recursion_run_14
  | 15, _ =>
    exact recursion_run_15
  | 16, _ =>
    exact recursion_run_16
  | 17, _ =>
    exact recursion_run_17
  | 18, _ =>
    exact recursion_run_18
  | 19, _ =>
    exact recursion_run_19
  | 20, _ =>
    exact recursion_run_20
  | 21, _ =>
    exact recursion_run_21
  | 22, _ =>
    exact recursion_run_22
  | 23, _ =>
    exact recursion_run_23
  | 24, _ =>
    exact recursion_run_24
  | 25, _ =>
    exact recursion_run_25
  | 26, _ =>
    exact recursion_run_26
  | 27, _ =>
    exact recursion_run_27
  | 28, _ =>
    exact recursion_run_28
  | 29, _ =>
    exact recursion_run_29
  | 30, _ =>
    exact recursion_run_30
  | 31, _ =>
    exact recursion_run_31
  | r + 32, h =>
    have h' : r + 32 < 32 := h
    omega

theorem recursion_lifted (os : Os) (started : os.Started) (H : Type) (enc : TypeId × Value → H) :
    ReturnsInHanded {} Tryz.checked os 11 .any (fun w args => (Rows.realRecursionSpec.pre enc Tryz.prog Tryz.f11 [] false w args ∧ laidMetH Tryz.prog laid2 w) ∧ sizedMet enc Tryz.prog Tryz.f11 (OpenSpec.ofChange Rows.realRecursionSpec) false w args)
      (Rows.realRecursionSpec.post enc Tryz.prog Tryz.f11 false true false false) := by
  refine returnsInHanded_of_change_and (C := Tryz.checked) (X := fun w _ => laidMetH Tryz.prog laid2 w) (fun _ _ _ hh h => h.of_heap hh) own started (by kernel_rfl) Tryz.func11
    (ChangeSpec.witness_shaped (enc := enc) (C := Tryz.checked) (os := os) (X := fun w _ => laidMetH Tryz.prog laid2 w) false (World.doorLaid Tryz.prog 400 os) #[.int .i64 0] 8 rfl (World.shaped_of_RefB (by kernel_rfl) (by kernel_rfl)) (by kernel_rfl) (by kernel_rfl) (by kernel_rfl) (door_met os _)) ?_
  intro W base args ds gs before hval0 hW _ _ hL _
  have hval : ∀ (j : Nat) t v, Tryz.f11.params[j]? = some t → args[j]? = some v → Value.okWide Tryz.prog W .any base t v := hval0
  have hW' := hW
  obtain ⟨p, q, hA0, hV, rfl, hfz, hnd⟩ := hW
  have hA : DataW.TrodAll enc Tryz.prog W 0 (fun _ => true) true Tryz.f11.params.toList args.toList ds p := hA0
  rw [Tryz.params11] at hA hval
  obtain ⟨v0, d0, rfl, rfl, h0⟩ := trodAll_one hA
  obtain ⟨rfl, rfl⟩ := trodVars_none hV
  obtain ⟨x0, rfl, rfl, rfl, w0⟩ := open_int Tryz.underlying3 (hval 0 3 v0 rfl rfl) h0
  clear hA0 hval0
  simp only [List.append_nil] at hW'
  obtain ⟨argsA, ha, hrun⟩ := recursion_all w0
  refine (run_true hrun hL ha).mono fun e W' ⟨he, hb⟩ => ?_
  subst he
  refine ⟨_, rfl, [.lit (.int .i64 x0)], [], [], [], [], [], hW', ?_, ?_, rfl, hb.frame _, fun h => by cases h⟩
  · exact trodAll_mk1 (shut_bool Tryz.underlying4 _)
  · exact trodAll_mk1 (shut_int Tryz.underlying3 w0)

theorem recursion_q1 : (Rows.realRecursionRow.inPlace == Tryz.pinned.checked.prog.inPlace 11) = true := by kernel_rfl
theorem recursion_q2 : (Rows.realRecursionRow.unfollowed == Tryz.pinned.checked.prog.unfollowed 11) = true := by kernel_rfl
theorem recursion_q3 : (Rows.realRecursionRow.recurses == Tryz.pinned.checked.prog.recurses 11) = true := by kernel_rfl
theorem recursion_q4 : (Rows.realRecursionRow.named == Tryz.pinned.checked.prog.varsNamed 11) = true := by kernel_rfl
theorem recursion_facts : joinedFacts Tryz.pinned.checked.prog 11 Tryz.f11 Rows.realRecursionSpec Rows.realRecursionRow = true := by
  unfold joinedFacts
  rw [recursion_q1, recursion_q2, recursion_q3, recursion_q4]
  kernel_rfl
theorem recursion_holds : Rows.RealRecursionSaid :=
  OpenClaim.holds_of_wide 11 Tryz.f11 rfl rfl rfl rfl rfl rfl rfl ⟨rfl, rfl, rfl, rfl, rfl⟩ rfl rfl rfl rfl rfl (by kernel_rfl) Tryz.func11 recursion_facts
    (of_decide_eq_true (by kernel_rfl)) (by unfold Func.isWrapper; first | (rw [if_pos (by decide +kernel)]; kernel_rfl) | (rw [if_neg (by decide +kernel)]; exact ⟨rfl, rfl⟩))
    (fun os started H enc _ => recursion_lifted os started H enc)

theorem recursion_q5 : true = Tryz.pinned.checked.prog.looks [] := by kernel_rfl
theorem recursion_q6 : false = Rows.realRecursionRow.goesBy Tryz.pinned.checked.prog := by kernel_rfl
theorem recursion_q7 : Tryz.pinned.checked.prog.mainIs = some ((true, "2c7b8122bf9629d35cde12ff020b26732298799ede7d57cf691079540f7bcff5").1, (true, "2c7b8122bf9629d35cde12ff020b26732298799ede7d57cf691079540f7bcff5").2.toList) := by kernel_rfl
theorem recursion_card : Rows.RealRecursionCardSaid :=
  Claim7.holds_tied_plain_at .later [] [.listed, .data] true (true, "2c7b8122bf9629d35cde12ff020b26732298799ede7d57cf691079540f7bcff5") true
    recursion_holds (fun _ h => by cases h) (by kernel_rfl) (fun _ h => by cases h) realRecursion_row_tie rfl ⟨rfl, rfl⟩ recursion_q7 rfl
    (fun f fn hf hfn => by
      obtain rfl : f = 11 := Option.some.inj ((show Tryz.prog.funcNamed "gneiss/gneisslaw23.RealRecursion" = some 11 by kernel_rfl).symm.trans hf) |>.symm
      obtain rfl : fn = Tryz.f11 := (Option.some.inj (Tryz.func11.symm.trans hfn)).symm
      exact ⟨recursion_q5, fun j t ht => by
        rw [Tryz.params11] at ht
        have h3 : t = 3 := by
          rcases j with _ | j
          · simpa using ht.symm
          · simp at ht
        subst h3
        exact (show Tryz.prog.wantsStandIn 3 = false by kernel_rfl)⟩)
    recursion_q6
end Go.Ev
namespace Go.Proofs.YthhfkiffnmiilaaGreatDoor
theorem realRecursion_card_holds : Rows.RealRecursionCardSaid := Go.Ev.recursion_card
#print axioms realRecursion_card_holds
end Go.Proofs.YthhfkiffnmiilaaGreatDoor
