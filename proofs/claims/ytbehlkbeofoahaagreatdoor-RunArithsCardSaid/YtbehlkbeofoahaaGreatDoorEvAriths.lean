/- 'RunAriths' returns true for every input and its arguments read behind the call as they read before. Conditions: the two listed package-level variables start as the program's text lays them (the card ties them to the text); a verified evaluator ('Go.Ev', EvDef .. EvTop) is run in the kernel, numbers that are not known as atoms, once for each case of the input. -/
import Derived.Test.YtbehlkbeofoahaaGreatDoorEvArithsR0
import Derived.Test.YtbehlkbeofoahaaGreatDoorEvArithsR1
import Derived.Test.YtbehlkbeofoahaaGreatDoorEvArithsR2
import Derived.Test.YtbehlkbeofoahaaGreatDoorEvArithsR3
import Derived.Test.YtbehlkbeofoahaaGreatDoorEvArithsR4
import Derived.Test.YtbehlkbeofoahaaGreatDoorCards
import Derived.SevenTiedAt
namespace Go.Ev
set_option maxRecDepth 100000
open Go.Proofs Go.Proofs.YtbehlkbeofoahaaGreatDoor Go.ChangeShapes Go.WideShapes Go.ChangeAt Go.WideMaps Go.WideElems Go.RowKit

theorem ariths_all {x0 : Int} (_w0 : (Lit.int .i64 x0).wf = true) {x1 : Int} (_w1 : (Lit.int .i64 x1).wf = true) {x2 : Int} (_w2 : (Lit.int .i64 x2).wf = true) : ∃ σ args, LRel (injS σ) args [.int .i64 x0, .int .i64 x1, .int .i64 x2] ∧ isTrue (evC envR 100000 1000 5 args H0) = true := by
  obtain ⟨r0, h0, e0⟩ := rem_relA 12 (by decide) x0
  obtain ⟨z, v, r, u, s, q, ho, hz⟩ := tbAr_ok x1 x2 r0 h0
  refine ⟨sgAr x1 x2 v r u s q, [remArg 12 r0, .at 0 (tbAr r0 z), .at 1 (tbAr r0 z)], .cons _ _ _ _ (e0 _) (.cons _ _ _ _ (.at 0 _ _ _ ho rfl) (.cons _ _ _ _ (.at 1 _ _ _ ho rfl) .nil)), ?_⟩
  clear ho e0
  match r0, h0, z, hz with
  | 0, _, false, _ => exact ariths_run_0_false
  | 1, _, false, _ => exact ariths_run_1_false
  | 2, _, false, _ => exact ariths_run_2_false
  | 3, _, false, _ => exact ariths_run_3_false
  | 3, _, true, _ => exact ariths_run_3_true
  | 4, _, false, _ => exact ariths_run_4_false
  | 4, _, true, _ => exact ariths_run_4_true
  | 5, _, false, _ => exact ariths_run_5_false
  | 6, _, false, _ => exact ariths_run_6_false
  | 7, _, false, _ => exact ariths_run_7_false
  | 8, _, false, _ => exact ariths_run_8_false
  | 9, _, false, _ => exact ariths_run_9_false
  | 10, _, false, _ => exact ariths_run_10_false
  | 11, _, false, _ => exact ariths_run_11_false
  | 0, _, true, hz => exact absurd (hz rfl) (by omega)
  | 1, _, true, hz => exact absurd (hz rfl) (by omega)
  | 2, _, true, hz => exact absurd (hz rfl) (by omega)
  | 5, _, true, hz => exact absurd (hz rfl) (by omega)
  | 6, _, true, hz => exact absurd (hz rfl) (by omega)
  | 7, _, true, hz => exact absurd (hz rfl) (by omega)
  | 8, _, true, hz => exact absurd (hz rfl) (by omega)
  | 9, _, true, hz => exact absurd (hz rfl) (by omega)
  | 10, _, true, hz => exact absurd (hz rfl) (by omega)
  | 11, _, true, hz => exact absurd (hz rfl) (by omega)
  | r + 12, h, _, _ =>
    have h' : r + 12 < 12 := h
    omega

theorem ariths_lifted (os : Os) (started : os.Started) (H : Type) (enc : TypeId × Value → H) :
    ReturnsInHanded {} Tryz.checked os 5 .any (fun w args => (Rows.runArithsSpec.pre enc Tryz.prog Tryz.f5 [] false w args ∧ laidMetH Tryz.prog laid2 w) ∧ sizedMet enc Tryz.prog Tryz.f5 (OpenSpec.ofChange Rows.runArithsSpec) false w args)
      (Rows.runArithsSpec.post enc Tryz.prog Tryz.f5 false true false false) := by
  refine returnsInHanded_of_change_and (C := Tryz.checked) (X := fun w _ => laidMetH Tryz.prog laid2 w) (fun _ _ _ hh h => h.of_heap hh) own started (by kernel_rfl) Tryz.func5
    (ChangeSpec.witness_shaped (enc := enc) (C := Tryz.checked) (os := os) (X := fun w _ => laidMetH Tryz.prog laid2 w) false (World.doorLaid Tryz.prog 400 os) #[.int .i64 0, .int .i64 0, .int .i64 0] 8 rfl (World.shaped_of_RefB (by kernel_rfl) (by kernel_rfl)) (by kernel_rfl) (by kernel_rfl) (by kernel_rfl) (door_met os _)) ?_
  intro W base args ds gs before hval0 hW _ _ hL _
  have hval : ∀ (j : Nat) t v, Tryz.f5.params[j]? = some t → args[j]? = some v → Value.okWide Tryz.prog W .any base t v := hval0
  have hW' := hW
  obtain ⟨p, q, hA0, hV, rfl, hfz, hnd⟩ := hW
  have hA : DataW.TrodAll enc Tryz.prog W 0 (fun _ => true) true Tryz.f5.params.toList args.toList ds p := hA0
  rw [Tryz.params5] at hA hval
  obtain ⟨v0, v1, v2, d0, d1, d2, p0, p1, p2, rfl, rfl, rfl, h0, h1, h2⟩ := trodAll_three hA
  obtain ⟨rfl, rfl⟩ := trodVars_none hV
  obtain ⟨x0, rfl, rfl, rfl, w0⟩ := open_int Tryz.underlying3 (hval 0 3 v0 rfl rfl) h0
  obtain ⟨x1, rfl, rfl, rfl, w1⟩ := open_int Tryz.underlying3 (hval 1 3 v1 rfl rfl) h1
  obtain ⟨x2, rfl, rfl, rfl, w2⟩ := open_int Tryz.underlying3 (hval 2 3 v2 rfl rfl) h2
  clear hA0 hval0
  simp only [List.append_nil] at hW'
  obtain ⟨σ, argsA, ha, hrun⟩ := ariths_all w0 w1 w2
  refine (runR_true hrun hL ha).mono fun e W' ⟨he, hb⟩ => ?_
  subst he
  refine ⟨_, rfl, [.lit (.int .i64 x0), .lit (.int .i64 x1), .lit (.int .i64 x2)], [], [], [], [], [], hW', ?_, ?_, rfl, hb.frame _, fun h => by cases h⟩
  · exact trodAll_mk1 (shut_bool Tryz.underlying4 _)
  · exact trodAll_mk3 (shut_int Tryz.underlying3 w0) (shut_int Tryz.underlying3 w1) (shut_int Tryz.underlying3 w2)

theorem ariths_q1 : (Rows.runArithsRow.inPlace == Tryz.pinned.checked.prog.inPlace 5) = true := by kernel_rfl
theorem ariths_q2 : (Rows.runArithsRow.unfollowed == Tryz.pinned.checked.prog.unfollowed 5) = true := by kernel_rfl
theorem ariths_q3 : (Rows.runArithsRow.recurses == Tryz.pinned.checked.prog.recurses 5) = true := by kernel_rfl
theorem ariths_q4 : (Rows.runArithsRow.named == Tryz.pinned.checked.prog.varsNamed 5) = true := by kernel_rfl
theorem ariths_facts : joinedFacts Tryz.pinned.checked.prog 5 Tryz.f5 Rows.runArithsSpec Rows.runArithsRow = true := by
  unfold joinedFacts
  rw [ariths_q1, ariths_q2, ariths_q3, ariths_q4]
  kernel_rfl
theorem ariths_holds : Rows.RunArithsSaid :=
  OpenClaim.holds_of_wide 5 Tryz.f5 rfl rfl rfl rfl rfl rfl rfl ⟨rfl, rfl, rfl, rfl, rfl⟩ rfl rfl rfl rfl rfl (by kernel_rfl) Tryz.func5 ariths_facts
    (of_decide_eq_true (by kernel_rfl)) (by unfold Func.isWrapper; first | (rw [if_pos (by decide +kernel)]; kernel_rfl) | (rw [if_neg (by decide +kernel)]; exact ⟨rfl, rfl⟩))
    (fun os started H enc _ => ariths_lifted os started H enc)

theorem ariths_q5 : true = Tryz.pinned.checked.prog.looks [] := by kernel_rfl
theorem ariths_q6 : false = Rows.runArithsRow.goesBy Tryz.pinned.checked.prog := by kernel_rfl
theorem ariths_q7 : Tryz.pinned.checked.prog.mainIs = some ((true, "1079f25ad37c2ef5bd58db438085494c850a6ee59dd903de61aa31810cc6bffd").1, (true, "1079f25ad37c2ef5bd58db438085494c850a6ee59dd903de61aa31810cc6bffd").2.toList) := by kernel_rfl
theorem ariths_card : Rows.RunArithsCardSaid :=
  Claim7.holds_tied_plain_at .later [] [.listed, .data] true (true, "1079f25ad37c2ef5bd58db438085494c850a6ee59dd903de61aa31810cc6bffd") true
    ariths_holds (fun _ h => by cases h) (by kernel_rfl) (fun _ h => by cases h) runAriths_row_tie rfl ⟨rfl, rfl⟩ ariths_q7 rfl
    (fun f fn hf hfn => by
      obtain rfl : f = 5 := Option.some.inj ((show Tryz.prog.funcNamed "gneiss/gneisslaw25.RunAriths" = some 5 by kernel_rfl).symm.trans hf) |>.symm
      obtain rfl : fn = Tryz.f5 := (Option.some.inj (Tryz.func5.symm.trans hfn)).symm
      exact ⟨ariths_q5, fun j t ht => by
        rw [Tryz.params5] at ht
        have h3 : t = 3 := by
          rcases j with _ | _ | _ | j
          · simpa using ht.symm
          · simpa using ht.symm
          · simpa using ht.symm
          · simp at ht
        subst h3
        exact (show Tryz.prog.wantsStandIn 3 = false by kernel_rfl)⟩)
    ariths_q6
end Go.Ev
namespace Go.Proofs.YtbehlkbeofoahaaGreatDoor
theorem runAriths_card_holds : Rows.RunArithsCardSaid := Go.Ev.ariths_card
#print axioms runAriths_card_holds
end Go.Proofs.YtbehlkbeofoahaaGreatDoor
