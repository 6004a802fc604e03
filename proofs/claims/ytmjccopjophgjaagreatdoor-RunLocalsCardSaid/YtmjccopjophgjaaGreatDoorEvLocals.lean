/- 'RunLocals' returns true for every input and its arguments read behind the call as they read before. Conditions: the two listed package-level variables start as the program's text lays them (the card ties them to the text); a verified evaluator ('Go.Ev', EvDef .. EvTop) is run in the kernel, numbers that are not known as atoms, once for each case of the input. -/
import Derived.Test.YtmjccopjophgjaaGreatDoorEvLocalsR0
import Derived.Test.YtmjccopjophgjaaGreatDoorEvLocalsR1
import Derived.Test.YtmjccopjophgjaaGreatDoorCards
import Derived.SevenTiedAt
namespace Go.Ev
set_option maxRecDepth 100000
open Go.Proofs Go.Proofs.YtmjccopjophgjaaGreatDoor Go.ChangeShapes Go.WideShapes Go.ChangeAt Go.WideMaps Go.WideElems Go.RowKit

theorem locals_all {x0 : Int} (_w0 : (Lit.int .i64 x0).wf = true) {x1 : Int} (w1 : (Lit.int .i64 x1).wf = true) : ∃ σ args, LRel (injS σ) args [.int .i64 x0, .int .i64 x1] ∧ isTrue (evC envR 100000 1000 4 args H0) = true := by
  obtain ⟨r1, h1, e1⟩ := and_rel (ι := injS (sgLo x0)) 4 (by decide) w1
  refine ⟨sgLo x0, _, .cons _ _ _ _ (.at 0 tbLo _ _ (tbLo_ok x0) rfl) (.cons _ _ _ _ e1 .nil), ?_⟩
  match r1, h1 with
  | 0, _ => exact locals_run_0
  | 1, _ => exact locals_run_1
  | 2, _ => exact locals_run_2
  | 3, _ => exact locals_run_3
  | 4, _ => exact locals_run_4
  | 5, _ => exact locals_run_5
  | 6, _ => exact locals_run_6
  | 7, _ => exact locals_run_7
  | 8, _ => exact locals_run_8
  | 9, _ => exact locals_run_9
  | 10, _ => exact locals_run_10
  | 11, _ => exact locals_run_11
  | 12, _ => exact locals_run_12
  | 13, _ => exact locals_run_13
  | 14, _ => exact locals_run_14
  | 15, _ => exact locals_run_15
  | r + 16, h =>
    have h' : r + 16 < 16 := h
    omega

theorem locals_lifted (os : Os) (started : os.Started) (H : Type) (enc : TypeId × Value → H) :
    ReturnsInHanded {} Tryz.checked os 4 .any (fun w args => (Rows.runLocalsSpec.pre enc Tryz.prog Tryz.f4 [] false w args ∧ laidMetH Tryz.prog laid2 w) ∧ sizedMet enc Tryz.prog Tryz.f4 (OpenSpec.ofChange Rows.runLocalsSpec) false w args)
      (Rows.runLocalsSpec.post enc Tryz.prog Tryz.f4 false true false false) := by
  refine returnsInHanded_of_change_and (C := Tryz.checked) (X := fun w _ => laidMetH Tryz.prog laid2 w) (fun _ _ _ hh h => h.of_heap hh) own started (by kernel_rfl) Tryz.func4
    (ChangeSpec.witness_shaped (enc := enc) (C := Tryz.checked) (os := os) (X := fun w _ => laidMetH Tryz.prog laid2 w) false (World.doorLaid Tryz.prog 400 os) #[.int .i64 0, .int .i64 0] 8 rfl (World.shaped_of_RefB (by kernel_rfl) (by kernel_rfl)) (by kernel_rfl) (by kernel_rfl) (by kernel_rfl) (door_met os _)) ?_
  intro W base args ds gs before hval0 hW _ _ hL _
  have hval : ∀ (j : Nat) t v, Tryz.f4.params[j]? = some t → args[j]? = some v → Value.okWide Tryz.prog W .any base t v := hval0
  have hW' := hW
  obtain ⟨p, q, hA0, hV, rfl, hfz, hnd⟩ := hW
  have hA : DataW.TrodAll enc Tryz.prog W 0 (fun _ => true) true Tryz.f4.params.toList args.toList ds p := hA0
  rw [Tryz.params4] at hA hval
  obtain ⟨v0, v1, d0, d1, p0, p1, rfl, rfl, rfl, h0, h1⟩ := trodAll_two hA
  obtain ⟨rfl, rfl⟩ := trodVars_none hV
  obtain ⟨x0, rfl, rfl, rfl, w0⟩ := open_int Tryz.underlying3 (hval 0 3 v0 rfl rfl) h0
  obtain ⟨x1, rfl, rfl, rfl, w1⟩ := open_int Tryz.underlying3 (hval 1 3 v1 rfl rfl) h1
  clear hA0 hval0
  simp only [List.append_nil] at hW'
  obtain ⟨σ, argsA, ha, hrun⟩ := locals_all w0 w1
  refine (runR_true hrun hL ha).mono fun e W' ⟨he, hb⟩ => ?_
  subst he
  refine ⟨_, rfl, [.lit (.int .i64 x0), .lit (.int .i64 x1)], [], [], [], [], [], hW', ?_, ?_, rfl, hb.frame _, fun h => by cases h⟩
  · exact trodAll_mk1 (shut_bool Tryz.underlying4 _)
  · exact trodAll_mk2 (shut_int Tryz.underlying3 w0) (shut_int Tryz.underlying3 w1)

theorem locals_q1 : (Rows.runLocalsRow.inPlace == Tryz.pinned.checked.prog.inPlace 4) = true := by kernel_rfl
theorem locals_q2 : (Rows.runLocalsRow.unfollowed == Tryz.pinned.checked.prog.unfollowed 4) = true := by kernel_rfl
theorem locals_q3 : (Rows.runLocalsRow.recurses == Tryz.pinned.checked.prog.recurses 4) = true := by kernel_rfl
theorem locals_q4 : (Rows.runLocalsRow.named == Tryz.pinned.checked.prog.varsNamed 4) = true := by kernel_rfl
theorem locals_facts : joinedFacts Tryz.pinned.checked.prog 4 Tryz.f4 Rows.runLocalsSpec Rows.runLocalsRow = true := by
  unfold joinedFacts
  rw [locals_q1, locals_q2, locals_q3, locals_q4]
  kernel_rfl
theorem locals_holds : Rows.RunLocalsSaid :=
  OpenClaim.holds_of_wide 4 Tryz.f4 rfl rfl rfl rfl rfl rfl rfl ⟨rfl, rfl, rfl, rfl, rfl⟩ rfl rfl rfl rfl rfl (by kernel_rfl) Tryz.func4 locals_facts
    (of_decide_eq_true (by kernel_rfl)) (by unfold Func.isWrapper; first | (rw [if_pos (by decide +kernel)]; kernel_rfl) | (rw [if_neg (by decide +kernel)]; exact ⟨rfl, rfl⟩))
    (fun os started H enc _ => locals_lifted os started H enc)

theorem locals_q5 : true = Tryz.pinned.checked.prog.looks [] := by kernel_rfl
theorem locals_q6 : false = Rows.runLocalsRow.goesBy Tryz.pinned.checked.prog := by kernel_rfl
theorem locals_q7 : Tryz.pinned.checked.prog.mainIs = some ((true, "42c5c9a293a1d67662a4f1fda4c9e1c59618d83a311accec3c30746335a666ee").1, (true, "42c5c9a293a1d67662a4f1fda4c9e1c59618d83a311accec3c30746335a666ee").2.toList) := by kernel_rfl
theorem locals_card : Rows.RunLocalsCardSaid :=
  Claim7.holds_tied_plain_at .later [] [.listed, .data] true (true, "42c5c9a293a1d67662a4f1fda4c9e1c59618d83a311accec3c30746335a666ee") true
    locals_holds (fun _ h => by cases h) (by kernel_rfl) (fun _ h => by cases h) runLocals_row_tie rfl ⟨rfl, rfl⟩ locals_q7 rfl
    (fun f fn hf hfn => by
      obtain rfl : f = 4 := Option.some.inj ((show Tryz.prog.funcNamed "gneiss/gneisslaw25.RunLocals" = some 4 by kernel_rfl).symm.trans hf) |>.symm
      obtain rfl : fn = Tryz.f4 := (Option.some.inj (Tryz.func4.symm.trans hfn)).symm
      exact ⟨locals_q5, fun j t ht => by
        rw [Tryz.params4] at ht
        have h3 : t = 3 := by
          rcases j with _ | _ | j
          · simpa using ht.symm
          · simpa using ht.symm
          · simp at ht
        subst h3
        exact (show Tryz.prog.wantsStandIn 3 = false by kernel_rfl)⟩)
    locals_q6
end Go.Ev
namespace Go.Proofs.YtmjccopjophgjaaGreatDoor
theorem runLocals_card_holds : Rows.RunLocalsCardSaid := Go.Ev.locals_card
#print axioms runLocals_card_holds
end Go.Proofs.YtmjccopjophgjaaGreatDoor
