/- 'RunFields' returns true for every input and its arguments read behind the call as they read before. Conditions: the two listed package-level variables start as the program's text lays them (the card ties them to the text); a verified evaluator ('Go.Ev', EvDef .. EvTop) is run in the kernel, numbers that are not known as atoms, once for each case of the input. -/
import Derived.Test.YtmjccopjophgjaaGreatDoorEvFieldsR0
import Derived.Test.YtmjccopjophgjaaGreatDoorCards
import Derived.SevenTiedAt
namespace Go.Ev
set_option maxRecDepth 100000
open Go.Proofs Go.Proofs.YtmjccopjophgjaaGreatDoor Go.ChangeShapes Go.WideShapes Go.ChangeAt Go.WideMaps Go.WideElems Go.RowKit

theorem fields_all {x0 : Int} (_w0 : (Lit.int .i64 x0).wf = true) : ∃ σ args, LRel (injS σ) args [.int .i64 x0] ∧ isTrue (evC envR 100000 1000 7 args H0) = true := by
  exact ⟨sgLo x0, _, .cons _ _ _ _ (.at 0 tbLo _ _ (tbLo_ok x0) rfl) .nil, fields_run⟩

theorem fields_lifted (os : Os) (started : os.Started) (H : Type) (enc : TypeId × Value → H) :
    ReturnsInHanded {} Tryz.checked os 7 .any (fun w args => (Rows.runFieldsSpec.pre enc Tryz.prog Tryz.f7 [] false w args ∧ laidMetH Tryz.prog laid2 w) ∧ sizedMet enc Tryz.prog Tryz.f7 (OpenSpec.ofChange Rows.runFieldsSpec) false w args)
      (Rows.runFieldsSpec.post enc Tryz.prog Tryz.f7 false true false false) := by
  refine returnsInHanded_of_change_and (C := Tryz.checked) (X := fun w _ => laidMetH Tryz.prog laid2 w) (fun _ _ _ hh h => h.of_heap hh) own started (by kernel_rfl) Tryz.func7
    (ChangeSpec.witness_shaped (enc := enc) (C := Tryz.checked) (os := os) (X := fun w _ => laidMetH Tryz.prog laid2 w) false (World.doorLaid Tryz.prog 400 os) #[.int .i64 0] 8 rfl (World.shaped_of_RefB (by kernel_rfl) (by kernel_rfl)) (by kernel_rfl) (by kernel_rfl) (by kernel_rfl) (door_met os _)) ?_
  intro W base args ds gs before hval0 hW _ _ hL _
  have hval : ∀ (j : Nat) t v, Tryz.f7.params[j]? = some t → args[j]? = some v → Value.okWide Tryz.prog W .any base t v := hval0
  have hW' := hW
  obtain ⟨p, q, hA0, hV, rfl, hfz, hnd⟩ := hW
  have hA : DataW.TrodAll enc Tryz.prog W 0 (fun _ => true) true Tryz.f7.params.toList args.toList ds p := hA0
  rw [Tryz.params7] at hA hval
  obtain ⟨v0, d0, rfl, rfl, h0⟩ := trodAll_one hA
  obtain ⟨rfl, rfl⟩ := trodVars_none hV
  obtain ⟨x0, rfl, rfl, rfl, w0⟩ := open_int Tryz.underlying3 (hval 0 3 v0 rfl rfl) h0
  clear hA0 hval0
  simp only [List.append_nil] at hW'
  obtain ⟨σ, argsA, ha, hrun⟩ := fields_all w0
  refine (runR_true hrun hL ha).mono fun e W' ⟨he, hb⟩ => ?_
  subst he
  refine ⟨_, rfl, [.lit (.int .i64 x0)], [], [], [], [], [], hW', ?_, ?_, rfl, hb.frame _, fun h => by cases h⟩
  · exact trodAll_mk1 (shut_bool Tryz.underlying4 _)
  · exact trodAll_mk1 (shut_int Tryz.underlying3 w0)

theorem fields_q1 : (Rows.runFieldsRow.inPlace == Tryz.pinned.checked.prog.inPlace 7) = true := by kernel_rfl
theorem fields_q2 : (Rows.runFieldsRow.unfollowed == Tryz.pinned.checked.prog.unfollowed 7) = true := by kernel_rfl
theorem fields_q3 : (Rows.runFieldsRow.recurses == Tryz.pinned.checked.prog.recurses 7) = true := by kernel_rfl
theorem fields_q4 : (Rows.runFieldsRow.named == Tryz.pinned.checked.prog.varsNamed 7) = true := by kernel_rfl
theorem fields_facts : joinedFacts Tryz.pinned.checked.prog 7 Tryz.f7 Rows.runFieldsSpec Rows.runFieldsRow = true := by
  unfold joinedFacts
  rw [fields_q1, fields_q2, fields_q3, fields_q4]
  kernel_rfl
theorem fields_holds : Rows.RunFieldsSaid :=
  OpenClaim.holds_of_wide 7 Tryz.f7 rfl rfl rfl rfl rfl rfl rfl ⟨rfl, rfl, rfl, rfl, rfl⟩ rfl rfl rfl rfl rfl (by kernel_rfl) Tryz.func7 fields_facts
    (of_decide_eq_true (by kernel_rfl)) (by unfold Func.isWrapper; first | (rw [if_pos (by decide +kernel)]; kernel_rfl) | (rw [if_neg (by decide +kernel)]; exact ⟨rfl, rfl⟩))
    (fun os started H enc _ => fields_lifted os started H enc)

theorem fields_q5 : true = Tryz.pinned.checked.prog.looks [] := by kernel_rfl
theorem fields_q6 : false = Rows.runFieldsRow.goesBy Tryz.pinned.checked.prog := by kernel_rfl
theorem fields_q7 : Tryz.pinned.checked.prog.mainIs = some ((true, "42c5c9a293a1d67662a4f1fda4c9e1c59618d83a311accec3c30746335a666ee").1, (true, "42c5c9a293a1d67662a4f1fda4c9e1c59618d83a311accec3c30746335a666ee").2.toList) := by kernel_rfl
theorem fields_card : Rows.RunFieldsCardSaid :=
  Claim7.holds_tied_plain_at .later [] [.listed, .data] true (true, "42c5c9a293a1d67662a4f1fda4c9e1c59618d83a311accec3c30746335a666ee") true
    fields_holds (fun _ h => by cases h) (by kernel_rfl) (fun _ h => by cases h) runFields_row_tie rfl ⟨rfl, rfl⟩ fields_q7 rfl
    (fun f fn hf hfn => by
      obtain rfl : f = 7 := Option.some.inj ((show Tryz.prog.funcNamed "gneiss/gneisslaw25.RunFields" = some 7 by kernel_rfl).symm.trans hf) |>.symm
      obtain rfl : fn = Tryz.f7 := (Option.some.inj (Tryz.func7.symm.trans hfn)).symm
      exact ⟨fields_q5, fun j t ht => by
        rw [Tryz.params7] at ht
        have h3 : t = 3 := by
          rcases j with _ | j
          · simpa using ht.symm
          · simp at ht
        subst h3
        exact (show Tryz.prog.wantsStandIn 3 = false by kernel_rfl)⟩)
    fields_q6
end Go.Ev
namespace Go.Proofs.YtmjccopjophgjaaGreatDoor
theorem runFields_card_holds : Rows.RunFieldsCardSaid := Go.Ev.fields_card
#print axioms runFields_card_holds
end Go.Proofs.YtmjccopjophgjaaGreatDoor
