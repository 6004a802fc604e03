/- 'RunRefs' returns true for every input and its arguments read behind the call as they read before. Conditions: the two listed package-level variables start as the program's text lays them (the card ties them to the text); a verified evaluator ('Go.Ev', EvDef .. EvTop) is run in the kernel once for each case of the input. -/
import Derived.Test.YtmjccopjophgjaaGreatDoorEvRefsR0
import Derived.Test.YtmjccopjophgjaaGreatDoorEvRefsR1
import Derived.Test.YtmjccopjophgjaaGreatDoorEvRefsR2
import Derived.Test.YtmjccopjophgjaaGreatDoorEvRefsR3
import Derived.Test.YtmjccopjophgjaaGreatDoorCards
import Derived.SevenTiedAt
namespace Go.Ev
set_option maxRecDepth 100000
open Go.Proofs Go.Proofs.YtmjccopjophgjaaGreatDoor Go.ChangeShapes Go.WideShapes Go.ChangeAt Go.WideMaps Go.WideElems Go.RowKit

theorem refs_all {x0 : Int} (w0 : (Lit.int .i64 x0).wf = true) : ∃ args, LRel inj0 args [.int .i64 x0] ∧ isTrue (evC envR 100000 1000 6 args H0) = true := by
  obtain ⟨r0, h0, e0⟩ := and_rel (ι := inj0) 2 (by decide) w0
  refine ⟨_, .cons _ _ _ _ e0 .nil, ?_⟩
  match r0, h0 with
  | 0, _ =>
    exact refs_run_0
  | 1, _ =>
    exact refs_run_1
  | 2, _ =>
    exact refs_run_2
  | 3, _ =>
    exact refs_run_3
  | r + 4, h =>
    have h' : r + 4 < 4 := h
    omega

theorem refs_lifted (os : Os) (started : os.Started) (H : Type) (enc : TypeId × Value → H) :
    ReturnsInHanded {} Tryz.checked os 6 .any (fun w args => (Rows.runRefsSpec.pre enc Tryz.prog Tryz.f6 [] false w args ∧ laidMetH Tryz.prog laid2 w) ∧ sizedMet enc Tryz.prog Tryz.f6 (OpenSpec.ofChange Rows.runRefsSpec) false w args)
      (Rows.runRefsSpec.post enc Tryz.prog Tryz.f6 false true false false) := by
  refine returnsInHanded_of_change_and (C := Tryz.checked) (X := fun w _ => laidMetH Tryz.prog laid2 w) (fun _ _ _ hh h => h.of_heap hh) own started (by kernel_rfl) Tryz.func6
    (ChangeSpec.witness_shaped (enc := enc) (C := Tryz.checked) (os := os) (X := fun w _ => laidMetH Tryz.prog laid2 w) false (World.doorLaid Tryz.prog 400 os) #[.int .i64 0] 8 rfl (World.shaped_of_RefB (by kernel_rfl) (by kernel_rfl)) (by kernel_rfl) (by kernel_rfl) (by kernel_rfl) (door_met os _)) ?_
  intro W base args ds gs before hval0 hW _ _ hL _
  have hval : ∀ (j : Nat) t v, Tryz.f6.params[j]? = some t → args[j]? = some v → Value.okWide Tryz.prog W .any base t v := hval0
  have hW' := hW
  obtain ⟨p, q, hA0, hV, rfl, hfz, hnd⟩ := hW
  have hA : DataW.TrodAll enc Tryz.prog W 0 (fun _ => true) true Tryz.f6.params.toList args.toList ds p := hA0
  rw [Tryz.params6] at hA hval
  obtain ⟨v0, d0, rfl, rfl, h0⟩ := trodAll_one hA
  obtain ⟨rfl, rfl⟩ := trodVars_none hV
  obtain ⟨x0, rfl, rfl, rfl, w0⟩ := open_int Tryz.underlying3 (hval 0 3 v0 rfl rfl) h0
  clear hA0 hval0
  simp only [List.append_nil] at hW'
  obtain ⟨argsA, ha, hrun⟩ := refs_all w0
  refine (runR_true hrun hL ha).mono fun e W' ⟨he, hb⟩ => ?_
  subst he
  refine ⟨_, rfl, [.lit (.int .i64 x0)], [], [], [], [], [], hW', ?_, ?_, rfl, hb.frame _, fun h => by cases h⟩
  · exact trodAll_mk1 (shut_bool Tryz.underlying4 _)
  · exact trodAll_mk1 (shut_int Tryz.underlying3 w0)

theorem refs_q1 : (Rows.runRefsRow.inPlace == Tryz.pinned.checked.prog.inPlace 6) = true := by kernel_rfl
theorem refs_q2 : (Rows.runRefsRow.unfollowed == Tryz.pinned.checked.prog.unfollowed 6) = true := by kernel_rfl
theorem refs_q3 : (Rows.runRefsRow.recurses == Tryz.pinned.checked.prog.recurses 6) = true := by kernel_rfl
theorem refs_q4 : (Rows.runRefsRow.named == Tryz.pinned.checked.prog.varsNamed 6) = true := by kernel_rfl
theorem refs_facts : joinedFacts Tryz.pinned.checked.prog 6 Tryz.f6 Rows.runRefsSpec Rows.runRefsRow = true := by
  unfold joinedFacts
  rw [refs_q1, refs_q2, refs_q3, refs_q4]
  kernel_rfl
theorem refs_holds : Rows.RunRefsSaid :=
  OpenClaim.holds_of_wide 6 Tryz.f6 rfl rfl rfl rfl rfl rfl rfl ⟨rfl, rfl, rfl, rfl, rfl⟩ rfl rfl rfl rfl rfl (by kernel_rfl) Tryz.func6 refs_facts
    (of_decide_eq_true (by kernel_rfl)) (by unfold Func.isWrapper; first | (rw [if_pos (by decide +kernel)]; kernel_rfl) | (rw [if_neg (by decide +kernel)]; exact ⟨rfl, rfl⟩))
    (fun os started H enc _ => refs_lifted os started H enc)

theorem refs_q5 : true = Tryz.pinned.checked.prog.looks [] := by kernel_rfl
theorem refs_q6 : false = Rows.runRefsRow.goesBy Tryz.pinned.checked.prog := by kernel_rfl
theorem refs_q7 : Tryz.pinned.checked.prog.mainIs = some ((true, "42c5c9a293a1d67662a4f1fda4c9e1c59618d83a311accec3c30746335a666ee").1, (true, "42c5c9a293a1d67662a4f1fda4c9e1c59618d83a311accec3c30746335a666ee").2.toList) := by kernel_rfl
theorem refs_card : Rows.RunRefsCardSaid :=
  Claim7.holds_tied_plain_at .later [] [.listed, .data] true (true, "42c5c9a293a1d67662a4f1fda4c9e1c59618d83a311accec3c30746335a666ee") true
    refs_holds (fun _ h => by cases h) (by kernel_rfl) (fun _ h => by cases h) runRefs_row_tie rfl ⟨rfl, rfl⟩ refs_q7 rfl
    (fun f fn hf hfn => by
      obtain rfl : f = 6 := Option.some.inj ((show Tryz.prog.funcNamed "gneiss/gneisslaw25.RunRefs" = some 6 by kernel_rfl).symm.trans hf) |>.symm
      obtain rfl : fn = Tryz.f6 := (Option.some.inj (Tryz.func6.symm.trans hfn)).symm
      exact ⟨refs_q5, fun j t ht => by
        rw [Tryz.params6] at ht
        have h3 : t = 3 := by
          rcases j with _ | j
          · simpa using ht.symm
          · simp at ht
        subst h3
        exact (show Tryz.prog.wantsStandIn 3 = false by kernel_rfl)⟩)
    refs_q6
end Go.Ev
namespace Go.Proofs.YtmjccopjophgjaaGreatDoor
theorem runRefs_card_holds : Rows.RunRefsCardSaid := Go.Ev.refs_card
#print axioms runRefs_card_holds
end Go.Proofs.YtmjccopjophgjaaGreatDoor
