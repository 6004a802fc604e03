/- 'RunStarts' returns true for every input and its arguments read behind the call as they read before. Conditions: the two listed package-level variables start as the program's text lays them (the card ties them to the text); a verified evaluator ('Go.Ev', EvDef .. EvTop) is run in the kernel once for each case of the input. -/
import Derived.Test.YtmjccopjophgjaaGreatDoorEvStartsR0
import Derived.Test.YtmjccopjophgjaaGreatDoorEvStartsR1
import Derived.Test.YtmjccopjophgjaaGreatDoorEvStartsR2
import Derived.Test.YtmjccopjophgjaaGreatDoorEvStartsR3
import Derived.Test.YtmjccopjophgjaaGreatDoorCards
import Derived.SevenTiedAt
namespace Go.Ev
set_option maxRecDepth 100000
open Go.Proofs Go.Proofs.YtmjccopjophgjaaGreatDoor Go.ChangeShapes Go.WideShapes Go.ChangeAt Go.WideMaps Go.WideElems Go.RowKit

theorem starts_all {x0 : Int} (w0 : (Lit.int .i64 x0).wf = true) (x1 : Bool) : ∃ args, LRel inj0 args [.int .i64 x0, .bool x1] ∧ isTrue (evC envR 100000 1000 14 args H0) = true := by
  obtain ⟨r0, h0, e0⟩ := and_rel (ι := inj0) 2 (by decide) w0
  refine ⟨_, .cons _ _ _ _ e0 (.cons _ _ _ _ (.bool x1) .nil), ?_⟩
  match r0, h0 with
  | 0, _ =>
    cases x1 with
    | false =>
      exact starts_run_0_false
    | true =>
      exact starts_run_0_true
  | 1, _ =>
    cases x1 with
    | false =>
      exact starts_run_1_false
    | true =>
      exact starts_run_1_true
  | 2, _ =>
    cases x1 with
    | false =>
      exact starts_run_2_false
    | true =>
      exact starts_run_2_true
  | 3, _ =>
    cases x1 with
    | false =>
      exact starts_run_3_false
    | true =>
      exact starts_run_3_true
  | r + 4, h =>
    have h' : r + 4 < 4 := h
    omega

theorem starts_lifted (os : Os) (started : os.Started) (H : Type) (enc : TypeId × Value → H) :
    ReturnsInHanded {} Tryz.checked os 14 .any (fun w args => (Rows.runStartsSpec.pre enc Tryz.prog Tryz.f14 [] false w args ∧ laidMetH Tryz.prog laid2 w) ∧ sizedMet enc Tryz.prog Tryz.f14 (OpenSpec.ofChange Rows.runStartsSpec) false w args)
      (Rows.runStartsSpec.post enc Tryz.prog Tryz.f14 false true false false) := by
  refine returnsInHanded_of_change_and (C := Tryz.checked) (X := fun w _ => laidMetH Tryz.prog laid2 w) (fun _ _ _ hh h => h.of_heap hh) own started (by kernel_rfl) Tryz.func14
    (ChangeSpec.witness_shaped (enc := enc) (C := Tryz.checked) (os := os) (X := fun w _ => laidMetH Tryz.prog laid2 w) false (World.doorLaid Tryz.prog 400 os) #[.int .i64 0, .bool false] 8 rfl (World.shaped_of_RefB (by kernel_rfl) (by kernel_rfl)) (by kernel_rfl) (by kernel_rfl) (by kernel_rfl) (door_met os _)) ?_
  intro W base args ds gs before hval0 hW _ _ hL _
  have hval : ∀ (j : Nat) t v, Tryz.f14.params[j]? = some t → args[j]? = some v → Value.okWide Tryz.prog W .any base t v := hval0
  have hW' := hW
  obtain ⟨p, q, hA0, hV, rfl, hfz, hnd⟩ := hW
  have hA : DataW.TrodAll enc Tryz.prog W 0 (fun _ => true) true Tryz.f14.params.toList args.toList ds p := hA0
  rw [Tryz.params14] at hA hval
  obtain ⟨v0, v1, d0, d1, p0, p1, rfl, rfl, rfl, h0, h1⟩ := trodAll_two hA
  obtain ⟨rfl, rfl⟩ := trodVars_none hV
  obtain ⟨x0, rfl, rfl, rfl, w0⟩ := open_int Tryz.underlying3 (hval 0 3 v0 rfl rfl) h0
  obtain ⟨x1, rfl, rfl, rfl⟩ := open_bool Tryz.underlying4 (hval 1 4 v1 rfl rfl) h1
  clear hA0 hval0
  simp only [List.append_nil] at hW'
  obtain ⟨argsA, ha, hrun⟩ := starts_all w0 x1
  refine (runR_true hrun hL ha).mono fun e W' ⟨he, hb⟩ => ?_
  subst he
  refine ⟨_, rfl, [.lit (.int .i64 x0), .lit (.bool x1)], [], [], [], [], [], hW', ?_, ?_, rfl, hb.frame _, fun h => by cases h⟩
  · exact trodAll_mk1 (shut_bool Tryz.underlying4 _)
  · exact trodAll_mk2 (shut_int Tryz.underlying3 w0) (shut_bool Tryz.underlying4 _)

theorem starts_q1 : (Rows.runStartsRow.inPlace == Tryz.pinned.checked.prog.inPlace 14) = true := by kernel_rfl
theorem starts_q2 : (Rows.runStartsRow.unfollowed == Tryz.pinned.checked.prog.unfollowed 14) = true := by kernel_rfl
theorem starts_q3 : (Rows.runStartsRow.recurses == Tryz.pinned.checked.prog.recurses 14) = true := by kernel_rfl
theorem starts_q4 : (Rows.runStartsRow.named == Tryz.pinned.checked.prog.varsNamed 14) = true := by kernel_rfl
theorem starts_facts : joinedFacts Tryz.pinned.checked.prog 14 Tryz.f14 Rows.runStartsSpec Rows.runStartsRow = true := by
  unfold joinedFacts
  rw [starts_q1, starts_q2, starts_q3, starts_q4]
  kernel_rfl
theorem starts_holds : Rows.RunStartsSaid :=
  OpenClaim.holds_of_wide 14 Tryz.f14 rfl rfl rfl rfl rfl rfl rfl ⟨rfl, rfl, rfl, rfl, rfl⟩ rfl rfl rfl rfl rfl (by kernel_rfl) Tryz.func14 starts_facts
    (of_decide_eq_true (by kernel_rfl)) (by unfold Func.isWrapper; first | (rw [if_pos (by decide +kernel)]; kernel_rfl) | (rw [if_neg (by decide +kernel)]; exact ⟨rfl, rfl⟩))
    (fun os started H enc _ => starts_lifted os started H enc)

theorem starts_q5 : true = Tryz.pinned.checked.prog.looks [] := by kernel_rfl
theorem starts_q6 : false = Rows.runStartsRow.goesBy Tryz.pinned.checked.prog := by kernel_rfl
theorem starts_q7 : Tryz.pinned.checked.prog.mainIs = some ((true, "42c5c9a293a1d67662a4f1fda4c9e1c59618d83a311accec3c30746335a666ee").1, (true, "42c5c9a293a1d67662a4f1fda4c9e1c59618d83a311accec3c30746335a666ee").2.toList) := by kernel_rfl
theorem starts_card : Rows.RunStartsCardSaid :=
  Claim7.holds_tied_plain_at .later [] [.listed, .data] true (true, "42c5c9a293a1d67662a4f1fda4c9e1c59618d83a311accec3c30746335a666ee") true
    starts_holds (fun _ h => by cases h) (by kernel_rfl) (fun _ h => by cases h) runStarts_row_tie rfl ⟨rfl, rfl⟩ starts_q7 rfl
    (fun f fn hf hfn => by
      obtain rfl : f = 14 := Option.some.inj ((show Tryz.prog.funcNamed "gneiss/gneisslaw25.RunStarts" = some 14 by kernel_rfl).symm.trans hf) |>.symm
      obtain rfl : fn = Tryz.f14 := (Option.some.inj (Tryz.func14.symm.trans hfn)).symm
      exact ⟨starts_q5, fun j t ht => by
        rw [Tryz.params14] at ht
        have h3 : t = 3 ∨ t = 4 := by
          rcases j with _ | _ | j
          · exact .inl (by simpa using ht.symm)
          · exact .inr (by simpa using ht.symm)
          · simp at ht
        rcases h3 with rfl | rfl
        · exact (show Tryz.prog.wantsStandIn 3 = false by kernel_rfl)
        · exact (show Tryz.prog.wantsStandIn 4 = false by kernel_rfl)⟩)
    starts_q6
end Go.Ev
namespace Go.Proofs.YtmjccopjophgjaaGreatDoor
theorem runStarts_card_holds : Rows.RunStartsCardSaid := Go.Ev.starts_card
#print axioms runStarts_card_holds
end Go.Proofs.YtmjccopjophgjaaGreatDoor
