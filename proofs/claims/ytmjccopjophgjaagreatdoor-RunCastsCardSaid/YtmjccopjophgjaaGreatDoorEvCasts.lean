/- 'RunCasts' returns true for every input and its arguments read behind the call as they read before. Conditions: the two listed package-level variables start as the program's text lays them (the card ties them to the text); a verified evaluator ('Go.Ev', EvDef .. EvTop) is run in the kernel once for each case of the input. -/
import Derived.Test.YtmjccopjophgjaaGreatDoorEvCastsR0
import Derived.Test.YtmjccopjophgjaaGreatDoorEvCastsR1
import Derived.Test.YtmjccopjophgjaaGreatDoorEvCastsR2
import Derived.Test.YtmjccopjophgjaaGreatDoorEvCastsR3
import Derived.Test.YtmjccopjophgjaaGreatDoorCards
import Derived.SevenTiedAt
namespace Go.Ev
set_option maxRecDepth 100000
open Go.Proofs Go.Proofs.YtmjccopjophgjaaGreatDoor Go.ChangeShapes Go.WideShapes Go.ChangeAt Go.WideMaps Go.WideElems Go.RowKit

theorem casts_all (x0 : Int) (x1 : Int) : ∃ args, LRel inj0 args [.int .i64 x0, .int .i64 x1] ∧ isTrue (evC envR 100000 1000 10 args H0) = true := by
  obtain ⟨r0, h0, e0⟩ := rem_rel (ι := inj0) 4 (by decide) (n := x0)
  obtain ⟨r1, h1, e1⟩ := rem_rel (ι := inj0) 5 (by decide) (n := x1)
  refine ⟨_, .cons _ _ _ _ e0 (.cons _ _ _ _ e1 .nil), ?_⟩
  match r0, h0 with
  | 0, _ =>
    match r1, h1 with
    | 0, _ =>
      exact casts_run_0_0
    | 1, _ =>
      exact casts_run_0_1
    | 2, _ =>
      exact casts_run_0_2
    | 3, _ =>
      exact casts_run_0_3
    | 4, _ =>
      exact casts_run_0_4
    | r + 5, h =>
      have h' : r + 5 < 5 := h
      omega
  | 1, _ =>
    match r1, h1 with
    | 0, _ =>
      exact casts_run_1_0
    | 1, _ =>
      exact casts_run_1_1
    | 2, _ =>
      exact casts_run_1_2
    | 3, _ =>
      exact casts_run_1_3
    | 4, _ =>
      exact casts_run_1_4
    | r + 5, h =>
      have h' : r + 5 < 5 := h
      omega
  | 2, _ =>
    match r1, h1 with
    | 0, _ =>
      exact casts_run_2_0
    | 1, _ =>
      exact casts_run_2_1
    | 2, _ =>
      exact casts_run_2_2
    | 3, _ =>
      exact casts_run_2_3
    | 4, _ =>
      exact casts_run_2_4
    | r + 5, h =>
      have h' : r + 5 < 5 := h
      omega
  | 3, _ =>
    match r1, h1 with
    | 0, _ =>
      exact casts_run_3_0
    | 1, _ =>
      exact casts_run_3_1
    | 2, _ =>
      exact casts_run_3_2
    | 3, _ =>
      exact casts_run_3_3
    | 4, _ =>
      exact casts_run_3_4
    | r + 5, h =>
      have h' : r + 5 < 5 := h
      omega
  | r + 4, h =>
    have h' : r + 4 < 4 := h
    omega

theorem casts_lifted (os : Os) (started : os.Started) (H : Type) (enc : TypeId × Value → H) :
    ReturnsInHanded {} Tryz.checked os 10 .any (fun w args => (Rows.runCastsSpec.pre enc Tryz.prog Tryz.f10 [] false w args ∧ laidMetH Tryz.prog laid2 w) ∧ sizedMet enc Tryz.prog Tryz.f10 (OpenSpec.ofChange Rows.runCastsSpec) false w args)
      (Rows.runCastsSpec.post enc Tryz.prog Tryz.f10 false true false false) := by
  refine returnsInHanded_of_change_and (C := Tryz.checked) (X := fun w _ => laidMetH Tryz.prog laid2 w) (fun _ _ _ hh h => h.of_heap hh) own started (by kernel_rfl) Tryz.func10
    (ChangeSpec.witness_shaped (enc := enc) (C := Tryz.checked) (os := os) (X := fun w _ => laidMetH Tryz.prog laid2 w) false (World.doorLaid Tryz.prog 400 os) #[.int .i64 0, .int .i64 0] 8 rfl (World.shaped_of_RefB (by kernel_rfl) (by kernel_rfl)) (by kernel_rfl) (by kernel_rfl) (by kernel_rfl) (door_met os _)) ?_
  intro W base args ds gs before hval0 hW _ _ hL _
  have hval : ∀ (j : Nat) t v, Tryz.f10.params[j]? = some t → args[j]? = some v → Value.okWide Tryz.prog W .any base t v := hval0
  have hW' := hW
  obtain ⟨p, q, hA0, hV, rfl, hfz, hnd⟩ := hW
  have hA : DataW.TrodAll enc Tryz.prog W 0 (fun _ => true) true Tryz.f10.params.toList args.toList ds p := hA0
  rw [Tryz.params10] at hA hval
  obtain ⟨v0, v1, d0, d1, p0, p1, rfl, rfl, rfl, h0, h1⟩ := trodAll_two hA
  obtain ⟨rfl, rfl⟩ := trodVars_none hV
  obtain ⟨x0, rfl, rfl, rfl, w0⟩ := open_int Tryz.underlying3 (hval 0 3 v0 rfl rfl) h0
  obtain ⟨x1, rfl, rfl, rfl, w1⟩ := open_int Tryz.underlying3 (hval 1 3 v1 rfl rfl) h1
  clear hA0 hval0
  simp only [List.append_nil] at hW'
  obtain ⟨argsA, ha, hrun⟩ := casts_all x0 x1
  refine (runR_true hrun hL ha).mono fun e W' ⟨he, hb⟩ => ?_
  subst he
  refine ⟨_, rfl, [.lit (.int .i64 x0), .lit (.int .i64 x1)], [], [], [], [], [], hW', ?_, ?_, rfl, hb.frame _, fun h => by cases h⟩
  · exact trodAll_mk1 (shut_bool Tryz.underlying4 _)
  · exact trodAll_mk2 (shut_int Tryz.underlying3 w0) (shut_int Tryz.underlying3 w1)

theorem casts_q1 : (Rows.runCastsRow.inPlace == Tryz.pinned.checked.prog.inPlace 10) = true := by kernel_rfl
theorem casts_q2 : (Rows.runCastsRow.unfollowed == Tryz.pinned.checked.prog.unfollowed 10) = true := by kernel_rfl
theorem casts_q3 : (Rows.runCastsRow.recurses == Tryz.pinned.checked.prog.recurses 10) = true := by kernel_rfl
theorem casts_q4 : (Rows.runCastsRow.named == Tryz.pinned.checked.prog.varsNamed 10) = true := by kernel_rfl
theorem casts_facts : joinedFacts Tryz.pinned.checked.prog 10 Tryz.f10 Rows.runCastsSpec Rows.runCastsRow = true := by
  unfold joinedFacts
  rw [casts_q1, casts_q2, casts_q3, casts_q4]
  kernel_rfl
theorem casts_holds : Rows.RunCastsSaid :=
  OpenClaim.holds_of_wide 10 Tryz.f10 rfl rfl rfl rfl rfl rfl rfl ⟨rfl, rfl, rfl, rfl, rfl⟩ rfl rfl rfl rfl rfl (by kernel_rfl) Tryz.func10 casts_facts
    (of_decide_eq_true (by kernel_rfl)) (by unfold Func.isWrapper; first | (rw [if_pos (by decide +kernel)]; kernel_rfl) | (rw [if_neg (by decide +kernel)]; exact ⟨rfl, rfl⟩))
    (fun os started H enc _ => casts_lifted os started H enc)

theorem casts_q5 : true = Tryz.pinned.checked.prog.looks [] := by kernel_rfl
theorem casts_q6 : false = Rows.runCastsRow.goesBy Tryz.pinned.checked.prog := by kernel_rfl
theorem casts_q7 : Tryz.pinned.checked.prog.mainIs = some ((true, "42c5c9a293a1d67662a4f1fda4c9e1c59618d83a311accec3c30746335a666ee").1, (true, "42c5c9a293a1d67662a4f1fda4c9e1c59618d83a311accec3c30746335a666ee").2.toList) := by kernel_rfl
theorem casts_card : Rows.RunCastsCardSaid :=
  Claim7.holds_tied_plain_at .later [] [.listed, .data] true (true, "42c5c9a293a1d67662a4f1fda4c9e1c59618d83a311accec3c30746335a666ee") true
    casts_holds (fun _ h => by cases h) (by kernel_rfl) (fun _ h => by cases h) runCasts_row_tie rfl ⟨rfl, rfl⟩ casts_q7 rfl
    (fun f fn hf hfn => by
      obtain rfl : f = 10 := Option.some.inj ((show Tryz.prog.funcNamed "gneiss/gneisslaw25.RunCasts" = some 10 by kernel_rfl).symm.trans hf) |>.symm
      obtain rfl : fn = Tryz.f10 := (Option.some.inj (Tryz.func10.symm.trans hfn)).symm
      exact ⟨casts_q5, fun j t ht => by
        rw [Tryz.params10] at ht
        have h3 : t = 3 := by
          rcases j with _ | _ | j
          · simpa using ht.symm
          · simpa using ht.symm
          · simp at ht
        subst h3
        exact (show Tryz.prog.wantsStandIn 3 = false by kernel_rfl)⟩)
    casts_q6
end Go.Ev
namespace Go.Proofs.YtmjccopjophgjaaGreatDoor
theorem runCasts_card_holds : Rows.RunCastsCardSaid := Go.Ev.casts_card
#print axioms runCasts_card_holds
end Go.Proofs.YtmjccopjophgjaaGreatDoor
