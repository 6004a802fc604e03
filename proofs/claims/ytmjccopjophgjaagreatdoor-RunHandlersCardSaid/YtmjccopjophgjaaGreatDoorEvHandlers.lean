/- 'RunHandlers' returns true for every input and its arguments read behind the call as they read before. Conditions: the two listed package-level variables start as the program's text lays them (the card ties them to the text); a verified evaluator ('Go.Ev', EvDef .. EvTop) is run in the kernel once for each case of the input. -/
import Derived.Test.YtmjccopjophgjaaGreatDoorEvHandlersR0
import Derived.Test.YtmjccopjophgjaaGreatDoorEvHandlersR1
import Derived.Test.YtmjccopjophgjaaGreatDoorEvHandlersR2
import Derived.Test.YtmjccopjophgjaaGreatDoorEvHandlersR3
import Derived.Test.YtmjccopjophgjaaGreatDoorCards
import Derived.SevenTiedAt
namespace Go.Ev
set_option maxRecDepth 100000
open Go.Proofs Go.Proofs.YtmjccopjophgjaaGreatDoor Go.ChangeShapes Go.WideShapes Go.ChangeAt Go.WideMaps Go.WideElems Go.RowKit

theorem handlers_all {x0 : Int} (w0 : (Lit.int .i64 x0).wf = true) {x1 : Int} (w1 : (Lit.int .i64 x1).wf = true) {x2 : Int} (w2 : (Lit.int .i64 x2).wf = true) : ∃ args, LRel inj0 args [.int .i64 x0, .int .i64 x1, .int .i64 x2] ∧ isTrue (evC envR 100000 1000 11 args H0) = true := by
  obtain ⟨r0, h0, e0⟩ := and_rel (ι := inj0) 2 (by decide) w0
  obtain ⟨r1, h1, e1⟩ := and_rel (ι := inj0) 2 (by decide) w1
  obtain ⟨r2, h2, e2⟩ := and_rel (ι := inj0) 2 (by decide) w2
  refine ⟨_, .cons _ _ _ _ e0 (.cons _ _ _ _ e1 (.cons _ _ _ _ e2 .nil)), ?_⟩
  match r0, h0 with
  | 0, _ =>
    match r1, h1 with
    | 0, _ =>
      match r2, h2 with
      | 0, _ =>
        exact handlers_run_0_0_0
      | 1, _ =>
        exact handlers_run_0_0_1
      | 2, _ =>
        exact handlers_run_0_0_2
      | 3, _ =>
        exact handlers_run_0_0_3
      | r + 4, h =>
        have h' : r + 4 < 4 := h
        omega
    | 1, _ =>
      match r2, h2 with
      | 0, _ =>
        exact handlers_run_0_1_0
      | 1, _ =>
        exact handlers_run_0_1_1
      | 2, _ =>
        exact handlers_run_0_1_2
      | 3, _ =>
        exact handlers_run_0_1_3
      | r + 4, h =>
        have h' : r + 4 < 4 := h
        omega
    | 2, _ =>
      match r2, h2 with
      | 0, _ =>
        exact handlers_run_0_2_0
      | 1, _ =>
        exact handlers_run_0_2_1
      | 2, _ =>
        exact handlers_run_0_2_2
      | 3, _ =>
        exact handlers_run_0_2_3
      | r + 4, h =>
        have h' : r + 4 < 4 := h
        omega
    | 3, _ =>
      match r2, h2 with
      | 0, _ =>
        exact handlers_run_0_3_0
      | 1, _ =>
        exact handlers_run_0_3_1
      | 2, _ =>
        exact handlers_run_0_3_2
      | 3, _ =>
        exact handlers_run_0_3_3
      | r + 4, h =>
        have h' : r + 4 < 4 := h
        omega
    | r + 4, h =>
      have h' : r + 4 < 4 := h
      omega
  | 1, _ =>
    match r1, h1 with
    | 0, _ =>
      match r2, h2 with
      | 0, _ =>
        exact handlers_run_1_0_0
      | 1, _ =>
        exact handlers_run_1_0_1
      | 2, _ =>
        exact handlers_run_1_0_2
      | 3, _ =>
        exact handlers_run_1_0_3
      | r + 4, h =>
        have h' : r + 4 < 4 := h
        omega
    | 1, _ =>
      match r2, h2 with
      | 0, _ =>
        exact handlers_run_1_1_0
      | 1, _ =>
        exact handlers_run_1_1_1
      | 2, _ =>
        exact handlers_run_1_1_2
      | 3, _ =>
        exact handlers_run_1_1_3
      | r + 4, h =>
        have h' : r + 4 < 4 := h
        omega
    | 2, _ =>
      match r2, h2 with
      | 0, _ =>
        exact handlers_run_1_2_0
      | 1, _ =>
        exact handlers_run_1_2_1
      | 2, _ =>
        exact handlers_run_1_2_2
      | 3, _ =>
        exact handlers_run_1_2_3
      | r + 4, h =>
        have h' : r + 4 < 4 := h
        omega
    | 3, _ =>
      match r2, h2 with
      | 0, _ =>
        exact handlers_run_1_3_0
      | 1, _ =>
        exact handlers_run_1_3_1
      | 2, _ =>
        exact handlers_run_1_3_2
      | 3, _ =>
        exact handlers_run_1_3_3
      | r + 4, h =>
        have h' : r + 4 < 4 := h
        omega
    | r + 4, h =>
      have h' : r + 4 < 4 := h
      omega
  | 2, _ =>
    match r1, h1 with
    | 0, _ =>
      match r2, h2 with
      | 0, _ =>
        exact handlers_run_2_0_0
      | 1, _ =>
        exact handlers_run_2_0_1
      | 2, _ =>
        exact handlers_run_2_0_2
      | 3, _ =>
        exact handlers_run_2_0_3
      | r + 4, h =>
        have h' : r + 4 < 4 := h
        omega
    | 1, _ =>
      match r2, h2 with
      | 0, _ =>
        exact handlers_run_2_1_0
      | 1, _ =>
        exact handlers_run_2_1_1
      | 2, _ =>
        exact handlers_run_2_1_2
      | 3, _ =>
        exact handlers_run_2_1_3
      | r + 4, h =>
        have h' : r + 4 < 4 := h
        omega
    | 2, _ =>
      match r2, h2 with
      | 0, _ =>
        exact handlers_run_2_2_0
      | 1, _ =>
        exact handlers_run_2_2_1
      | 2, _ =>
        exact handlers_run_2_2_2
      | 3, _ =>
        exact handlers_run_2_2_3
      | r + 4, h =>
        have h' : r + 4 < 4 := h
        omega
    | 3, _ =>
      match r2, h2 with
      | 0, _ =>
        exact handlers_run_2_3_0
      | 1, _ =>
        exact handlers_run_2_3_1
      | 2, _ =>
        exact handlers_run_2_3_2
      | 3, _ =>
        exact handlers_run_2_3_3
      | r + 4, h =>
        have h' : r + 4 < 4 := h
        omega
    | r + 4, h =>
      have h' : r + 4 < 4 := h
      omega
  | 3, _ =>
    match r1, h1 with
    | 0, _ =>
      match r2, h2 with
      | 0, _ =>
        exact handlers_run_3_0_0
      | 1, _ =>
        exact handlers_run_3_0_1
      | 2, _ =>
        exact handlers_run_3_0_2
      | 3, _ =>
        exact handlers_run_3_0_3
      | r + 4, h =>
        have h' : r + 4 < 4 := h
        omega
    | 1, _ =>
      match r2, h2 with
      | 0, _ =>
        exact handlers_run_3_1_0
      | 1, _ =>
        exact handlers_run_3_1_1
      | 2, _ =>
        exact handlers_run_3_1_2
      | 3, _ =>
        exact handlers_run_3_1_3
      | r + 4, h =>
        have h' : r + 4 < 4 := h
        omega
    | 2, _ =>
      match r2, h2 with
      | 0, _ =>
        exact handlers_run_3_2_0
      | 1, _ =>
        exact handlers_run_3_2_1
      | 2, _ =>
        exact handlers_run_3_2_2
      | 3, _ =>
        exact handlers_run_3_2_3
      | r + 4, h =>
        have h' : r + 4 < 4 := h
        omega
    | 3, _ =>
      match r2, h2 with
      | 0, _ =>
        exact handlers_run_3_3_0
      | 1, _ =>
        exact handlers_run_3_3_1
      | 2, _ =>
        exact handlers_run_3_3_2
      | 3, _ =>
        exact handlers_run_3_3_3
      | r + 4, h =>
        have h' : r + 4 < 4 := h
        omega
    | r + 4, h =>
      have h' : r + 4 < 4 := h
      omega
  | r + 4, h =>
    have h' : r + 4 < 4 := h
    omega

theorem handlers_lifted (os : Os) (started : os.Started) (H : Type) (enc : TypeId × Value → H) :
    ReturnsInHanded {} Tryz.checked os 11 .any (fun w args => (Rows.runHandlersSpec.pre enc Tryz.prog Tryz.f11 [] false w args ∧ laidMetH Tryz.prog laid2 w) ∧ sizedMet enc Tryz.prog Tryz.f11 (OpenSpec.ofChange Rows.runHandlersSpec) false w args)
      (Rows.runHandlersSpec.post enc Tryz.prog Tryz.f11 false true false false) := by
  refine returnsInHanded_of_change_and (C := Tryz.checked) (X := fun w _ => laidMetH Tryz.prog laid2 w) (fun _ _ _ hh h => h.of_heap hh) own started (by kernel_rfl) Tryz.func11
    (ChangeSpec.witness_shaped (enc := enc) (C := Tryz.checked) (os := os) (X := fun w _ => laidMetH Tryz.prog laid2 w) false (World.doorLaid Tryz.prog 400 os) #[.int .i64 0, .int .i64 0, .int .i64 0] 8 rfl (World.shaped_of_RefB (by kernel_rfl) (by kernel_rfl)) (by kernel_rfl) (by kernel_rfl) (by kernel_rfl) (door_met os _)) ?_
  intro W base args ds gs before hval0 hW _ _ hL _
  have hval : ∀ (j : Nat) t v, Tryz.f11.params[j]? = some t → args[j]? = some v → Value.okWide Tryz.prog W .any base t v := hval0
  have hW' := hW
  obtain ⟨p, q, hA0, hV, rfl, hfz, hnd⟩ := hW
  have hA : DataW.TrodAll enc Tryz.prog W 0 (fun _ => true) true Tryz.f11.params.toList args.toList ds p := hA0
  rw [Tryz.params11] at hA hval
  obtain ⟨v0, v1, v2, d0, d1, d2, p0, p1, p2, rfl, rfl, rfl, h0, h1, h2⟩ := trodAll_three hA
  obtain ⟨rfl, rfl⟩ := trodVars_none hV
  obtain ⟨x0, rfl, rfl, rfl, w0⟩ := open_int Tryz.underlying3 (hval 0 3 v0 rfl rfl) h0
  obtain ⟨x1, rfl, rfl, rfl, w1⟩ := open_int Tryz.underlying3 (hval 1 3 v1 rfl rfl) h1
  obtain ⟨x2, rfl, rfl, rfl, w2⟩ := open_int Tryz.underlying3 (hval 2 3 v2 rfl rfl) h2
  clear hA0 hval0
  simp only [List.append_nil] at hW'
  obtain ⟨argsA, ha, hrun⟩ := handlers_all w0 w1 w2
  refine (runR_true hrun hL ha).mono fun e W' ⟨he, hb⟩ => ?_
  subst he
  refine ⟨_, rfl, [.lit (.int .i64 x0), .lit (.int .i64 x1), .lit (.int .i64 x2)], [], [], [], [], [], hW', ?_, ?_, rfl, hb.frame _, fun h => by cases h⟩
  · exact trodAll_mk1 (shut_bool Tryz.underlying4 _)
  · exact trodAll_mk3 (shut_int Tryz.underlying3 w0) (shut_int Tryz.underlying3 w1) (shut_int Tryz.underlying3 w2)

theorem handlers_q1 : (Rows.runHandlersRow.inPlace == Tryz.pinned.checked.prog.inPlace 11) = true := by kernel_rfl
theorem handlers_q2 : (Rows.runHandlersRow.unfollowed == Tryz.pinned.checked.prog.unfollowed 11) = true := by kernel_rfl
theorem handlers_q3 : (Rows.runHandlersRow.recurses == Tryz.pinned.checked.prog.recurses 11) = true := by kernel_rfl
theorem handlers_q4 : (Rows.runHandlersRow.named == Tryz.pinned.checked.prog.varsNamed 11) = true := by kernel_rfl
theorem handlers_facts : joinedFacts Tryz.pinned.checked.prog 11 Tryz.f11 Rows.runHandlersSpec Rows.runHandlersRow = true := by
  unfold joinedFacts
  rw [handlers_q1, handlers_q2, handlers_q3, handlers_q4]
  kernel_rfl
theorem handlers_holds : Rows.RunHandlersSaid :=
  OpenClaim.holds_of_wide 11 Tryz.f11 rfl rfl rfl rfl rfl rfl rfl ⟨rfl, rfl, rfl, rfl, rfl⟩ rfl rfl rfl rfl rfl (by kernel_rfl) Tryz.func11 handlers_facts
    (of_decide_eq_true (by kernel_rfl)) (by unfold Func.isWrapper; first | (rw [if_pos (by decide +kernel)]; kernel_rfl) | (rw [if_neg (by decide +kernel)]; exact ⟨rfl, rfl⟩))
    (fun os started H enc _ => handlers_lifted os started H enc)

theorem handlers_q5 : true = Tryz.pinned.checked.prog.looks [] := by kernel_rfl
theorem handlers_q6 : false = Rows.runHandlersRow.goesBy Tryz.pinned.checked.prog := by kernel_rfl
theorem handlers_q7 : Tryz.pinned.checked.prog.mainIs = some ((true, "42c5c9a293a1d67662a4f1fda4c9e1c59618d83a311accec3c30746335a666ee").1, (true, "42c5c9a293a1d67662a4f1fda4c9e1c59618d83a311accec3c30746335a666ee").2.toList) := by kernel_rfl
theorem handlers_card : Rows.RunHandlersCardSaid :=
  Claim7.holds_tied_plain_at .later [] [.listed, .data] true (true, "42c5c9a293a1d67662a4f1fda4c9e1c59618d83a311accec3c30746335a666ee") true
    handlers_holds (fun _ h => by cases h) (by kernel_rfl) (fun _ h => by cases h) runHandlers_row_tie rfl ⟨rfl, rfl⟩ handlers_q7 rfl
    (fun f fn hf hfn => by
      obtain rfl : f = 11 := Option.some.inj ((show Tryz.prog.funcNamed "gneiss/gneisslaw25.RunHandlers" = some 11 by kernel_rfl).symm.trans hf) |>.symm
      obtain rfl : fn = Tryz.f11 := (Option.some.inj (Tryz.func11.symm.trans hfn)).symm
      exact ⟨handlers_q5, fun j t ht => by
        rw [Tryz.params11] at ht
        have h3 : t = 3 := by
          rcases j with _ | _ | _ | j
          · simpa using ht.symm
          · simpa using ht.symm
          · simpa using ht.symm
          · simp at ht
        subst h3
        exact (show Tryz.prog.wantsStandIn 3 = false by kernel_rfl)⟩)
    handlers_q6
end Go.Ev
namespace Go.Proofs.YtmjccopjophgjaaGreatDoor
theorem runHandlers_card_holds : Rows.RunHandlersCardSaid := Go.Ev.handlers_card
#print axioms runHandlers_card_holds
end Go.Proofs.YtmjccopjophgjaaGreatDoor
