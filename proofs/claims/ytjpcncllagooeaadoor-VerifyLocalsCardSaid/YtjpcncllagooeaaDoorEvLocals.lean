/- 'VerifyLocals' returns true for every input and its arguments read behind the call as they read before. Conditions: the two listed package-level variables start as the program's text lays them (the card ties them to the text); a verified evaluator ('Go.Ev', EvDef .. EvTop) is run in the kernel once for each case of the input. -/
import Derived.Test.YtjpcncllagooeaaDoorEvLocalsR0
import Derived.Test.YtjpcncllagooeaaDoorEvLocalsR1
import Derived.Test.YtjpcncllagooeaaDoorEvLocalsR2
import Derived.Test.YtjpcncllagooeaaDoorEvLocalsR3
import Derived.Test.YtjpcncllagooeaaDoorEvLocalsR4
import Derived.Test.YtjpcncllagooeaaDoorEvLocalsR5
import Derived.Test.YtjpcncllagooeaaDoorEvLocalsR6
import Derived.Test.YtjpcncllagooeaaDoorEvLocalsR7
import Derived.Test.YtjpcncllagooeaaDoorEvLocalsR8
import Derived.Test.YtjpcncllagooeaaDoorEvLocalsR9
import Derived.Test.YtjpcncllagooeaaDoorEvLocalsR10
import Derived.Test.YtjpcncllagooeaaDoorEvLocalsR11
import Derived.Test.YtjpcncllagooeaaDoorEvLocalsR12
import Derived.Test.YtjpcncllagooeaaDoorEvLocalsR13
import Derived.Test.YtjpcncllagooeaaDoorEvLocalsR14
import Derived.Test.YtjpcncllagooeaaDoorEvLocalsR15
import Derived.Test.YtjpcncllagooeaaDoorCards
import Derived.SevenTiedAt
namespace Go.Ev
set_option maxRecDepth 100000
open Go.Proofs Go.Proofs.YtjpcncllagooeaaDoor Go.ChangeShapes Go.WideShapes Go.ChangeAt Go.WideMaps Go.WideElems Go.RowKit

theorem locals_all {x0 : Int} (w0 : (Lit.int .i64 x0).wf = true) {x1 : Int} (w1 : (Lit.int .i64 x1).wf = true) : ∃ args, LRel inj0 args [.int .i64 x0, .int .i64 x1] ∧ isTrue (evC env1 100000 1000 4 args H0) = true := by
  obtain ⟨r0, h0, e0⟩ := and_rel (ι := inj0) 3 (by decide) w0
  obtain ⟨r1, h1, e1⟩ := and_rel (ι := inj0) 3 (by decide) w1
  refine ⟨_, .cons _ _ _ _ e0 (.cons _ _ _ _ e1 .nil), ?_⟩
  match r0, h0 with
  | 0, _ =>
    match r1, h1 with
    | 0, _ =>
      exact locals_run_0_0
    | 1, _ =>
      exact locals_run_0_1
    | 2, _ =>
      exact locals_run_0_2
    | 3, _ =>
      exact locals_run_0_3
    | 4, _ =>
      exact locals_run_0_4
    | 5, _ =>
      exact locals_run_0_5
    | 6, _ =>
      exact locals_run_0_6
    | 7, _ =>
      exact locals_run_0_7
    | r + 8, h =>
      have h' : r + 8 < 8 := h
      omega
  | 1, _ =>
    match r1, h1 with
    | 0, _ =>
      exact locals_run_1_0
    | 1, _ =>
      exact locals_run_1_1
    | 2, _ =>
      exact locals_run_1_2
    | 3, _ =>
      exact locals_run_1_3
    | 4, _ =>
      exact locals_run_1_4
    | 5, _ =>
      exact locals_run_1_5
    | 6, _ =>
      exact locals_run_1_6
    | 7, _ =>
      exact locals_run_1_7
    | r + 8, h =>
      have h' : r + 8 < 8 := h
      omega
  | 2, _ =>
    match r1, h1 with
    | 0, _ =>
      exact locals_run_2_0
    | 1, _ =>
      exact locals_run_2_1
    | 2, _ =>
      exact locals_run_2_2
    | 3, _ =>
      exact locals_run_2_3
    | 4, _ =>
      exact locals_run_2_4
    | 5, _ =>
      exact locals_run_2_5
    | 6, _ =>
      exact locals_run_2_6
    | 7, _ =>
      exact locals_run_2_7
    | r + 8, h =>
      have h' : r + 8 < 8 := h
      omega
  | 3, _ =>
    match r1, h1 with
    | 0, _ =>
      exact locals_run_3_0
    | 1, _ =>
      exact locals_run_3_1
    | 2, _ =>
      exact locals_run_3_2
    | 3, _ =>
      exact locals_run_3_3
    | 4, _ =>
      exact locals_run_3_4
    | 5, _ =>
      exact locals_run_3_5
    | 6, _ =>
      exact locals_run_3_6
    | 7, _ =>
      exact locals_run_3_7
    | r + 8, h =>
      have h' : r + 8 < 8 := h
      omega
  | 4, _ =>
    match r1, h1 with
    | 0, _ =>
      exact locals_run_4_0
    | 1, _ =>
      exact locals_run_4_1
    | 2, _ =>
      exact locals_run_4_2
    | 3, _ =>
      exact locals_run_4_3
    | 4, _ =>
      exact locals_run_4_4
    | 5, _ =>
      exact locals_run_4_5
    | 6, _ =>
      exact locals_run_4_6
    | 7, _ =>
      exact locals_run_4_7
    | r + 8, h =>
      have h' : r + 8 < 8 := h
      omega
  | 5, _ =>
    match r1, h1 with
    | 0, _ =>
      exact locals_run_5_0
    | 1, _ =>
      exact locals_run_5_1
    | 2, _ =>
      exact locals_run_5_2
    | 3, _ =>
      exact locals_run_5_3
    | 4, _ =>
      exact locals_run_5_4
    | 5, _ =>
      exact locals_run_5_5
    | 6, _ =>
      exact locals_run_5_6
    | 7, _ =>
      exact locals_run_5_7
    | r + 8, h =>
      have h' : r + 8 < 8 := h
      omega
  | 6, _ =>
    match r1, h1 with
    | 0, _ =>
      exact locals_run_6_0
    | 1, _ =>
      exact locals_run_6_1
    | 2, _ =>
      exact locals_run_6_2
    | 3, _ =>
      exact locals_run_6_3
    | 4, _ =>
      exact locals_run_6_4
    | 5, _ =>
      exact locals_run_6_5
    | 6, _ =>
      exact locals_run_6_6
    | 7, _ =>
      exact locals_run_6_7
    | r + 8, h =>
      have h' : r + 8 < 8 := h
      omega
  | 7, _ =>
    match r1, h1 with
    | 0, _ =>
      exact locals_run_7_0
    | 1, _ =>
      exact locals_run_7_1
    | 2, _ =>
      exact locals_run_7_2
    | 3, _ =>
      exact locals_run_7_3
    | 4, _ =>
      exact locals_run_7_4
    | 5, _ =>
      exact locals_run_7_5
    | 6, _ =>
      exact locals_run_7_6
    | 7, _ =>
      exact locals_run_7_7
    | r + 8, h =>
      have h' : r + 8 < 8 := h
      omega
  | r + 8, h =>
    have h' : r + 8 < 8 := h
    omega

theorem locals_lifted (os : Os) (started : os.Started) (H : Type) (enc : TypeId × Value → H) :
    ReturnsInHanded {} Tryd.checked os 4 .any (fun w args => (Rows.verifyLocalsSpec.pre enc Tryd.prog Tryd.f4 [] false w args ∧ laidMetH Tryd.prog laid2 w) ∧ sizedMet enc Tryd.prog Tryd.f4 (OpenSpec.ofChange Rows.verifyLocalsSpec) false w args)
      (Rows.verifyLocalsSpec.post enc Tryd.prog Tryd.f4 false true false false) := by
  refine returnsInHanded_of_change_and (C := Tryd.checked) (X := fun w _ => laidMetH Tryd.prog laid2 w) (fun _ _ _ hh h => h.of_heap hh) own started (by kernel_rfl) Tryd.func4
    (ChangeSpec.witness_shaped (enc := enc) (C := Tryd.checked) (os := os) (X := fun w _ => laidMetH Tryd.prog laid2 w) false (World.doorLaid Tryd.prog 400 os) #[.int .i64 0, .int .i64 0] 8 rfl (World.shaped_of_RefB (by kernel_rfl) (by kernel_rfl)) (by kernel_rfl) (by kernel_rfl) (by kernel_rfl) (door_met os _)) ?_
  intro W base args ds gs before hval0 hW _ _ hL _
  have hval : ∀ (j : Nat) t v, Tryd.f4.params[j]? = some t → args[j]? = some v → Value.okWide Tryd.prog W .any base t v := hval0
  have hW' := hW
  obtain ⟨p, q, hA0, hV, rfl, hfz, hnd⟩ := hW
  have hA : DataW.TrodAll enc Tryd.prog W 0 (fun _ => true) true Tryd.f4.params.toList args.toList ds p := hA0
  rw [Tryd.params4] at hA hval
  obtain ⟨v0, v1, d0, d1, p0, p1, rfl, rfl, rfl, h0, h1⟩ := trodAll_two hA
  obtain ⟨rfl, rfl⟩ := trodVars_none hV
  obtain ⟨x0, rfl, rfl, rfl, w0⟩ := open_int Tryd.underlying3 (hval 0 3 v0 rfl rfl) h0
  obtain ⟨x1, rfl, rfl, rfl, w1⟩ := open_int Tryd.underlying3 (hval 1 3 v1 rfl rfl) h1
  clear hA0 hval0
  simp only [List.append_nil] at hW'
  obtain ⟨argsA, ha, hrun⟩ := locals_all w0 w1
  refine (run_true hrun hL ha).mono fun e W' ⟨he, hb⟩ => ?_
  subst he
  refine ⟨_, rfl, [.lit (.int .i64 x0), .lit (.int .i64 x1)], [], [], [], [], [], hW', ?_, ?_, rfl, hb.frame _, fun h => by cases h⟩
  · exact trodAll_mk1 (shut_bool Tryd.underlying4 _)
  · exact trodAll_mk2 (shut_int Tryd.underlying3 w0) (shut_int Tryd.underlying3 w1)

theorem locals_holds : Rows.VerifyLocalsSaid :=
  OpenClaim.holds_of_wide 4 Tryd.f4 rfl rfl rfl rfl rfl rfl rfl ⟨rfl, rfl, rfl, rfl, rfl⟩ rfl rfl rfl rfl rfl (by kernel_rfl) Tryd.func4 (by kernel_rfl)
    (of_decide_eq_true (by kernel_rfl)) (by unfold Func.isWrapper; first | (rw [if_pos (by decide +kernel)]; kernel_rfl) | (rw [if_neg (by decide +kernel)]; exact ⟨rfl, rfl⟩))
    (fun os started H enc _ => locals_lifted os started H enc)

theorem locals_card : Rows.VerifyLocalsCardSaid :=
  Claim7.holds_tied_plain_at .later [] [.listed, .data] true (true, "723e1c8e6aae577151c2eb82f9142ce590763f8481064b04f69042648b11b070") true
    locals_holds (fun _ h => by cases h) (by kernel_rfl) (fun _ h => by cases h) verifyLocals_row_tie rfl ⟨rfl, rfl⟩ (by kernel_rfl) rfl
    (fun f fn hf hfn => by
      obtain rfl : f = 4 := Option.some.inj ((show Tryd.prog.funcNamed "gneiss/gneisslaw18.VerifyLocals" = some 4 by kernel_rfl).symm.trans hf) |>.symm
      obtain rfl : fn = Tryd.f4 := (Option.some.inj (Tryd.func4.symm.trans hfn)).symm
      exact ⟨by kernel_rfl, fun j t ht => by
        rw [Tryd.params4] at ht
        have h3 : t = 3 := by
          rcases j with _ | _ | j
          · simpa using ht.symm
          · simpa using ht.symm
          · simp at ht
        subst h3
        exact (show Tryd.prog.wantsStandIn 3 = false by kernel_rfl)⟩)
    (by kernel_rfl)
end Go.Ev
namespace Go.Proofs.YtjpcncllagooeaaDoor
theorem verifyLocals_card_holds : Rows.VerifyLocalsCardSaid := Go.Ev.locals_card
#print axioms verifyLocals_card_holds
end Go.Proofs.YtjpcncllagooeaaDoor
