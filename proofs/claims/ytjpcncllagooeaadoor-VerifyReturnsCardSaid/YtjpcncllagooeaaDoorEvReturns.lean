/- 'VerifyReturns' returns true for every input and its arguments read behind the call as they read before. Conditions: the two listed package-level variables start as the program's text lays them (the card ties them to the text); a verified evaluator ('Go.Ev', EvDef .. EvTop) is run in the kernel once for each case of the input. -/
import Derived.Test.YtjpcncllagooeaaDoorEvReturnsR0
import Derived.Test.YtjpcncllagooeaaDoorEvReturnsR1
import Derived.Test.YtjpcncllagooeaaDoorEvReturnsR2
import Derived.Test.YtjpcncllagooeaaDoorCards
import Derived.SevenTiedAt
namespace Go.Ev
set_option maxRecDepth 100000
open Go.Proofs Go.Proofs.YtjpcncllagooeaaDoor Go.ChangeShapes Go.WideShapes Go.ChangeAt Go.WideMaps Go.WideElems Go.RowKit

theorem returns_all (x0 : Int) (x1 : Int) : ∃ args, LRel inj0 args [.int .i64 x0, .int .i64 x1] ∧ isTrue (evC env1 100000 1000 10 args H0) = true := by
  obtain ⟨r0, h0, e0⟩ := rem_rel (ι := inj0) 3 (by decide) (n := x0)
  obtain ⟨r1, h1, e1⟩ := rem_rel (ι := inj0) 3 (by decide) (n := x1)
  refine ⟨_, .cons _ _ _ _ e0 (.cons _ _ _ _ e1 .nil), ?_⟩
  match r0, h0 with
  | 0, _ =>
    match r1, h1 with
    | 0, _ =>
      exact returns_run_0_0
    | 1, _ =>
      exact returns_run_0_1
    | 2, _ =>
      exact returns_run_0_2
    | r + 3, h =>
      have h' : r + 3 < 3 := h
      omega
  | 1, _ =>
    match r1, h1 with
    | 0, _ =>
      exact returns_run_1_0
    | 1, _ =>
      exact returns_run_1_1
    | 2, _ =>
      exact returns_run_1_2
    | r + 3, h =>
      have h' : r + 3 < 3 := h
      omega
  | 2, _ =>
    match r1, h1 with
    | 0, _ =>
      exact returns_run_2_0
    | 1, _ =>
      exact returns_run_2_1
    | 2, _ =>
      exact returns_run_2_2
    | r + 3, h =>
      have h' : r + 3 < 3 := h
      omega
  | r + 3, h =>
    have h' : r + 3 < 3 := h
    omega

theorem returns_lifted (os : Os) (started : os.Started) (H : Type) (enc : TypeId × Value → H) :
    ReturnsInHanded {} Tryd.checked os 10 .any (fun w args => (Rows.verifyReturnsSpec.pre enc Tryd.prog Tryd.f10 [] false w args ∧ laidMetH Tryd.prog laid2 w) ∧ sizedMet enc Tryd.prog Tryd.f10 (OpenSpec.ofChange Rows.verifyReturnsSpec) false w args)
      (Rows.verifyReturnsSpec.post enc Tryd.prog Tryd.f10 false true false false) := by
  refine returnsInHanded_of_change_and (C := Tryd.checked) (X := fun w _ => laidMetH Tryd.prog laid2 w) (fun _ _ _ hh h => h.of_heap hh) own started (by kernel_rfl) Tryd.func10
    (ChangeSpec.witness_shaped (enc := enc) (C := Tryd.checked) (os := os) (X := fun w _ => laidMetH Tryd.prog laid2 w) false (World.doorLaid Tryd.prog 400 os) #[.int .i64 0, .int .i64 0] 8 rfl (World.shaped_of_RefB (by kernel_rfl) (by kernel_rfl)) (by kernel_rfl) (by kernel_rfl) (by kernel_rfl) (door_met os _)) ?_
  intro W base args ds gs before hval0 hW _ _ hL _
  have hval : ∀ (j : Nat) t v, Tryd.f10.params[j]? = some t → args[j]? = some v → Value.okWide Tryd.prog W .any base t v := hval0
  have hW' := hW
  obtain ⟨p, q, hA0, hV, rfl, hfz, hnd⟩ := hW
  have hA : DataW.TrodAll enc Tryd.prog W 0 (fun _ => true) true Tryd.f10.params.toList args.toList ds p := hA0
  rw [Tryd.params10] at hA hval
  obtain ⟨v0, v1, d0, d1, p0, p1, rfl, rfl, rfl, h0, h1⟩ := trodAll_two hA
  obtain ⟨rfl, rfl⟩ := trodVars_none hV
  obtain ⟨x0, rfl, rfl, rfl, w0⟩ := open_int Tryd.underlying3 (hval 0 3 v0 rfl rfl) h0
  obtain ⟨x1, rfl, rfl, rfl, w1⟩ := open_int Tryd.underlying3 (hval 1 3 v1 rfl rfl) h1
  clear hA0 hval0
  simp only [List.append_nil] at hW'
  obtain ⟨argsA, ha, hrun⟩ := returns_all x0 x1
  refine (run_true hrun hL ha).mono fun e W' ⟨he, hb⟩ => ?_
  subst he
  refine ⟨_, rfl, [.lit (.int .i64 x0), .lit (.int .i64 x1)], [], [], [], [], [], hW', ?_, ?_, rfl, hb.frame _, fun h => by cases h⟩
  · exact trodAll_mk1 (shut_bool Tryd.underlying4 _)
  · exact trodAll_mk2 (shut_int Tryd.underlying3 w0) (shut_int Tryd.underlying3 w1)

theorem returns_holds : Rows.VerifyReturnsSaid :=
  OpenClaim.holds_of_wide 10 Tryd.f10 rfl rfl rfl rfl rfl rfl rfl ⟨rfl, rfl, rfl, rfl, rfl⟩ rfl rfl rfl rfl rfl (by kernel_rfl) Tryd.func10 (by kernel_rfl)
    (of_decide_eq_true (by kernel_rfl)) (by unfold Func.isWrapper; first | (rw [if_pos (by decide +kernel)]; kernel_rfl) | (rw [if_neg (by decide +kernel)]; exact ⟨rfl, rfl⟩))
    (fun os started H enc _ => returns_lifted os started H enc)

theorem returns_card : Rows.VerifyReturnsCardSaid :=
  Claim7.holds_tied_plain_at .later [] [.listed, .data] true (true, "723e1c8e6aae577151c2eb82f9142ce590763f8481064b04f69042648b11b070") true
    returns_holds (fun _ h => by cases h) (by kernel_rfl) (fun _ h => by cases h) verifyReturns_row_tie rfl ⟨rfl, rfl⟩ (by kernel_rfl) rfl
    (fun f fn hf hfn => by
      obtain rfl : f = 10 := Option.some.inj ((show Tryd.prog.funcNamed "gneiss/gneisslaw18.VerifyReturns" = some 10 by kernel_rfl).symm.trans hf) |>.symm
      obtain rfl : fn = Tryd.f10 := (Option.some.inj (Tryd.func10.symm.trans hfn)).symm
      exact ⟨by kernel_rfl, fun j t ht => by
        rw [Tryd.params10] at ht
        have h3 : t = 3 := by
          rcases j with _ | _ | j
          · simpa using ht.symm
          · simpa using ht.symm
          · simp at ht
        subst h3
        exact (show Tryd.prog.wantsStandIn 3 = false by kernel_rfl)⟩)
    (by kernel_rfl)
end Go.Ev
namespace Go.Proofs.YtjpcncllagooeaaDoor
theorem verifyReturns_card_holds : Rows.VerifyReturnsCardSaid := Go.Ev.returns_card
#print axioms verifyReturns_card_holds
end Go.Proofs.YtjpcncllagooeaaDoor
