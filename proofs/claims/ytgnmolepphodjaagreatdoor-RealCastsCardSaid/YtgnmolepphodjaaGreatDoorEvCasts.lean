/- 'RealCasts' returns true for every input and its arguments read behind the call as they read before. Conditions: the two listed package-level variables start as the program's text lays them (the card ties them to the text); a verified evaluator ('Go.Ev', EvDef .. EvTop) is run in the kernel once for each case of the input. -/
import Derived.Test.YtgnmolepphodjaaGreatDoorEvCastsR0
import Derived.Test.YtgnmolepphodjaaGreatDoorEvCastsR1
import Derived.Test.YtgnmolepphodjaaGreatDoorEvCastsR2
import Derived.Test.YtgnmolepphodjaaGreatDoorEvCastsR3
import Derived.Test.YtgnmolepphodjaaGreatDoorEvCastsR4
import Derived.Test.YtgnmolepphodjaaGreatDoorEvCastsR5
import Derived.Test.YtgnmolepphodjaaGreatDoorEvCastsR6
import Derived.Test.YtgnmolepphodjaaGreatDoorEvCastsR7
import Derived.Test.YtgnmolepphodjaaGreatDoorEvCastsR8
import Derived.Test.YtgnmolepphodjaaGreatDoorEvCastsR9
import Derived.Test.YtgnmolepphodjaaGreatDoorEvCastsR10
import Derived.Test.YtgnmolepphodjaaGreatDoorEvCastsR11
import Derived.Test.YtgnmolepphodjaaGreatDoorEvCastsR12
import Derived.Test.YtgnmolepphodjaaGreatDoorEvCastsR13
import Derived.Test.YtgnmolepphodjaaGreatDoorEvCastsR14
import Derived.Test.YtgnmolepphodjaaGreatDoorEvCastsR15
import Derived.Test.YtgnmolepphodjaaGreatDoorEvCastsR16
import Derived.Test.YtgnmolepphodjaaGreatDoorEvCastsR17
import Derived.Test.YtgnmolepphodjaaGreatDoorEvCastsR18
import Derived.Test.YtgnmolepphodjaaGreatDoorEvCastsR19
import Derived.Test.YtgnmolepphodjaaGreatDoorCards
import Derived.SevenTiedAt
namespace Go.Ev
set_option maxRecDepth 100000
open Go.Proofs Go.Proofs.YtgnmolepphodjaaGreatDoor Go.ChangeShapes Go.WideShapes Go.ChangeAt Go.WideMaps Go.WideElems Go.RowKit

theorem casts_all (x0 : Int) (x1 : Int) : ∃ args, LRel inj0 args [.int .i64 x0, .int .i64 x1] ∧ isTrue (evC env1 100000 1000 5 args H0) = true := by
  obtain ⟨r0, h0, e0⟩ := rem_rel (ι := inj0) 4 (by decide) (n := x0)
  obtain ⟨r1, h1, e1⟩ := rem_rel (ι := inj0) 5 (by decide) (n := x1)
  refine ⟨_, .cons _ _ _ _ e0 (.cons _ _ _ _ e1 .nil), ?_⟩
  match r0, h0 with
  | 0, _ =>
    match r1, h1 with
    | 0, _ =>
      exact casts_run_0_0
    | 1, _ =>
      exact casts_run_0_1
    | 2, _ =>
      exact casts_run_0_2
    | 3, _ =>
      exact casts_run_0_3
    | 4, _ =>
      exact casts_run_0_4
    | r + 5, h =>
      have h' : r + 5 < 5 := h
      omega
  | 1, _ =>
    match r1, h1 with
    | 0, _ =>
      exact casts_run_1_0
    | 1, _ =>
      exact casts_run_1_1
    | 2, _ =>
      exact casts_run_1_2
    | 3, _ =>
      exact casts_run_1_3
    | 4, _ =>
      exact casts_run_1_4
    | r + 5, h =>
      have h' : r + 5 < 5 := h
      omega
  | 2, _ =>
    match r1, h1 with
    | 0, _ =>
      exact casts_run_2_0
    | 1, _ =>
      exact casts_run_2_1
    | 2, _ =>
      exact casts_run_2_2
    | 3, _ =>
      exact casts_run_2_3
    | 4, _ =>
      exact casts_run_2_4
    | r + 5, h =>
      have h' : r + 5 < 5 := h
      omega
  | 3, _ =>
    match r1, h1 with
    | 0, _ =>
      exact casts_run_3_0
    | 1, _ =>
      exact casts_run_3_1
    | 2, _ =>
      exact casts_run_3_2
    | 3, _ =>
      exact casts_run_3_3
    | 4, _ =>
      exact casts_run_3_4
    | r + 5, h =>
      have h' : r + 5 < 5 := h
      omega
  | r + 4, h =>
    have h' : r + 4 < 4 := h
    omega

theorem casts_lifted (os : Os) (started : os.Started) (H : Type) (enc : TypeId × Value → H) :
    ReturnsInHanded {} Tryz.checked os 5 .any (fun w args => (Rows.realCastsSpec.pre enc Tryz.prog Tryz.f5 [] false w args ∧ laidMetH Tryz.prog laid2 w) ∧ sizedMet enc Tryz.prog Tryz.f5 (OpenSpec.ofChange Rows.realCastsSpec) false w args)
      (Rows.realCastsSpec.post enc Tryz.prog Tryz.f5 false true false false) := by
  refine returnsInHanded_of_change_and (C := Tryz.checked) (X := fun w _ => laidMetH Tryz.prog laid2 w) (fun _ _ _ hh h => h.of_heap hh) own started (by kernel_rfl) Tryz.func5
    (ChangeSpec.witness_shaped (enc := enc) (C := Tryz.checked) (os := os) (X := fun w _ => laidMetH Tryz.prog laid2 w) false (World.doorLaid Tryz.prog 400 os) #[.int .i64 0, .int .i64 0] 8 rfl (World.shaped_of_RefB (by kernel_rfl) (by kernel_rfl)) (by kernel_rfl) (by kernel_rfl) (by kernel_rfl) (door_met os _)) ?_
  intro W base args ds gs before hval0 hW _ _ hL _
  have hval : ∀ (j : Nat) t v, Tryz.f5.params[j]? = some t → args[j]? = some v → Value.okWide Tryz.prog W .any base t v := hval0
  have hW' := hW
  obtain ⟨p, q, hA0, hV, rfl, hfz, hnd⟩ := hW
  have hA : DataW.TrodAll enc Tryz.prog W 0 (fun _ => true) true Tryz.f5.params.toList args.toList ds p := hA0
  rw [Tryz.params5] at hA hval
  obtain ⟨v0, v1, d0, d1, p0, p1, rfl, rfl, rfl, h0, h1⟩ := trodAll_two hA
  obtain ⟨rfl, rfl⟩ := trodVars_none hV
  obtain ⟨x0, rfl, rfl, rfl, w0⟩ := open_int Tryz.underlying3 (hval 0 3 v0 rfl rfl) h0
  obtain ⟨x1, rfl, rfl, rfl, w1⟩ := open_int Tryz.underlying3 (hval 1 3 v1 rfl rfl) h1
  clear hA0 hval0
  simp only [List.append_nil] at hW'
  obtain ⟨argsA, ha, hrun⟩ := casts_all x0 x1
  refine (run_true hrun hL ha).mono fun e W' ⟨he, hb⟩ => ?_
  subst he
  refine ⟨_, rfl, [.lit (.int .i64 x0), .lit (.int .i64 x1)], [], [], [], [], [], hW', ?_, ?_, rfl, hb.frame _, fun h => by cases h⟩
  · exact trodAll_mk1 (shut_bool Tryz.underlying4 _)
  · exact trodAll_mk2 (shut_int Tryz.underlying3 w0) (shut_int Tryz.underlying3 w1)

theorem casts_holds : Rows.RealCastsSaid :=
  OpenClaim.holds_of_wide 5 Tryz.f5 rfl rfl rfl rfl rfl rfl rfl ⟨rfl, rfl, rfl, rfl, rfl⟩ rfl rfl rfl rfl rfl (by kernel_rfl) Tryz.func5 (by kernel_rfl)
    (of_decide_eq_true (by kernel_rfl)) (by unfold Func.isWrapper; first | (rw [if_pos (by decide +kernel)]; kernel_rfl) | (rw [if_neg (by decide +kernel)]; exact ⟨rfl, rfl⟩))
    (fun os started H enc _ => casts_lifted os started H enc)

theorem casts_card : Rows.RealCastsCardSaid :=
  Claim7.holds_tied_plain_at .later [] [.listed, .data] true (true, "f1dffc4224963b3df0faf7874f5a088284be3220ab322fe575f3ea04534fcf50") true
    casts_holds (fun _ h => by cases h) (by kernel_rfl) (fun _ h => by cases h) realCasts_row_tie rfl ⟨rfl, rfl⟩ (by kernel_rfl) rfl
    (fun f fn hf hfn => by
      obtain rfl : f = 5 := Option.some.inj ((show Tryz.prog.funcNamed "gneiss/gneisslaw23.RealCasts" = some 5 by kernel_rfl).symm.trans hf) |>.symm
      obtain rfl : fn = Tryz.f5 := (Option.some.inj (Tryz.func5.symm.trans hfn)).symm
      exact ⟨by kernel_rfl, fun j t ht => by
        rw [Tryz.params5] at ht
        have h3 : t = 3 := by
          rcases j with _ | _ | j
          · simpa using ht.symm
          · simpa using ht.symm
          · simp at ht
        subst h3
        exact (show Tryz.prog.wantsStandIn 3 = false by kernel_rfl)⟩)
    (by kernel_rfl)
end Go.Ev
namespace Go.Proofs.YtgnmolepphodjaaGreatDoor
theorem realCasts_card_holds : Rows.RealCastsCardSaid := Go.Ev.casts_card
#print axioms realCasts_card_holds
end Go.Proofs.YtgnmolepphodjaaGreatDoor
