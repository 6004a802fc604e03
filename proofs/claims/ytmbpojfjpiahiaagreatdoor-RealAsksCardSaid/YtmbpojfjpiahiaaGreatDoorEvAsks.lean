/- 'RealAsks' returns true for every input and its arguments read behind the call as they read before. Conditions: the two listed package-level variables start as the program's text lays them (the card ties them to the text); a verified evaluator ('Go.Ev', EvDef .. EvTop) is run in the kernel, numbers that are not known as atoms, once for each case of the input. -/
import Derived.Test.YtmbpojfjpiahiaaGreatDoorEvAsksR0
import Derived.Test.YtmbpojfjpiahiaaGreatDoorEvAsksR1
import Derived.Test.YtmbpojfjpiahiaaGreatDoorEvAsksR2
import Derived.Test.YtmbpojfjpiahiaaGreatDoorEvAsksR3
import Derived.Test.YtmbpojfjpiahiaaGreatDoorEvAsksR4
import Derived.Test.YtmbpojfjpiahiaaGreatDoorEvAsksR5
import Derived.Test.YtmbpojfjpiahiaaGreatDoorEvAsksR6
import Derived.Test.YtmbpojfjpiahiaaGreatDoorEvAsksR7
import Derived.Test.YtmbpojfjpiahiaaGreatDoorEvAsksR8
import Derived.Test.YtmbpojfjpiahiaaGreatDoorEvAsksR9
import Derived.Test.YtmbpojfjpiahiaaGreatDoorEvAsksR10
import Derived.Test.YtmbpojfjpiahiaaGreatDoorEvAsksR11
import Derived.Test.YtmbpojfjpiahiaaGreatDoorCards
import Derived.SevenTiedAt
namespace Go.Ev
set_option maxRecDepth 100000
open Go.Proofs Go.Proofs.YtmbpojfjpiahiaaGreatDoor Go.ChangeShapes Go.WideShapes Go.ChangeAt Go.WideMaps Go.WideElems Go.RowKit

theorem asks_all {x0 : Int} (w0 : (Lit.int .i64 x0).wf = true) {x1 : Int} (w1 : (Lit.int .i64 x1).wf = true) : ∃ σ args, LRel (injS σ) args [.int .i64 x0, .int .i64 x1] ∧ isTrue (evC env4 100000 1000 3 args H0) = true := by
  obtain ⟨r1, g0, g1, e1⟩ := and_at w1
  obtain ⟨r0, h0, e0⟩ := and_rel (ι := injS (sgAk r1)) 3 (by decide) w0
  by_cases c1 : r1 < 11
  · refine ⟨sgAk r1, _, .cons _ _ _ _ e0 (.cons _ _ _ _ (e1 _ (.at 0 tbLo) (.at 0 tbLo .i64 r1 (tbLo_ok g0 c1) rfl)) .nil), ?_⟩
    match r0, h0 with
    | 0, _ => exact asks_run_0_lo
    | 1, _ => exact asks_run_1_lo
    | 2, _ => exact asks_run_2_lo
    | 3, _ => exact asks_run_3_lo
    | 4, _ => exact asks_run_4_lo
    | 5, _ => exact asks_run_5_lo
    | 6, _ => exact asks_run_6_lo
    | 7, _ => exact asks_run_7_lo
    | r + 8, h =>
      have h' : r + 8 < 8 := h
      omega
  by_cases c2 : r1 = 11
  · subst c2
    refine ⟨sgAk 11, _, .cons _ _ _ _ e0 (.cons _ _ _ _ (e1 _ (.int .i64 11) (.int _ _)) .nil), ?_⟩
    match r0, h0 with
    | 0, _ => exact asks_run_0_mid
    | 1, _ => exact asks_run_1_mid
    | 2, _ => exact asks_run_2_mid
    | 3, _ => exact asks_run_3_mid
    | 4, _ => exact asks_run_4_mid
    | 5, _ => exact asks_run_5_mid
    | 6, _ => exact asks_run_6_mid
    | 7, _ => exact asks_run_7_mid
    | r + 8, h =>
      have h' : r + 8 < 8 := h
      omega
  · refine ⟨sgAk r1, _, .cons _ _ _ _ e0 (.cons _ _ _ _ (e1 _ (.at 0 tbHi) (.at 0 tbHi .i64 r1 (tbHi_ok (by omega) g1) rfl)) .nil), ?_⟩
    match r0, h0 with
    | 0, _ => exact asks_run_0_hi
    | 1, _ => exact asks_run_1_hi
    | 2, _ => exact asks_run_2_hi
    | 3, _ => exact asks_run_3_hi
    | 4, _ => exact asks_run_4_hi
    | 5, _ => exact asks_run_5_hi
    | 6, _ => exact asks_run_6_hi
    | 7, _ => exact asks_run_7_hi
    | r + 8, h =>
      have h' : r + 8 < 8 := h
      omega

theorem asks_lifted (os : Os) (started : os.Started) (H : Type) (enc : TypeId × Value → H) :
    ReturnsInHanded {} Tryz.checked os 3 .any (fun w args => (Rows.realAsksSpec.pre enc Tryz.prog Tryz.f3 [] false w args ∧ laidMetH Tryz.prog laid2 w) ∧ sizedMet enc Tryz.prog Tryz.f3 (OpenSpec.ofChange Rows.realAsksSpec) false w args)
      (Rows.realAsksSpec.post enc Tryz.prog Tryz.f3 false true false false) := by
  refine returnsInHanded_of_change_and (C := Tryz.checked) (X := fun w _ => laidMetH Tryz.prog laid2 w) (fun _ _ _ hh h => h.of_heap hh) own started (by kernel_rfl) Tryz.func3
    (ChangeSpec.witness_shaped (enc := enc) (C := Tryz.checked) (os := os) (X := fun w _ => laidMetH Tryz.prog laid2 w) false (World.doorLaid Tryz.prog 400 os) #[.int .i64 0, .int .i64 0] 8 rfl (World.shaped_of_RefB (by kernel_rfl) (by kernel_rfl)) (by kernel_rfl) (by kernel_rfl) (by kernel_rfl) (door_met os _)) ?_
  intro W base args ds gs before hval0 hW _ _ hL _
  have hval : ∀ (j : Nat) t v, Tryz.f3.params[j]? = some t → args[j]? = some v → Value.okWide Tryz.prog W .any base t v := hval0
  have hW' := hW
  obtain ⟨p, q, hA0, hV, rfl, hfz, hnd⟩ := hW
  have hA : DataW.TrodAll enc Tryz.prog W 0 (fun _ => true) true Tryz.f3.params.toList args.toList ds p := hA0
  rw [Tryz.params3] at hA hval
  obtain ⟨v0, v1, d0, d1, p0, p1, rfl, rfl, rfl, h0, h1⟩ := trodAll_two hA
  obtain ⟨rfl, rfl⟩ := trodVars_none hV
  obtain ⟨x0, rfl, rfl, rfl, w0⟩ := open_int Tryz.underlying3 (hval 0 3 v0 rfl rfl) h0
  obtain ⟨x1, rfl, rfl, rfl, w1⟩ := open_int Tryz.underlying3 (hval 1 3 v1 rfl rfl) h1
  clear hA0 hval0
  simp only [List.append_nil] at hW'
  obtain ⟨σ, argsA, ha, hrun⟩ := asks_all w0 w1
  refine (run4_true hrun hL ha).mono fun e W' ⟨he, hb⟩ => ?_
  subst he
  refine ⟨_, rfl, [.lit (.int .i64 x0), .lit (.int .i64 x1)], [], [], [], [], [], hW', ?_, ?_, rfl, hb.frame _, fun h => by cases h⟩
  · exact trodAll_mk1 (shut_bool Tryz.underlying4 _)
  · exact trodAll_mk2 (shut_int Tryz.underlying3 w0) (shut_int Tryz.underlying3 w1)

theorem asks_q1 : (Rows.realAsksRow.inPlace == Tryz.pinned.checked.prog.inPlace 3) = true := by kernel_rfl
theorem asks_q2 : (Rows.realAsksRow.unfollowed == Tryz.pinned.checked.prog.unfollowed 3) = true := by kernel_rfl
theorem asks_q3 : (Rows.realAsksRow.recurses == Tryz.pinned.checked.prog.recurses 3) = true := by kernel_rfl
theorem asks_q4 : (Rows.realAsksRow.named == Tryz.pinned.checked.prog.varsNamed 3) = true := by kernel_rfl
theorem asks_facts : joinedFacts Tryz.pinned.checked.prog 3 Tryz.f3 Rows.realAsksSpec Rows.realAsksRow = true := by
  unfold joinedFacts
  rw [asks_q1, asks_q2, asks_q3, asks_q4]
  kernel_rfl
theorem asks_holds : Rows.RealAsksSaid :=
  OpenClaim.holds_of_wide 3 Tryz.f3 rfl rfl rfl rfl rfl rfl rfl ⟨rfl, rfl, rfl, rfl, rfl⟩ rfl rfl rfl rfl rfl (by kernel_rfl) Tryz.func3 asks_facts
    (of_decide_eq_true (by kernel_rfl)) (by unfold Func.isWrapper; first | (rw [if_pos (by decide +kernel)]; kernel_rfl) | (rw [if_neg (by decide +kernel)]; exact ⟨rfl, rfl⟩))
    (fun os started H enc _ => asks_lifted os started H enc)

theorem asks_q5 : true = Tryz.pinned.checked.prog.looks [] := by kernel_rfl
theorem asks_q6 : false = Rows.realAsksRow.goesBy Tryz.pinned.checked.prog := by kernel_rfl
theorem asks_q7 : Tryz.pinned.checked.prog.mainIs = some ((true, "38439faf4b71ffbbd6fa85fed44bdafcdbe54932e61f08e919829cedff743667").1, (true, "38439faf4b71ffbbd6fa85fed44bdafcdbe54932e61f08e919829cedff743667").2.toList) := by kernel_rfl
theorem asks_card : Rows.RealAsksCardSaid :=
  Claim7.holds_tied_plain_at .later [] [.listed, .data] true (true, "38439faf4b71ffbbd6fa85fed44bdafcdbe54932e61f08e919829cedff743667") true
    asks_holds (fun _ h => by cases h) (by kernel_rfl) (fun _ h => by cases h) realAsks_row_tie rfl ⟨rfl, rfl⟩ asks_q7 rfl
    (fun f fn hf hfn => by
      obtain rfl : f = 3 := Option.some.inj ((show Tryz.prog.funcNamed "gneiss/gneisslaw23.RealAsks" = some 3 by kernel_rfl).symm.trans hf) |>.symm
      obtain rfl : fn = Tryz.f3 := (Option.some.inj (Tryz.func3.symm.trans hfn)).symm
      exact ⟨asks_q5, fun j t ht => by
        rw [Tryz.params3] at ht
        have h3 : t = 3 := by
          rcases j with _ | _ | j
          · simpa using ht.symm
          · simpa using ht.symm
          · simp at ht
        subst h3
        exact (show Tryz.prog.wantsStandIn 3 = false by kernel_rfl)⟩)
    asks_q6
end Go.Ev
namespace Go.Proofs.YtmbpojfjpiahiaaGreatDoor
theorem realAsks_card_holds : Rows.RealAsksCardSaid := Go.Ev.asks_card
#print axioms realAsks_card_holds
end Go.Proofs.YtmbpojfjpiahiaaGreatDoor
