/- 'RealArrays' returns true for every input and its arguments read behind the call as they read before. Conditions: the two listed package-level variables start as the program's text lays them (the card ties them to the text); a verified evaluator ('Go.Ev', EvDef .. EvTop) is run in the kernel, numbers that are not known as atoms, once for each case of the input. -/
import Derived.Test.YtjfmpdoenkfkeaaGreatDoorEvArraysR0
import Derived.Test.YtjfmpdoenkfkeaaGreatDoorEvArraysR1
import Derived.Test.YtjfmpdoenkfkeaaGreatDoorCards
import Derived.SevenTiedAt
namespace Go.Ev
set_option maxRecDepth 100000
open Go.Proofs Go.Proofs.YtjfmpdoenkfkeaaGreatDoor Go.ChangeShapes Go.WideShapes Go.ChangeAt Go.WideMaps Go.WideElems Go.RowKit

theorem arrays_all {x0 : Int} (_w0 : (Lit.int .i64 x0).wf = true) {x1 : Int} (_w1 : (Lit.int .i64 x1).wf = true) {x2 : Int} (_w2 : (Lit.int .i64 x2).wf = true) : ∃ σ args, LRel (injS σ) args [.int .i64 x0, .int .i64 x1, .int .i64 x2] ∧ isTrue (evC env4 100000 1000 3 args H0) = true := by
  have hk2 : -1100 < Int.tmod x0 1100 ∧ Int.tmod x0 1100 < 1100 := ⟨by have := Int.lt_tmod_of_pos x0 (show (0 : Int) < 1100 by decide); omega, Int.tmod_lt_of_pos x0 (by decide)⟩
  have hi2 : -20 < Int.tmod x1 20 ∧ Int.tmod x1 20 < 20 := ⟨by have := Int.lt_tmod_of_pos x1 (show (0 : Int) < 20 by decide); omega, Int.tmod_lt_of_pos x1 (by decide)⟩
  have fin : ∀ tb, AtOk (sgAy x0 x1 x2 (Int.tmod x0 1100) (Int.tmod x1 20)) tb → isTrue (evC env4 100000 1000 3 [.at 0 tb, .at 1 tb, .at 2 tb] H0) = true → ∃ σ args, LRel (injS σ) args [.int .i64 x0, .int .i64 x1, .int .i64 x2] ∧ isTrue (evC env4 100000 1000 3 args H0) = true := fun tb ht hr =>
    ⟨sgAy x0 x1 x2 (Int.tmod x0 1100) (Int.tmod x1 20), _, .cons _ _ _ _ (.at 0 tb _ _ ht rfl) (.cons _ _ _ _ (.at 1 tb _ _ ht rfl) (.cons _ _ _ _ (.at 2 tb _ _ ht rfl) .nil)), hr⟩
  by_cases h1 : Int.tmod x0 1100 < 0
  · exact fin _ (tbAyneg_ok x0 x1 x2 rfl rfl hk2 hi2 h1) arrays_run_neg
  by_cases h2 : 1000 < Int.tmod x0 1100
  · exact fin _ (tbAybig_ok x0 x1 x2 rfl rfl hk2 hi2 h2) arrays_run_big
  by_cases h3 : Int.tmod x1 20 < 0
  · exact fin _ (tbAylow_ok x0 x1 x2 rfl rfl hk2 hi2 ⟨by omega, h3⟩) arrays_run_low
  by_cases h4 : Int.tmod x0 1100 ≤ Int.tmod x1 20
  · exact fin _ (tbAyhigh_ok x0 x1 x2 rfl rfl hk2 hi2 ⟨by omega, by omega, h4⟩) arrays_run_high
  · exact fin _ (tbAyin_ok x0 x1 x2 rfl rfl hk2 hi2 ⟨by omega, by omega, by omega⟩) arrays_run_in

theorem arrays_lifted (os : Os) (started : os.Started) (H : Type) (enc : TypeId × Value → H) :
    ReturnsInHanded {} Tryz.checked os 3 .any (fun w args => (Rows.realArraysSpec.pre enc Tryz.prog Tryz.f3 [] false w args ∧ laidMetH Tryz.prog laid2 w) ∧ sizedMet enc Tryz.prog Tryz.f3 (OpenSpec.ofChange Rows.realArraysSpec) false w args)
      (Rows.realArraysSpec.post enc Tryz.prog Tryz.f3 false true false false) := by
  refine returnsInHanded_of_change_and (C := Tryz.checked) (X := fun w _ => laidMetH Tryz.prog laid2 w) (fun _ _ _ hh h => h.of_heap hh) own started (by kernel_rfl) Tryz.func3
    (ChangeSpec.witness_shaped (enc := enc) (C := Tryz.checked) (os := os) (X := fun w _ => laidMetH Tryz.prog laid2 w) false (World.doorLaid Tryz.prog 400 os) #[.int .i64 0, .int .i64 0, .int .i64 0] 8 rfl (World.shaped_of_RefB (by kernel_rfl) (by kernel_rfl)) (by kernel_rfl) (by kernel_rfl) (by kernel_rfl) (door_met os _)) ?_
  intro W base args ds gs before hval0 hW _ _ hL _
  have hval : ∀ (j : Nat) t v, Tryz.f3.params[j]? = some t → args[j]? = some v → Value.okWide Tryz.prog W .any base t v := hval0
  have hW' := hW
  obtain ⟨p, q, hA0, hV, rfl, hfz, hnd⟩ := hW
  have hA : DataW.TrodAll enc Tryz.prog W 0 (fun _ => true) true Tryz.f3.params.toList args.toList ds p := hA0
  rw [Tryz.params3] at hA hval
  obtain ⟨v0, v1, v2, d0, d1, d2, p0, p1, p2, rfl, rfl, rfl, h0, h1, h2⟩ := trodAll_three hA
  obtain ⟨rfl, rfl⟩ := trodVars_none hV
  obtain ⟨x0, rfl, rfl, rfl, w0⟩ := open_int Tryz.underlying3 (hval 0 3 v0 rfl rfl) h0
  obtain ⟨x1, rfl, rfl, rfl, w1⟩ := open_int Tryz.underlying3 (hval 1 3 v1 rfl rfl) h1
  obtain ⟨x2, rfl, rfl, rfl, w2⟩ := open_int Tryz.underlying3 (hval 2 3 v2 rfl rfl) h2
  clear hA0 hval0
  simp only [List.append_nil] at hW'
  obtain ⟨σ, argsA, ha, hrun⟩ := arrays_all w0 w1 w2
  refine (run4_true hrun hL ha).mono fun e W' ⟨he, hb⟩ => ?_
  subst he
  refine ⟨_, rfl, [.lit (.int .i64 x0), .lit (.int .i64 x1), .lit (.int .i64 x2)], [], [], [], [], [], hW', ?_, ?_, rfl, hb.frame _, fun h => by cases h⟩
  · exact trodAll_mk1 (shut_bool Tryz.underlying4 _)
  · exact trodAll_mk3 (shut_int Tryz.underlying3 w0) (shut_int Tryz.underlying3 w1) (shut_int Tryz.underlying3 w2)

theorem arrays_q1 : (Rows.realArraysRow.inPlace == Tryz.pinned.checked.prog.inPlace 3) = true := by kernel_rfl
theorem arrays_q2 : (Rows.realArraysRow.unfollowed == Tryz.pinned.checked.prog.unfollowed 3) = true := by kernel_rfl
theorem arrays_q3 : (Rows.realArraysRow.recurses == Tryz.pinned.checked.prog.recurses 3) = true := by kernel_rfl
theorem arrays_q4 : (Rows.realArraysRow.named == Tryz.pinned.checked.prog.varsNamed 3) = true := by kernel_rfl
theorem arrays_facts : joinedFacts Tryz.pinned.checked.prog 3 Tryz.f3 Rows.realArraysSpec Rows.realArraysRow = true := by
  unfold joinedFacts
  rw [arrays_q1, arrays_q2, arrays_q3, arrays_q4]
  kernel_rfl
theorem arrays_holds : Rows.RealArraysSaid :=
  OpenClaim.holds_of_wide 3 Tryz.f3 rfl rfl rfl rfl rfl rfl rfl ⟨rfl, rfl, rfl, rfl, rfl⟩ rfl rfl rfl rfl rfl (by kernel_rfl) Tryz.func3 arrays_facts
    (of_decide_eq_true (by kernel_rfl)) (by unfold Func.isWrapper; first | (rw [if_pos (by decide +kernel)]; kernel_rfl) | (rw [if_neg (by decide +kernel)]; exact ⟨rfl, rfl⟩))
    (fun os started H enc _ => arrays_lifted os started H enc)

theorem arrays_q5 : true = Tryz.pinned.checked.prog.looks [] := by kernel_rfl
theorem arrays_q6 : false = Rows.realArraysRow.goesBy Tryz.pinned.checked.prog := by kernel_rfl
theorem arrays_q7 : Tryz.pinned.checked.prog.mainIs = some ((true, "b019e6ed2d2b67dfada0e8b7fbe14063258fef9c4a7a6d23ad48f7d78bb13aa4").1, (true, "b019e6ed2d2b67dfada0e8b7fbe14063258fef9c4a7a6d23ad48f7d78bb13aa4").2.toList) := by kernel_rfl
theorem arrays_card : Rows.RealArraysCardSaid :=
  Claim7.holds_tied_plain_at .later [] [.listed, .data] true (true, "b019e6ed2d2b67dfada0e8b7fbe14063258fef9c4a7a6d23ad48f7d78bb13aa4") true
    arrays_holds (fun _ h => by cases h) (by kernel_rfl) (fun _ h => by cases h) realArrays_row_tie rfl ⟨rfl, rfl⟩ arrays_q7 rfl
    (fun f fn hf hfn => by
      obtain rfl : f = 3 := Option.some.inj ((show Tryz.prog.funcNamed "gneiss/gneisslaw23.RealArrays" = some 3 by kernel_rfl).symm.trans hf) |>.symm
      obtain rfl : fn = Tryz.f3 := (Option.some.inj (Tryz.func3.symm.trans hfn)).symm
      exact ⟨arrays_q5, fun j t ht => by
        rw [Tryz.params3] at ht
        have h3 : t = 3 := by
          rcases j with _ | _ | _ | j
          · simpa using ht.symm
          · simpa using ht.symm
          · simpa using ht.symm
          · simp at ht
        subst h3
        exact (show Tryz.prog.wantsStandIn 3 = false by kernel_rfl)⟩)
    arrays_q6
end Go.Ev
namespace Go.Proofs.YtjfmpdoenkfkeaaGreatDoor
theorem realArrays_card_holds : Rows.RealArraysCardSaid := Go.Ev.arrays_card
#print axioms realArrays_card_holds
end Go.Proofs.YtjfmpdoenkfkeaaGreatDoor
