/- 'RunRefArrays' returns true for every input and its arguments read behind the call as they read before. Conditions: the two listed package-level variables start as the program's text lays them (the card ties them to the text); a verified evaluator ('Go.Ev', EvDef .. EvTop) is run in the kernel, numbers that are not known as atoms, once for each case of the input. -/
import Derived.Test.YtbehlkbeofoahaaGreatDoorEvRefArraysR0
import Derived.Test.YtbehlkbeofoahaaGreatDoorCards
import Derived.SevenTiedAt
namespace Go.Ev
set_option maxRecDepth 100000
open Go.Proofs Go.Proofs.YtbehlkbeofoahaaGreatDoor Go.ChangeShapes Go.WideShapes Go.ChangeAt Go.WideMaps Go.WideElems Go.RowKit

theorem refarrays_all {x0 : Int} (w0 : (Lit.int .i64 x0).wf = true) {x1 : Int} (_w1 : (Lit.int .i64 x1).wf = true) : ∃ σ args, LRel (injS σ) args [.int .i64 x0, .int .i64 x1] ∧ isTrue (evC envR 100000 1000 7 args H0) = true := by
  obtain ⟨s, hs, hf⟩ := andF w0
  by_cases h0 : s = 0
  · subst h0
    obtain ⟨r, hr, hv⟩ := rem_rel (ι := injS fun _ => (.i64, 0)) 1 (by decide) (n := x1)
    obtain rfl : r = 0 := by omega
    exact ⟨fun _ => (.i64, 0), _, .cons _ _ _ _ (andV hf) (.cons _ _ _ _ hv .nil), refarrays_run1⟩
  · have hnn := wru_nn x1
    have hk : ((s : Int) + 1) ≠ 0 := by omega
    have e1 : Int.tmod (wr .u64 x1) ((s : Int) + 1) = wr .u64 x1 % ((s : Int) + 1) := Int.tmod_eq_emod_of_nonneg hnn
    have b1 : 0 ≤ wr .u64 x1 % ((s : Int) + 1) := Int.emod_nonneg _ hk
    have b2 : wr .u64 x1 % ((s : Int) + 1) < (s : Int) + 1 := Int.emod_lt_of_pos _ (by omega)
    generalize wr .u64 x1 % ((s : Int) + 1) = i at *
    have e2 : Int.tmod (i + 1) ((s : Int) + 1) = (i + 1) % ((s : Int) + 1) := Int.tmod_eq_emod_of_nonneg (by omega)
    have b3 : 0 ≤ (i + 1) % ((s : Int) + 1) ∧ (i + 1) % ((s : Int) + 1) ≤ s ∧ (i + 1) % ((s : Int) + 1) ≠ i := by
      by_cases h : i = s
      · subst h
        rw [Int.emod_self]; omega
      · rw [Int.emod_eq_of_lt (by omega) (by omega)]; omega
    have ht := tbRf_ok (x := x0) (y := x1) (s := s) (i := i) (p := (i + 1) % ((s : Int) + 1)) hf (by rw [rem_aa _ hk, e1]) (by rw [rem_aa _ hk, e2]) (by omega) (by omega) (by omega) b3.2.2
    exact ⟨sgRf x0 x1 s i _, _, .cons _ _ _ _ (.at 0 tbRf _ _ ht rfl) (.cons _ _ _ _ (.at 1 tbRf _ _ ht rfl) .nil), refarrays_run⟩

theorem refarrays_lifted (os : Os) (started : os.Started) (H : Type) (enc : TypeId × Value → H) :
    ReturnsInHanded {} Tryz.checked os 7 .any (fun w args => (Rows.runRefArraysSpec.pre enc Tryz.prog Tryz.f7 [] false w args ∧ laidMetH Tryz.prog laid2 w) ∧ sizedMet enc Tryz.prog Tryz.f7 (OpenSpec.ofChange Rows.runRefArraysSpec) false w args)
      (Rows.runRefArraysSpec.post enc Tryz.prog Tryz.f7 false true false false) := by
  refine returnsInHanded_of_change_and (C := Tryz.checked) (X := fun w _ => laidMetH Tryz.prog laid2 w) (fun _ _ _ hh h => h.of_heap hh) own started (by kernel_rfl) Tryz.func7
    (ChangeSpec.witness_shaped (enc := enc) (C := Tryz.checked) (os := os) (X := fun w _ => laidMetH Tryz.prog laid2 w) false (World.doorLaid Tryz.prog 400 os) #[.int .i64 0, .int .i64 0] 8 rfl (World.shaped_of_RefB (by kernel_rfl) (by kernel_rfl)) (by kernel_rfl) (by kernel_rfl) (by kernel_rfl) (door_met os _)) ?_
  intro W base args ds gs before hval0 hW _ _ hL _
  have hval : ∀ (j : Nat) t v, Tryz.f7.params[j]? = some t → args[j]? = some v → Value.okWide Tryz.prog W .any base t v := hval0
  have hW' := hW
  obtain ⟨p, q, hA0, hV, rfl, hfz, hnd⟩ := hW
  have hA : DataW.TrodAll enc Tryz.prog W 0 (fun _ => true) true Tryz.f7.params.toList args.toList ds p := hA0
  rw [Tryz.params7] at hA hval
  obtain ⟨v0, v1, d0, d1, p0, p1, rfl, rfl, rfl, h0, h1⟩ := trodAll_two hA
  obtain ⟨rfl, rfl⟩ := trodVars_none hV
  obtain ⟨x0, rfl, rfl, rfl, w0⟩ := open_int Tryz.underlying3 (hval 0 3 v0 rfl rfl) h0
  obtain ⟨x1, rfl, rfl, rfl, w1⟩ := open_int Tryz.underlying3 (hval 1 3 v1 rfl rfl) h1
  clear hA0 hval0
  simp only [List.append_nil] at hW'
  obtain ⟨σ, argsA, ha, hrun⟩ := refarrays_all w0 w1
  refine (runR_true hrun hL ha).mono fun e W' ⟨he, hb⟩ => ?_
  subst he
  refine ⟨_, rfl, [.lit (.int .i64 x0), .lit (.int .i64 x1)], [], [], [], [], [], hW', ?_, ?_, rfl, hb.frame _, fun h => by cases h⟩
  · exact trodAll_mk1 (shut_bool Tryz.underlying4 _)
  · exact trodAll_mk2 (shut_int Tryz.underlying3 w0) (shut_int Tryz.underlying3 w1)

theorem refarrays_q1 : (Rows.runRefArraysRow.inPlace == Tryz.pinned.checked.prog.inPlace 7) = true := by kernel_rfl
theorem refarrays_q2 : (Rows.runRefArraysRow.unfollowed == Tryz.pinned.checked.prog.unfollowed 7) = true := by kernel_rfl
theorem refarrays_q3 : (Rows.runRefArraysRow.recurses == Tryz.pinned.checked.prog.recurses 7) = true := by kernel_rfl
theorem refarrays_q4 : (Rows.runRefArraysRow.named == Tryz.pinned.checked.prog.varsNamed 7) = true := by kernel_rfl
theorem refarrays_facts : joinedFacts Tryz.pinned.checked.prog 7 Tryz.f7 Rows.runRefArraysSpec Rows.runRefArraysRow = true := by
  unfold joinedFacts
  rw [refarrays_q1, refarrays_q2, refarrays_q3, refarrays_q4]
  kernel_rfl
theorem refarrays_holds : Rows.RunRefArraysSaid :=
  OpenClaim.holds_of_wide 7 Tryz.f7 rfl rfl rfl rfl rfl rfl rfl ⟨rfl, rfl, rfl, rfl, rfl⟩ rfl rfl rfl rfl rfl (by kernel_rfl) Tryz.func7 refarrays_facts
    (of_decide_eq_true (by kernel_rfl)) (by unfold Func.isWrapper; first | (rw [if_pos (by decide +kernel)]; kernel_rfl) | (rw [if_neg (by decide +kernel)]; exact ⟨rfl, rfl⟩))
    (fun os started H enc _ => refarrays_lifted os started H enc)

theorem refarrays_q5 : true = Tryz.pinned.checked.prog.looks [] := by kernel_rfl
theorem refarrays_q6 : false = Rows.runRefArraysRow.goesBy Tryz.pinned.checked.prog := by kernel_rfl
theorem refarrays_q7 : Tryz.pinned.checked.prog.mainIs = some ((true, "1079f25ad37c2ef5bd58db438085494c850a6ee59dd903de61aa31810cc6bffd").1, (true, "1079f25ad37c2ef5bd58db438085494c850a6ee59dd903de61aa31810cc6bffd").2.toList) := by kernel_rfl
theorem refarrays_card : Rows.RunRefArraysCardSaid :=
  Claim7.holds_tied_plain_at .later [] [.listed, .data] true (true, "1079f25ad37c2ef5bd58db438085494c850a6ee59dd903de61aa31810cc6bffd") true
    refarrays_holds (fun _ h => by cases h) (by kernel_rfl) (fun _ h => by cases h) runRefArrays_row_tie rfl ⟨rfl, rfl⟩ refarrays_q7 rfl
    (fun f fn hf hfn => by
      obtain rfl : f = 7 := Option.some.inj ((show Tryz.prog.funcNamed "gneiss/gneisslaw25.RunRefArrays" = some 7 by kernel_rfl).symm.trans hf) |>.symm
      obtain rfl : fn = Tryz.f7 := (Option.some.inj (Tryz.func7.symm.trans hfn)).symm
      exact ⟨refarrays_q5, fun j t ht => by
        rw [Tryz.params7] at ht
        have h3 : t = 3 := by
          rcases j with _ | _ | j
          · simpa using ht.symm
          · simpa using ht.symm
          · simp at ht
        subst h3
        exact (show Tryz.prog.wantsStandIn 3 = false by kernel_rfl)⟩)
    refarrays_q6
end Go.Ev
namespace Go.Proofs.YtbehlkbeofoahaaGreatDoor
theorem runRefArrays_card_holds : Rows.RunRefArraysCardSaid := Go.Ev.refarrays_card
#print axioms runRefArrays_card_holds
end Go.Proofs.YtbehlkbeofoahaaGreatDoor
