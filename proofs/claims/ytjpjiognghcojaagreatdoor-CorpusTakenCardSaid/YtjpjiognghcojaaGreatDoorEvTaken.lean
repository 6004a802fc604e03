/- 'CorpusTaken' returns true for every input and its arguments read behind the call as they read before. Conditions: the listed package-level variables start as the program's text lays them (the card ties them to the text); a verified evaluator ('Go.Ev', EvDef .. EvTop) is run in the kernel. -/
import Derived.Test.YtjpjiognghcojaaGreatDoorEvM3
import Derived.Test.YtjpjiognghcojaaGreatDoorCards
import Derived.SevenTiedAt
namespace Go.Ev
set_option maxRecDepth 100000
open Go.Proofs Go.Proofs.YtjpjiognghcojaaGreatDoor Go.ChangeShapes Go.WideShapes Go.ChangeAt Go.WideMaps Go.WideElems Go.RowKit

theorem taken_run_0 : isTrue (evC envW 100000 1000 3 [.str [115, 117, 109, 115]] H0) = true := by kernel_rfl
theorem taken_run_1 : isTrue (evC envW 100000 1000 3 [.str [97, 114, 114, 97, 121, 115]] H0) = true := by kernel_rfl
theorem taken_run_2 : isTrue (evC envW 100000 1000 3 [.str [115, 104, 97, 112, 101, 115]] H0) = true := by kernel_rfl
theorem taken_run_3 : isTrue (evC envW 100000 1000 3 [.str [102, 97, 117, 108, 116, 115]] H0) = true := by kernel_rfl
theorem taken_run_4 : isTrue (evC envW 100000 1000 3 [.str [116, 104, 114, 101, 97, 100, 115]] H0) = true := by kernel_rfl
theorem taken_run_5 : isTrue (evC envW 100000 1000 3 [.str [119, 97, 105, 116, 115]] H0) = true := by kernel_rfl
theorem taken_run_6 : isTrue (evC envW 100000 1000 3 [.str [119, 101, 97, 107, 115]] H0) = true := by kernel_rfl
theorem taken_run_7 : isTrue (evC envW 100000 1000 3 [.str [105, 110, 112, 117, 116, 115]] H0) = true := by kernel_rfl
theorem taken_run_no : isTrue (evC envW 100000 1000 3 [.stn nmL] H0) = true := by kernel_rfl
theorem taken_all (s : ByteArray) : ∃ args, LRel inj0 args [.string s] ∧ isTrue (evC envW 100000 1000 3 args H0) = true := by
  by_cases h0 : s.data.toList.map (·.toNat) = [115, 117, 109, 115]
  · exact ⟨_, .cons _ _ _ _ (.str s _ h0) .nil, taken_run_0⟩
  by_cases h1 : s.data.toList.map (·.toNat) = [97, 114, 114, 97, 121, 115]
  · exact ⟨_, .cons _ _ _ _ (.str s _ h1) .nil, taken_run_1⟩
  by_cases h2 : s.data.toList.map (·.toNat) = [115, 104, 97, 112, 101, 115]
  · exact ⟨_, .cons _ _ _ _ (.str s _ h2) .nil, taken_run_2⟩
  by_cases h3 : s.data.toList.map (·.toNat) = [102, 97, 117, 108, 116, 115]
  · exact ⟨_, .cons _ _ _ _ (.str s _ h3) .nil, taken_run_3⟩
  by_cases h4 : s.data.toList.map (·.toNat) = [116, 104, 114, 101, 97, 100, 115]
  · exact ⟨_, .cons _ _ _ _ (.str s _ h4) .nil, taken_run_4⟩
  by_cases h5 : s.data.toList.map (·.toNat) = [119, 97, 105, 116, 115]
  · exact ⟨_, .cons _ _ _ _ (.str s _ h5) .nil, taken_run_5⟩
  by_cases h6 : s.data.toList.map (·.toNat) = [119, 101, 97, 107, 115]
  · exact ⟨_, .cons _ _ _ _ (.str s _ h6) .nil, taken_run_6⟩
  by_cases h7 : s.data.toList.map (·.toNat) = [105, 110, 112, 117, 116, 115]
  · exact ⟨_, .cons _ _ _ _ (.str s _ h7) .nil, taken_run_7⟩
  refine ⟨[.stn nmL], .cons _ _ _ _ (.stn nmL s fun x hx => ?_) .nil, taken_run_no⟩
  simp only [nmL, List.mem_cons, List.mem_nil_iff, or_false] at hx
  rcases hx with rfl | rfl | rfl | rfl | rfl | rfl | rfl | rfl
  · exact h0
  · exact h1
  · exact h2
  · exact h3
  · exact h4
  · exact h5
  · exact h6
  · exact h7

theorem taken_lifted (os : Os) (started : os.Started) (H : Type) (enc : TypeId × Value → H) :
    ReturnsInHanded {} Tryz.checked os 3 .any (fun w args => (Rows.corpusTakenSpec.pre enc Tryz.prog Tryz.f3 [] false w args ∧ laidMetH Tryz.prog laid2 w) ∧ sizedMet enc Tryz.prog Tryz.f3 (OpenSpec.ofChange Rows.corpusTakenSpec) false w args)
      (Rows.corpusTakenSpec.post enc Tryz.prog Tryz.f3 false true false false) := by
  refine returnsInHanded_of_change_and (C := Tryz.checked) (X := fun w _ => laidMetH Tryz.prog laid2 w) (fun _ _ _ hh h => h.of_heap hh) own started (by kernel_rfl) Tryz.func3
    (ChangeSpec.witness_shaped (enc := enc) (C := Tryz.checked) (os := os) (X := fun w _ => laidMetH Tryz.prog laid2 w) false (World.laidAll Tryz.prog os laid2) #[.string ByteArray.empty] 8 (World.laidAll_os _ _ _)
      (World.shaped_of_ZipB (by kernel_rfl) (by kernel_rfl)) (by kernel_rfl) (by kernel_rfl) (by kernel_rfl)
      (by rw [MakeChecks.laidMetH_plain _ _ _ (by kernel_rfl)]; exact laidMet_laidAll _ (by kernel_rfl) (by kernel_rfl))) ?_
  intro W base args ds gs before hval0 hW _ _ hL _
  have hval : ∀ (j : Nat) t v, Tryz.f3.params[j]? = some t → args[j]? = some v → Value.okWide Tryz.prog W .any base t v := hval0
  have hW' := hW
  obtain ⟨p, q, hA0, hV, rfl, hfz, hnd⟩ := hW
  have hA : DataW.TrodAll enc Tryz.prog W 0 (fun _ => true) true Tryz.f3.params.toList args.toList ds p := hA0
  rw [Tryz.params3] at hA hval
  obtain ⟨v0, d0, rfl, rfl, h0⟩ := trodAll_one hA
  obtain ⟨rfl, rfl⟩ := trodVars_none hV
  obtain ⟨x0, rfl, rfl, rfl, w0⟩ := Go.ChangeMaps.open_string Tryz.underlying9 (hval 0 9 v0 rfl rfl) h0
  clear hA0 hval0
  simp only [List.append_nil] at hW'
  obtain ⟨argsA, ha, hrun⟩ := taken_all x0
  refine (good_true good_envW hrun hL ha).mono fun e W' ⟨he, hb⟩ => ?_
  subst he
  refine ⟨_, rfl, [.lit (.string x0.data.toList)], [], [], [], [], [], hW', ?_, ?_, rfl, hb.frame _, fun h => by cases h⟩
  · exact trodAll_mk1 (shut_bool Tryz.underlying4 _)
  · exact trodAll_mk1 (Go.ChangeMaps.shut_string Tryz.underlying9 w0)

theorem taken_q1 : (Rows.corpusTakenRow.inPlace == Tryz.pinned.checked.prog.inPlace 3) = true := by kernel_rfl
theorem taken_q2 : (Rows.corpusTakenRow.unfollowed == Tryz.pinned.checked.prog.unfollowed 3) = true := by kernel_rfl
theorem taken_q3 : (Rows.corpusTakenRow.recurses == Tryz.pinned.checked.prog.recurses 3) = true := by kernel_rfl
theorem taken_q4 : (Rows.corpusTakenRow.named == Tryz.pinned.checked.prog.varsNamed 3) = true := by kernel_rfl
theorem taken_facts : joinedFacts Tryz.pinned.checked.prog 3 Tryz.f3 Rows.corpusTakenSpec Rows.corpusTakenRow = true := by
  unfold joinedFacts
  rw [taken_q1, taken_q2, taken_q3, taken_q4]
  kernel_rfl
theorem taken_holds : Rows.CorpusTakenSaid :=
  OpenClaim.holds_of_wide 3 Tryz.f3 rfl rfl rfl rfl rfl rfl rfl ⟨rfl, rfl, rfl, rfl, rfl⟩ rfl rfl rfl rfl rfl (by kernel_rfl) Tryz.func3 taken_facts
    (of_decide_eq_true (by kernel_rfl)) (by unfold Func.isWrapper; first | (rw [if_pos (by decide +kernel)]; kernel_rfl) | (rw [if_neg (by decide +kernel)]; exact ⟨rfl, rfl⟩))
    (fun os started H enc _ => taken_lifted os started H enc)

theorem taken_q5 : true = Tryz.pinned.checked.prog.looks [] := by kernel_rfl
theorem taken_q6 : false = Rows.corpusTakenRow.goesBy Tryz.pinned.checked.prog := by kernel_rfl
theorem taken_q7 : Tryz.pinned.checked.prog.mainIs = some ((true, "6e2b3a6a7015fbc411b5dc0e843bca222aefd55748d735be82c2d0175ccaec5e").1, (true, "6e2b3a6a7015fbc411b5dc0e843bca222aefd55748d735be82c2d0175ccaec5e").2.toList) := by kernel_rfl
theorem taken_card : Rows.CorpusTakenCardSaid :=
  Claim7.holds_tied_plain_at .later [] [.data, .data, .data, .data, .sentinel, .sentinel, .listed, .data, .pinned] true (true, "6e2b3a6a7015fbc411b5dc0e843bca222aefd55748d735be82c2d0175ccaec5e") true
    taken_holds (fun _ h => by cases h) (by kernel_rfl) (fun _ h => by cases h) corpusTaken_row_tie rfl ⟨rfl, rfl⟩ taken_q7 rfl
    (fun f fn hf hfn => by
      obtain rfl : f = 3 := Option.some.inj ((show Tryz.prog.funcNamed "gneiss/gneisslaw26.CorpusTaken" = some 3 by kernel_rfl).symm.trans hf) |>.symm
      obtain rfl : fn = Tryz.f3 := (Option.some.inj (Tryz.func3.symm.trans hfn)).symm
      exact ⟨taken_q5, fun j t ht => by
        rw [Tryz.params3] at ht
        have h3 : t = 9 := by
          rcases j with _ | j
          · simpa using ht.symm
          · simp at ht
        subst h3
        exact (show Tryz.prog.wantsStandIn 9 = false by kernel_rfl)⟩)
    taken_q6
end Go.Ev
namespace Go.Proofs.YtjpjiognghcojaaGreatDoor
theorem corpusTaken_card_holds : Rows.CorpusTakenCardSaid := Go.Ev.taken_card
#print axioms corpusTaken_card_holds
end Go.Proofs.YtjpjiognghcojaaGreatDoor
