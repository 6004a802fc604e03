/- 'CorpusCovers' returns true for every input and its arguments read behind the call as they read before. Conditions: the listed package-level variables start as the program's text lays them (the card ties them to the text); a verified evaluator ('Go.Ev', EvDef .. EvTop) is run in the kernel. -/
import Derived.Test.YtjpjiognghcojaaGreatDoorEvM3
import Derived.Test.YtjpjiognghcojaaGreatDoorCards
import Derived.SevenTiedAt
namespace Go.Ev
set_option maxRecDepth 100000
open Go.Proofs Go.Proofs.YtjpjiognghcojaaGreatDoor Go.ChangeShapes Go.WideShapes Go.ChangeAt Go.WideMaps Go.WideElems Go.RowKit

theorem covers_run : isTrue (evC envW 100000 1000 4 [] H0) = true := by kernel_rfl

theorem covers_lifted (os : Os) (started : os.Started) (H : Type) (enc : TypeId × Value → H) :
    ReturnsInHanded {} Tryz.checked os 4 .any (fun w args => (Rows.corpusCoversSpec.pre enc Tryz.prog Tryz.f4 [] false w args ∧ laidMetH Tryz.prog laid2 w) ∧ sizedMet enc Tryz.prog Tryz.f4 (OpenSpec.ofChange Rows.corpusCoversSpec) false w args)
      (Rows.corpusCoversSpec.post enc Tryz.prog Tryz.f4 false true false false) := by
  refine returnsInHanded_of_change_and (C := Tryz.checked) (X := fun w _ => laidMetH Tryz.prog laid2 w) (fun _ _ _ hh h => h.of_heap hh) own started (by kernel_rfl) Tryz.func4
    (ChangeSpec.witness_shaped (enc := enc) (C := Tryz.checked) (os := os) (X := fun w _ => laidMetH Tryz.prog laid2 w) false (World.laidAll Tryz.prog os laid2) #[] 8 (World.laidAll_os _ _ _)
      (World.shaped_of_ZipB (by kernel_rfl) (by kernel_rfl)) (by kernel_rfl) (by kernel_rfl) (by kernel_rfl)
      (by rw [MakeChecks.laidMetH_plain _ _ _ (by kernel_rfl)]; exact laidMet_laidAll _ (by kernel_rfl) (by kernel_rfl))) ?_
  intro W base args ds gs before hval0 hW _ _ hL _
  have hval : ∀ (j : Nat) t v, Tryz.f4.params[j]? = some t → args[j]? = some v → Value.okWide Tryz.prog W .any base t v := hval0
  have hW' := hW
  obtain ⟨p, q, hA0, hV, rfl, hfz, hnd⟩ := hW
  have hA : DataW.TrodAll enc Tryz.prog W 0 (fun _ => true) true Tryz.f4.params.toList args.toList ds p := hA0
  rw [Tryz.params4] at hA hval
  obtain ⟨e0, rfl, rfl⟩ := trodAll_nil hA
  obtain rfl : args = #[] := by cases args; cases e0; rfl
  obtain ⟨rfl, rfl⟩ := trodVars_none hV
  clear hA0 hval0
  simp only [List.append_nil] at hW'
  refine (good_true good_envW (σ := fun _ => (.i64, 0)) covers_run hL .nil).mono fun e W' ⟨he, hb⟩ => ?_
  subst he
  refine ⟨_, rfl, [], [], [], [], [], [], hW', ?_, ?_, rfl, hb.frame _, fun h => by cases h⟩
  · exact trodAll_mk1 (shut_bool Tryz.underlying4 _)
  · exact trodAll_mk0

theorem covers_q1 : (Rows.corpusCoversRow.inPlace == Tryz.pinned.checked.prog.inPlace 4) = true := by kernel_rfl
theorem covers_q2 : (Rows.corpusCoversRow.unfollowed == Tryz.pinned.checked.prog.unfollowed 4) = true := by kernel_rfl
theorem covers_q3 : (Rows.corpusCoversRow.recurses == Tryz.pinned.checked.prog.recurses 4) = true := by kernel_rfl
theorem covers_q4 : (Rows.corpusCoversRow.named == Tryz.pinned.checked.prog.varsNamed 4) = true := by kernel_rfl
theorem covers_facts : joinedFacts Tryz.pinned.checked.prog 4 Tryz.f4 Rows.corpusCoversSpec Rows.corpusCoversRow = true := by
  unfold joinedFacts
  rw [covers_q1, covers_q2, covers_q3, covers_q4]
  kernel_rfl
theorem covers_holds : Rows.CorpusCoversSaid :=
  OpenClaim.holds_of_wide 4 Tryz.f4 rfl rfl rfl rfl rfl rfl rfl ⟨rfl, rfl, rfl, rfl, rfl⟩ rfl rfl rfl rfl rfl (by kernel_rfl) Tryz.func4 covers_facts
    (of_decide_eq_true (by kernel_rfl)) (by unfold Func.isWrapper; first | (rw [if_pos (by decide +kernel)]; kernel_rfl) | (rw [if_neg (by decide +kernel)]; exact ⟨rfl, rfl⟩))
    (fun os started H enc _ => covers_lifted os started H enc)

theorem covers_q5 : true = Tryz.pinned.checked.prog.looks [] := by kernel_rfl
theorem covers_q6 : false = Rows.corpusCoversRow.goesBy Tryz.pinned.checked.prog := by kernel_rfl
theorem covers_q7 : Tryz.pinned.checked.prog.mainIs = some ((true, "6e2b3a6a7015fbc411b5dc0e843bca222aefd55748d735be82c2d0175ccaec5e").1, (true, "6e2b3a6a7015fbc411b5dc0e843bca222aefd55748d735be82c2d0175ccaec5e").2.toList) := by kernel_rfl
theorem covers_card : Rows.CorpusCoversCardSaid :=
  Claim7.holds_tied_plain_at .later [] [.data, .data, .data, .data, .sentinel, .sentinel, .listed, .data, .pinned] true (true, "6e2b3a6a7015fbc411b5dc0e843bca222aefd55748d735be82c2d0175ccaec5e") true
    covers_holds (fun _ h => by cases h) (by kernel_rfl) (fun _ h => by cases h) corpusCovers_row_tie rfl ⟨rfl, rfl⟩ covers_q7 rfl
    (fun f fn hf hfn => by
      obtain rfl : f = 4 := Option.some.inj ((show Tryz.prog.funcNamed "gneiss/gneisslaw26.CorpusCovers" = some 4 by kernel_rfl).symm.trans hf) |>.symm
      obtain rfl : fn = Tryz.f4 := (Option.some.inj (Tryz.func4.symm.trans hfn)).symm
      exact ⟨covers_q5, fun j t ht => by
        rw [Tryz.params4] at ht
        simp at ht⟩)
    covers_q6
end Go.Ev
namespace Go.Proofs.YtjpjiognghcojaaGreatDoor
theorem corpusCovers_card_holds : Rows.CorpusCoversCardSaid := Go.Ev.covers_card
#print axioms corpusCovers_card_holds
end Go.Proofs.YtjpjiognghcojaaGreatDoor
