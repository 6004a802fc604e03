/- 'RunConfigs' returns true for every input and its arguments read behind the call as they read before. Conditions: the two listed package-level variables start as the program's text lays them (the card ties them to the text); a verified evaluator ('Go.Ev', EvDef .. EvTop) is run in the kernel, numbers that are not known as atoms, once for each case of the input. -/
import Derived.Test.YtbehlkbeofoahaaGreatDoorEvConfigsR0
import Derived.Test.YtbehlkbeofoahaaGreatDoorEvConfigsR1
import Derived.Test.YtbehlkbeofoahaaGreatDoorEvConfigsR2
import Derived.Test.YtbehlkbeofoahaaGreatDoorEvConfigsR3
import Derived.Test.YtbehlkbeofoahaaGreatDoorCards
import Derived.SevenTiedAt
namespace Go.Ev
set_option maxRecDepth 100000
open Go.Proofs Go.Proofs.YtbehlkbeofoahaaGreatDoor Go.ChangeShapes Go.WideShapes Go.ChangeAt Go.WideMaps Go.WideElems Go.RowKit

theorem configs_all {x0 : Int} (_w0 : (Lit.int .i64 x0).wf = true) {x1 : Int} (_w1 : (Lit.int .i64 x1).wf = true) {x2 : Int} (_w2 : (Lit.int .i64 x2).wf = true) : ∃ σ args, LRel (injS σ) args [.int .i64 x0, .int .i64 x1, .int .i64 x2] ∧ isTrue (evC envR 100000 1000 3 args H0) = true := by
  have hk2 : 0 ≤ Int.tmod (wr .u64 x2) 21000 ∧ Int.tmod (wr .u64 x2) 21000 < 21000 := by
    have h0 := wru64 x2
    rw [Int.tmod_eq_emod_of_nonneg h0]
    omega
  have fin : ∀ tb, AtOk (sgCf x0 x1 x2 (Int.tmod (wr .u64 x2) 21000)) tb → isTrue (evC envR 100000 1000 3 [.at 0 tb, .at 1 tb, .at 2 tb] H0) = true → ∃ σ args, LRel (injS σ) args [.int .i64 x0, .int .i64 x1, .int .i64 x2] ∧ isTrue (evC envR 100000 1000 3 args H0) = true := fun tb ht hr =>
    ⟨sgCf x0 x1 x2 (Int.tmod (wr .u64 x2) 21000), _, .cons _ _ _ _ (.at 0 tb _ _ ht rfl) (.cons _ _ _ _ (.at 1 tb _ _ ht rfl) (.cons _ _ _ _ (.at 2 tb _ _ ht rfl) .nil)), hr⟩
  have fin2 : ∀ tb (t : Int), AtOk (sgCf x0 t x2 (Int.tmod (wr .u64 x2) 21000)) tb → isTrue (evC envR 100000 1000 3 [.at 0 tb, .int .i64 t, .at 2 tb] H0) = true → ∃ σ args, LRel (injS σ) args [.int .i64 x0, .int .i64 t, .int .i64 x2] ∧ isTrue (evC envR 100000 1000 3 args H0) = true := fun tb t ht hr =>
    ⟨sgCf x0 t x2 (Int.tmod (wr .u64 x2) 21000), _, .cons _ _ _ _ (.at 0 tb _ _ ht rfl) (.cons _ _ _ _ (.int _ _) (.cons _ _ _ _ (.at 2 tb _ _ ht rfl) .nil)), hr⟩
  by_cases h1 : x0 < 2048
  · exact fin _ (tbCfwl_ok rfl hk2 h1) configs_run_wl
  by_cases h2 : 65536 < x0
  · exact fin _ (tbCfwh_ok rfl hk2 h2) configs_run_wh
  have hw : 2048 ≤ x0 ∧ x0 ≤ 65536 := by omega
  by_cases h3 : x1 < 2
  · exact fin _ (tbCftl_ok rfl hk2 ⟨hw, h3⟩) configs_run_tl
  by_cases h4 : 8 < x1
  · exact fin _ (tbCfth_ok rfl hk2 ⟨hw, h4⟩) configs_run_th
  have ht : 2 ≤ x1 ∧ x1 ≤ 8 := by omega
  by_cases h5 : Int.tmod (wr .u64 x2) 21000 = 0
  · clear fin
    by_cases e2 : x1 = 2
    · subst e2; exact fin2 _ 2 (tbCfz_ok rfl hk2 ⟨hw, h5⟩) configs_run_z_2
    by_cases e3 : x1 = 3
    · subst e3; exact fin2 _ 3 (tbCfz_ok rfl hk2 ⟨hw, h5⟩) configs_run_z_3
    by_cases e4 : x1 = 4
    · subst e4; exact fin2 _ 4 (tbCfz_ok rfl hk2 ⟨hw, h5⟩) configs_run_z_4
    by_cases e5 : x1 = 5
    · subst e5; exact fin2 _ 5 (tbCfz_ok rfl hk2 ⟨hw, h5⟩) configs_run_z_5
    by_cases e6 : x1 = 6
    · subst e6; exact fin2 _ 6 (tbCfz_ok rfl hk2 ⟨hw, h5⟩) configs_run_z_6
    by_cases e7 : x1 = 7
    · subst e7; exact fin2 _ 7 (tbCfz_ok rfl hk2 ⟨hw, h5⟩) configs_run_z_7
    by_cases e8 : x1 = 8
    · subst e8; exact fin2 _ 8 (tbCfz_ok rfl hk2 ⟨hw, h5⟩) configs_run_z_8
    omega
  by_cases h6 : 20000 < Int.tmod (wr .u64 x2) 21000
  · exact fin _ (tbCfkh_ok rfl hk2 ⟨hw, ht, h6⟩) configs_run_kh
  · clear fin
    by_cases e2 : x1 = 2
    · subst e2; exact fin2 _ 2 (tbCff_ok rfl hk2 ⟨hw, ⟨by omega, by omega⟩⟩) configs_run_f_2
    by_cases e3 : x1 = 3
    · subst e3; exact fin2 _ 3 (tbCff_ok rfl hk2 ⟨hw, ⟨by omega, by omega⟩⟩) configs_run_f_3
    by_cases e4 : x1 = 4
    · subst e4; exact fin2 _ 4 (tbCff_ok rfl hk2 ⟨hw, ⟨by omega, by omega⟩⟩) configs_run_f_4
    by_cases e5 : x1 = 5
    · subst e5; exact fin2 _ 5 (tbCff_ok rfl hk2 ⟨hw, ⟨by omega, by omega⟩⟩) configs_run_f_5
    by_cases e6 : x1 = 6
    · subst e6; exact fin2 _ 6 (tbCff_ok rfl hk2 ⟨hw, ⟨by omega, by omega⟩⟩) configs_run_f_6
    by_cases e7 : x1 = 7
    · subst e7; exact fin2 _ 7 (tbCff_ok rfl hk2 ⟨hw, ⟨by omega, by omega⟩⟩) configs_run_f_7
    by_cases e8 : x1 = 8
    · subst e8; exact fin2 _ 8 (tbCff_ok rfl hk2 ⟨hw, ⟨by omega, by omega⟩⟩) configs_run_f_8
    omega


theorem configs_lifted (os : Os) (started : os.Started) (H : Type) (enc : TypeId × Value → H) :
    ReturnsInHanded {} Tryz.checked os 3 .any (fun w args => (Rows.runConfigsSpec.pre enc Tryz.prog Tryz.f3 [] false w args ∧ laidMetH Tryz.prog laid2 w) ∧ sizedMet enc Tryz.prog Tryz.f3 (OpenSpec.ofChange Rows.runConfigsSpec) false w args)
      (Rows.runConfigsSpec.post enc Tryz.prog Tryz.f3 false true false false) := by
  refine returnsInHanded_of_change_and (C := Tryz.checked) (X := fun w _ => laidMetH Tryz.prog laid2 w) (fun _ _ _ hh h => h.of_heap hh) own started (by kernel_rfl) Tryz.func3
    (ChangeSpec.witness_shaped (enc := enc) (C := Tryz.checked) (os := os) (X := fun w _ => laidMetH Tryz.prog laid2 w) false (World.doorLaid Tryz.prog 400 os) #[.int .i64 0, .int .i64 0, .int .i64 0] 8 rfl (World.shaped_of_RefB (by kernel_rfl) (by kernel_rfl)) (by kernel_rfl) (by kernel_rfl) (by kernel_rfl) (door_met os _)) ?_
  intro W base args ds gs before hval0 hW _ _ hL _
  have hval : ∀ (j : Nat) t v, Tryz.f3.params[j]? = some t → args[j]? = some v → Value.okWide Tryz.prog W .any base t v := hval0
  have hW' := hW
  obtain ⟨p, q, hA0, hV, rfl, hfz, hnd⟩ := hW
  have hA : DataW.TrodAll enc Tryz.prog W 0 (fun _ => true) true Tryz.f3.params.toList args.toList ds p := hA0
  rw [Tryz.params3] at hA hval
  obtain ⟨v0, v1, v2, d0, d1, d2, p0, p1, p2, rfl, rfl, rfl, h0, h1, h2⟩ := trodAll_three hA
  obtain ⟨rfl, rfl⟩ := trodVars_none hV
  obtain ⟨x0, rfl, rfl, rfl, w0⟩ := open_int Tryz.underlying3 (hval 0 3 v0 rfl rfl) h0
  obtain ⟨x1, rfl, rfl, rfl, w1⟩ := open_int Tryz.underlying3 (hval 1 3 v1 rfl rfl) h1
  obtain ⟨x2, rfl, rfl, rfl, w2⟩ := open_int Tryz.underlying3 (hval 2 3 v2 rfl rfl) h2
  clear hA0 hval0
  simp only [List.append_nil] at hW'
  obtain ⟨σ, argsA, ha, hrun⟩ := configs_all w0 w1 w2
  refine (runR_true hrun hL ha).mono fun e W' ⟨he, hb⟩ => ?_
  subst he
  refine ⟨_, rfl, [.lit (.int .i64 x0), .lit (.int .i64 x1), .lit (.int .i64 x2)], [], [], [], [], [], hW', ?_, ?_, rfl, hb.frame _, fun h => by cases h⟩
  · exact trodAll_mk1 (shut_bool Tryz.underlying4 _)
  · exact trodAll_mk3 (shut_int Tryz.underlying3 w0) (shut_int Tryz.underlying3 w1) (shut_int Tryz.underlying3 w2)

theorem configs_q1 : (Rows.runConfigsRow.inPlace == Tryz.pinned.checked.prog.inPlace 3) = true := by kernel_rfl
theorem configs_q2 : (Rows.runConfigsRow.unfollowed == Tryz.pinned.checked.prog.unfollowed 3) = true := by kernel_rfl
theorem configs_q3 : (Rows.runConfigsRow.recurses == Tryz.pinned.checked.prog.recurses 3) = true := by kernel_rfl
theorem configs_q4 : (Rows.runConfigsRow.named == Tryz.pinned.checked.prog.varsNamed 3) = true := by kernel_rfl
theorem configs_facts : joinedFacts Tryz.pinned.checked.prog 3 Tryz.f3 Rows.runConfigsSpec Rows.runConfigsRow = true := by
  unfold joinedFacts
  rw [configs_q1, configs_q2, configs_q3, configs_q4]
  kernel_rfl
theorem configs_holds : Rows.RunConfigsSaid :=
  OpenClaim.holds_of_wide 3 Tryz.f3 rfl rfl rfl rfl rfl rfl rfl ⟨rfl, rfl, rfl, rfl, rfl⟩ rfl rfl rfl rfl rfl (by kernel_rfl) Tryz.func3 configs_facts
    (of_decide_eq_true (by kernel_rfl)) (by unfold Func.isWrapper; first | (rw [if_pos (by decide +kernel)]; kernel_rfl) | (rw [if_neg (by decide +kernel)]; exact ⟨rfl, rfl⟩))
    (fun os started H enc _ => configs_lifted os started H enc)

theorem configs_q5 : true = Tryz.pinned.checked.prog.looks [] := by kernel_rfl
theorem configs_q6 : false = Rows.runConfigsRow.goesBy Tryz.pinned.checked.prog := by kernel_rfl
theorem configs_q7 : Tryz.pinned.checked.prog.mainIs = some ((true, "1079f25ad37c2ef5bd58db438085494c850a6ee59dd903de61aa31810cc6bffd").1, (true, "1079f25ad37c2ef5bd58db438085494c850a6ee59dd903de61aa31810cc6bffd").2.toList) := by kernel_rfl
theorem configs_card : Rows.RunConfigsCardSaid :=
  Claim7.holds_tied_plain_at .later [] [.listed, .data] true (true, "1079f25ad37c2ef5bd58db438085494c850a6ee59dd903de61aa31810cc6bffd") true
    configs_holds (fun _ h => by cases h) (by kernel_rfl) (fun _ h => by cases h) runConfigs_row_tie rfl ⟨rfl, rfl⟩ configs_q7 rfl
    (fun f fn hf hfn => by
      obtain rfl : f = 3 := Option.some.inj ((show Tryz.prog.funcNamed "gneiss/gneisslaw25.RunConfigs" = some 3 by kernel_rfl).symm.trans hf) |>.symm
      obtain rfl : fn = Tryz.f3 := (Option.some.inj (Tryz.func3.symm.trans hfn)).symm
      exact ⟨configs_q5, fun j t ht => by
        rw [Tryz.params3] at ht
        have h3 : t = 3 := by
          rcases j with _ | _ | _ | j
          · simpa using ht.symm
          · simpa using ht.symm
          · simpa using ht.symm
          · simp at ht
        subst h3
        exact (show Tryz.prog.wantsStandIn 3 = false by kernel_rfl)⟩)
    configs_q6
end Go.Ev
namespace Go.Proofs.YtbehlkbeofoahaaGreatDoor
theorem runConfigs_card_holds : Rows.RunConfigsCardSaid := Go.Ev.configs_card
#print axioms runConfigs_card_holds
end Go.Proofs.YtbehlkbeofoahaaGreatDoor
