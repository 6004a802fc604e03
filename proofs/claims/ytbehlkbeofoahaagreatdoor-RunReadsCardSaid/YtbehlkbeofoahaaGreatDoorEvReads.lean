/- 'RunReads' returns true for every input and its arguments read behind the call as they read before. Conditions: the two listed package-level variables start as the program's text lays them (the card ties them to the text); a verified evaluator ('Go.Ev', EvDef .. EvTop) is run in the kernel, the inputs as atoms, once for each length up to eight, and once for all beyond. -/
import Derived.Test.YtbehlkbeofoahaaGreatDoorEvReadsR0
import Derived.Test.YtbehlkbeofoahaaGreatDoorEvReadsR1
import Derived.Test.YtbehlkbeofoahaaGreatDoorEvReadsR2
import Derived.Test.YtbehlkbeofoahaaGreatDoorEvReadsR3
import Derived.Test.YtbehlkbeofoahaaGreatDoorEvReadsR4
import Derived.Test.YtbehlkbeofoahaaGreatDoorEvReadsR5
import Derived.Test.YtbehlkbeofoahaaGreatDoorEvReadsR6
import Derived.Test.YtbehlkbeofoahaaGreatDoorEvReadsR7
import Derived.Test.YtbehlkbeofoahaaGreatDoorEvReadsR8
import Derived.Test.YtbehlkbeofoahaaGreatDoorEvReadsR9
import Derived.Test.YtbehlkbeofoahaaGreatDoorEvReadsR10
import Derived.Test.YtbehlkbeofoahaaGreatDoorEvReadsR11
import Derived.Test.YtbehlkbeofoahaaGreatDoorCards
import Derived.SevenTiedAt
namespace Go.Ev
set_option maxRecDepth 100000
open Go.Proofs Go.Proofs.YtbehlkbeofoahaaGreatDoor Go.ChangeShapes Go.WideShapes Go.ChangeAt Go.WideMaps Go.WideElems Go.RowKit

theorem reads_fin {W : World} (hL : laidMetH Tryz.prog laid2 W) {ι : Inj} {H : Hp} (hR : Rl envR W.heap.size W ι H W) {a : AV} {v : Value} (hv : VRel ι a v) {y : Int} (w1 : (Lit.int .i64 y).wf = true)
    (hr : ∀ r, r < 8 → isTrue (evC envR 100000 1000 9 [a, andArg 7 r] H) = true) : Calls Tryz.prog 9 #[v, .int .i64 y] W fun e W' => e = .returned (.bool true) ∧ Below W.heap.size W W' := by
  obtain ⟨r, h, e⟩ := and_rel (ι := ι) 3 (by decide) w1
  exact runH_true (hr r h) hL hR (cargs := [v, .int .i64 y]) (.cons _ _ _ _ hv (.cons _ _ _ _ e .nil))
theorem reads_calls {W : World} (hL : laidMetH Tryz.prog laid2 W) {y : Int} (w1 : (Lit.int .i64 y).wf = true) {a0 : Option Addr} {len cap : Nat}
    (h : (a0 = none ∧ len = 0 ∧ cap = 0) ∨ ∃ (a : Addr) (zs : List Int), a0 = some a ∧ len ≤ cap ∧ zs.length = cap ∧ ∀ i, i < zs.length → W.cell? (a.add i) = some (.int .i64 (zs.getD i 0))) :
    Calls Tryz.prog 9 #[.slice a0 len cap, .int .i64 y] W fun e W' => e = .returned (.bool true) ∧ Below W.heap.size W W' := by
  rcases h with ⟨rfl, rfl, rfl⟩ | ⟨a, zs, rfl, hl, hz, hc⟩
  · refine reads_fin (ι := inj0) (H := H0) hL (start envR_gl (ascii_cell hL)) .snil w1 fun r h => ?_
    match r, h with
    | 0, _ => exact reads_run_nil_0
    | 1, _ => exact reads_run_nil_1
    | 2, _ => exact reads_run_nil_2
    | 3, _ => exact reads_run_nil_3
    | 4, _ => exact reads_run_nil_4
    | 5, _ => exact reads_run_nil_5
    | 6, _ => exact reads_run_nil_6
    | 7, _ => exact reads_run_nil_7
    | r + 8, h =>
      have h' : r + 8 < 8 := h
      omega
  · by_cases hcap : cap = 0
    · subst hcap
      obtain rfl : len = 0 := by omega
      refine reads_fin (ι := inj0) (H := H0) hL (start envR_gl (ascii_cell hL)) (.slv (Pos.of 0) 0 0 0 256 a (.ex 0) rfl rfl) w1 fun r h => ?_
      match r, h with
      | 0, _ => exact reads_run_zero_0
      | 1, _ => exact reads_run_zero_1
      | 2, _ => exact reads_run_zero_2
      | 3, _ => exact reads_run_zero_3
      | 4, _ => exact reads_run_zero_4
      | 5, _ => exact reads_run_zero_5
      | 6, _ => exact reads_run_zero_6
      | 7, _ => exact reads_run_zero_7
      | r + 8, h =>
        have h' : r + 8 < 8 := h
        omega
    · obtain ⟨r, d, spot⟩ := a
      have h0 := hc 0 (by omega)
      have hspot : spot = none := by simpa [Addr.add] using World.cell?_spot h0
      subst hspot
      have hcell : ∀ j, j < cap → W.cell? ⟨r, d + j, none⟩ = some (.int .i64 (zs.getD j 0)) := fun j hj => by rw [← add_plain]; exact hc j (by omega)
      have hr : r < W.heap.size := by
        obtain ⟨o, ho, _⟩ := cells_of_cell (hcell 0 (by omega))
        exact (Array.getElem?_eq_some_iff.1 ho).1
      have hne : r ≠ 0 := by
        intro e
        subst e
        obtain ⟨z, hz⟩ := ascii_u8 hL (hcell 0 (by omega))
        cases hz
      have st : ∀ n, n ≤ len → n ≤ 8 → Rl envR W.heap.size W (injR (fun j => zs.getD j 0) r d cap) (HR n) W := fun n h1 h2 => startR envR_gl hL hr hne (by omega) h2 fun j hj => hcell j (by omega)
      have hsl : ∀ n, len = n → VRel (injR (fun j => zs.getD j 0) r d cap) (.sl (Pos.of 1) 0 n (.ex cap)) (.slice (some ⟨r, d, none⟩) len cap) := fun n e => by
        subst e
        have := VRel.sl (ι := injR (fun j => zs.getD j 0) r d cap) (Pos.of 1) 0 len cap r d cap rfl
        simpa using this
      match len, hl, st, hsl with
      | 0, _, st, hsl =>
        refine reads_fin hL (st 0 (Nat.le_refl _) (by omega)) (hsl 0 rfl) w1 fun r h => ?_
        match r, h with
        | 0, _ => exact congrFun reads_run_0_0 cap
        | 1, _ => exact congrFun reads_run_0_1 cap
        | 2, _ => exact congrFun reads_run_0_2 cap
        | 3, _ => exact congrFun reads_run_0_3 cap
        | 4, _ => exact congrFun reads_run_0_4 cap
        | 5, _ => exact congrFun reads_run_0_5 cap
        | 6, _ => exact congrFun reads_run_0_6 cap
        | 7, _ => exact congrFun reads_run_0_7 cap
        | r + 8, h =>
          have h' : r + 8 < 8 := h
          omega
      | 1, _, st, hsl =>
        refine reads_fin hL (st 1 (Nat.le_refl _) (by omega)) (hsl 1 rfl) w1 fun r h => ?_
        match r, h with
        | 0, _ => exact congrFun reads_run_1_0 cap
        | 1, _ => exact congrFun reads_run_1_1 cap
        | 2, _ => exact congrFun reads_run_1_2 cap
        | 3, _ => exact congrFun reads_run_1_3 cap
        | 4, _ => exact congrFun reads_run_1_4 cap
        | 5, _ => exact congrFun reads_run_1_5 cap
        | 6, _ => exact congrFun reads_run_1_6 cap
        | 7, _ => exact congrFun reads_run_1_7 cap
        | r + 8, h =>
          have h' : r + 8 < 8 := h
          omega
      | 2, _, st, hsl =>
        refine reads_fin hL (st 2 (Nat.le_refl _) (by omega)) (hsl 2 rfl) w1 fun r h => ?_
        match r, h with
        | 0, _ => exact congrFun reads_run_2_0 cap
        | 1, _ => exact congrFun reads_run_2_1 cap
        | 2, _ => exact congrFun reads_run_2_2 cap
        | 3, _ => exact congrFun reads_run_2_3 cap
        | 4, _ => exact congrFun reads_run_2_4 cap
        | 5, _ => exact congrFun reads_run_2_5 cap
        | 6, _ => exact congrFun reads_run_2_6 cap
        | 7, _ => exact congrFun reads_run_2_7 cap
        | r + 8, h =>
          have h' : r + 8 < 8 := h
          omega
      | 3, _, st, hsl =>
        refine reads_fin hL (st 3 (Nat.le_refl _) (by omega)) (hsl 3 rfl) w1 fun r h => ?_
        match r, h with
        | 0, _ => exact congrFun reads_run_3_0 cap
        | 1, _ => exact congrFun reads_run_3_1 cap
        | 2, _ => exact congrFun reads_run_3_2 cap
        | 3, _ => exact congrFun reads_run_3_3 cap
        | 4, _ => exact congrFun reads_run_3_4 cap
        | 5, _ => exact congrFun reads_run_3_5 cap
        | 6, _ => exact congrFun reads_run_3_6 cap
        | 7, _ => exact congrFun reads_run_3_7 cap
        | r + 8, h =>
          have h' : r + 8 < 8 := h
          omega
      | 4, _, st, hsl =>
        refine reads_fin hL (st 4 (Nat.le_refl _) (by omega)) (hsl 4 rfl) w1 fun r h => ?_
        match r, h with
        | 0, _ => exact congrFun reads_run_4_0 cap
        | 1, _ => exact congrFun reads_run_4_1 cap
        | 2, _ => exact congrFun reads_run_4_2 cap
        | 3, _ => exact congrFun reads_run_4_3 cap
        | 4, _ => exact congrFun reads_run_4_4 cap
        | 5, _ => exact congrFun reads_run_4_5 cap
        | 6, _ => exact congrFun reads_run_4_6 cap
        | 7, _ => exact congrFun reads_run_4_7 cap
        | r + 8, h =>
          have h' : r + 8 < 8 := h
          omega
      | 5, _, st, hsl =>
        refine reads_fin hL (st 5 (Nat.le_refl _) (by omega)) (hsl 5 rfl) w1 fun r h => ?_
        match r, h with
        | 0, _ => exact congrFun reads_run_5_0 cap
        | 1, _ => exact congrFun reads_run_5_1 cap
        | 2, _ => exact congrFun reads_run_5_2 cap
        | 3, _ => exact congrFun reads_run_5_3 cap
        | 4, _ => exact congrFun reads_run_5_4 cap
        | 5, _ => exact congrFun reads_run_5_5 cap
        | 6, _ => exact congrFun reads_run_5_6 cap
        | 7, _ => exact congrFun reads_run_5_7 cap
        | r + 8, h =>
          have h' : r + 8 < 8 := h
          omega
      | 6, _, st, hsl =>
        refine reads_fin hL (st 6 (Nat.le_refl _) (by omega)) (hsl 6 rfl) w1 fun r h => ?_
        match r, h with
        | 0, _ => exact congrFun reads_run_6_0 cap
        | 1, _ => exact congrFun reads_run_6_1 cap
        | 2, _ => exact congrFun reads_run_6_2 cap
        | 3, _ => exact congrFun reads_run_6_3 cap
        | 4, _ => exact congrFun reads_run_6_4 cap
        | 5, _ => exact congrFun reads_run_6_5 cap
        | 6, _ => exact congrFun reads_run_6_6 cap
        | 7, _ => exact congrFun reads_run_6_7 cap
        | r + 8, h =>
          have h' : r + 8 < 8 := h
          omega
      | 7, _, st, hsl =>
        refine reads_fin hL (st 7 (Nat.le_refl _) (by omega)) (hsl 7 rfl) w1 fun r h => ?_
        match r, h with
        | 0, _ => exact congrFun reads_run_7_0 cap
        | 1, _ => exact congrFun reads_run_7_1 cap
        | 2, _ => exact congrFun reads_run_7_2 cap
        | 3, _ => exact congrFun reads_run_7_3 cap
        | 4, _ => exact congrFun reads_run_7_4 cap
        | 5, _ => exact congrFun reads_run_7_5 cap
        | 6, _ => exact congrFun reads_run_7_6 cap
        | 7, _ => exact congrFun reads_run_7_7 cap
        | r + 8, h =>
          have h' : r + 8 < 8 := h
          omega
      | 8, _, st, hsl =>
        refine reads_fin hL (st 8 (Nat.le_refl _) (by omega)) (hsl 8 rfl) w1 fun r h => ?_
        match r, h with
        | 0, _ => exact congrFun reads_run_8_0 cap
        | 1, _ => exact congrFun reads_run_8_1 cap
        | 2, _ => exact congrFun reads_run_8_2 cap
        | 3, _ => exact congrFun reads_run_8_3 cap
        | 4, _ => exact congrFun reads_run_8_4 cap
        | 5, _ => exact congrFun reads_run_8_5 cap
        | 6, _ => exact congrFun reads_run_8_6 cap
        | 7, _ => exact congrFun reads_run_8_7 cap
        | r + 8, h =>
          have h' : r + 8 < 8 := h
          omega
      | m + 9, _, st, hsl =>
        refine reads_fin hL (st 8 (by omega) (by omega)) (hsl (Nat.add m 9) rfl) w1 fun r h => ?_
        match r, h with
        | 0, _ => exact congrFun (congrFun reads_run_more_0 m) cap
        | 1, _ => exact congrFun (congrFun reads_run_more_1 m) cap
        | 2, _ => exact congrFun (congrFun reads_run_more_2 m) cap
        | 3, _ => exact congrFun (congrFun reads_run_more_3 m) cap
        | 4, _ => exact congrFun (congrFun reads_run_more_4 m) cap
        | 5, _ => exact congrFun (congrFun reads_run_more_5 m) cap
        | 6, _ => exact congrFun (congrFun reads_run_more_6 m) cap
        | 7, _ => exact congrFun (congrFun reads_run_more_7 m) cap
        | r + 8, h =>
          have h' : r + 8 < 8 := h
          omega

theorem reads_lifted (os : Os) (started : os.Started) (H : Type) (enc : TypeId × Value → H) :
    ReturnsInHanded {} Tryz.checked os 9 .any (fun w args => (Rows.runReadsSpec.pre enc Tryz.prog Tryz.f9 [] false w args ∧ laidMetH Tryz.prog laid2 w) ∧ sizedMet enc Tryz.prog Tryz.f9 (OpenSpec.ofChange Rows.runReadsSpec) false w args)
      (Rows.runReadsSpec.post enc Tryz.prog Tryz.f9 false true false false) := by
  refine returnsInHanded_of_change_and (C := Tryz.checked) (X := fun w _ => laidMetH Tryz.prog laid2 w) (fun _ _ _ hh h => h.of_heap hh) own started (by kernel_rfl) Tryz.func9
    (ChangeSpec.witness_shaped (enc := enc) (C := Tryz.checked) (os := os) (X := fun w _ => laidMetH Tryz.prog laid2 w) false (World.doorLaid Tryz.prog 400 os) #[.slice none 0 0, .int .i64 0] 8 rfl (World.shaped_of_RefB (by kernel_rfl) (by kernel_rfl)) (by kernel_rfl) (by kernel_rfl) (by kernel_rfl) (door_met os _)) ?_
  intro W base args ds gs before hval0 hW _ _ hL _
  have hval : ∀ (j : Nat) t v, Tryz.f9.params[j]? = some t → args[j]? = some v → Value.okWide Tryz.prog W .any base t v := hval0
  have hW' := hW
  obtain ⟨p, q, hA0, hV, rfl, hfz, hnd⟩ := hW
  have hA : DataW.TrodAll enc Tryz.prog W 0 (fun _ => true) true Tryz.f9.params.toList args.toList ds p := hA0
  rw [Tryz.params9] at hA hval
  obtain ⟨v0, v1, d0, d1, p0, p1, rfl, rfl, rfl, h0, h1⟩ := trodAll_two hA
  obtain ⟨rfl, rfl⟩ := trodVars_none hV
  obtain ⟨x1, rfl, rfl, rfl, w1⟩ := open_int Tryz.underlying3 (hval 1 3 v1 rfl rfl) h1
  obtain ⟨a0, len, cap, rfl⟩ := okWide_slice Tryz.underlying31 (hval 0 31 v0 rfl rfl)
  clear hA0 hval0
  simp only [List.append_nil] at hW'
  have h0k := h0
  obtain ⟨fuel0, hf⟩ := h0
  have hlt : ∀ x ∈ p0, x.block < W.heap.size := fun x hx => by simpa using hW'.lt x hx
  have hcases : (a0 = none ∧ len = 0 ∧ cap = 0) ∨ ∃ (a : Addr) (zs : List Int), a0 = some a ∧ len ≤ cap ∧ zs.length = cap ∧ ∀ i, i < zs.length → W.cell? (a.add i) = some (.int .i64 (zs.getD i 0)) := by
    rcases open_ints Tryz.underlying31 Tryz.underlying3 (show Tryz.prog.cellsOf 3 = 1 by kernel_rfl) hf with ⟨hcs, _⟩ | ⟨a, len', cap', zs, hcs, _, hl, _, hz, _, hcell, _⟩
    · simp [Value.cells] at hcs
      exact .inl hcs
    · simp [Value.cells] at hcs
      obtain ⟨rfl, rfl, rfl⟩ := hcs
      simp only [if_true] at hz
      exact .inr ⟨a, zs, rfl, hl, hz, hcell⟩
  refine (reads_calls hL w1 hcases).mono fun e W' ⟨he, hb⟩ => ?_
  subst he
  refine ⟨_, rfl, [d0, .lit (.int .i64 x1)], [], p0, [], p0, [], hW', ?_, ?_, rfl, hb.frame _, fun h => by cases h⟩
  · exact trodAll_mk1 (shut_bool Tryz.underlying4 _)
  · have := trodAll_mk2 (Below.trod laidOut (by kernel_rfl) (of_decide_eq_true (by kernel_rfl)) h0k hb hlt) (shut_int Tryz.underlying3 w1)
    rw [List.append_nil] at this
    exact this
theorem reads_q1 : (Rows.runReadsRow.inPlace == Tryz.pinned.checked.prog.inPlace 9) = true := by kernel_rfl
theorem reads_q2 : (Rows.runReadsRow.unfollowed == Tryz.pinned.checked.prog.unfollowed 9) = true := by kernel_rfl
theorem reads_q3 : (Rows.runReadsRow.recurses == Tryz.pinned.checked.prog.recurses 9) = true := by kernel_rfl
theorem reads_q4 : (Rows.runReadsRow.named == Tryz.pinned.checked.prog.varsNamed 9) = true := by kernel_rfl
theorem reads_facts : joinedFacts Tryz.pinned.checked.prog 9 Tryz.f9 Rows.runReadsSpec Rows.runReadsRow = true := by
  unfold joinedFacts
  rw [reads_q1, reads_q2, reads_q3, reads_q4]
  kernel_rfl
theorem reads_holds : Rows.RunReadsSaid :=
  OpenClaim.holds_of_wide 9 Tryz.f9 rfl rfl rfl rfl rfl rfl rfl ⟨rfl, rfl, rfl, rfl, rfl⟩ rfl rfl rfl rfl rfl (by kernel_rfl) Tryz.func9 reads_facts
    (of_decide_eq_true (by kernel_rfl)) (by unfold Func.isWrapper; first | (rw [if_pos (by decide +kernel)]; kernel_rfl) | (rw [if_neg (by decide +kernel)]; exact ⟨rfl, rfl⟩))
    (fun os started H enc _ => reads_lifted os started H enc)

theorem reads_q5 : true = Tryz.pinned.checked.prog.looks [] := by kernel_rfl
theorem reads_q6 : false = Rows.runReadsRow.goesBy Tryz.pinned.checked.prog := by kernel_rfl
theorem reads_q7 : Tryz.pinned.checked.prog.mainIs = some ((true, "1079f25ad37c2ef5bd58db438085494c850a6ee59dd903de61aa31810cc6bffd").1, (true, "1079f25ad37c2ef5bd58db438085494c850a6ee59dd903de61aa31810cc6bffd").2.toList) := by kernel_rfl
theorem reads_card : Rows.RunReadsCardSaid :=
  Claim7.holds_tied_plain_at .later [] [.listed, .data] true (true, "1079f25ad37c2ef5bd58db438085494c850a6ee59dd903de61aa31810cc6bffd") true
    reads_holds (fun _ h => by cases h) (by kernel_rfl) (fun _ h => by cases h) runReads_row_tie rfl ⟨rfl, rfl⟩ reads_q7 rfl
    (fun f fn hf hfn => by
      obtain rfl : f = 9 := Option.some.inj ((show Tryz.prog.funcNamed "gneiss/gneisslaw25.RunReads" = some 9 by kernel_rfl).symm.trans hf) |>.symm
      obtain rfl : fn = Tryz.f9 := (Option.some.inj (Tryz.func9.symm.trans hfn)).symm
      exact ⟨reads_q5, fun j t ht => by
        rw [Tryz.params9] at ht
        have h3 : t = 31 ∨ t = 3 := by
          rcases j with _ | _ | j
          · exact .inl (by simpa using ht.symm)
          · exact .inr (by simpa using ht.symm)
          · simp at ht
        rcases h3 with rfl | rfl
        · exact (show Tryz.prog.wantsStandIn 31 = false by kernel_rfl)
        · exact (show Tryz.prog.wantsStandIn 3 = false by kernel_rfl)⟩)
    reads_q6
end Go.Ev
namespace Go.Proofs.YtbehlkbeofoahaaGreatDoor
theorem runReads_card_holds : Rows.RunReadsCardSaid := Go.Ev.reads_card
#print axioms runReads_card_holds
end Go.Proofs.YtbehlkbeofoahaaGreatDoor
