/- The evaluator's 'append' and 'copy'. -/
import Derived.Test.YtmjccopjophgjaaGreatDoorEvW2
namespace Go.Ev
open Go.RowKit (Below)
variable {P : Program} {E : Env} {base : Nat} {w0 : World} {ι : Inj} {H : Hp} {w : World} {T : PT AV} {L : List AV} {lk : Look} {a : Act}

/-! ### long rows as lists -/
theorem arrL_go (z : AV) (t : PT AV) : ∀ (n : Nat) (a : List AV), (Nat.rec (motive := fun _ => List AV → List AV) (fun a => a) (fun j ih a => ih (arrG z t j :: a)) n a : List AV) = (List.range n).map (arrG z t) ++ a
  | 0, a => by
    show a = _
    simp
  | n + 1, a => by
    show (Nat.rec (motive := fun _ => List AV → List AV) (fun a => a) (fun j ih a => ih (arrG z t j :: a)) n (arrG z t n :: a) : List AV) = _
    rw [arrL_go z t n, List.range_succ, List.map_append]
    simp
theorem arrL_eq (z : AV) (t : PT AV) (n : Nat) : arrL z t n = (List.range n).map (arrG z t) := by
  unfold arrL
  rw [arrL_go]; simp
theorem arr_list {r d zz n : Nat} {z : AV} {t : PT AV} (h : BRel ι w r d zz (.arr z t n)) : BRel ι w r d zz (.cells true (arrL z t n)) := by
  obtain ⟨h1, h2, h3⟩ := h
  rw [arrL_eq]
  refine ⟨by simpa using h1, fun j x hx => ?_, fun h => by cases h⟩
  rw [List.getElem?_map] at hx
  cases hr : (List.range n)[j]? with
  | none => rw [hr] at hx; cases hx
  | some q =>
    rw [hr] at hx
    have hj := (List.getElem?_eq_some_iff.1 hr).1
    obtain rfl : q = j := by
      have := (List.getElem?_eq_some_iff.1 hr).2
      simpa using this.symm
    cases hx
    exact h2 q (by simpa using hj)
theorem mkA_go : ∀ (l : List AV) (i : Nat) (t : PT AV) (j : Nat), i + l.length ≤ 1000000 → j ≤ 1000000 →
    (List.rec (motive := fun _ => Nat → PT AV → PT AV) (fun _ t => t) (fun x _ ih j t => (t.set (toP j) x).frc fun t' => ih (Nat.succ j) t') l i t : PT AV).get (toP j) = if i ≤ j ∧ j < i + l.length then l[j - i]? else t.get (toP j)
  | [], i, t, j, _, _ => by
    show t.get (toP j) = _
    rw [if_neg (by intro h; have := h.2; simp at this; omega)]
  | x :: l, i, t, j, hl, hj => by
    show ((t.set (toP i) x).frc fun t' => (List.rec (motive := fun _ => Nat → PT AV → PT AV) (fun _ t => t) (fun x _ ih j t => (t.set (toP j) x).frc fun t' => ih (Nat.succ j) t') l (i + 1) t' : PT AV)).get (toP j) = _
    rw [frc_eq, mkA_go l (i + 1) _ j (by simp at hl; omega) hj]
    by_cases h1 : i + 1 ≤ j ∧ j < i + 1 + l.length
    · rw [if_pos h1, if_pos (by simp; omega), show j - i = (j - (i + 1)) + 1 by omega]
      simp
    · rw [if_neg h1]
      by_cases h2 : j = i
      · subst h2
        rw [get_set_same, if_pos (by simp)]
        simp
      · rw [get_set_ne _ _ _ _ fun e => h2 (toP_inj hj (by simp at hl; omega) e), if_neg (by simp; omega)]
theorem mkA_get {l : List AV} (hl : l.length ≤ 1000000) {j : Nat} (hj : j < l.length) : arrG .any (mkA l) j = l[j] := by
  unfold arrG mkA
  rw [mkA_go l 0 .l j (by omega) (by omega), if_pos (by omega)]
  simp [hj]
/-- a row that was laid out, or a list -/
theorem rowB_rel {c : Bool} {r d z : Nat} {l : List AV} {κ : Inj} (hl : c = true → l.length ≤ 1000000) (h : BRel κ w r d z (.cells false l)) : BRel κ w r d z (cnd c (.arr .any (mkA l) (len l)) (.cells false l)) := by
  cases c with
  | false => exact h
  | true =>
    obtain ⟨h1, h2, h3⟩ := h
    show BRel κ w r d z (.arr .any (mkA l) (len l))
    rw [len_eq]
    refine ⟨h1, fun j hj => ?_, h3 rfl⟩
    rw [mkA_get (hl rfl) hj]
    exact h2 j _ (List.getElem?_eq_getElem hj)
theorem rowB_live (c : Bool) (l : List AV) : (cnd c (.arr .any (mkA l) (len l)) (.cells false l) : Blk).live = true ∧ (cnd c (.arr .any (mkA l) (len l)) (.cells false l) : Blk).ro = false := by
  cases c <;> exact ⟨rfl, rfl⟩

/-- The cells behind a slice: of its first n elements. -/
theorem cells_run (h : Rl E base w0 ι H w) {b : Pos} {o k r d z : Nat} {q : List AV} (hi : ι b = some (r, d, z)) (hc : (H.cells b none fun _ l => sub o k l) = some q) :
    ∃ C, LRel ι q C ∧ C.length = k ∧ (∀ j v, C[j]? = some v → w.cell? ((⟨r, d + o, none⟩ : Addr).add j) = some v) := by
  obtain ⟨ro, l, h1, h2⟩ := cells_inv hc
  obtain ⟨h5, h6⟩ := sub_eq h2
  exact h.row hi h1 h5 h6

theorem cellsA_run (h : Rl E base w0 ι H w) {b : Pos} {o m e r d z : Nat} {q : List AV} (hi : ι b = some (r, d, z)) (hc : (H.cells b (H.ar b none fun z t k => cnd (Nat.beq e 1) (sub o m (arrL z t k)) none) fun _ l => sub o (Nat.mul m e) l) = some q) :
    ∃ C, LRel ι q C ∧ C.length = m * e ∧ (∀ j v, C[j]? = some v → w.cell? ((⟨r, d + o, none⟩ : Addr).add j) = some v) := by
  rcases cellsA_inv hc with ⟨ro, l, h1, h2⟩ | ⟨u, t, k, h1, h2⟩
  · obtain ⟨h5, h6⟩ := sub_eq h2
    exact h.row hi h1 h5 h6
  · obtain ⟨h3, h4⟩ := cnd_some h2
    obtain rfl := Nat.eq_of_beq_eq_true h3
    obtain ⟨h5, h6⟩ := sub_eq h4
    rw [Nat.mul_one]
    exact brow (arr_list (h.blk b r d z _ hi h1)) h5 h6
theorem cell_heap {w w' : World} (hh : w'.heap = w.heap) (a : Addr) : w'.cell? a = w.cell? a := World.cell?_of_block (w := w) (by rw [hh])

/-- What is appended, or copied from. -/
theorem src_run (h : Rl E base w0 ι H w) {x : AV} {cx : Value} (hx : VRel ι x cx) {m e : Nat} (hm : srcLen x = some m) {xs : List AV} (hc : srcCells e x H = some xs) :
    ∃ C, LRel ι xs C ∧ C.length = m * e ∧ (∀ w' : World, (Builtin.lenOf cx).run P w' = .ok m w') ∧ (∀ w' : World, w'.heap = w.heap → (Builtin.firstCells e m cx).run P w' = .ok C.toArray w') := by
  cases hx with
  | snil => cases hm; cases hc; exact ⟨[], .nil, by simp, fun _ => rfl, fun _ _ => rfl⟩
  | sl b o n c r d z hi =>
    cases hm
    replace hc : cnd (Nat.beq m 0) (some []) (H.cells b (H.ar b none fun z t k => cnd (Nat.beq e 1) (sub o m (arrL z t k)) none) fun _ l => sub o (Nat.mul m e) l) = some xs := hc
    rw [cnd_eq] at hc
    split at hc
    · rename_i h0
      have := Nat.eq_of_beq_eq_true h0; subst this
      cases hc
      exact ⟨[], .nil, by simp, fun _ => rfl, fun w' _ => by simpa using run_firstCells_some (P := P) w' e 0 ⟨r, d + o, none⟩ 0 c [] (by simp) (by simp)⟩
    · obtain ⟨C, c1, c2, c3⟩ := cellsA_run h hi hc
      exact ⟨C, c1, c2, fun _ => rfl, fun w' hh => run_firstCells_some (P := P) w' e m _ m c C c2 fun j v hj => by rw [cell_heap hh]; exact c3 j v hj⟩
  | slu b o n c r d z e' hi hcap hz =>
    cases hm
    replace hc : cnd (Nat.beq m 0) (some []) (H.cells b (H.ar b none fun z t k => cnd (Nat.beq e 1) (sub o m (arrL z t k)) none) fun _ l => sub o (Nat.mul m e) l) = some xs := hc
    rw [cnd_eq] at hc
    split at hc
    · rename_i h0
      have := Nat.eq_of_beq_eq_true h0; subst this
      cases hc
      exact ⟨[], .nil, by simp, fun _ => rfl, fun w' _ => by simpa using run_firstCells_some (P := P) w' e 0 ⟨r, d + o, none⟩ 0 c [] (by simp) (by simp)⟩
    · obtain ⟨C, c1, c2, c3⟩ := cellsA_run h hi hc
      exact ⟨C, c1, c2, fun _ => rfl, fun w' hh => run_firstCells_some (P := P) w' e m _ m c C c2 fun j v hj => by rw [cell_heap hh]; exact c3 j v hj⟩
  | slv b o r d z ad c hi hcap =>
    cases hm
    have : xs = [] := by
      replace hc : some [] = some xs := hc
      cases hc; rfl
    subst this
    exact ⟨[], .nil, by simp, fun _ => rfl, fun w' _ => by simpa using run_firstCells_some (P := P) w' e 0 ad 0 0 [] (by simp) (by simp)⟩
  | str s l hl =>
    cases hm
    replace hc : cnd (Nat.beq e 1) (some (l.map fun c => AV.int .u8 (.ofNat c))) none = some xs := hc
    obtain ⟨h1, hc⟩ := cnd_some hc
    have := Nat.eq_of_beq_eq_true h1; subst this
    cases hc
    have hlen : len l = s.size := by rw [len_eq, ← hl]; simp
    refine ⟨byteCells s, ?_, by rw [byteCells_length, hlen, Nat.mul_one], fun w' => by rw [hlen]; rfl, fun w' _ => by rw [hlen]; exact firstCells_string s w'⟩
    subst hl
    unfold byteCells
    refine .of_get (by simp) fun i x v hx hv => ?_
    simp only [List.getElem?_map, Option.map_eq_some_iff] at hx hv
    obtain ⟨y, ⟨u, hu, hy⟩, rfl⟩ := hx
    obtain ⟨u', hu', rfl⟩ := hv
    rw [hu] at hu'; cases hu'; subst hy
    exact .int _ _
  | _ => cases hm

theorem fits_ok {n old by' : Nat} (h : old < n) (h1 : n ≤ 1000000) (h2 : by' ≤ 100000) : Builtin.nextslicecap n old * by' ≤ 281474976710656 :=
  growslice_fits h (Nat.le_trans (Nat.mul_le_mul h1 h2) (by decide))

/-- A new row. -/
theorem grow_rel (h : Rl E base w0 ι H w) {e need old : Nat} {el : TypeId} {l : List AV} {C : List Value} (zc : Value) (hz : zc.cells.size = e) (hC : LRel ι l C) (hl : C.length = need * e) {v : AV} {H' : Hp} (hv : grow e need l H = .val v H') :
    need ≤ 1000000 ∧ ∃ ι', VRel ι' v (.slice (some ⟨w.heap.size, 0, none⟩) need (grownCap w need old el)) ∧
      Rl E base w0 ι' H' (w.drew.alloc (.cells (C.toArray ++ Builtin.zeroCells zc.cells (grownCap w need old el - need)) el)) ∧ Stp ι ι' H H' := by
  unfold grow at hv
  obtain ⟨h1, hv⟩ := cnd_invO hv
  rw [new_eq, fNat_eq] at hv
  cases hv
  refine ⟨Nat.le_of_ble_eq_true h1, ?_⟩
  have hge := grownCap_ge w need old el
  have hsz : (C.toArray ++ Builtin.zeroCells zc.cells (grownCap w need old el - need)).size = grownCap w need old el * e := by
    simp only [Array.size_append, List.size_toArray, size_zeroCells, hz, hl, ← Nat.add_mul]
    congr 1; omega
  obtain ⟨k1, k2⟩ := h.drew.alloc (.cells (C.toArray ++ Builtin.zeroCells zc.cells (grownCap w need old el - need)) el) (grownCap w need old el * e) (.cells false l) fun κ hκ => by
    refine ⟨by rw [hC.length, hl]; exact Nat.mul_le_mul_right _ hge, fun j x hx => ?_, fun _ j hj => ⟨?_, ?_⟩⟩
    · obtain ⟨v, h1, h2⟩ := hC.get hx
      refine ⟨v, ?_, h2.mono hκ⟩
      rw [Nat.zero_add, World.cell?_alloc_new, Array.getElem?_append_left (by
        have := (List.getElem?_eq_some_iff.1 h1).1
        simpa using this)]
      simpa using h1
    · rw [Nat.zero_add, World.cell?_alloc_new]
      rw [← hsz] at hj
      simp only [hj, getElem?_pos, Option.isSome_some]
    · rw [Nat.zero_add, World.frozen?_alloc_new]
  refine ⟨_, ?_, k1, k2⟩
  have := VRel.slu (ι := upd ι H.nx (w.drew.heap.size, 0, grownCap w need old el * e)) H.nx 0 need (grownCap w need old el) w.drew.heap.size 0 (grownCap w need old el * e) e (upd_same _ _ _) hge (by omega)
  simpa using this
/-- A new long row. -/
theorem growA_rel (h : Rl E base w0 ι H w) {e need old : Nat} {el : TypeId} {l : List AV} {C : List Value} (zc : Value) (hz : zc.cells.size = e) (hC : LRel ι l C) (hl : C.length = need * e) {v : AV} {H' : Hp} (hv : growA e need l H = .val v H') :
    need ≤ 1000000 ∧ ∃ ι', VRel ι' v (.slice (some ⟨w.heap.size, 0, none⟩) need (grownCap w need old el)) ∧
      Rl E base w0 ι' H' (w.drew.alloc (.cells (C.toArray ++ Builtin.zeroCells zc.cells (grownCap w need old el - need)) el)) ∧ Stp ι ι' H H' := by
  unfold growA at hv
  obtain ⟨h1, hv⟩ := cnd_invO hv
  rw [iand_eq, Bool.and_eq_true] at h1
  rw [new_eq, fNat_eq] at hv
  cases hv
  refine ⟨Nat.le_of_ble_eq_true h1.1, ?_⟩
  have hge := grownCap_ge w need old el
  have hsz : (C.toArray ++ Builtin.zeroCells zc.cells (grownCap w need old el - need)).size = grownCap w need old el * e := by
    simp only [Array.size_append, List.size_toArray, size_zeroCells, hz, hl, ← Nat.add_mul]
    congr 1; omega
  obtain ⟨k1, k2⟩ := h.drew.alloc (.cells (C.toArray ++ Builtin.zeroCells zc.cells (grownCap w need old el - need)) el) (grownCap w need old el * e) (.arr .any (mkA l) (len l)) fun κ hκ => by
    refine rowB_rel (c := true) (fun _ => ?_) ⟨by rw [hC.length, hl]; exact Nat.mul_le_mul_right _ hge, fun j x hx => ?_, fun _ j hj => ⟨?_, ?_⟩⟩
    · have := Nat.eq_of_beq_eq_true h1.2
      have h1' := Nat.le_of_ble_eq_true h1.1
      rw [hC.length, hl, this]; omega
    · obtain ⟨v, h1, h2⟩ := hC.get hx
      refine ⟨v, ?_, h2.mono hκ⟩
      rw [Nat.zero_add, World.cell?_alloc_new, Array.getElem?_append_left (by
        have := (List.getElem?_eq_some_iff.1 h1).1
        simpa using this)]
      simpa using h1
    · rw [Nat.zero_add, World.cell?_alloc_new]
      rw [← hsz] at hj
      simp only [hj, getElem?_pos, Option.isSome_some]
    · rw [Nat.zero_add, World.frozen?_alloc_new]
  refine ⟨_, ?_, k1, k2⟩
  have := VRel.slu (ι := upd ι H.nx (w.drew.heap.size, 0, grownCap w need old el * e)) H.nx 0 need (grownCap w need old el) w.drew.heap.size 0 (grownCap w need old el * e) e (upd_same _ _ _) hge (by omega)
  simpa using this
theorem zcells_eq {t : Nat} {i : TypeInfo} {l : List AV} (hi : E.info t = some i) (h : E.zcells t = some l) : ∃ z : Value, i.zero = some z ∧ LRel ι l z.cells.toList := by
  unfold Env.zcells at h
  obtain ⟨x, h1, h2⟩ := opt_eq_some h
  unfold Env.zero at h1
  rw [hi] at h1
  replace h1 : opt i.zero none (fun v => ofV 8 v) = some x := h1
  obtain ⟨z, h3, h4⟩ := opt_eq_some h1
  exact ⟨z, h3, (ofV_sound 8 z x h4).cells h2⟩

theorem kind_of (hE : EnvOk P E) {xt : Nat} {dx : TypeDesc} (h : E.und xt = some dx) (hs : strOrSl dx = true) : (∃ e', P.underlying xt = some (.slice e')) ∨ P.underlying xt = some .string := by
  have hu := und_eq hE h
  cases dx with
  | slice e => exact .inl ⟨e, hu⟩
  | string => exact .inr hu
  | _ => cases hs

section
variable {st xt e : Nat} {ty : TypeId} {dx : TypeDesc} {i : TypeInfo} {z : List AV}

/-- onto what has no room -/
theorem app_grow (hE : EnvOk P E) (_h : Rl E base w0 ι H w) (h1 : E.und st = some (.slice e)) (h4 : E.info e = some i) (hz : E.zcells e = some z) (hz2 : z.length = i.size) (h6 : i.bytes ≤ 100000)
    {cx : Value} {n m : Nat} {news : List Value} (hs : Src P i.size xt cx m news w) (ad : Option Addr) (c : Nat) (olds : List Value) (hol : olds.length = n * i.size)
    (hold : (Builtin.firstCells i.size n (.slice ad n c)).run P w.drew = .ok olds.toArray w.drew) (hg : c < n + m) {l : List AV} (hl : LRel ι l (olds ++ news)) {H1 : Hp} (hR : Rl E base w0 ι H1 w) (hS : Stp ι ι H H1) {v : AV} {H' : Hp}
    (hv : grow i.size (n + m) l H1 = .val v H') : WGives P E base w0 ι H w (Builtin.append_ #[st, xt] ty #[.slice ad n c, cx]) v H' := by
  obtain ⟨zc, hz3, hz4⟩ := zcells_eq (ι := ι) h4 hz
  have hzl : zc.cells.size = i.size := by rw [← hz2, hz4.length]; simp
  obtain ⟨g1, ι', g2, g3, g4⟩ := grow_rel (old := c) (el := e) hR zc hzl hl (by rw [List.length_append, hol, hs.newsLen, Nat.add_mul]) hv
  exact ⟨_, _, ι', run_append_grow_src (P := P) w st xt ty e i zc (und_eq hE h1) (hE.ty _ _ h4) hz3 ad n c olds hold cx m news hs hg (by omega) (fits_ok hg g1 h6), g2, g3, hS.trans g4⟩
/-- onto what has no room: a long row -/
theorem app_growA (hE : EnvOk P E) (_h : Rl E base w0 ι H w) (h1 : E.und st = some (.slice e)) (h4 : E.info e = some i) (hz : E.zcells e = some z) (hz2 : z.length = i.size) (h6 : i.bytes ≤ 100000)
    {cx : Value} {n m : Nat} {news : List Value} (hs : Src P i.size xt cx m news w) (ad : Option Addr) (c : Nat) (olds : List Value) (hol : olds.length = n * i.size)
    (hold : (Builtin.firstCells i.size n (.slice ad n c)).run P w.drew = .ok olds.toArray w.drew) (hg : c < n + m) {l : List AV} (hl : LRel ι l (olds ++ news)) {H1 : Hp} (hR : Rl E base w0 ι H1 w) (hS : Stp ι ι H H1) {v : AV} {H' : Hp}
    (hv : growA i.size (n + m) l H1 = .val v H') : WGives P E base w0 ι H w (Builtin.append_ #[st, xt] ty #[.slice ad n c, cx]) v H' := by
  obtain ⟨zc, hz3, hz4⟩ := zcells_eq (ι := ι) h4 hz
  have hzl : zc.cells.size = i.size := by rw [← hz2, hz4.length]; simp
  obtain ⟨g1, ι', g2, g3, g4⟩ := growA_rel (old := c) (el := e) hR zc hzl hl (by rw [List.length_append, hol, hs.newsLen, Nat.add_mul]) hv
  exact ⟨_, _, ι', run_append_grow_src (P := P) w st xt ty e i zc (und_eq hE h1) (hE.ty _ _ h4) hz3 ad n c olds hold cx m news hs hg (by omega) (fits_ok hg g1 h6), g2, g3, hS.trans g4⟩
end
end Go.Ev
