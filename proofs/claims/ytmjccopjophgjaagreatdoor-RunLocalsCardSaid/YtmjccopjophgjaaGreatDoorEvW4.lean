/- The evaluator's 'append' and 'copy': sound. -/
import Derived.Test.YtmjccopjophgjaaGreatDoorEvW3
import Derived.Deep.MidRow
namespace Go.Ev
open Go.RowKit (Below)
variable {P : Program} {E : Env} {base : Nat} {w0 : World} {ι : Inj} {H : Hp} {w : World} {T : PT AV} {L : List AV} {lk : Look} {a : Act}
variable {st xt e : Nat} {ty : TypeId} {dx : TypeDesc} {i : TypeInfo} {z : List AV}

/-- Nothing is appended: what is yielded is nothing. -/
theorem src_none {x : AV} {cx : Value} (hx : VRel ι x cx) (hm : srcLen x = some 0) (size : Nat) (hk : (∃ e', P.underlying xt = some (.slice e')) ∨ P.underlying xt = some .string) (w : World) : Src P size xt cx 0 [] w := by
  cases hx with
  | snil => exact ⟨hk, fun _ => rfl, run_firstCells_none w size 0 0 0, run_firstCells_none w.drew size 0 0 0, by simp, fun _ h => by cases h⟩
  | sl b o n c r d z hi =>
    cases hm
    exact ⟨hk, fun _ => rfl, run_firstCells_some w size 0 _ 0 c [] (by simp) (by simp), run_firstCells_some w.drew size 0 _ 0 c [] (by simp) (by simp), by simp, fun _ h => by cases h⟩
  | slu b o n c r d z e' hi hcap hz =>
    cases hm
    exact ⟨hk, fun _ => rfl, run_firstCells_some w size 0 _ 0 c [] (by simp) (by simp), run_firstCells_some w.drew size 0 _ 0 c [] (by simp) (by simp), by simp, fun _ h => by cases h⟩
  | slv b o r d z ad c hi hcap =>
    exact ⟨hk, fun _ => rfl, run_firstCells_some w size 0 _ 0 0 [] (by simp) (by simp), run_firstCells_some w.drew size 0 _ 0 0 [] (by simp) (by simp), by simp, fun _ h => by cases h⟩
  | str s l hl =>
    have hs : s.size = 0 := by
      have : some (len l) = some 0 := hm
      rw [len_eq] at this
      rw [← hl] at this
      simpa using this
    have h0 : s.data = #[] := Array.eq_empty_of_size_eq_zero hs
    have e0 : ∀ w', (Builtin.firstCells size 0 (.string s)).run P w' = .ok #[] w' := fun w' => by
      simp [Builtin.firstCells]
    exact ⟨hk, fun _ => by simp [Builtin.lenOf, hs], by simpa using e0 w, by simpa using e0 w.drew, by simp, fun _ h => by cases h⟩
  | _ => cases hm

theorem app_none (hE : EnvOk P E) (h : Rl E base w0 ι H w) (h1 : E.und st = some (.slice e)) (h4 : E.info e = some i)
    {s : AV} {cs cx : Value} (hs : VRel ι s cs) (hx : Src P i.size xt cx 0 [] w) {v : AV} {H' : Hp} (hv : apd0 s H = .val v H') : WGives P E base w0 ι H w (Builtin.append_ #[st, xt] ty #[cs, cx]) v H' := by
  have ht := und_eq hE h1
  have hi := hE.ty _ _ h4
  have key : ∀ (ad : Option Addr) (n c : Nat), n ≤ c → (Builtin.append_ #[st, xt] ty #[.slice ad n c, cx]).run P w = .ok (.slice ad n c) w := by
    intro ad n c hc
    rcases hx.kind with ⟨e', hk⟩ | hk <;> cases ad <;> simp [Builtin.append_, run_underlying ht, run_underlying hk, sizeOf, typeInfo, hi, hx.len, hx.cells, hc, storeCells]
  unfold apd0 at hv
  split at hv
  · cases hv
    cases hs
    exact ⟨_, w, ι, key none 0 0 (Nat.le_refl _), .snil, h, .refl ι H⟩
  · obtain ⟨h5, hv⟩ := cnd_invO hv
    cases hv
    have h5 := Nat.le_of_ble_eq_true h5
    cases hs with
    | sl b o n c r d z hi => exact ⟨_, w, ι, key _ _ _ h5, .sl _ _ _ _ r d z hi, h, .refl ι H⟩
    | slu b o n c r d z e hi hc hz => exact ⟨_, w, ι, key _ _ _ hc, .slu _ _ _ _ r d z e hi hc hz, h, .refl ι H⟩
    | slv b o r d z ad c hi hc => exact ⟨_, w, ι, key _ _ _ (Nat.le_refl _), .slv _ _ r d z _ _ hi hc, h, .refl ι H⟩
  · cases hv

/-- the cells of what is appended to -/
theorem old_run (h : Rl E base w0 ι H w) {b : Pos} {o n k r d z : Nat} {l old : List AV} {ro : Bool} (hi : ι b = some (r, d, z)) (hg : H.m.get b = some (.cells ro l)) (hk : n = 0 → k = 0) (hold : cnd (Nat.beq n 0) (some []) (sub o k l) = some old) :
    ∃ C, LRel ι old C ∧ C.length = k ∧ (∀ j v, C[j]? = some v → w.cell? ((⟨r, d + o, none⟩ : Addr).add j) = some v) ∧ (n ≠ 0 → o + k ≤ l.length) := by
  rw [cnd_eq] at hold
  split at hold
  · rename_i h0
    have h0 := Nat.eq_of_beq_eq_true h0
    cases hold
    exact ⟨[], .nil, by simp [hk h0], by simp, fun hne => absurd h0 hne⟩
  · obtain ⟨h5, h6⟩ := sub_eq hold
    obtain ⟨C, c1, c2, c3⟩ := h.row hi hg h5 h6
    exact ⟨C, c1, c2, c3, fun _ => h5⟩

theorem apdX_sound (hE : EnvOk P E) (h : Rl E base w0 ι H w) (h1 : E.und st = some (.slice e)) (h4 : E.info e = some i) (hz : E.zcells e = some z) (hz2 : z.length = i.size) (h6 : i.bytes ≤ 100000)
    {b : Pos} {o n m c r d zz : Nat} {cx : Value} (hb : ι b = some (r, d, zz)) {xs : List AV} {C : List Value} (hx : Src P i.size xt cx m C w) (hC : LRel ι xs C)
    {v : AV} {H' : Hp} (hv : apdX i.size b o n m c xs H = .val v H') : WGives P E base w0 ι H w (Builtin.append_ #[st, xt] ty #[.slice (some ⟨r, d + o, none⟩) n c, cx]) v H' := by
  have ht := und_eq hE h1
  have hi := hE.ty _ _ h4
  unfold apdX at hv
  rw [cnd_eq] at hv
  split at hv
  · rename_i hc
    have hc := Nat.le_of_ble_eq_true hc
    obtain ⟨ro, l, g1, hv⟩ := cells_invO hv
    obtain ⟨hro, hv⟩ := cnd_invO' hv
    subst hro
    obtain ⟨l', g2, hv⟩ := opt_invO hv
    cases hv
    rw [put_eq]
    obtain ⟨k1, k2⟩ := h.put hb g1 g2 hC
    have hbr : BRel ι w r d zz (.cells false l) := h.blk b r d zz _ hb g1
    obtain ⟨p1, p2⟩ := puts_eq g2
    have hlen := hC.length
    have p1' : o + n * i.size + C.length ≤ l.length := by rw [← hlen]; exact p1
    have := run_append_room_src (P := P) w st xt ty e i ht hi r (d + o) n c cx m C hx hc (fun j hj => by
        rw [show d + o + n * i.size + j = d + (o + n * i.size + j) by omega]
        exact (hbr.2.2 rfl _ (by have := hbr.1; omega)).1) (fun j hj => by
        rw [show d + o + n * i.size + j = d + (o + n * i.size + j) by omega]
        exact (hbr.2.2 rfl _ (by have := hbr.1; omega)).2)
    refine ⟨_, _, ι, this, .sl b o (n + m) c r d zz hb, ?_, k2⟩
    rw [show d + o + n * i.size = d + (o + n * i.size) by omega]
    exact k1
  · rename_i hc
    have hc : c < n + m := by
      rcases Nat.lt_or_ge c (n + m) with h' | h'
      · exact h'
      · exact absurd (Nat.ble_eq_true_of_le h') hc
    obtain ⟨old, g1, hv⟩ := opt_invO hv
    have : ∃ D, LRel ι old D ∧ D.length = n * i.size ∧ ∀ j v, D[j]? = some v → w.cell? ((⟨r, d + o, none⟩ : Addr).add j) = some v := by
      rw [cnd_eq] at g1
      split at g1
      · rename_i h0
        have h0 := Nat.eq_of_beq_eq_true h0
        cases g1
        exact ⟨[], .nil, by simp [h0], by simp⟩
      · exact cells_run h hb g1
    obtain ⟨D, d1, d2, d3⟩ := this
    rw [app_eq, cnd_eq] at hv
    split at hv
    · exact app_growA hE h h1 h4 hz hz2 h6 hx _ c D d2 (run_firstCells_some (P := P) w.drew i.size n _ n c D d2 (by simpa using d3)) hc (d1.append hC) h (.refl ι H) hv
    · exact app_grow hE h h1 h4 hz hz2 h6 hx _ c D d2 (run_firstCells_some (P := P) w.drew i.size n _ n c D d2 (by simpa using d3)) hc (d1.append hC) h (.refl ι H) hv

theorem apdU_sound (hE : EnvOk P E) (h : Rl E base w0 ι H w) (h1 : E.und st = some (.slice e)) (h4 : E.info e = some i) (hz : E.zcells e = some z) (hz2 : z.length = i.size) (h6 : i.bytes ≤ 100000)
    {b : Pos} {o n m c r d zz e' : Nat} {cx : Value} (hb : ι b = some (r, d, zz)) (hzz : o + c * e' ≤ zz) {xs : List AV} {C : List Value} (hx : Src P i.size xt cx m C w) (hC : LRel ι xs C)
    {v : AV} {H' : Hp} (hv : apdU i.size b o n m e' xs H = .val v H') : WGives P E base w0 ι H w (Builtin.append_ #[st, xt] ty #[.slice (some ⟨r, d + o, none⟩) n c, cx]) v H' := by
  have ht := und_eq hE h1
  have hi := hE.ty _ _ h4
  unfold apdU at hv
  obtain ⟨he, hv'⟩ := cnd_invO hv
  clear hv
  have he := Nat.eq_of_beq_eq_true he
  subst he
  obtain ⟨ro, l, g1, hv⟩ := cells_invO hv'
  obtain ⟨hro, hv⟩ := cnd_invO' hv
  subst hro
  obtain ⟨old, g2, hv⟩ := opt_invO hv
  rw [put_eq, app_eq] at hv
  obtain ⟨D, d1, d2, d3, d4⟩ := old_run h hb g1 (fun h0 => by rw [h0]; simp) g2
  replace d2 : D.length = n * i.size := d2
  obtain ⟨k1, k2⟩ := h.kill hb
  rcases Nat.lt_or_ge c (n + m) with hc | hc
  · exact app_grow hE h h1 h4 hz hz2 h6 hx _ c D d2 (run_firstCells_some (P := P) w.drew i.size n _ n c D d2 (by simpa using d3)) hc (d1.append hC) k1 k2 hv
  · have hbr : BRel ι w r d zz (.cells false l) := h.blk b r d zz _ hb g1
    have hnm : (n + m) * i.size ≤ c * i.size := Nat.mul_le_mul_right _ hc
    have hCl : C.length = m * i.size := hx.newsLen
    have hsum : n * i.size + m * i.size = (n + m) * i.size := (Nat.add_mul ..).symm
    have hin : ∀ j, j < C.length → (w.cell? ⟨r, d + o + n * i.size + j, none⟩).isSome = true ∧ w.frozen? ⟨r, d + o + n * i.size + j, none⟩ = false := fun j hj => by
      rw [show d + o + n * i.size + j = d + (o + n * i.size + j) by omega]
      exact hbr.2.2 rfl _ (by omega)
    have hrun := run_append_room_src (P := P) w st xt ty e i ht hi r (d + o) n c cx m C hx hc (fun j hj => (hin j hj).1) (fun j hj => (hin j hj).2)
    unfold grow at hv
    obtain ⟨_, hv⟩ := cnd_invO hv
    rw [new_eq, fNat_eq] at hv
    cases hv
    have hw : ∀ k, k ≠ r → (w.setCells r (d + o + n * i.size) C).heap[k]? = w.heap[k]? := fun k hk => setCells_heap r C _ w hk
    have hbase := h.own b r d zz _ hb g1 rfl
    have hsz := h.size b r d zz hb
    have hA : ∀ κ : Inj, ι.le κ → BRel κ (w.setCells r (d + o + n * i.size) C) r (d + o) (zz - o) (.cells false (old ++ xs)) := by
      intro κ hκ
      refine ⟨?_, fun j x hx' => ?_, fun _ j hj => ?_⟩
      · rw [List.length_append, d1.length, hC.length, d2, hCl]; omega
      · have hrel := d1.append hC
        obtain ⟨u, u1, u2⟩ := hrel.get hx'
        refine ⟨u, ?_, u2.mono hκ⟩
        rcases Nat.lt_or_ge j (n * i.size) with hj | hj
        · rw [List.getElem?_append_left (by rw [d2]; exact hj)] at u1
          rw [World.cell?_setCells_out r C _ w _ (fun _ _ => by simp only; omega)]
          have := d3 j u u1
          rw [add_none] at this; exact this
        · rw [List.getElem?_append_right (by rw [d2]; exact hj), d2] at u1
          have hj2 := (List.getElem?_eq_some_iff.1 u1).1
          have := World.cell?_setCells_in r C (d + o + n * i.size) w (fun j hj => (hin j hj).1) (j - n * i.size) hj2
          rw [show d + o + n * i.size + (j - n * i.size) = d + o + j by omega] at this
          rw [this]
          rw [List.getElem?_eq_getElem hj2] at u1; exact u1
      · obtain ⟨q1, q2⟩ := hbr.2.2 rfl (o + j) (by omega)
        rw [show d + (o + j) = d + o + j by omega] at q1 q2
        exact ⟨World.isSome_setCells r C _ w _ q1, by rw [World.frozen?_setCells]; exact q2⟩
    have hfree : ∀ b' d' z' y, ι b' = some (r, d', z') → (H.m.set b .dead).get b' = some y → y.live = false := by
      intro b' d' z' y e1 e2
      by_cases hbb : b' = b
      · subst hbb; rw [get_set_same] at e2; cases e2; rfl
      · rw [get_set_ne _ _ _ _ hbb] at e2
        cases hl : y.live with
        | false => rfl
        | true => exact absurd (h.inj b' b r d' d z' zz y _ e1 hb e2 g1 hl rfl) hbb
    have hB : ∀ b' r' d' z' y, ι b' = some (r', d', z') → (H.m.set b .dead).get b' = some y → BRel ι (w.setCells r (d + o + n * i.size) C) r' d' z' y := by
      intro b' r' d' z' y e1 e2
      have hb1 := k1.blk b' r' d' z' y e1 e2
      by_cases hr : r' = r
      · subst hr
        have hl := hfree b' d' z' y e1 e2
        cases y with
        | dead => trivial
        | cells _ _ => cases hl
        | map _ _ => cases hl
        | iter _ _ _ _ => cases hl
        | u8s => cases hl
        | chan cl => cases hl
        | arr u t n => cases hl
      · exact hb1.same (hw r' hr)
    have hC' : Below base w0 (w.setCells r (d + o + n * i.size) C) := ⟨by rw [World.os_setCells, h.below.os], by rw [setCells_tape, h.below.tape], by rw [World.output_setCells, h.below.output], by rw [setCells_size]; exact h.below.size, fun k hk => by rw [hw k (by omega)]; exact h.below.block k hk⟩
    obtain ⟨q1, q2⟩ := k1.add r (d + o) (zz - o) (.cells false (old ++ xs)) hA hB (by rw [setCells_size]; exact Nat.le_refl _) (by rw [setCells_size]; exact hsz) hbase hC' hfree
    refine ⟨_, _, _, hrun, ?_, q1, k2.trans q2⟩
    have := VRel.slu (ι := upd ι H.nx (r, d + o, zz - o)) H.nx 0 (n + m) c r (d + o) (zz - o) i.size (upd_same _ _ _) hc (by omega)
    simpa using this

/-- an empty slice whose address is not known -/
theorem app_vX (hE : EnvOk P E) (h : Rl E base w0 ι H w) (h1 : E.und st = some (.slice e)) (h4 : E.info e = some i) (hz : E.zcells e = some z) (hz2 : z.length = i.size) (h6 : i.bytes ≤ 100000)
    {b : Pos} {o m : Nat} {ad : Addr} {cx : Value} (hm : 0 < m) {xs : List AV} {C : List Value} (hx : Src P i.size xt cx m C w) (hC : LRel ι xs C)
    {v : AV} {H' : Hp} (hv : apdX i.size b o 0 m 0 xs H = .val v H') : WGives P E base w0 ι H w (Builtin.append_ #[st, xt] ty #[.slice (some ad) 0 0, cx]) v H' := by
  unfold apdX at hv
  rw [cnd_eq] at hv
  split at hv
  · rename_i hc
    have : 0 + m ≤ 0 := Nat.le_of_ble_eq_true hc
    omega
  · have hv' : cnd (iand (Nat.beq i.size 1) (Nat.ble 1000 m)) (growA i.size (0 + m) (app [] xs) H) (grow i.size (0 + m) (app [] xs) H) = .val v H' := hv
    rw [app_eq, List.nil_append, cnd_eq] at hv'
    split at hv'
    · exact app_growA hE h h1 h4 hz hz2 h6 hx (some ad) 0 [] (by simp) (run_firstCells_some (P := P) w.drew i.size 0 ad 0 0 [] (by simp) (by simp)) (by omega) (by simpa using hC) h (.refl ι H) hv'
    · exact app_grow hE h h1 h4 hz hz2 h6 hx (some ad) 0 [] (by simp) (run_firstCells_some (P := P) w.drew i.size 0 ad 0 0 [] (by simp) (by simp)) (by omega) (by simpa using hC) h (.refl ι H) hv'
theorem app_vU (hE : EnvOk P E) (h : Rl E base w0 ι H w) (h1 : E.und st = some (.slice e)) (h4 : E.info e = some i) (hz : E.zcells e = some z) (hz2 : z.length = i.size) (h6 : i.bytes ≤ 100000)
    {b : Pos} {o m e' r d zz : Nat} {ad : Addr} {cx : Value} (hb : ι b = some (r, d, zz)) (hm : 0 < m) {xs : List AV} {C : List Value} (hx : Src P i.size xt cx m C w) (hC : LRel ι xs C)
    {v : AV} {H' : Hp} (hv : apdU i.size b o 0 m e' xs H = .val v H') : WGives P E base w0 ι H w (Builtin.append_ #[st, xt] ty #[.slice (some ad) 0 0, cx]) v H' := by
  unfold apdU at hv
  obtain ⟨_, hv⟩ := cnd_invO hv
  obtain ⟨ro, l, g1, hv⟩ := cells_invO hv
  obtain ⟨hro, hv⟩ := cnd_invO' hv
  have hv' : grow i.size (0 + m) (app [] xs) (H.put b .dead) = .val v H' := hv
  rw [app_eq, put_eq, List.nil_append] at hv'
  obtain ⟨k1, k2⟩ := h.kill hb
  exact app_grow hE h h1 h4 hz hz2 h6 hx (some ad) 0 [] (by simp) (run_firstCells_some (P := P) w.drew i.size 0 ad 0 0 [] (by simp) (by simp)) (by omega) (by simpa using hC) k1 k2 hv'

theorem appK_sound (hE : EnvOk P E) (h : Rl E base w0 ι H w) (h1 : E.und st = some (.slice e)) (h2 : E.und xt = some dx) (h3 : strOrSl dx = true) (h4 : E.info e = some i) (hz : E.zcells e = some z) (hz2 : z.length = i.size) (h6 : i.bytes ≤ 100000)
    {s x : AV} {cs cx : Value} (hs : VRel ι s cs) (hx : VRel ι x cx) {v : AV} {H' : Hp} (hv : apdK i.size s x H = .val v H') : WGives P E base w0 ι H w (Builtin.append_ #[st, xt] ty #[cs, cx]) v H' := by
  have hk := kind_of hE h2 h3
  unfold apdK at hv
  obtain ⟨m, hm, hv⟩ := opt_invO hv
  rw [cnd_eq] at hv
  split at hv
  · rename_i h0
    have h0 := Nat.eq_of_beq_eq_true h0
    subst h0
    exact app_none hE h h1 h4 hs (src_none hx hm _ hk w) hv
  · rename_i h0
    have hm0 : 0 < m := by
      rcases Nat.eq_zero_or_pos m with h' | h'
      · subst h'; exact absurd rfl h0
      · exact h'
    clear h0
    obtain ⟨xs, hc, hv⟩ := opt_invO hv
    obtain ⟨ho, hv⟩ := cnd_invO hv
    obtain ⟨C, c1, c2, c3, c4⟩ := src_run (P := P) h hx hm hc
    have hsrc : Src P i.size xt cx m C w := ⟨hk, c3, c4 w rfl, c4 w.drew rfl, c2, c1.one ho⟩
    unfold apdN at hv
    split at hv
    · cases hs
      have hv' : grow i.size (0 + m) xs H = .val v H' := by rw [Nat.zero_add]; exact hv
      exact app_grow hE h h1 h4 hz hz2 h6 hsrc none 0 [] (by simp) (run_firstCells_none _ _ _ _ _) (by omega) (by simpa using c1) h (.refl ι H) hv'
    · cases hs with
      | sl b o n c r d zz hb => exact apdX_sound hE h h1 h4 hz hz2 h6 hb hsrc c1 hv
      | slv b o r d zz ad c hb hc0 =>
        have hk0 : ∀ k, Cap.n (.ex k) 0 = 0 → k = 0 := fun _ h => h
        have hk1 := hk0 _ hc0
        subst hk1
        exact app_vX hE h h1 h4 hz hz2 h6 hm0 hsrc c1 hv
    · cases hs with
      | slu b o n c r d zz e' hb hcap hzz => exact apdU_sound hE h h1 h4 hz hz2 h6 hb hzz hsrc c1 hv
      | slv b o r d zz ad c hb hc0 => exact app_vU hE h h1 h4 hz hz2 h6 hb hm0 hsrc c1 hv
    · cases hv

theorem allT_get {t : PT AV} (h : allT t = true) : ∀ (p : Pos) (v : AV), t.get p = some v → v.one = true := by
  induction t with
  | l => intro p v e; rw [get_leaf] at e; cases e
  | n a u b iha ihb =>
    replace h : iand (opt u true AV.one) (iand (allT a) (allT b)) = true := h
    simp only [iand_eq, Bool.and_eq_true] at h
    intro p v e
    cases p with
    | h =>
      replace e : u = some v := e
      subst e
      exact h.1
    | o p => exact iha h.2.1 p v e
    | i p => exact ihb h.2.2 p v e
theorem allB_arrL {z : AV} {t : PT AV} (hz : z.one = true) (ht : allT t = true) (n : Nat) : allB AV.one (arrL z t n) = true := by
  rw [arrL_eq]
  have key : ∀ l : List Nat, allB AV.one (l.map (arrG z t)) = true := by
    intro l
    induction l with
    | nil => rfl
    | cons j l ih =>
      show iand (arrG z t j).one (allB AV.one (l.map (arrG z t))) = true
      rw [iand_eq, ih, Bool.and_true]
      unfold arrG
      cases hj : t.get (toP j) with
      | none => exact hz
      | some v => exact allT_get ht _ v hj
  exact key _
theorem appR_sound (hE : EnvOk P E) (h : Rl E base w0 ι H w) (h1 : E.und st = some (.slice e)) (h2 : E.und xt = some dx) (h3 : strOrSl dx = true) (h4 : E.info e = some i) (hz : E.zcells e = some z) (hz2 : z.length = i.size) (h6 : i.bytes ≤ 100000)
    {s x : AV} {cs cx : Value} (hs : VRel ι s cs) (hx : VRel ι x cx) {v : AV} {H' : Hp} (hv : apdR i.size s x H = .val v H') : WGives P E base w0 ι H w (Builtin.append_ #[st, xt] ty #[cs, cx]) v H' := by
  unfold apdR at hv
  split at hv
  · rename_i b' o b m c
    cases hg : H.m.get b with
    | none =>
      have : H.ar b (apdK i.size (.sl b' o 0 (.ex 0)) (.sl b 0 m c) H) (fun z t k => cnd (iand (iand (Nat.beq k m) (Nat.beq i.size 1)) (iand (iand (Nat.ble m 1000000) (Nat.ble 1000 m)) (iand z.one (allT t)))) (H.new (.arr z t m) fun d H' => fNat m fun k => .val (.sl d 0 k (.op i.size)) H') .no) = apdK i.size (.sl b' o 0 (.ex 0)) (.sl b 0 m c) H := by
        unfold Hp.ar; rw [hg]; rfl
      rw [this] at hv
      exact appK_sound hE h h1 h2 h3 h4 hz hz2 h6 hs hx hv
    | some y =>
      by_cases hy : ∃ u t n, y = .arr u t n
      · obtain ⟨u, t, n, rfl⟩ := hy
        have e0 : H.ar b (apdK i.size (.sl b' o 0 (.ex 0)) (.sl b 0 m c) H) (fun z t k => cnd (iand (iand (Nat.beq k m) (Nat.beq i.size 1)) (iand (iand (Nat.ble m 1000000) (Nat.ble 1000 m)) (iand z.one (allT t)))) (H.new (.arr z t m) fun d H' => fNat m fun k => .val (.sl d 0 k (.op i.size)) H') .no) =
            cnd (iand (iand (Nat.beq n m) (Nat.beq i.size 1)) (iand (iand (Nat.ble m 1000000) (Nat.ble 1000 m)) (iand u.one (allT t)))) (H.new (.arr u t m) fun d H' => fNat m fun k => .val (.sl d 0 k (.op i.size)) H') .no := by
          unfold Hp.ar; rw [hg]; rfl
        rw [e0] at hv
        obtain ⟨hc, hv⟩ := cnd_invO hv
        simp only [iand_eq, Bool.and_eq_true] at hc
        have hnm := Nat.eq_of_beq_eq_true hc.1.1
        subst hnm
        have hs1 := Nat.eq_of_beq_eq_true hc.1.2
        have hm6 := Nat.le_of_ble_eq_true hc.2.1.1
        have hm3 := Nat.le_of_ble_eq_true hc.2.1.2
        rw [new_eq, fNat_eq] at hv
        cases hv
        have hlen : (arrL u t n).length = n := by rw [arrL_eq]; simp
        have eK : apdK i.size (.sl b' o 0 (.ex 0)) (.sl b 0 n c) H = .val (.sl H.nx 0 n (.op i.size)) ⟨H.m.set H.nx (.arr .any (mkA (arrL u t n)) (len (arrL u t n))), H.nx.succ⟩ := by
          have hn0 : Nat.beq n 0 = false := by
            cases hb : Nat.beq n 0 with
            | false => rfl
            | true => have := Nat.eq_of_beq_eq_true hb; omega
          have es : srcCells i.size (.sl b 0 n c) H = some (arrL u t n) := by
            show cnd (Nat.beq n 0) (some []) (H.cells b (H.ar b none fun z t m => cnd (Nat.beq i.size 1) (sub 0 n (arrL z t m)) none) fun _ l => sub 0 (Nat.mul n i.size) l) = _
            rw [hn0]
            have : H.cells b (H.ar b none fun z t m => cnd (Nat.beq i.size 1) (sub 0 n (arrL z t m)) none) (fun _ l => sub 0 (Nat.mul n i.size) l) = cnd (Nat.beq i.size 1) (sub 0 n (arrL u t n)) none := by
              unfold Hp.cells Hp.ar; rw [hg]; rfl
            show H.cells b (H.ar b none fun z t m => cnd (Nat.beq i.size 1) (sub 0 n (arrL z t m)) none) (fun _ l => sub 0 (Nat.mul n i.size) l) = _
            rw [this, hs1]
            show sub 0 n (arrL u t n) = _
            exact sub_all hlen
          show cnd (Nat.beq n 0) (apd0 (.sl b' o 0 (.ex 0)) H) (opt (srcCells i.size (.sl b 0 n c) H) .no fun xs => cnd (allB AV.one xs) (apdN i.size (.sl b' o 0 (.ex 0)) n xs H) .no) = _
          rw [hn0, es]
          show cnd (allB AV.one (arrL u t n)) (apdX i.size b' o 0 n 0 (arrL u t n) H) .no = _
          rw [allB_arrL hc.2.2.1 hc.2.2.2]
          show cnd (Nat.ble (0 + n) 0) _ (cnd (iand (Nat.beq i.size 1) (Nat.ble 1000 n)) (growA i.size (0 + n) (arrL u t n) H) (grow i.size (0 + n) (arrL u t n) H)) = _
          have hb0 : Nat.ble (0 + n) 0 = false := by
            cases hb : Nat.ble (0 + n) 0 with
            | false => rfl
            | true => have := Nat.le_of_ble_eq_true hb; omega
          rw [hb0, hc.1.2, hc.2.1.2]
          show growA i.size (0 + n) (arrL u t n) H = _
          unfold growA
          rw [Nat.zero_add, hc.2.1.1, hc.1.2, new_eq, fNat_eq]
          rfl
        obtain ⟨cc, w', ι', k1, k2, k3, k4⟩ := appK_sound (P := P) (ty := ty) hE h h1 h2 h3 h4 hz hz2 h6 hs hx eK
        have hi' : ι' H.nx ≠ none := by
          intro e
          cases k2 with
          | slu _ _ _ _ r d z _ hi _ _ => rw [e] at hi; cases hi
          | slv _ _ r d z _ _ hi _ => rw [e] at hi; cases hi
        have hW : Wk ι' ⟨H.m.set H.nx (.arr .any (mkA (arrL u t n)) (len (arrL u t n))), H.nx.succ⟩ ⟨H.m.set H.nx (.arr u t n), H.nx.succ⟩ := by
          refine ⟨rfl, fun p hp => ?_, fun p y hy => ?_⟩
          · have hne : p ≠ H.nx := fun e => hi' (e ▸ hp)
            rw [get_set_ne _ _ _ _ hne, get_set_ne _ _ _ _ hne]
          · by_cases hp : p = H.nx
            · subst hp
              rw [get_set_same] at hy; cases hy
              refine ⟨_, get_set_same _ _ _, .inr (.inr (.inl ⟨_, _, _, _, n, by rw [len_eq, hlen], rfl, fun j hj => ?_⟩))⟩
              rw [mkA_get (by omega) (by omega)]
              simp [arrL_eq]
            · rw [get_set_ne _ _ _ _ hp] at hy
              exact ⟨y, by rw [get_set_ne _ _ _ _ hp]; exact hy, .inl rfl⟩
        refine ⟨cc, w', ι', k1, k2, k3.weaken hW, ⟨k4.le, fun p hp e => ?_, k4.nx⟩⟩
        obtain ⟨e1, e2⟩ := k4.keep p hp e
        exact ⟨e1, (hW.same p e1).trans e2⟩
      · have : H.ar b (apdK i.size (.sl b' o 0 (.ex 0)) (.sl b 0 m c) H) (fun z t k => cnd (iand (iand (Nat.beq k m) (Nat.beq i.size 1)) (iand (iand (Nat.ble m 1000000) (Nat.ble 1000 m)) (iand z.one (allT t)))) (H.new (.arr z t m) fun d H' => fNat m fun k => .val (.sl d 0 k (.op i.size)) H') .no) = apdK i.size (.sl b' o 0 (.ex 0)) (.sl b 0 m c) H := by
          unfold Hp.ar; rw [hg]
          cases y with
          | arr u t n => exact absurd ⟨u, t, n, rfl⟩ hy
          | _ => rfl
        rw [this] at hv
        exact appK_sound hE h h1 h2 h3 h4 hz hz2 h6 hs hx hv
  · exact appK_sound hE h h1 h2 h3 h4 hz hz2 h6 hs hx hv

/-! ### bytes that are not known, or of pieces -/
/-- a new row of bytes -/
theorem growB (h : Rl E base w0 ι H w) {need old M : Nat} {el : TypeId} {C : List Value} (zc : Value) (hz : zc.cells.size = 1) (hC : ∀ (j : Nat) (v : Value), C[j]? = some v → ∃ x : Int, v = .int .u8 x) (hl : C.length = need) (hM : need ≤ M)
    {t : Option (List Tk)} (ht : ∀ l, t = some l → TksOk ι.s l ∧ C = ((tksB ι.s l).map Int.ofNat).map (Value.int .u8)) :
    ∃ ι', VRel ι' (.slq H.nx M) (.slice (some ⟨w.heap.size, 0, none⟩) need (grownCap w need old el)) ∧
      Rl E base w0 ι' ⟨H.m.set H.nx (.u8s t), H.nx.succ⟩ (w.drew.alloc (.cells (C.toArray ++ Builtin.zeroCells zc.cells (grownCap w need old el - need)) el)) ∧ Stp ι ι' H ⟨H.m.set H.nx (.u8s t), H.nx.succ⟩ := by
  have hge := grownCap_ge w need old el
  have hsz : (C.toArray ++ Builtin.zeroCells zc.cells (grownCap w need old el - need)).size = grownCap w need old el := by
    simp only [Array.size_append, List.size_toArray, size_zeroCells, hz, hl]
    omega
  have hcell : ∀ (j : Nat) (v : Value), C[j]? = some v → (w.drew.alloc (.cells (C.toArray ++ Builtin.zeroCells zc.cells (grownCap w need old el - need)) el)).cell? ⟨w.drew.heap.size, 0 + j, none⟩ = some v := by
    intro j v hv
    have hj2 : j < C.length := (List.getElem?_eq_some_iff.1 hv).1
    rw [Nat.zero_add, World.cell?_alloc_new, Array.getElem?_append_left (by simpa using hj2)]
    simpa using hv
  obtain ⟨k1, k2⟩ := h.drew.alloc (.cells (C.toArray ++ Builtin.zeroCells zc.cells (grownCap w need old el - need)) el) (code need (grownCap w need old el)) (.u8s t) fun κ hκ => by
    refine ⟨need, grownCap w need old el, rfl, fun j hj => ?_, fun j hj => ⟨?_, ?_⟩, fun l e => ?_⟩
    · have hj2 : j < C.length := by omega
      obtain ⟨x, hx⟩ := hC j _ (List.getElem?_eq_getElem hj2)
      exact ⟨x, hcell j _ (by rw [List.getElem?_eq_getElem hj2, hx])⟩
    · rw [Nat.zero_add, World.cell?_alloc_new]
      rw [← hsz] at hj
      simp only [hj, getElem?_pos, Option.isSome_some]
    · rw [Nat.zero_add, World.frozen?_alloc_new]
    · obtain ⟨q1, q2⟩ := ht l e
      rw [hκ.s]
      refine ⟨q1, by rw [← hl, q2]; simp, fun j x hx => hcell j _ ?_⟩
      rw [q2, List.getElem?_map, List.getElem?_map, hx]; rfl
  exact ⟨_, .slq H.nx M need _ w.drew.heap.size 0 _ (upd_same _ _ _) hM hge (Nat.le_refl _), k1, k2⟩

theorem appB_core (hE : EnvOk P E) (h : Rl E base w0 ι H w) (h1 : E.und st = some (.slice e)) (h4 : E.info e = some i) (hz : E.zcells e = some z) (hz2 : z.length = i.size) (h6 : i.bytes ≤ 100000) (hs1 : i.size = 1)
    {b : Pos} {o n m c r d zz M : Nat} {x : Blk} {cx : Value} (hb : ι b = some (r, d, zz)) (g1 : H.m.get b = some x) (hlv : x.live = true) (hro : x.ro = false)
    {f : Nat → Int} (hf : ∀ j, j < n → w.cell? ⟨r, d + o + j, none⟩ = some (.int .u8 (f j))) (hex : ∀ j, j < c → (w.cell? ⟨r, d + o + j, none⟩).isSome = true ∧ w.frozen? ⟨r, d + o + j, none⟩ = false)
    {C : List Value} (hx : Src P i.size xt cx m C w) (hC : ∀ (j : Nat) (v : Value), C[j]? = some v → ∃ y : Int, v = .int .u8 y) (hM : n + m ≤ M) (hM2 : M ≤ 1000000)
    {t : Option (List Tk)} (htk : ∀ l, t = some l → TksOk ι.s l ∧ ((List.range n).map fun j => Value.int .u8 (f j)) ++ C = ((tksB ι.s l).map Int.ofNat).map (Value.int .u8)) :
    WGives P E base w0 ι H w (Builtin.append_ #[st, xt] ty #[.slice (some ⟨r, d + o, none⟩) n c, cx]) (.slq H.nx M) ⟨(H.m.set b .dead).set H.nx (.u8s t), H.nx.succ⟩ := by
  have ht := und_eq hE h1
  have hi := hE.ty _ _ h4
  have hCl : C.length = m := by rw [hx.newsLen, hs1, Nat.mul_one]
  obtain ⟨k1, k2⟩ := h.kill hb
  have hDj : ∀ (j : Nat) (v : Value), ((List.range n).map fun j => Value.int .u8 (f j))[j]? = some v → j < n ∧ v = .int .u8 (f j) := by
    intro j v hj
    rw [List.getElem?_map] at hj
    cases hr : (List.range n)[j]? with
    | none => rw [hr] at hj; cases hj
    | some q =>
      rw [hr] at hj
      have hj2 := (List.getElem?_eq_some_iff.1 hr).1
      have hq : q = j := by
        have := (List.getElem?_eq_some_iff.1 hr).2
        simpa using this.symm
      subst hq
      cases hj
      exact ⟨by simpa using hj2, rfl⟩
  rcases Nat.lt_or_ge c (n + m) with hc | hc
  · obtain ⟨zc, hz3, hz4⟩ := zcells_eq (ι := ι) h4 hz
    have hzl : zc.cells.size = i.size := by rw [← hz2, hz4.length]; simp
    have hold := run_firstCells_some (P := P) w.drew i.size n ⟨r, d + o, none⟩ n c ((List.range n).map fun j => Value.int .u8 (f j)) (by simp [hs1]) (fun j v hj => by
      obtain ⟨q1, rfl⟩ := hDj j v hj
      have := hf j q1
      rw [add_none]; simpa using this)
    obtain ⟨ι', g2, g3, g4⟩ := growB (old := c) (el := e) (need := n + m) (M := M) k1 (C := ((List.range n).map fun j => Value.int .u8 (f j)) ++ C) zc (by rw [hzl, hs1]) (fun j v hj => by
      rcases Nat.lt_or_ge j n with hjn | hjn
      · rw [List.getElem?_append_left (by simpa using hjn)] at hj
        exact ⟨_, (hDj j v hj).2⟩
      · rw [List.getElem?_append_right (by simpa using hjn)] at hj
        exact hC _ v hj) (by simp [hCl]) hM htk
    exact ⟨_, _, ι', run_append_grow_src (P := P) w st xt ty e i zc ht hi hz3 (some ⟨r, d + o, none⟩) n c _ hold cx m C hx hc (by omega) (fits_ok hc (by omega) h6), g2, g3, k2.trans g4⟩
  · have hin : ∀ j, j < C.length → (w.cell? ⟨r, d + o + n * i.size + j, none⟩).isSome = true ∧ w.frozen? ⟨r, d + o + n * i.size + j, none⟩ = false := fun j hj => by
      rw [hs1, Nat.mul_one, show d + o + n + j = d + o + (n + j) by omega]
      exact hex _ (by omega)
    have hrun := run_append_room_src (P := P) w st xt ty e i ht hi r (d + o) n c cx m C hx hc (fun j hj => (hin j hj).1) (fun j hj => (hin j hj).2)
    have hw : ∀ k, k ≠ r → (w.setCells r (d + o + n * i.size) C).heap[k]? = w.heap[k]? := fun k hk => setCells_heap r C _ w hk
    have hbase := h.own b r d zz _ hb g1 hro
    have hsz := h.size b r d zz hb
    have hcell : ∀ j v, (((List.range n).map fun j => Value.int .u8 (f j)) ++ C)[j]? = some v → (w.setCells r (d + o + n * i.size) C).cell? ⟨r, d + o + j, none⟩ = some v := by
      intro j v hj
      rcases Nat.lt_or_ge j n with hjn | hjn
      · rw [List.getElem?_append_left (by simpa using hjn)] at hj
        obtain ⟨_, rfl⟩ := hDj j v hj
        rw [World.cell?_setCells_out r C _ w _ (fun _ _ => by simp only [hs1, Nat.mul_one]; omega)]
        exact hf j hjn
      · rw [List.getElem?_append_right (by simpa using hjn), List.length_map, List.length_range] at hj
        have hj2 : j - n < C.length := (List.getElem?_eq_some_iff.1 hj).1
        have := World.cell?_setCells_in r C (d + o + n * i.size) w (fun j hj => (hin j hj).1) (j - n) hj2
        rw [show d + o + n * i.size + (j - n) = d + o + j by rw [hs1]; omega] at this
        rw [this, ← hj, List.getElem?_eq_getElem hj2]
    have hA : ∀ κ : Inj, ι.le κ → BRel κ (w.setCells r (d + o + n * i.size) C) r (d + o) (code (n + m) c) (.u8s t) := by
      intro κ hκ
      refine ⟨n + m, c, rfl, fun j hj => ?_, fun j hj => ?_, fun l el => ?_⟩
      · have hj2 : j < (((List.range n).map fun j => Value.int .u8 (f j)) ++ C).length := by simp [hCl]; omega
        have hv := List.getElem?_eq_getElem hj2
        have : ∃ y : Int, (((List.range n).map fun j => Value.int .u8 (f j)) ++ C)[j] = .int .u8 y := by
          rcases Nat.lt_or_ge j n with hjn | hjn
          · rw [List.getElem_append_left (by simpa using hjn)]
            exact ⟨f j, by simp⟩
          · rw [List.getElem_append_right (by simpa using hjn)]
            exact hC _ _ (List.getElem?_eq_getElem _)
        obtain ⟨y, hy⟩ := this
        exact ⟨y, hcell j _ (by rw [hv, hy])⟩
      · obtain ⟨q1, q2⟩ := hex j hj
        exact ⟨World.isSome_setCells r C _ w _ q1, by rw [World.frozen?_setCells]; exact q2⟩
      · obtain ⟨q1, q2⟩ := htk l el
        rw [hκ.s]
        refine ⟨q1, ?_, fun j x hx => hcell j _ ?_⟩
        · have := congrArg List.length q2
          simp [hCl] at this
          omega
        · rw [q2, List.getElem?_map, List.getElem?_map, hx]; rfl
    have hfree : ∀ b' d' z' y, ι b' = some (r, d', z') → (H.m.set b .dead).get b' = some y → y.live = false := by
      intro b' d' z' y e1 e2
      by_cases hbb : b' = b
      · subst hbb; rw [get_set_same] at e2; cases e2; rfl
      · rw [get_set_ne _ _ _ _ hbb] at e2
        cases hl : y.live with
        | false => rfl
        | true => exact absurd (h.inj b' b r d' d z' zz y _ e1 hb e2 g1 hl hlv) hbb
    have hB : ∀ b' r' d' z' y, ι b' = some (r', d', z') → (H.m.set b .dead).get b' = some y → BRel ι (w.setCells r (d + o + n * i.size) C) r' d' z' y := by
      intro b' r' d' z' y e1 e2
      have hb1 := k1.blk b' r' d' z' y e1 e2
      by_cases hr : r' = r
      · subst hr
        have hl := hfree b' d' z' y e1 e2
        cases y with
        | dead => trivial
        | _ => cases hl
      · exact hb1.same (hw r' hr)
    have hC' : Below base w0 (w.setCells r (d + o + n * i.size) C) := ⟨by rw [World.os_setCells, h.below.os], by rw [setCells_tape, h.below.tape], by rw [World.output_setCells, h.below.output], by rw [setCells_size]; exact h.below.size, fun k hk => by rw [hw k (by omega)]; exact h.below.block k hk⟩
    obtain ⟨q1, q2⟩ := k1.add r (d + o) (code (n + m) c) (.u8s t) hA hB (by rw [setCells_size]; exact Nat.le_refl _) (by rw [setCells_size]; exact hsz) hbase hC' hfree
    exact ⟨_, _, _, hrun, .slq H.nx M (n + m) c r (d + o) c (upd_same _ _ _) hM hc (Nat.le_refl _), q1, k2.trans q2⟩

/-- a string's bytes, of so many at most -/
theorem strMax_src {x : AV} {cx : Value} (hx : VRel ι x cx) {M : Nat} (hM : strMax x = some M) (hk : (∃ e', P.underlying xt = some (.slice e')) ∨ P.underlying xt = some .string) (w : World) :
    ∃ m C, m ≤ M ∧ Src P 1 xt cx m C w ∧ (∀ (j : Nat) (v : Value), C[j]? = some v → ∃ y : Int, v = .int .u8 y) ∧
      ∀ l, strTk x = some l → (∀ t ∈ l, t.ok ι.s) ∧ C = ((tksB ι.s l).map Int.ofNat).map (Value.int .u8) := by
  have go : ∀ s : ByteArray, s.size ≤ M → ∃ m C, m ≤ M ∧ Src P 1 xt (.string s) m C w ∧ (∀ (j : Nat) (v : Value), C[j]? = some v → ∃ y : Int, v = .int .u8 y) ∧ C = ((s.data.toList.map (·.toNat)).map Int.ofNat).map (Value.int .u8) := by
    intro s hs
    refine ⟨s.size, byteCells s, hs, ⟨hk, fun _ => rfl, firstCells_string s w, firstCells_string s w.drew, by rw [byteCells_length, Nat.mul_one], fun u hu => by
      obtain ⟨_, _, rfl⟩ := List.mem_map.1 hu
      rfl⟩, fun j v hj => ?_, ?_⟩
    · unfold byteCells at hj
      rw [List.getElem?_map] at hj
      cases hb : s.data.toList[j]? with
      | none => rw [hb] at hj; cases hj
      | some u => rw [hb] at hj; cases hj; exact ⟨_, rfl⟩
    · unfold byteCells
      rw [List.map_map, List.map_map]
      rfl
  unfold strMax at hM
  split at hM
  · rename_i l
    cases hM
    obtain ⟨s, rfl, hs⟩ := str_rel hx
    obtain ⟨m, C, q1, q2, q3, q4⟩ := go s (by rw [size_str hs, len_eq]; exact Nat.le_refl _)
    refine ⟨m, C, q1, q2, q3, fun l' hl' => ?_⟩
    cases hl'
    have e : ∀ l : List Nat, tksB ι.s (l.map .b) = l := by
      intro l
      induction l with
      | nil => rfl
      | cons n l ih =>
        have : tksB ι.s ((n :: l).map .b) = [n] ++ tksB ι.s (l.map .b) := by simp [tksB, Tk.bs]
        rw [this, ih]; rfl
    rw [e, ← hs]
    refine ⟨fun t ht => ?_, q4⟩
    obtain ⟨n, hn, rfl⟩ := List.mem_map.1 ht
    obtain ⟨u, _, rfl⟩ := List.mem_map.1 hn
    exact u.toNat_lt
  · cases hM
    cases hx with
    | strq _ s hs =>
      obtain ⟨m, C, q1, q2, q3, _⟩ := go s hs
      exact ⟨m, C, q1, q2, q3, fun l hl => by cases hl⟩
  · rename_i l
    cases hx with
    | stk _ s hs hk2 =>
      have h1 := tksHi_le (σ := ι.s) hM hk2.1
      have h2 : s.size = (tksB ι.s l).length := by rw [← hs, List.length_map, Array.length_toList]; rfl
      obtain ⟨m, C, q1, q2, q3, q4⟩ := go s (by omega)
      refine ⟨m, C, q1, q2, q3, fun l' hl' => ?_⟩
      cases hl'
      rw [← hs]
      exact ⟨hk2.1, q4⟩
  · cases hM
theorem u8_invO {b : Pos} {k : Option (List Tk) → OR} {v : AV} {H' : Hp} (h : H.u8 b .no k = .val v H') : ∃ t, H.m.get b = some (.u8s t) ∧ k t = .val v H' := by
  unfold Hp.u8 at h
  obtain ⟨x, h1, h2⟩ := opt_invO h
  cases x with
  | u8s t => exact ⟨t, h1, h2⟩
  | _ => cases h2
theorem byteTk_rel : ∀ {r : List AV} {l : List Tk} {C : List Value}, mapO byteTk r = some l → LRel ι r C → (∀ t ∈ l, t.ok ι.s) ∧ C = ((tksB ι.s l).map Int.ofNat).map (Value.int .u8)
  | [], l, C, h, hC => by cases h; cases hC; exact ⟨by simp, rfl⟩
  | x :: r, l, C, h, hC => by
    obtain ⟨n, s', h1, h2, rfl⟩ := mapO_cons h
    cases hC with
    | cons _ c _ C hx t =>
      obtain ⟨e1, e2⟩ := byteTk_rel h2 t
      have e3 : tksB ι.s (n :: s') = n.bs ι.s ++ tksB ι.s s' := by simp [tksB]
      unfold byteTk at h1
      split at h1
      · rename_i m
        obtain ⟨h3, h4⟩ := cnd_some h1
        cases h4
        have h5 := Nat.le_of_ble_eq_true h3
        refine ⟨fun t ht => ?_, ?_⟩
        · cases ht with
          | head => exact show m < 256 by omega
          | tail _ ht => exact e1 t ht
        · rw [e3, e2, int_rel hx]; rfl
      · cases h1
theorem isB_ints : ∀ {l : List AV} {C : List Value}, allB isB l = true → LRel ι l C → ∀ (j : Nat) (v : Value), C[j]? = some v → ∃ y : Int, v = .int .u8 y
  | [], _, _, .nil, j, v, h => by simp at h
  | x :: l, _, h, .cons _ u _ C hx t, j, v, hj => by
    replace h : iand (isB x) (allB isB l) = true := h
    rw [iand_eq, Bool.and_eq_true] at h
    cases j with
    | zero =>
      cases hj
      have h1 := h.1
      unfold isB at h1
      split at h1
      · exact ⟨_, int_rel hx⟩
      · cases h1
    | succ j => exact isB_ints h.2 t j v (by simpa using hj)

theorem range_list {C : List Value} {n : Nat} {f : Nat → Int} (hl : C.length = n) (h : ∀ j, j < n → C[j]? = some (.int .u8 (f j))) : ((List.range n).map fun j => Value.int .u8 (f j)) = C := by
  refine List.ext_getElem? fun j => ?_
  rw [List.getElem?_map]
  rcases Nat.lt_or_ge j n with hj | hj
  · rw [h j hj, List.getElem?_eq_getElem (by simpa using hj)]
    simp
  · rw [List.getElem?_eq_none (by simpa using hj), List.getElem?_eq_none (by omega)]; rfl
theorem apdP_sound (hE : EnvOk P E) (h : Rl E base w0 ι H w) (h1 : E.und st = some (.slice e)) (h2 : E.und xt = some dx) (h3 : strOrSl dx = true) (h4 : E.info e = some i) (hz : E.zcells e = some z) (hz2 : z.length = i.size) (h6 : i.bytes ≤ 100000)
    {b : Pos} {o n e' M : Nat} {x : AV} {cs cx : Value} (hs : VRel ι (.sl b o n (.op e')) cs) (hx : VRel ι x cx) (hm : strMax x = some M) {v : AV} {H' : Hp} (hv : apdP i.size b o n e' M x H = .val v H') : WGives P E base w0 ι H w (Builtin.append_ #[st, xt] ty #[cs, cx]) v H' := by
  have hk := kind_of hE h2 h3
  obtain ⟨hc, hv1⟩ := cnd_invO hv
  obtain ⟨ro, l, g1, hv2⟩ := cells_invO hv1
  obtain ⟨hro, hv3⟩ := cnd_invO' hv2
  subst hro
  obtain ⟨old, g2, hv4⟩ := opt_invO hv3
  obtain ⟨hB, hv5⟩ := cnd_invO hv4
  clear hv hv1 hv2 hv3 hv4
  simp only [iand_eq, Bool.and_eq_true] at hc
  have hn1 : 1 ≤ n := Nat.le_of_ble_eq_true hc.1.1
  have hs1 := Nat.eq_of_beq_eq_true hc.1.2
  have he1 := Nat.eq_of_beq_eq_true hc.2.1
  subst he1
  have hM2 : n + M ≤ 1000000 := Nat.le_of_ble_eq_true hc.2.2
  rw [put_eq, new_eq, fNat_eq] at hv5
  cases hv5
  obtain ⟨m, C, k1, k2, k3, k4⟩ := strMax_src (P := P) (xt := xt) hx hm hk w
  rw [← hs1] at k2
  cases hs with
  | slu _ _ _ c r d zz _ hi hnc hzz =>
    have hbr : BRel ι w r d zz (.cells false l) := h.blk b r d zz _ hi g1
    obtain ⟨g3, g4⟩ := sub_eq g2
    obtain ⟨D, d1, d2, d3⟩ := h.row hi g1 g3 g4
    have hC1 : C.length = m := by rw [k2.newsLen, hs1, Nat.mul_one]
    have hD : ∀ j, j < n → ∃ y : Int, D[j]? = some (.int .u8 y) := fun j hj => by
      have hj2 : j < D.length := by omega
      obtain ⟨y, hy⟩ := isB_ints hB d1 j _ (List.getElem?_eq_getElem hj2)
      exact ⟨y, by rw [List.getElem?_eq_getElem hj2, hy]⟩
    obtain ⟨f, hf⟩ : ∃ f : Nat → Int, ∀ j, j < n → D[j]? = some (.int .u8 (f j)) :=
      ⟨fun j => if hj : j < n then (hD j hj).choose else 0, fun j hj => by show _ = some (Value.int .u8 (if hj : j < n then (hD j hj).choose else 0)); rw [dif_pos hj]; exact (hD j hj).choose_spec⟩
    refine appB_core (ty := ty) (f := f) hE h h1 h4 hz hz2 h6 hs1 hi g1 rfl rfl (fun j hj => by
      have := d3 j _ (hf j hj)
      rw [add_none] at this
      exact this) (fun j hj => by
      rw [Nat.add_assoc]
      exact hbr.2.2 rfl _ (by omega)) k2 k3 (show n + m ≤ n + M by omega) hM2 fun lt hl => ?_
    obtain ⟨l1, q1, hl⟩ := opt_eq_some hl
    obtain ⟨l2, q2, hl⟩ := opt_eq_some hl
    cases hl
    obtain ⟨p1, p2⟩ := byteTk_rel q1 d1
    obtain ⟨p3, p4⟩ := k4 l2 q2
    have e1 : (tksB ι.s l1).length = n := by rw [← d2, p2]; simp
    have e2 : (tksB ι.s l2).length = m := by rw [← hC1, p4]; simp
    rw [app_eq, tksB_app]
    refine ⟨⟨fun t ht => ?_, ?_⟩, ?_⟩
    · rcases List.mem_append.1 ht with ht | ht
      · exact p1 t ht
      · exact p3 t ht
    · rw [tksB_app, List.length_append, e1, e2]; omega
    · rw [range_list d2 hf, List.map_append, List.map_append, ← p2, ← p4]
  | slv _ _ r d zz ad _ hi hc0 => omega
theorem app_sound (hE : EnvOk P E) (h : Rl E base w0 ι H w) (h1 : E.und st = some (.slice e)) (h2 : E.und xt = some dx) (h3 : strOrSl dx = true) (h4 : E.info e = some i) (hz : E.zcells e = some z) (hz2 : z.length = i.size) (h6 : i.bytes ≤ 100000)
    {s x : AV} {cs cx : Value} (hs : VRel ι s cs) (hx : VRel ι x cx) {v : AV} {H' : Hp} (hv : apd i.size s x H = .val v H') : WGives P E base w0 ι H w (Builtin.append_ #[st, xt] ty #[cs, cx]) v H' := by
  have hk := kind_of hE h2 h3
  unfold apd at hv
  split at hv
  · rename_i b n
    obtain ⟨M, hm, hv⟩ := opt_invO hv
    obtain ⟨hc, hv'⟩ := cnd_invO hv
    obtain ⟨tk, g1, hv⟩ := u8_invO hv'
    simp only [iand_eq, Bool.and_eq_true] at hc
    have hs1 := Nat.eq_of_beq_eq_true hc.1
    have hM2 : n + M ≤ 1000000 := Nat.le_of_ble_eq_true hc.2
    rw [put_eq, new_eq, fNat_eq] at hv
    cases hv
    obtain ⟨m, C, k1, k2, k3, k4⟩ := strMax_src (P := P) (xt := xt) hx hm hk w
    rw [← hs1] at k2
    have hC1 : C.length = m := by rw [k2.newsLen, hs1, Nat.mul_one]
    cases hs with
    | slq _ _ n' c r d Z hi hnm hnc hcZ =>
      obtain ⟨n2, Z2, e1, e2, e3, e4⟩ := h.blk b r d _ _ hi g1
      obtain ⟨rfl, rfl⟩ := code_inj e1
      obtain ⟨f, hf⟩ : ∃ f : Nat → Int, ∀ j, j < n' → w.cell? ⟨r, d + j, none⟩ = some (.int .u8 (f j)) :=
        ⟨fun j => if hj : j < n' then (e2 j hj).choose else 0, fun j hj => by show _ = some (Value.int .u8 (if hj : j < n' then (e2 j hj).choose else 0)); rw [dif_pos hj]; exact (e2 j hj).choose_spec⟩
      have := appB_core (ty := ty) (o := 0) (c := c) (f := f) (t := opt tk none fun l => opt (strTk x) none fun y => some (app l y)) hE h h1 h4 hz hz2 h6 hs1 hi g1 rfl rfl (by simpa using hf) (fun j hj => by simpa using e3 j (by omega)) k2 k3 (show n' + m ≤ n + M by omega) hM2 (fun lt hl => by
        obtain ⟨l1, q1, hl⟩ := opt_eq_some hl
        obtain ⟨l2, q2, hl⟩ := opt_eq_some hl
        cases hl
        obtain ⟨p1, p2, p3⟩ := e4 l1 q1
        obtain ⟨p4, p5⟩ := k4 l2 q2
        have e5 : (tksB ι.s l2).length = m := by rw [← hC1, p5]; simp
        rw [app_eq, tksB_app]
        refine ⟨⟨fun t ht => ?_, ?_⟩, ?_⟩
        · rcases List.mem_append.1 ht with ht | ht
          · exact p1.1 t ht
          · exact p4 t ht
        · rw [tksB_app, List.length_append, p2, e5]; omega
        · rw [List.map_append, List.map_append, ← p5]
          congr 1
          refine range_list (by simpa using p2) fun j hj => ?_
          have hj2 : j < (tksB ι.s l1).length := by omega
          have h7 := p3 j _ (List.getElem?_eq_getElem hj2)
          rw [hf j hj] at h7
          rw [List.getElem?_map, List.getElem?_map, List.getElem?_eq_getElem hj2, Option.some.inj h7]; rfl)
      simpa using this
  · exact apdP_sound hE h h1 h2 h3 h4 hz hz2 h6 hs hx rfl hv
  · obtain ⟨M, hm, hv⟩ := opt_invO hv
    exact apdP_sound hE h h1 h2 h3 h4 hz hz2 h6 hs hx hm hv
  · rw [cnd_eq] at hv
    split at hv
    · exact appR_sound hE h h1 h2 h3 h4 hz hz2 h6 hs hx hv
    · exact appK_sound hE h h1 h2 h3 h4 hz hz2 h6 hs hx hv
end Go.Ev
