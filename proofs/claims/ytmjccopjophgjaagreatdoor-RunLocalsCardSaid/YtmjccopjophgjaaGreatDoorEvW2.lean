/- The evaluator's operations on memory: what is written. -/
import Derived.Test.YtmjccopjophgjaaGreatDoorEvHeap
import Derived.Deep.Upon
namespace Go.Ev
open Go.RowKit (Below)
variable {P : Program} {E : Env} {base : Nat} {w0 : World} {ι : Inj} {H : Hp} {w : World} {T : PT AV} {L : List AV} {lk : Look} {a : Act}

/-- An operation that turns the memory. -/
def WGives (P : Program) (E : Env) (base : Nat) (w0 : World) (ι : Inj) (H : Hp) (w : World) (s : Sem Value) (v : AV) (H' : Hp) : Prop :=
  ∃ c w' ι', s.run P w = .ok c w' ∧ VRel ι' v c ∧ Rl E base w0 ι' H' w' ∧ Stp ι ι' H H'

theorem setCells_size (b : Nat) : ∀ (vs : List Value) (o : Nat) (w : World), (w.setCells b o vs).heap.size = w.heap.size
  | [], _, _ => rfl
  | v :: r, o, w => by rw [World.setCells, setCells_size b r]; simp
theorem setCells_tape (b : Nat) : ∀ (vs : List Value) (o : Nat) (w : World), (w.setCells b o vs).tape = w.tape
  | [], _, _ => rfl
  | v :: r, o, w => by rw [World.setCells, setCells_tape b r]; simp
theorem setCells_heap (b : Nat) (vs : List Value) (o : Nat) (w : World) {k : Nat} (h : k ≠ b) : (w.setCells b o vs).heap[k]? = w.heap[k]? := by
  rcases Nat.lt_or_ge k w.heap.size with hk | hk
  · exact World.heap_setCells_other w b o vs hk h
  · rw [Array.getElem?_eq_none hk, Array.getElem?_eq_none (by rw [setCells_size]; exact hk)]

/-- A block is no more looked at. -/
theorem Rl.kill (h : Rl E base w0 ι H w) {b : Pos} {r d z : Nat} (e : ι b = some (r, d, z)) : Rl E base w0 ι ⟨H.m.set b .dead, H.nx⟩ w ∧ Stp ι ι H ⟨H.m.set b .dead, H.nx⟩ := by
  refine ⟨⟨?_, ?_, ?_, h.size, ?_, h.below, h.base_le, h.glob⟩, ⟨Inj.le_refl _, ?_, Nat.le_refl _⟩⟩
  · intro b' r' d' z' x e' g
    by_cases hb : b' = b
    · subst hb; rw [get_set_same] at g; cases g; trivial
    · rw [get_set_ne _ _ _ _ hb] at g; exact h.blk b' r' d' z' x e' g
  · intro b1 b2 r1 d1 d2 z1 z2 x1 x2 e1 e2 g1 g2 l1 l2
    have look : ∀ {p : Pos} {u : Blk}, (PT.set b .dead H.m).get p = some u → u.live = true → H.m.get p = some u := by
      intro p u gp lp
      by_cases hp : p = b
      · subst hp; rw [get_set_same] at gp; cases gp; cases lp
      · rw [get_set_ne _ _ _ _ hp] at gp; exact gp
    exact h.inj b1 b2 r1 d1 d2 z1 z2 x1 x2 e1 e2 (look g1 l1) (look g2 l2) l1 l2
  · intro p hp
    obtain ⟨f1, f2⟩ := h.fresh p hp
    have hne : p ≠ b := by intro e'; rw [e', e] at f1; cases f1
    exact ⟨f1, by rw [get_set_ne _ _ _ _ hne]; exact f2⟩
  · intro p r' d' z' u e' g hz
    by_cases hb : p = b
    · subst hb; rw [get_set_same] at g; cases g; cases hz
    · rw [get_set_ne _ _ _ _ hb] at g; exact h.own p r' d' z' u e' g hz
  · intro p _ e'
    have hne : p ≠ b := by intro e''; rw [e'', e] at e'; cases e'
    exact ⟨e', by rw [get_set_ne _ _ _ _ hne]⟩

theorem allB_eq {α : Type} {f : α → Bool} : ∀ {l : List α}, allB f l = true → ∀ x ∈ l, f x = true
  | [], _, x, hx => by cases hx
  | y :: l, h, x, hx => by
    have h' : iand (f y) (allB f l) = true := h
    rw [iand_eq, Bool.and_eq_true] at h'
    cases hx with
    | head => exact h'.1
    | tail _ hx => exact allB_eq h'.2 x hx
theorem LRel.one : ∀ {l : List AV} {C : List Value}, LRel ι l C → allB AV.one l = true → ∀ u ∈ C, u.oneCell' = true
  | _, _, .nil, _, u, hu => by cases hu
  | _, _, .cons x v l C hx t, h, u, hu => by
    have h' : iand (AV.one x) (allB AV.one l) = true := h
    rw [iand_eq, Bool.and_eq_true] at h'
    cases hu with
    | head => exact hx.one h'.1
    | tail _ hu => exact t.one h'.2 u hu

/-- Cells written into a block. -/
theorem Rl.put (h : Rl E base w0 ι H w) {b : Pos} {r d z o : Nat} {l l' xs : List AV} {C : List Value} (e : ι b = some (r, d, z)) (g : H.m.get b = some (.cells false l)) (hp : puts o xs l = some l') (hC : LRel ι xs C) :
    Rl E base w0 ι ⟨H.m.set b (.cells false l'), H.nx⟩ (w.setCells r (d + o) C) ∧ Stp ι ι H ⟨H.m.set b (.cells false l'), H.nx⟩ := by
  have hb : BRel ι w r d z (.cells false l) := h.blk b r d z _ e g
  obtain ⟨p1, p2⟩ := puts_eq hp
  have hlen := hC.length
  have hin : ∀ j, j < C.length → (w.cell? ⟨r, d + o + j, none⟩).isSome = true := fun j hj => by
    rw [Nat.add_assoc]; exact (hb.2.2 rfl (o + j) (by have := hb.1; omega)).1
  refine h.write e g rfl rfl (fun k hk => setCells_heap r C (d + o) w hk) (setCells_size r C _ w) (World.os_setCells w r _ C) (setCells_tape r C _ w) (World.output_setCells w r _ C) ⟨?_, ?_, ?_⟩
  · subst p2; have := hb.1; simp; omega
  · intro j x hx
    by_cases hj : o ≤ j ∧ j < o + C.length
    · obtain ⟨k, rfl⟩ := Nat.exists_eq_add_of_le hj.1
      have hk : k < C.length := by omega
      have hx' : xs[k]? = some x := by
        subst p2
        rw [List.append_assoc, List.getElem?_append_right (by simp; omega)] at hx
        rw [List.getElem?_append_left (by simp; omega)] at hx
        rw [← hx]; congr 1; simp; omega
      obtain ⟨v, v1, v2⟩ := hC.get hx'
      refine ⟨v, ?_, v2⟩
      have := World.cell?_setCells_in r C (d + o) w hin k hk
      rw [← Nat.add_assoc, this]
      rw [List.getElem?_eq_getElem hk] at v1; exact v1
    · have hx' : l[j]? = some x := by
        subst p2
        rcases Nat.lt_or_ge j o with hj' | hj'
        · rw [List.append_assoc, List.getElem?_append_left (by simp; omega), List.getElem?_take_of_lt hj'] at hx
          exact hx
        · have hj2 : o + C.length ≤ j := by omega
          rw [List.getElem?_append_right (by simp; omega), List.getElem?_drop] at hx
          rw [← hx]; congr 1; simp; omega
      obtain ⟨v, v1, v2⟩ := hb.2.1 j x hx'
      refine ⟨v, ?_, v2⟩
      rw [World.cell?_setCells_out r C (d + o) w _ (fun _ _ => by simp only; omega)]
      exact v1
  · intro _ j hj
    obtain ⟨q1, q2⟩ := hb.2.2 rfl j hj
    refine ⟨?_, by rw [World.frozen?_setCells]; exact q2⟩
    by_cases hj' : d + o ≤ d + j ∧ d + j < d + o + C.length
    · obtain ⟨k, hk⟩ := Nat.exists_eq_add_of_le hj'.1
      have := World.cell?_setCells_in r C (d + o) w hin k (by omega)
      rw [← hk] at this; rw [this]; rfl
    · rw [World.cell?_setCells_out r C (d + o) w _ (fun _ _ => by simp only; omega)]
      exact q1

/-! ### long rows -/
noncomputable def toPf (k n : Nat) : Pos :=
  Nat.rec (motive := fun _ => Nat → Pos) (fun _ => .h) (fun _ ih n => cnd (Nat.beq n 0) .h (fNat (Nat.div n 2) fun m => cnd (Nat.beq (Nat.mod n 2) 1) (.i (ih m)) (.o (ih m)))) k n
theorem toPf_succ (k n : Nat) : toPf (k + 1) n = if n = 0 then Pos.h else if n % 2 = 1 then Pos.i (toPf k (n / 2)) else Pos.o (toPf k (n / 2)) := by
  show cnd (Nat.beq n 0) Pos.h (fNat (Nat.div n 2) fun m => cnd (Nat.beq (Nat.mod n 2) 1) (Pos.i (toPf k m)) (Pos.o (toPf k m))) = _
  rw [fNat_eq, cnd_eq, cnd_eq]
  have e1 : (Nat.beq n 0 = true) = (n = 0) := by rw [eq_iff_iff]; exact ⟨Nat.eq_of_beq_eq_true, fun h => by rw [h]; rfl⟩
  have e2 : (Nat.beq (Nat.mod n 2) 1 = true) = (n % 2 = 1) := by
    rw [eq_iff_iff]
    exact ⟨fun h => Nat.eq_of_beq_eq_true h, fun h => by show Nat.beq (n % 2) 1 = true; rw [h]; rfl⟩
  simp only [e1, e2]
  rfl
theorem toPf_inj : ∀ (k n m : Nat), n < 2 ^ k → m < 2 ^ k → toPf k n = toPf k m → n = m
  | 0, n, m, hn, hm, _ => by simp at hn hm; omega
  | k + 1, n, m, hn, hm, e => by
    rw [toPf_succ, toPf_succ] at e
    rw [Nat.pow_succ] at hn hm
    by_cases n0 : n = 0
    · by_cases m0 : m = 0
      · omega
      · rw [if_pos n0, if_neg m0] at e
        split at e <;> cases e
    · by_cases m0 : m = 0
      · rw [if_neg n0, if_pos m0] at e
        split at e <;> cases e
      · rw [if_neg n0, if_neg m0] at e
        by_cases n1 : n % 2 = 1
        · by_cases m1 : m % 2 = 1
          · rw [if_pos n1, if_pos m1] at e
            injection e with e
            have := toPf_inj k (n / 2) (m / 2) (by omega) (by omega) e
            omega
          · rw [if_pos n1, if_neg m1] at e; cases e
        · by_cases m1 : m % 2 = 1
          · rw [if_neg n1, if_pos m1] at e; cases e
          · rw [if_neg n1, if_neg m1] at e
            injection e with e
            have := toPf_inj k (n / 2) (m / 2) (by omega) (by omega) e
            omega
theorem toP_inj {n m : Nat} (hn : n ≤ 1000000) (hm : m ≤ 1000000) (h : toP n = toP m) : n = m := toPf_inj 24 n m (by omega) (by omega) h
theorem arrG_same (z : AV) (t : PT AV) (j : Nat) (x : AV) : arrG z (t.set (toP j) x) j = x := by
  unfold arrG
  rw [get_set_same]; rfl
theorem arrG_ne (z : AV) (t : PT AV) {i j : Nat} (x : AV) (hi : i ≤ 1000000) (hj : j ≤ 1000000) (h : i ≠ j) : arrG z (t.set (toP j) x) i = arrG z t i := by
  unfold arrG
  rw [get_set_ne _ _ _ _ fun e => h (toP_inj hi hj e)]
theorem Rl.putA (h : Rl E base w0 ι H w) {b : Pos} {r d z o m : Nat} {u x : AV} {t : PT AV} {c : Value} (e : ι b = some (r, d, z)) (g : H.m.get b = some (.arr u t m)) (ho : o < m) (hm : m ≤ 1000000) (hv : VRel ι x c) :
    Rl E base w0 ι ⟨H.m.set b (.arr u (t.set (toP o) x) m), H.nx⟩ (w.setCells r (d + o) [c]) ∧ Stp ι ι H ⟨H.m.set b (.arr u (t.set (toP o) x) m), H.nx⟩ := by
  obtain ⟨b1, b2, b3⟩ : BRel ι w r d z (.arr u t m) := h.blk b r d z _ e g
  have hin : ∀ j, j < [c].length → (w.cell? ⟨r, d + o + j, none⟩).isSome = true := fun j hj => by
    rw [Nat.add_assoc]; exact (b3 (o + j) (by simp at hj; omega)).1
  refine h.write e g rfl rfl (fun k hk => setCells_heap r [c] (d + o) w hk) (setCells_size r [c] _ w) (World.os_setCells w r _ [c]) (setCells_tape r [c] _ w) (World.output_setCells w r _ [c]) ⟨b1, fun j hj => ?_, fun j hj => ?_⟩
  · by_cases hjo : j = o
    · subst hjo
      rw [arrG_same]
      have := World.cell?_setCells_in r [c] (d + j) w hin 0 (by simp)
      exact ⟨c, by simpa using this, hv⟩
    · rw [arrG_ne u t x (by omega) (by omega) hjo]
      obtain ⟨v, v1, v2⟩ := b2 j hj
      refine ⟨v, ?_, v2⟩
      have h1 : [c].length = 1 := rfl
      rw [World.cell?_setCells_out r [c] (d + o) w _ (fun _ _ => by simp only; omega)]
      exact v1
  · obtain ⟨q1, q2⟩ := b3 j hj
    have h1 : [c].length = 1 := rfl
    refine ⟨?_, by rw [World.frozen?_setCells]; exact q2⟩
    by_cases hj' : d + o ≤ d + j ∧ d + j < d + o + [c].length
    · obtain ⟨k, hk⟩ := Nat.exists_eq_add_of_le hj'.1
      have := World.cell?_setCells_in r [c] (d + o) w hin k (by omega)
      rw [← hk] at this; rw [this]; rfl
    · rw [World.cell?_setCells_out r [c] (d + o) w _ (fun _ _ => by simp only; omega)]
      exact q1

theorem cellsD_invO {b : Pos} {d : OR} {k : Bool → List AV → OR} {v : AV} {H' : Hp} (h : H.cells b d k = .val v H') : (∃ ro l, H.m.get b = some (.cells ro l) ∧ k ro l = .val v H') ∨ d = .val v H' := by
  unfold Hp.cells at h
  cases hx : H.m.get b with
  | none => rw [hx] at h; exact .inr h
  | some x =>
    rw [hx] at h
    cases x with
    | cells ro l => exact .inl ⟨ro, l, rfl, h⟩
    | _ => exact .inr h
theorem ar_invO {b : Pos} {k : AV → PT AV → Nat → OR} {v : AV} {H' : Hp} (h : H.ar b .no k = .val v H') : ∃ z t n, H.m.get b = some (.arr z t n) ∧ k z t n = .val v H' := by
  unfold Hp.ar at h
  obtain ⟨x, h1, h2⟩ := opt_invO h
  cases x with
  | arr z t n => exact ⟨z, t, n, h1, h2⟩
  | _ => cases h2
theorem st_sound (hE : EnvOk P E) (h : Rl E base w0 ι H w) {t n : Nat} (hn : E.size t = some n) {x y : AV} {cx cy : Value} (hx : VRel ι x cx) (hy : VRel ι y cy) {v : AV} {H' : Hp} (hv : st n x y H = .val v H') :
    v = .tup [] ∧ ∃ w', (Instr.storeAt t cx cy).run P w = .ok () w' ∧ Rl E base w0 ι H' w' ∧ Stp ι ι H H' := by
  unfold st at hv
  split at hv
  · rename_i b o
    obtain ⟨xs, h1, hv⟩ := opt_invO hv
    rcases cellsD_invO hv with ⟨ro, l, h2, hv⟩ | hv
    case inr =>
      unfold stA at hv
      split at hv
      · rename_i u
        obtain ⟨zz, t', m, g1, hv⟩ := ar_invO hv
        obtain ⟨g2, hv⟩ := cnd_invO hv
        rw [frc_eq, put_eq] at hv
        cases hv
        simp only [iand_eq, Bool.and_eq_true] at g2
        obtain rfl := Nat.eq_of_beq_eq_true g2.1
        have ho : o < m := Nat.le_of_ble_eq_true g2.2.2.1
        have hC := hy.cells h1
        cases hx with
        | ptr _ _ r d z hi =>
          obtain ⟨b1, b2, b3⟩ : BRel ι w r d z (.arr zz t' m) := h.blk b r d z _ hi g1
          generalize hcl : cy.cells.toList = C at hC
          cases hC with
          | cons _ c _ L q1 q2 =>
            cases q2
            obtain ⟨k1, k2⟩ := h.putA hi g1 ho (Nat.le_of_ble_eq_true g2.2.2.2) q1
            refine ⟨rfl, _, ?_, k1, k2⟩
            have hz : cy.cells.size = 1 := by
              have := congrArg List.length hcl
              simpa using this
            have hs := run_storeCells_cells (P := P) r (d + o) [c] 0 w (fun j hj => by simp at hj; subst hj; simpa using (b3 o (by omega)).1)
              (fun j hj => by simp at hj; subst hj; simpa using (b3 o (by omega)).2) (fun v hv => by
                have : v = c := by simpa using hv
                subst this
                exact q1.one g2.2.1)
            simp only [Nat.add_zero] at hs
            simp [Instr.storeAt, Instr.sureAddr, storeVar, size_run (P := P) (w := w) hE hn, hz, hcl, hs]
      · cases hv
    obtain ⟨h3, hv⟩ := cnd_invO hv
    obtain ⟨l', h4, hv⟩ := opt_invO hv
    cases hv
    simp only [iand_eq, Bool.and_eq_true, len_eq, inot_eq] at h3
    have hro : ro = false := by simpa using h3.1
    subst hro
    have hC := hy.cells h1
    have hl : xs.length = n := Nat.eq_of_beq_eq_true h3.2.1
    cases hx with
    | ptr _ _ r d z hi =>
      obtain ⟨k1, k2⟩ := h.put hi h2 h4 hC
      rw [put_eq]
      refine ⟨rfl, _, ?_, k1, k2⟩
      have hb : BRel ι w r d z (.cells false l) := h.blk b r d z _ hi h2
      obtain ⟨p1, p2⟩ := puts_eq h4
      have hlen := hC.length
      have hz : cy.cells.size = n := by rw [← hl, hlen]; simp
      have hs := run_storeCells_cells (P := P) r (d + o) cy.cells.toList 0 w (fun j hj => by simp only [Nat.add_zero]; rw [Nat.add_assoc]; exact (hb.2.2 rfl (o + j) (by have := hb.1; omega)).1)
        (fun j hj => by simp only [Nat.add_zero]; rw [Nat.add_assoc]; exact (hb.2.2 rfl (o + j) (by have := hb.1; omega)).2) (hC.one h3.2.2)
      simp only [Nat.add_zero] at hs
      simp [Instr.storeAt, Instr.sureAddr, storeVar, size_run (P := P) (w := w) hE hn, hz, hs]
  · cases hv
end Go.Ev
