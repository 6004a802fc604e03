/- The evaluator's operations on memory: what is written. -/
import Derived.Test.YthhfkiffnmiilaaGreatDoorEvHeap
import Derived.Deep.Upon
namespace Go.Ev
open Go.RowKit (Below)
variable {P : Program} {E : Env} {base : Nat} {w0 : World} {ι : Inj} {H : Hp} {w : World} {T : PT AV} {L : List AV} {lk : Look} {a : Act}

/-- An operation that turns the memory. -/
def WGives (P : Program) (E : Env) (base : Nat) (w0 : World) (ι : Inj) (H : Hp) (w : World) (s : Sem Value) (v : AV) (H' : Hp) : Prop :=
  ∃ c w' ι', s.run P w = .ok c w' ∧ VRel ι' v c ∧ Rl E base w0 ι' H' w' ∧ Stp ι ι' H H'

theorem setCells_size (b : Nat) : ∀ (vs : List Value) (o : Nat) (w : World), (w.setCells b o vs).heap.size = w.heap.size
  | [], _, _ => rfl
  | v :: r, o, w => by rw [World.setCells, setCells_size b r]; simp
theorem setCells_tape (b : Nat) : ∀ (vs : List Value) (o : Nat) (w : World), (w.setCells b o vs).tape = w.tape
  | [], _, _ => rfl
  | v :: r, o, w => by rw [World.setCells, setCells_tape b r]; simp
theorem setCells_heap (b : Nat) (vs : List Value) (o : Nat) (w : World) {k : Nat} (h : k ≠ b) : (w.setCells b o vs).heap[k]? = w.heap[k]? := by
  rcases Nat.lt_or_ge k w.heap.size with hk | hk
  · exact World.heap_setCells_other w b o vs hk h
  · rw [Array.getElem?_eq_none hk, Array.getElem?_eq_none (by rw [setCells_size]; exact hk)]

/-- A block is no more looked at. -/
theorem Rl.kill (h : Rl E base w0 ι H w) {b : Pos} {r d z : Nat} (e : ι b = some (r, d, z)) : Rl E base w0 ι ⟨H.m.set b .dead, H.nx⟩ w ∧ Stp ι ι H ⟨H.m.set b .dead, H.nx⟩ := by
  refine ⟨⟨?_, ?_, ?_, h.size, ?_, h.below, h.base_le, h.glob⟩, ⟨Inj.le_refl _, ?_, Nat.le_refl _⟩⟩
  · intro b' r' d' z' x e' g
    by_cases hb : b' = b
    · subst hb; rw [get_set_same] at g; cases g; trivial
    · rw [get_set_ne _ _ _ _ hb] at g; exact h.blk b' r' d' z' x e' g
  · intro b1 b2 r1 d1 d2 z1 z2 x1 x2 e1 e2 g1 g2 l1 l2
    have look : ∀ {p : Pos} {u : Blk}, (PT.set b .dead H.m).get p = some u → u.live = true → H.m.get p = some u := by
      intro p u gp lp
      by_cases hp : p = b
      · subst hp; rw [get_set_same] at gp; cases gp; cases lp
      · rw [get_set_ne _ _ _ _ hp] at gp; exact gp
    exact h.inj b1 b2 r1 d1 d2 z1 z2 x1 x2 e1 e2 (look g1 l1) (look g2 l2) l1 l2
  · intro p hp
    obtain ⟨f1, f2⟩ := h.fresh p hp
    have hne : p ≠ b := by intro e'; rw [e', e] at f1; cases f1
    exact ⟨f1, by rw [get_set_ne _ _ _ _ hne]; exact f2⟩
  · intro p r' d' z' u e' g hz
    by_cases hb : p = b
    · subst hb; rw [get_set_same] at g; cases g; cases hz
    · rw [get_set_ne _ _ _ _ hb] at g; exact h.own p r' d' z' u e' g hz
  · intro p _ e'
    have hne : p ≠ b := by intro e''; rw [e'', e] at e'; cases e'
    exact ⟨e', by rw [get_set_ne _ _ _ _ hne]⟩

theorem allB_eq {α : Type} {f : α → Bool} : ∀ {l : List α}, allB f l = true → ∀ x ∈ l, f x = true
  | [], _, x, hx => by cases hx
  | y :: l, h, x, hx => by
    have h' : iand (f y) (allB f l) = true := h
    rw [iand_eq, Bool.and_eq_true] at h'
    cases hx with
    | head => exact h'.1
    | tail _ hx => exact allB_eq h'.2 x hx
theorem LRel.one : ∀ {l : List AV} {C : List Value}, LRel ι l C → allB AV.one l = true → ∀ u ∈ C, u.oneCell' = true
  | _, _, .nil, _, u, hu => by cases hu
  | _, _, .cons x v l C hx t, h, u, hu => by
    have h' : iand (AV.one x) (allB AV.one l) = true := h
    rw [iand_eq, Bool.and_eq_true] at h'
    cases hu with
    | head => exact hx.one h'.1
    | tail _ hu => exact t.one h'.2 u hu

/-- Cells written into a block. -/
theorem Rl.put (h : Rl E base w0 ι H w) {b : Pos} {r d z o : Nat} {l l' xs : List AV} {C : List Value} (e : ι b = some (r, d, z)) (g : H.m.get b = some (.cells false l)) (hp : puts o xs l = some l') (hC : LRel ι xs C) :
    Rl E base w0 ι ⟨H.m.set b (.cells false l'), H.nx⟩ (w.setCells r (d + o) C) ∧ Stp ι ι H ⟨H.m.set b (.cells false l'), H.nx⟩ := by
  have hb : BRel ι w r d z (.cells false l) := h.blk b r d z _ e g
  obtain ⟨p1, p2⟩ := puts_eq hp
  have hlen := hC.length
  have hin : ∀ j, j < C.length → (w.cell? ⟨r, d + o + j, none⟩).isSome = true := fun j hj => by
    rw [Nat.add_assoc]; exact (hb.2.2 rfl (o + j) (by have := hb.1; omega)).1
  refine h.write e g rfl rfl (fun k hk => setCells_heap r C (d + o) w hk) (setCells_size r C _ w) (World.os_setCells w r _ C) (setCells_tape r C _ w) (World.output_setCells w r _ C) ⟨?_, ?_, ?_⟩
  · subst p2; have := hb.1; simp; omega
  · intro j x hx
    by_cases hj : o ≤ j ∧ j < o + C.length
    · obtain ⟨k, rfl⟩ := Nat.exists_eq_add_of_le hj.1
      have hk : k < C.length := by omega
      have hx' : xs[k]? = some x := by
        subst p2
        rw [List.append_assoc, List.getElem?_append_right (by simp; omega)] at hx
        rw [List.getElem?_append_left (by simp; omega)] at hx
        rw [← hx]; congr 1; simp; omega
      obtain ⟨v, v1, v2⟩ := hC.get hx'
      refine ⟨v, ?_, v2⟩
      have := World.cell?_setCells_in r C (d + o) w hin k hk
      rw [← Nat.add_assoc, this]
      rw [List.getElem?_eq_getElem hk] at v1; exact v1
    · have hx' : l[j]? = some x := by
        subst p2
        rcases Nat.lt_or_ge j o with hj' | hj'
        · rw [List.append_assoc, List.getElem?_append_left (by simp; omega), List.getElem?_take_of_lt hj'] at hx
          exact hx
        · have hj2 : o + C.length ≤ j := by omega
          rw [List.getElem?_append_right (by simp; omega), List.getElem?_drop] at hx
          rw [← hx]; congr 1; simp; omega
      obtain ⟨v, v1, v2⟩ := hb.2.1 j x hx'
      refine ⟨v, ?_, v2⟩
      rw [World.cell?_setCells_out r C (d + o) w _ (fun _ _ => by simp only; omega)]
      exact v1
  · intro _ j hj
    obtain ⟨q1, q2⟩ := hb.2.2 rfl j hj
    refine ⟨?_, by rw [World.frozen?_setCells]; exact q2⟩
    by_cases hj' : d + o ≤ d + j ∧ d + j < d + o + C.length
    · obtain ⟨k, hk⟩ := Nat.exists_eq_add_of_le hj'.1
      have := World.cell?_setCells_in r C (d + o) w hin k (by omega)
      rw [← hk] at this; rw [this]; rfl
    · rw [World.cell?_setCells_out r C (d + o) w _ (fun _ _ => by simp only; omega)]
      exact q1

theorem st_sound (hE : EnvOk P E) (h : Rl E base w0 ι H w) {t n : Nat} (hn : E.size t = some n) {x y : AV} {cx cy : Value} (hx : VRel ι x cx) (hy : VRel ι y cy) {v : AV} {H' : Hp} (hv : st n x y H = .val v H') :
    v = .tup [] ∧ ∃ w', (Instr.storeAt t cx cy).run P w = .ok () w' ∧ Rl E base w0 ι H' w' ∧ Stp ι ι H H' := by
  unfold st at hv
  split at hv
  · rename_i b o
    obtain ⟨xs, h1, hv⟩ := opt_invO hv
    obtain ⟨ro, l, h2, hv⟩ := cells_invO hv
    obtain ⟨h3, hv⟩ := cnd_invO hv
    obtain ⟨l', h4, hv⟩ := opt_invO hv
    cases hv
    simp only [iand_eq, Bool.and_eq_true, len_eq, inot_eq] at h3
    have hro : ro = false := by simpa using h3.1
    subst hro
    have hC := hy.cells h1
    have hl : xs.length = n := Nat.eq_of_beq_eq_true h3.2.1
    cases hx with
    | ptr _ _ r d z hi =>
      obtain ⟨k1, k2⟩ := h.put hi h2 h4 hC
      rw [put_eq]
      refine ⟨rfl, _, ?_, k1, k2⟩
      have hb : BRel ι w r d z (.cells false l) := h.blk b r d z _ hi h2
      obtain ⟨p1, p2⟩ := puts_eq h4
      have hlen := hC.length
      have hz : cy.cells.size = n := by rw [← hl, hlen]; simp
      have hs := run_storeCells_cells (P := P) r (d + o) cy.cells.toList 0 w (fun j hj => by simp only [Nat.add_zero]; rw [Nat.add_assoc]; exact (hb.2.2 rfl (o + j) (by have := hb.1; omega)).1)
        (fun j hj => by simp only [Nat.add_zero]; rw [Nat.add_assoc]; exact (hb.2.2 rfl (o + j) (by have := hb.1; omega)).2) (hC.one h3.2.2)
      simp only [Nat.add_zero] at hs
      simp [Instr.storeAt, Instr.sureAddr, storeVar, size_run (P := P) (w := w) hE hn, hz, hs]
  · cases hv
end Go.Ev
