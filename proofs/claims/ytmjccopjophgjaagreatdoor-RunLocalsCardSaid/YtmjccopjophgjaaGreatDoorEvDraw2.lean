/- The evaluator at a region that draws its order: what it rests on. -/
import Derived.Test.YtmjccopjophgjaaGreatDoorEvDraw1
import Derived.Orders
namespace Go.Ev
open Go.RowKit (Below)
variable {P : Program} {E : Env} {base : Nat} {w0 : World} {ι : Inj} {H : Hp} {w : World} {T : PT AV} {L : List AV} {lk lk' : Look} {a : Act}

theorem K1_congr {x : Operand} {k : Opd → Option K} (h : E.opd lk x = E.opd lk' x) : K1 E lk x k = K1 E lk' x k := by unfold K1; rw [h]
theorem K2_congr {x y : Operand} {k : Opd → Opd → Option K} (h : E.opd lk x = E.opd lk' x) (h2 : E.opd lk y = E.opd lk' y) : K2 E lk x y k = K2 E lk' x y k := by unfold K2; rw [h, h2]
theorem opds_congr : ∀ {xs : List Operand}, (∀ x ∈ xs, E.opd lk x = E.opd lk' x) → E.opds lk xs = E.opds lk' xs
  | [], _ => rfl
  | x :: xs, h => by
    have ih := opds_congr (xs := xs) fun y hy => h y (by simp [hy])
    show opt (E.opd lk x) none (fun y => opt (E.opds lk xs) none fun ys => some (fcons y ys)) = opt (E.opd lk' x) none (fun y => opt (E.opds lk' xs) none fun ys => some (fcons y ys))
    rw [h x (by simp), ih]
theorem opdD_congr {x : Option Operand} (h : ∀ y, x = some y → E.opd lk y = E.opd lk' y) : E.opdD lk x = E.opdD lk' x := by
  cases x with
  | none => rfl
  | some y => exact h y rfl

theorem cK_congr {op : Op} (h : ∀ x ∈ op.operands, E.opd lk x = E.opd lk' x) : cK E lk op = cK E lk' op := by
  cases op with
  | move x => exact K1_congr (h x (by simp [Op.operands]))
  | assign x => exact K1_congr (h x (by simp [Op.operands]))
  | pick c x y =>
    have h1 := h c (by simp [Op.operands])
    have h2 := h x (by simp [Op.operands])
    have h3 := h y (by simp [Op.operands])
    simp only [cK, K1, K2, h1, h2, h3]
  | alloc t => rfl
  | box t x => exact K1_congr (h x (by simp [Op.operands]))
  | build t ps =>
    have h1 := opds_congr (lk := lk) (lk' := lk') (E := E) (xs := ps.toList.map (·.2)) fun x hx => h x (by simpa [Op.operands] using hx)
    simp only [cK, cBuild, h1]
  | buildSlice t n ps =>
    have h1 := opds_congr (lk := lk) (lk' := lk') (E := E) (xs := ps.toList.map (·.2)) fun x hx => h x (by simpa [Op.operands] using hx)
    simp only [cK, cSlice, h1]
  | insert t m k x => rfl
  | load t x =>
    have h1 := h x (by simp [Op.operands])
    simp only [cK, K1, h1]
  | store t x y =>
    have h1 := h x (by simp [Op.operands])
    have h2 := h y (by simp [Op.operands])
    simp only [cK, K2, h1, h2]
  | ready g => rfl
  | waits g => rfl
  | nilCheck x => exact K1_congr (h x (by simp [Op.operands]))
  | binOp op t x y yt =>
    have h1 := h x (by simp [Op.operands])
    have h2 := h y (by simp [Op.operands])
    cases op <;> simp only [cK, cBin, cEq, K1, K2, h1, h2]
  | unOp op t x =>
    have h1 := h x (by simp [Op.operands])
    cases op <;> simp only [cK, K1, h1]
  | convert s t x =>
    have h1 := h x (by simp [Op.operands])
    simp only [cK, cConv, K1, h1]
  | sliceToArrayPointer t x => rfl
  | makeInterface t x =>
    have h1 := h x (by simp [Op.operands])
    simp only [cK, K1, h1]
  | makeFunc f first cap =>
    have h1 := opds_congr (lk := lk) (lk' := lk') (E := E) (xs := first.toList ++ cap.toList) fun x hx => h x (by simpa [Op.operands] using hx)
    simp only [cK, h1]
  | makeMap t r =>
    have h1 := opds_congr (lk := lk) (lk' := lk') (E := E) (xs := r.toList) fun x hx => h x (by simpa [Op.operands] using hx)
    simp only [cK, h1]
  | makeChan t s =>
    have h1 := h s (by simp [Op.operands])
    simp only [cK, K1, h1]
  | makeSlice t l c =>
    have h1 := opds_congr (lk := lk) (lk' := lk') (E := E) (xs := [l, c]) fun x hx => h x (by simpa [Op.operands] using hx)
    simp only [cK, cMks, h1]
  | slice t x lo hi mx =>
    have h1 := h x (by simp [Op.operands])
    have h2 := opdD_congr (lk := lk) (lk' := lk') (E := E) (x := lo) fun y hy => h y (by subst hy; simp [Op.operands])
    have h3 := opdD_congr (lk := lk) (lk' := lk') (E := E) (x := hi) fun y hy => h y (by subst hy; simp [Op.operands])
    have h4 := opdD_congr (lk := lk) (lk' := lk') (E := E) (x := mx) fun y hy => h y (by subst hy; simp [Op.operands])
    simp only [cK, cSl, h1, h2, h3, h4]
  | fieldAddr s x f =>
    have h1 := h x (by simp [Op.operands])
    simp only [cK, K1, h1]
  | field t x f =>
    have h1 := h x (by simp [Op.operands])
    simp only [cK, K1, h1]
  | indexAddr t x i =>
    have h1 := h x (by simp [Op.operands])
    have h2 := h i (by simp [Op.operands])
    simp only [cK, cIA, K2, h1, h2]
  | index t x i =>
    have h1 := h x (by simp [Op.operands])
    have h2 := h i (by simp [Op.operands])
    simp only [cK, K2, h1, h2]
  | lookup t x i ok =>
    have h1 := h x (by simp [Op.operands])
    have h2 := h i (by simp [Op.operands])
    simp only [cK, K2, h1, h2]
  | mapUpdate t m k x =>
    have h1 := h m (by simp [Op.operands])
    have h2 := h k (by simp [Op.operands])
    have h3 := h x (by simp [Op.operands])
    simp only [cK, K1, K2, h1, h2, h3]
  | mapEntry t m k => rfl
  | entryStore t m s x => rfl
  | range t x =>
    have h1 := h x (by simp [Op.operands])
    simp only [cK, K1, h1]
  | next i s =>
    have h1 := h i (by simp [Op.operands])
    simp only [cK, K1, h1]
  | entry i => rfl
  | typeAssert x t u ok =>
    have h1 := h x (by simp [Op.operands])
    simp only [cK, K1, h1]
  | extract x i => exact K1_congr (h x (by simp [Op.operands]))
  | call c =>
    obtain ⟨callee, args, ats⟩ := c
    have h1 := opds_congr (lk := lk) (lk' := lk') (E := E) (xs := args.toList) fun x hx => h x (by simp [Op.operands, Call.operands]; exact .inr (by simpa using hx))
    cases callee with
    | value f =>
      have h2 := h f (by simp [Op.operands, Call.operands])
      cases f <;> simp only [cK, cCall, h1, h2]
    | invoke r m => rfl
    | builtin b =>
      show cBi E lk b args.toList ats.toList = cBi E lk' b args.toList ats.toList
      have hh : ∀ x ∈ args.toList, E.opd lk x = E.opd lk' x := fun x hx => h x (by simp [Op.operands, Call.operands]; simpa using hx)
      generalize args.toList = l at hh
      generalize ats.toList = ts
      unfold cBi
      split
      · have h3 := hh _ (List.mem_singleton.2 rfl)
        simp only [K1, h3]
      · rename_i s x st xt
        have h3 := hh s (by simp)
        have h4 := hh x (by simp)
        simp only [cApp, K2, h3, h4]
      · rename_i x y
        have h3 := opds_congr (lk := lk) (lk' := lk') (E := E) (xs := [x, y]) hh
        simp only [h3]
      · rename_i x y
        have h3 := opds_congr (lk := lk) (lk' := lk') (E := E) (xs := [x, y]) hh
        simp only [h3]
      · rename_i x y t ts
        have h3 := hh x (by simp)
        have h4 := hh y (by simp)
        simp only [K2, h3, h4]
      · rename_i x y t ts
        have h3 := hh x (by simp)
        have h4 := hh y (by simp)
        simp only [K2, h3, h4]
      · rfl
      · have h3 := hh _ (List.mem_singleton.2 rfl)
        simp only [K1, h3]
      · rfl
  | go c => rfl
  | defer c =>
    obtain ⟨callee, args, ats⟩ := c
    have h1 := opds_congr (lk := lk) (lk' := lk') (E := E) (xs := args.toList) fun x hx => h x (by simp [Op.operands, Call.operands]; exact .inr (by simpa using hx))
    cases callee with
    | value f =>
      have h2 := h f (by simp [Op.operands, Call.operands])
      simp only [cK, cDfr, h1, h2]
    | invoke r m => rfl
    | builtin b => rfl
  | panic x => exact K1_congr (h x (by simp [Op.operands]))
  | send c x => rfl
  | recv t c ok => rfl
  | select cs b =>
    show cnd b none (opt (sel1 cs.toList) none fun p => opt (E.zero p.2) none fun z => K1 E lk p.1 fun a => some (K.sel z a)) = cnd b none (opt (sel1 cs.toList) none fun p => opt (E.zero p.2) none fun z => K1 E lk' p.1 fun a => some (K.sel z a))
    cases hs : sel1 cs.toList with
    | none => rfl
    | some p =>
      have h1 : E.opd lk p.1 = E.opd lk' p.1 := by
        unfold sel1 at hs
        split at hs
        · rename_i c ec
          have ec' : cs = #[c] := Array.toList_inj.1 ec
          subst ec'
          cases hc : c.send with
          | some x => rw [hc] at hs; cases hs
          | none =>
            rw [hc] at hs
            cases hs
            exact h c.chan (by simp [Op.operands])
        · cases hs
      show cnd b none (opt (E.zero p.2) none fun z => opt (E.opd lk p.1) none fun a => some (K.sel z a)) = cnd b none (opt (E.zero p.2) none fun z => opt (E.opd lk' p.1) none fun a => some (K.sel z a))
      rw [h1]

/-- The slots that an operation reads. -/
noncomputable def readsOf (op : Op) : List Nat := op.operands.toList.filterMap fun x => match x with | .tmp t => some t | _ => none
theorem mem_readsOf {op : Op} {t : Nat} : t ∈ readsOf op ↔ Operand.tmp t ∈ op.operands := by
  unfold readsOf
  rw [List.mem_filterMap]
  constructor
  · rintro ⟨x, hx, he⟩
    split at he
    · cases he; simpa using hx
    · cases he
  · intro h
    exact ⟨.tmp t, by simpa using h, rfl⟩
/-- A look at those slots alone. -/
noncomputable def only (op : Op) (lk : Look) : Look := fun t => if t ∈ readsOf op then lk t else none
theorem cK_only {op : Op} {q : K} (h : cK E lk op = some q) : cK E (only op lk) op = some q := by
  rw [← h]
  refine (cK_congr fun x hx => ?_).symm
  cases x with
  | tmp t =>
    show lk t = only op lk t
    unfold only
    rw [if_pos (mem_readsOf.2 hx)]
  | _ => rfl

/-- A quiet operation is compiled to a plain one, a read, or a new block. -/
theorem quiet_K {op : Op} {q : K} (h : cK E lk op = some q) (hq : loudOp E op = false) : q.pureK = true ∨ (∃ f x, q = .r1 f x) ∨ (∃ f xs, q = .al f xs) := by
  cases cK_inv h with
  | pur _ _ h => exact .inl h
  | load => exact .inr (.inl ⟨_, _, rfl⟩)
  | alloc => exact .inr (.inr ⟨_, _, rfl⟩)
  | box => exact .inr (.inr ⟨_, _, rfl⟩)
  | bsl => exact .inr (.inr ⟨_, _, rfl⟩)
  | mks => exact .inr (.inr ⟨_, _, rfl⟩)
  | mkm => exact .inr (.inr ⟨_, _, rfl⟩)
  | mkc => exact .inr (.inr ⟨_, _, rfl⟩)
  | lenm => exact .inr (.inl ⟨_, _, rfl⟩)
  | b2s => exact .inr (.inl ⟨_, _, rfl⟩)
  | s2s s e x y h1 =>
    have : loudConv E s = true := by unfold loudConv; rw [h1]
    replace hq : loudConv E s = false := hq
    rw [this] at hq; cases hq
  | s2b s d e i z x y h1 =>
    have : loudConv E d = true := by unfold loudConv; rw [h1]
    replace hq : loudConv E d = false := hq
    rw [this] at hq; cases hq
  | _ => cases hq

/-- A block that is not there yet is made. -/
theorem Rl.map (h : Rl E base w0 ι H w) {b : Pos} (hb : ι b = none) {x : Blk} (hg : H.m.get b = some x) (ob : Obj) (z : Nat) (hx : ∀ κ : Inj, ι.le κ → BRel κ (w.alloc ob) w.heap.size 0 z x) :
    Rl E base w0 (upd ι b (w.heap.size, 0, z)) H (w.alloc ob) := by
  have hle : ι.le (upd ι b (w.heap.size, 0, z)) := upd_le hb
  have hlt : b.nat < H.nx.nat := by
    rcases Nat.lt_or_ge b.nat H.nx.nat with h' | h'
    · exact h'
    · rw [(h.fresh b h').2] at hg; cases hg
  have old : ∀ p y, upd ι b (w.heap.size, 0, z) p = some y → p ≠ b → ι p = some y := fun p y e ne => by rw [upd_ne _ _ ne] at e; exact e
  refine ⟨?_, ?_, ?_, ?_, ?_, h.below.alloc h.base_le ob, by have := h.base_le; simp; omega, ?_⟩
  · intro p r d z' y e g
    by_cases hp : p = b
    · subst hp
      rw [upd_same] at e; cases e
      rw [hg] at g; cases g
      exact hx _ hle
    · have e' := old p _ e hp
      exact ((h.blk p r d z' y e' g).same (Below.heap_alloc w ob r (h.size p r d z' e'))).mono hle
  · intro p p' r d d' z1 z2 y y' e e' g g' hl hl'
    by_cases hp : p = b
    · by_cases hp' : p' = b
      · rw [hp, hp']
      · subst hp
        rw [upd_same] at e; cases e
        have := h.size p' _ _ _ (old p' _ e' hp')
        omega
    · by_cases hp' : p' = b
      · subst hp'
        rw [upd_same] at e'; cases e'
        have := h.size p _ _ _ (old p _ e hp)
        omega
      · exact h.inj p p' r d d' z1 z2 y y' (old p _ e hp) (old p' _ e' hp') g g' hl hl'
  · intro p hp
    have hne : p ≠ b := by intro e; rw [e] at hp; omega
    obtain ⟨f1, f2⟩ := h.fresh p hp
    exact ⟨by rw [upd_ne _ _ hne]; exact f1, f2⟩
  · intro p r d z' e
    by_cases hp : p = b
    · subst hp; rw [upd_same] at e; cases e; simp
    · have := h.size p r d z' (old p _ e hp); simp; omega
  · intro p r d z' y e g hro
    by_cases hp : p = b
    · subst hp; rw [upd_same] at e; cases e; exact h.base_le
    · exact h.own p r d z' y (old p _ e hp) g hro
  · intro g p e
    obtain ⟨z', hz'⟩ := h.glob g p e
    exact ⟨z', hle.app _ _ hz'⟩
/-- A block that will be made. -/
theorem Rl.phantom (h : Rl E base w0 ι H w) (x : Blk) : Rl E base w0 ι ⟨H.m.set H.nx x, H.nx.succ⟩ w := by
  have hn := (h.fresh H.nx (Nat.le_refl _)).1
  have ne : ∀ {p : Pos} {y}, ι p = some y → p ≠ H.nx := fun e e' => by rw [e', hn] at e; cases e
  refine ⟨?_, ?_, ?_, h.size, ?_, h.below, h.base_le, h.glob⟩
  · intro p r d z y e g
    rw [get_set_ne _ _ _ _ (ne e)] at g
    exact h.blk p r d z y e g
  · intro p p' r d d' z z' y y' e e' g g' hl hl'
    rw [get_set_ne _ _ _ _ (ne e)] at g
    rw [get_set_ne _ _ _ _ (ne e')] at g'
    exact h.inj p p' r d d' z z' y y' e e' g g' hl hl'
  · intro p hp
    have hp' : H.nx.nat + 1 ≤ p.nat := by simpa using hp
    have hne : p ≠ H.nx := by intro e; rw [e] at hp'; omega
    obtain ⟨f1, f2⟩ := h.fresh p (by omega)
    exact ⟨f1, by rw [get_set_ne _ _ _ _ hne]; exact f2⟩
  · intro p r d z y e g hro
    rw [get_set_ne _ _ _ _ (ne e)] at g
    exact h.own p r d z y e g hro

/-- What is asked of a region that draws its order: who reads a slot that another writes, waits for it, or is waited for; who looks at a guard, waits for it. -/
structure DrawOk (ops : Array Oper) : Prop where
  tmp : ∀ (i j : Nat) (o p : Oper) (t mi mj : Nat), ops[i]? = some o → ops[j]? = some p → i ≠ j → t ∈ readsOf o.op → p.dst = some t → (masks ops.toList)[i]? = some mi → (masks ops.toList)[j]? = some mj → mi.testBit j = true ∨ mj.testBit i = true
  grd : ∀ (i j : Nat) (o : Oper) (b : Bool) (mi : Nat), ops[i]? = some o → o.guard = some (j, b) → (masks ops.toList)[i]? = some mi → mi.testBit j = true
end Go.Ev
