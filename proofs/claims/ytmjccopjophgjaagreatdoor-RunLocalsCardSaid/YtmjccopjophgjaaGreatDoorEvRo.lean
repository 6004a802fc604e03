/- A heap that is only read: a call over it turns nothing that was there. -/
import Derived.Test.YtmjccopjophgjaaGreatDoorEvTop
namespace Go.Ev
open Go.RowKit (Below)
variable {P : Program} {E : Env} {base : Nat} {w0 : World}

noncomputable def PT.mp {α β : Type} (f : α → β) (t : PT α) : PT β := PT.rec (motive := fun _ => PT β) .l (fun _ v _ a b => .n a (opt v none fun x => some (f x)) b) t
theorem mp_get {α β : Type} (f : α → β) : ∀ (p : Pos) (t : PT α), (PT.mp f t).get p = (t.get p).map f
  | .h, .l => rfl
  | .h, .n a v b => by
    show opt v none (fun x => some (f x)) = v.map f
    cases v <;> rfl
  | .o p, .l => by show PT.get (.o p) PT.l = (PT.get (.o p) PT.l).map f; rw [get_leaf, get_leaf]; rfl
  | .o p, .n a v b => mp_get f p a
  | .i p, .l => by show PT.get (.i p) PT.l = (PT.get (.i p) PT.l).map f; rw [get_leaf, get_leaf]; rfl
  | .i p, .n a v b => mp_get f p b
noncomputable def roB (x : Blk) : Blk := Blk.rec (motive := fun _ => Blk) (fun _ l => .cells true l) (fun _ _ => .dead) .dead (fun _ _ _ _ => .dead) (fun _ => .dead) (fun _ => .dead) (fun _ _ _ => .dead) x
noncomputable def roH (H : Hp) : Hp := ⟨PT.mp roB H.m, H.nx⟩
theorem roH_inv {H : Hp} {b : Pos} {x : Blk} (h : (roH H).m.get b = some x) : ∃ y, H.m.get b = some y ∧ x = roB y := by
  have : (PT.mp roB H.m).get b = some x := h
  rw [mp_get] at this
  cases hy : H.m.get b with
  | none => rw [hy] at this; cases this
  | some y => rw [hy] at this; exact ⟨y, rfl, (Option.some.inj this).symm⟩

/-- Nothing that was there has turned. -/
theorem Rl.of_below {ι : Inj} {H : Hp} {w w' : World} (h : Rl E base w0 ι H w) (hb : Below w.heap.size w w') : Rl E base w0 ι H w' where
  blk b r d z x e g := (h.blk b r d z x e g).same (hb.block r (h.size b r d z e))
  inj := h.inj
  fresh := h.fresh
  size b r d z e := Nat.lt_of_lt_of_le (h.size b r d z e) hb.size
  own := h.own
  below := h.below.trans (hb.mono h.base_le)
  base_le := Nat.le_trans h.base_le hb.size
  glob := h.glob
theorem Rl.ro {ι : Inj} {H : Hp} {w : World} (h : Rl E base w0 ι H w) : Rl E w.heap.size w ι (roH H) w where
  blk b r d z x e g := by
    obtain ⟨y, hy, rfl⟩ := roH_inv g
    have := h.blk b r d z y e hy
    cases y with
    | cells ro l => exact ⟨this.1, this.2.1, fun h => by cases h⟩
    | map es c => trivial
    | dead => trivial
    | iter m s q l => trivial
    | u8s t => trivial
    | chan cl => trivial
    | arr u t n => trivial
  inj b b' r d d' z z' x x' e e' g g' l l' := by
    obtain ⟨y, hy, rfl⟩ := roH_inv g
    obtain ⟨y', hy', rfl⟩ := roH_inv g'
    have live : ∀ {y : Blk}, (roB y).live = true → y.live = true := by
      intro y hl
      cases y <;> first | rfl | cases hl
    exact h.inj b b' r d d' z z' y y' e e' hy hy' (live l) (live l')
  fresh b hb := by
    obtain ⟨f1, f2⟩ := h.fresh b hb
    refine ⟨f1, ?_⟩
    show (PT.mp roB H.m).get b = none
    rw [mp_get, f2]; rfl
  size := h.size
  own b r d z x e g hro := by
    obtain ⟨y, hy, rfl⟩ := roH_inv g
    cases y <;> cases hro
  below := Below.refl _ _
  base_le := Nat.le_refl _
  glob := h.glob
/-- A call whose run over the heap, read alone, gives a value. -/
theorem ro_call {call : CallT} (hC : ∀ (base : Nat) (w0 : World), CallOk P E base w0 call) {ι : Inj} {H : Hp} {w : World} (h : Rl E base w0 ι H w) {f : Nat} {args : List AV} {cargs : List Value} (ha : LRel ι args cargs) {v : AV} {H' : Hp}
    (hr : call f args (roH H) = .ret v H') {W : World} (hb : Below w.heap.size w W) : Calls P f cargs.toArray W fun e W' => (∃ c ι', e = .returned c ∧ VRel ι' v c) ∧ Below W.heap.size W W' := by
  obtain ⟨_, h2⟩ := hC W.heap.size W f args (roH H) _ rfl (by rw [hr]; intro e; cases e) ι W cargs (h.of_below hb).ro ha
  refine Calls.mono h2 fun e W' he => ?_
  rw [hr] at he
  cases e with
  | returned c =>
    obtain ⟨v', H2, ι', e1, e2, e3, _⟩ := he
    cases e1
    exact ⟨⟨c, ι', rfl, e2⟩, e3.below⟩
  | panicked ch =>
    obtain ⟨v', H2, ι', c, e1, _⟩ := he
    cases e1
  | outgrown => exact he.elim
end Go.Ev
