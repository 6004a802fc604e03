/- Words in the place of a piece of a function's code: what is to be shown of them. -/
import Derived.Test.YtmjccopjophgjaaGreatDoorEvRo
import Derived.Test.YtmjccopjophgjaaGreatDoorEvSy
namespace Go.Ev
open Go.RowKit (Below)
variable {P : Program} {E : Env} {base : Nat} {w0 : World} {nt : Nat} {X : PT Unit} {call : CallT}

/-- A piece of code comes to what is said of it. -/
def StOk (P : Program) (E : Env) (base : Nat) (w0 : World) (nt : Nat) (X : PT Unit) (c : Code) (s : StT) : Prop :=
  ∀ (T : PT AV) (D : List DF) (H : Hp) (r : Out), s T D H = r → r ≠ .no → ∀ (ι0 : Inj) (H0 : Hp) (ι : Inj) (a : Act) (w : World), Fr nt X ι T a → AfterR E base w0 ι0 H0 D H ι a.defers w → c.wp P (OPost E base w0 nt X ι0 H0 r) a w

theorem stOk_ev (hE : EnvOk P E) (hC : CallOk P E base w0 call) (hm : P.follows .mixedOrders = true) (nl : Nat) {c : Code} (hK : CodeOk nt c) : StOk P E base w0 nt X c (ev E call nl X c) :=
  fun T D H r he hr _ _ ι a w hF hA => ev_sound hE hC hm nl c hK T D H r he hr ι a w hF hA
theorem stOk_seq {x y : Code} {sx sy : StT} (hx : StOk P E base w0 nt X x sx) (hy : StOk P E base w0 nt X y sy) : StOk P E base w0 nt X (.seq x y) (sSeq sx sy) := by
  intro T D H r he hr ι0 H0 ι a w hF hA
  replace he : thn (sx T D H) sy = r := he
  generalize hr1 : sx T D H = r1 at he
  have hne : r1 ≠ .no := by intro e; subst e; exact hr he.symm
  refine wp_seq (wp_mono (hx T D H r1 hr1 hne ι0 H0 ι a w hF hA) fun e a' w' hp => ?_)
  cases e with
  | normal =>
    obtain ⟨T', D', H', ι', rfl, hF', hA'⟩ := hp
    exact hy T' D' H' r he hr ι0 H0 ι' a' w' hF' hA'
  | exit id => obtain ⟨T', D', H', ι', rfl, hF', hA'⟩ := hp; exact ⟨T', D', H', ι', he.symm, hF', hA'⟩
  | ret => obtain ⟨T', D', H', ι', rfl, hF', hA'⟩ := hp; exact ⟨T', D', H', ι', he.symm, hF', hA'⟩
  | panic ch => obtain ⟨v, T', D', H', ι', u, rfl, h1, h2, hF', hA'⟩ := hp; exact ⟨v, T', D', H', ι', u, he.symm, h1, h2, hF', hA'⟩
  | goto l => exact hp.elim
  | outgrown => exact hp.elim
theorem stOk_cond {o : Operand} {x y : Code} {f : PT AV → Option Bool} {sx sy : StT} (hf : f = cond1 E o) (hx : StOk P E base w0 nt X x sx) (hy : StOk P E base w0 nt X y sy) : StOk P E base w0 nt X (.cond o x y) (sCd f sx sy) := by
  subst hf
  intro T D H r he hr ι0 H0 ι a w hF hA
  replace he : (opt (cond1 E o T) .no fun t => cnd t (sx T D H) (sy T D H)) = r := he
  obtain ⟨t, h1, h2⟩ := optO_ne he hr
  refine wp_cond (cond1_sound hA.rl.glob hF h1) ?_
  cases t with
  | true => exact hx T D H r h2 hr ι0 H0 ι a w hF hA
  | false => exact hy T D H r h2 hr ι0 H0 ι a w hF hA
theorem stOk_block {id : Nat} {x : Code} {sx : StT} (hx : StOk P E base w0 nt X x sx) : StOk P E base w0 nt X (.block id x) (sBlock id sx) := by
  intro T D H r he hr ι0 H0 ι a w hF hA
  unfold sBlock at he
  generalize hr1 : sx T D H = r1 at he
  have hne : r1 ≠ .no := by intro e; subst e; exact hr he.symm
  refine wp_block (wp_mono (hx T D H r1 hr1 hne ι0 H0 ι a w hF hA) fun e a' w' hp => ?_)
  cases e with
  | normal => obtain ⟨T', D', H', ι', rfl, hF', hA'⟩ := hp; exact ⟨T', D', H', ι', he.symm, hF', hA'⟩
  | exit id' =>
    obtain ⟨T', D', H', ι', rfl, hF', hA'⟩ := hp
    replace he : cnd (Nat.beq id' id) (Out.nrm T' D' H') (.ext id' T' D' H') = r := he
    rw [cnd_eq] at he
    show if id' = id then _ else _
    split at he
    · rename_i e
      rw [if_pos (Nat.eq_of_beq_eq_true e)]
      exact ⟨T', D', H', ι', he.symm, hF', hA'⟩
    · rename_i e
      rw [if_neg (fun h => e (by rw [h]; exact Nat.beq_refl _))]
      exact ⟨T', D', H', ι', he.symm, hF', hA'⟩
  | ret => obtain ⟨T', D', H', ι', rfl, hF', hA'⟩ := hp; exact ⟨T', D', H', ι', he.symm, hF', hA'⟩
  | panic ch => obtain ⟨v, T', D', H', ι', u, rfl, h1, h2, hF', hA'⟩ := hp; exact ⟨v, T', D', H', ι', u, he.symm, h1, h2, hF', hA'⟩
  | goto l => exact hp.elim
  | outgrown => exact hp.elim
theorem stOk_scope {x : Code} {sx : StT} (hx : StOk P E base w0 nt X x sx) : StOk P E base w0 nt X (.scope x) sx := by
  intro T D H r he hr ι0 H0 ι a w hF hA
  refine wp_scope_straight (wp_mono (hx T D H r he hr ι0 H0 ι a w hF hA) fun e a' w' hp => ?_)
  cases e with
  | goto l => exact hp.elim
  | _ => exact hp

/-! ### a loop: some rounds, then a word -/
/-- At a loop's head: it comes to Q. -/
def LoopAt (P : Program) (x : Code) (Q : Exit → Act → World → Prop) (a : Act) (w : World) : Prop :=
  ∀ (b : Frame) (k : List Item) (cs : List Frame), ∃ e a' w', Q e a' w' ∧ Arrives P (lone (b.at a (.code x :: .inLoop x :: k)) cs w) b k cs e a' w'
theorem wp_loopAt {x : Code} {Q : Exit → Act → World → Prop} {a : Act} {w : World} (h : LoopAt P x Q a w) : (Code.loop x).wp P Q a w := by
  intro b k cs
  obtain ⟨e, a', w', hq, harr⟩ := h b k cs
  exact ⟨e, a', w', hq, .of_steps (.one step_loop) harr⟩
theorem loopAt_round {x : Code} {Q : Exit → Act → World → Prop} {a : Act} {w : World} (h : x.wp P (Exit.then (LoopAt P x Q) Q) a w) : LoopAt P x Q a w := by
  intro b k cs
  obtain ⟨e, a₁, w₁, hq, harr⟩ := h b (.inLoop x :: k) cs
  cases e with
  | normal =>
    obtain ⟨e₂, a₂, w₂, hq₂, harr₂⟩ := hq b k cs
    exact ⟨e₂, a₂, w₂, hq₂, .of_steps (Steps.trans harr (.one step_inLoop)) harr₂⟩
  | exit id => exact ⟨_, a₁, w₁, hq, .pass (x := .inLoop x) rfl (fun _ _ => .inl (by simp)) harr⟩
  | goto l => exact ⟨_, a₁, w₁, hq, .pass (x := .inLoop x) rfl (fun _ _ => .inl (by simp)) harr⟩
  | ret => exact ⟨_, a₁, w₁, hq, .pass (x := .inLoop x) rfl (fun _ _ => .inl (by simp)) harr⟩
  | panic ch => exact ⟨_, a₁, w₁, hq, .pass (x := .inLoop x) rfl (fun _ _ => .inl (by simp)) harr⟩
  | outgrown => exact ⟨_, a₁, w₁, hq, .pass (x := .inLoop x) rfl (fun _ _ => .inl (by simp)) harr⟩
/-- so many rounds, then this -/
noncomputable def sRds (c : StT) (n : Nat) (j : StT) : StT := Nat.rec (motive := fun _ => StT) j (fun _ ih T D H => thn (c T D H) ih) n
/-- A loop, from its head, comes to this. -/
def HdOk (P : Program) (E : Env) (base : Nat) (w0 : World) (nt : Nat) (X : PT Unit) (x : Code) (s : StT) : Prop :=
  ∀ (T : PT AV) (D : List DF) (H : Hp) (r : Out), s T D H = r → r ≠ .no → ∀ (ι0 : Inj) (H0 : Hp) (ι : Inj) (a : Act) (w : World), Fr nt X ι T a → AfterR E base w0 ι0 H0 D H ι a.defers w → LoopAt P x (OPost E base w0 nt X ι0 H0 r) a w
theorem stOk_loop {x : Code} {s : StT} (h : HdOk P E base w0 nt X x s) : StOk P E base w0 nt X (.loop x) s :=
  fun T D H r he hr ι0 H0 ι a w hF hA => wp_loopAt (h T D H r he hr ι0 H0 ι a w hF hA)
theorem hdOk_no {x : Code} {s : StT} (h : ∀ T D H, s T D H = .no) : HdOk P E base w0 nt X x s := fun T D H _ he hr => absurd (he.symm.trans (h T D H)) hr
theorem hdOk_rds {x : Code} {sb j : StT} (hb : StOk P E base w0 nt X x sb) (hj : HdOk P E base w0 nt X x j) : ∀ n, HdOk P E base w0 nt X x (sRds sb n j)
  | 0 => hj
  | n + 1 => by
    intro T D H r he hr ι0 H0 ι a w hF hA
    replace he : thn (sb T D H) (sRds sb n j) = r := he
    generalize hr1 : sb T D H = r1 at he
    have hne : r1 ≠ .no := by intro e; subst e; exact hr he.symm
    refine loopAt_round (wp_mono (hb T D H r1 hr1 hne ι0 H0 ι a w hF hA) fun e a' w' hp => ?_)
    cases e with
    | normal =>
      obtain ⟨T', D', H', ι', rfl, hF', hA'⟩ := hp
      exact hdOk_rds hb hj n T' D' H' r he hr ι0 H0 ι' a' w' hF' hA'
    | exit id => obtain ⟨T', D', H', ι', rfl, hF', hA'⟩ := hp; exact ⟨T', D', H', ι', he.symm, hF', hA'⟩
    | ret => obtain ⟨T', D', H', ι', rfl, hF', hA'⟩ := hp; exact ⟨T', D', H', ι', he.symm, hF', hA'⟩
    | panic ch => obtain ⟨v, T', D', H', ι', u, rfl, h1, h2, hF', hA'⟩ := hp; exact ⟨v, T', D', H', ι', u, he.symm, h1, h2, hF', hA'⟩
    | goto l => exact hp.elim
    | outgrown => exact hp.elim

/-! ### to know less -/
theorem AfterR.weaken {ι0 ι : Inj} {H0 H H' : Hp} {D : List DF} {S : List Deferred} {w : World} (h : AfterR E base w0 ι0 H0 D H ι S w) (k : Wk ι H H') : AfterR E base w0 ι0 H0 D H' ι S w :=
  ⟨h.rl.weaken k, ⟨h.stp.le, fun b hb e => by
    obtain ⟨e1, e2⟩ := h.stp.keep b hb e
    exact ⟨e1, (k.same b e1).trans e2⟩, by rw [k.nx]; exact h.stp.nx⟩, h.dfr⟩
/-- Of a frame less is said. -/
def TLe (T T' : PT AV) : Prop := ∀ p v, T'.get p = some v → T.get p = some v ∨ (v = .any ∧ ∃ u, T.get p = some u)
theorem Fr.weaken {ι : Inj} {T T' : PT AV} {a : Act} (h : Fr nt X ι T a) (k : TLe T T') : Fr nt X ι T' a where
  size := h.size
  cross t v e := by
    rcases k _ _ e with h1 | ⟨_, u, h1⟩
    · exact h.cross t v h1
    · exact h.cross t u h1
  val t v e := by
    rcases k _ _ e with h1 | ⟨rfl, _, _⟩
    · exact h.val t v h1
    · exact .any _
theorem Rl.envI {E' : Env} (hg : E'.gl = E.gl) {w : World} {ι : Inj} {H : Hp} (h : Rl E base w0 ι H w) : Rl E' base w0 ι H w where
  blk := h.blk
  inj := h.inj
  fresh := h.fresh
  size := h.size
  own := h.own
  below := h.below
  base_le := h.base_le
  glob g b hgl := h.glob g b (by rw [← hg]; exact hgl)
theorem CallOk.env {E' : Env} (hg : E'.gl = E.gl) {c : CallT} (h : CallOk P E base w0 c) : CallOk P E' base w0 c := by
  intro f args H r he hr ι w cargs hR ha
  obtain ⟨h1, h2⟩ := h f args H r he hr ι w cargs (hR.envI hg.symm) ha
  refine ⟨h1, Calls.mono h2 fun e w' hp => ?_⟩
  cases e with
  | returned c => obtain ⟨v, H', ι', e1, e2, e3, e4⟩ := hp; exact ⟨v, H', ι', e1, e2, e3.envI hg, e4⟩
  | panicked ch => obtain ⟨v, H', ι', c, e1, e0, e2, e3, e4⟩ := hp; exact ⟨v, H', ι', c, e1, e0, e2, e3.envI hg, e4⟩
  | outgrown => exact hp.elim

/-! ### functions, pieces of whose text are words -/
/-- What is told of a function's text is so, or a word for it. -/
def CcOk2 (P : Program) (E : Env) : Prop := ∀ (f : Nat) (fn : Func) (X : PT Unit) (g : CallT → Nat → StT) (rs : PT AV → Hp → Option AV), E.fn.get (Pos.of f) = some (.cc fn X g rs) →
  X = crossF fn ∧ (∃ c, fn.body = some c ∧ ∀ (base : Nat) (w0 : World) (call : CallT) (nl : Nat), CallOk P E base w0 call → StOk P E base w0 fn.ntmps X c (g call nl)) ∧ ∀ T H, rs T H = results E fn T H
theorem told_ok2 (hE : EnvOk P E) (hm : P.follows .mixedOrders = true) (hK : CodesOk E) {f : Nat} {fn : Func} (hf : fnOf E f = some fn) {X : PT Unit} {g : CallT → Nat → StT} {rs : PT AV → Hp → Option AV} (h : Told E fn X g rs) :
    X = crossF fn ∧ (∃ c, fn.body = some c ∧ ∀ (base : Nat) (w0 : World) (call : CallT) (nl : Nat), CallOk P E base w0 call → StOk P E base w0 fn.ntmps X c (g call nl)) ∧ ∀ T H, rs T H = results E fn T H := by
  obtain ⟨h1, ⟨c, hb⟩, h3, h4⟩ := h
  refine ⟨h1, ⟨c, hb, fun base w0 call nl hC => ?_⟩, h4⟩
  have hc : bodyOf fn = c := by unfold bodyOf; rw [hb]; rfl
  rw [h3, hc]
  exact stOk_ev hE hC hm nl (hK f fn c hf hb)
theorem evCc_sound (hE : EnvOk P E) (hC : CallOk P E base w0 call) (hm : P.follows .mixedOrders = true) (hK : CodesOk E) (nl : Nat) {f : Nat} {fn : Func} (hf : fnOf E f = some fn) {X : PT Unit} {g : CallT → Nat → StT} {rs : PT AV → Hp → Option AV}
    (hX : X = crossF fn) {c : Code} (hb : fn.body = some c) (hg : StOk P E base w0 fn.ntmps X c (g call nl)) (hrs : ∀ T H, rs T H = results E fn T H) {args : List AV} {H : Hp} {r : CR} (he : evCc E call nl args H fn X g rs = r) (hr : r ≠ .no)
    {ι : Inj} {w : World} {cargs : List Value} (hR : Rl E base w0 ι H w) (ha : LRel ι args cargs) : Entered P f ∧ Calls P f cargs.toArray w (CPost E base w0 ι H r) := by
  refine ⟨entered hE hf hb, ?_⟩
  unfold evCc at he
  generalize hx : g call nl (initT X args) [] H = r1 at he
  have hne : r1 ≠ .no := by intro e; subst e; exact hr he.symm
  refine calls_of_wp_defers (hE.fn _ _ hf).1 hb ?_
  refine wp_mono (hg _ [] H r1 hx hne ι H ι _ w (by rw [hX]; exact Fr.init ha) ⟨hR, .refl ι H, .nil⟩) fun e a' w' hp => ?_
  cases e with
  | normal =>
    obtain ⟨T', D', H', ι', rfl, hF', hA'⟩ := hp
    replace he : fin E call fn rs T' D' H' = r := he
    rw [fin_eq hrs] at he
    exact leaves_sound hE hC hm hK hr D' a'.defers .ret .returning H' ι' w' he hA'.dfr .ret hF' ⟨hA'.rl, hA'.stp, .nil⟩
  | ret =>
    obtain ⟨T', D', H', ι', rfl, hF', hA'⟩ := hp
    replace he : fin E call fn rs T' D' H' = r := he
    rw [fin_eq hrs] at he
    exact leaves_sound hE hC hm hK hr D' a'.defers .ret .returning H' ι' w' he hA'.dfr .ret hF' ⟨hA'.rl, hA'.stp, .nil⟩
  | panic ch =>
    obtain ⟨v, T', D', H', ι', cv, rfl, rfl, hv, hF', hA'⟩ := hp
    exact leaves_sound hE hC hm hK hr D' a'.defers (.pan v false) (.panicking [{ v := cv, recovered := false }]) H' ι' w' he hA'.dfr (.pan v cv false hv) hF' ⟨hA'.rl, hA'.stp, .nil⟩
  | exit id => obtain ⟨T', D', H', ι', rfl, _⟩ := hp; exact absurd he.symm hr
  | goto l => exact hp.elim
  | outgrown => exact hp.elim
/-- THE LAW, with words for pieces of functions. -/
theorem evC_sound2 (hE : EnvOk P E) (hm : P.follows .mixedOrders = true) (hK : CodesOk E) (hS : SumsOk P E base w0) (hT : CcOk2 P E) (nl : Nat) : ∀ n, CallOk P E base w0 (evC E nl n)
  | 0 => fun f args H r he hr => absurd he.symm hr
  | n + 1 => by
    intro f args H r he hr ι w cargs hR ha
    replace he : (opt (E.fn.get (Pos.of f)) CR.no fun x => FE.rec (motive := fun _ => CR) (fun fn => evFn E (evC E nl n) nl args H fn) (fun g => sumK (g args H)) (fun fn X g rs => evCc E (evC E nl n) nl args H fn X g rs) x) = r := he
    obtain ⟨x, h1, h2⟩ := optC_ne he hr
    cases x with
    | fn fn =>
      have hf : fnOf E f = some fn := by unfold fnOf; rw [h1]; rfl
      exact evFn_sound hE (evC_sound2 hE hm hK hS hT nl n) hm hK nl hf h2 hr hR ha
    | cc fn X g rs =>
      have hf : fnOf E f = some fn := by unfold fnOf; rw [h1]; rfl
      obtain ⟨t1, ⟨c, t2, t3⟩, t4⟩ := hT f fn X g rs h1
      exact evCc_sound hE (evC_sound2 hE hm hK hS hT nl n) hm hK nl hf t1 t2 (t3 base w0 _ nl (evC_sound2 hE hm hK hS hT nl n)) t4 h2 hr hR ha
    | sm g => exact hS f g h1 f args H r (by show (if f = f then sumK (g args H) else CR.no) = r; rw [if_pos rfl]; exact h2) hr ι w cargs hR ha
end Go.Ev
