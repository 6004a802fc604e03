/- The evaluator at a region that draws its order: one row serves every order. -/
import Derived.Test.YtmjccopjophgjaaGreatDoorEvDraw2
namespace Go.Ev
open Go.RowKit (Below)
variable {P : Program} {E : Env} {base : Nat} {w0 : World} {T : PT AV}

/-- A quiet operation that stands in the row and is not yet carried out: what it will yield. -/
def Pend (E : Env) (ops : Array Oper) (T : PT AV) (H : Hp) (PA : Nat → Prop) (bo : Nat → Pos) (done0 : List Nat) (L0 : List AV) (i : Nat) (v : AV) : Prop :=
  ∃ o g q b, ops[i]? = some o ∧ loudOp E o.op = false ∧ cGuard done0 o.guard = some g ∧ cK E (lookR ops.toList done0) o.op = some q ∧ guardB g L0 = some b ∧
    (b = false → v = .tup []) ∧ (b = true →
      (q.pureK = true ∧ pv q T L0 = some v) ∨ (∃ f x, q = .r1 f x ∧ f (x.ev T L0) H = some v) ∨
      (∃ f xs x m, q = .al f xs ∧ f (evs T L0 xs) = some (x, m) ∧ v = m.av (bo i) ∧ H.m.get (bo i) = some x ∧ PA i))

/-- Where a run of such a region stands. -/
structure DI (E : Env) (base : Nat) (w0 : World) (nt : Nat) (ops : Array Oper) (T : PT AV) (ι0 : Inj) (H0 : Hp) (D : List DF) (lis : Nat → Prop) (done : List Nat) (L : List AV) (H : Hp) (ι : Inj) (PA : Nat → Prop) (bo : Nat → Pos) (a : Act) (w : World) : Prop where
  size : nt ≤ a.tmps.size
  len : L.length = done.length
  nodup : done.Nodup
  lt : ∀ i ∈ done, ∃ o, ops[i]? = some o
  sub : ∀ i, lis i → i ∈ done
  clo : ∀ i m j, lis i → (masks ops.toList)[i]? = some m → m.testBit j = true → lis j
  cdone : ∀ (k i m j : Nat), done[k]? = some i → (masks ops.toList)[i]? = some m → m.testBit j = true → j ∈ done.drop (k + 1)
  val : ∀ (k i : Nat) (o : Oper) (d : Nat) (v : AV), done[k]? = some i → lis i → ops[i]? = some o → o.dst = some d → L[k]? = some v → VRel ι v (a.eval (.tmp d))
  old : ∀ (t : Nat) (v : AV), T.get (Pos.of t) = some v → (∀ i, lis i → ∀ o : Oper, ops[i]? = some o → o.dst ≠ some t) → VRel ι v (a.eval (.tmp t))
  pend : ∀ (k i : Nat) (v : AV), done[k]? = some i → ¬ lis i → L[k]? = some v → Pend E ops T H PA bo (done.drop (k + 1)) (L.drop (k + 1)) i v
  pa : ∀ i, PA i → ι (bo i) = none ∧ (bo i).nat < H.nx.nat ∧ H0.nx.nat ≤ (bo i).nat
  pai : ∀ i j, PA i → PA j → bo i = bo j → i = j
  rl : Rl E base w0 ι H w
  stp : Stp ι0 ι H0 H
  dfr : DRel ι D a.defers

variable {nt : Nat} {ops : Array Oper} {ι0 ι : Inj} {H0 H : Hp} {D : List DF} {lis : Nat → Prop} {done : List Nat} {L : List AV} {PA : Nat → Prop} {bo : Nat → Pos} {a : Act} {w : World}

theorem DI.look (hW : DrawOk ops) (h : DI E base w0 nt ops T ι0 H0 D lis done L H ι PA bo a w) (s : Nat) {i mi : Nat} {o : Oper} (ho : ops[i]? = some o) (hm : (masks ops.toList)[i]? = some mi)
    (hi : ¬ lis i) (hr : ∀ j, mi.testBit j = true → lis j) (hn : i ∉ done.drop s) (hcl : ∀ j, mi.testBit j = true → j ∈ done.drop s) : LkOk ι T (L.drop s) (only o.op (lookR ops.toList (done.drop s))) a := by
  intro t x hx
  unfold only at hx
  split at hx
  case isFalse => cases hx
  rename_i ht
  unfold lookR at hx
  cases hl : locOf ops.toList (done.drop s) t with
  | some k =>
    rw [hl] at hx
    cases hx
    obtain ⟨j, p, e1, e2, e3⟩ := locOf_some hl
    rw [Array.getElem?_toList] at e2
    obtain ⟨mj, hmj⟩ := masks_some (ops := ops.toList) (by rw [Array.getElem?_toList]; exact e2)
    have hne : i ≠ j := by
      intro e; subst e
      exact hn (List.mem_of_getElem? e1)
    have e1' : done[s + k]? = some j := by rw [← List.getElem?_drop]; exact e1
    have hj : lis j := by
      rcases hW.tmp i j o p t mi mj ho e2 hne ht e3 hm hmj with hb | hb
      · exact hr j hb
      · have := h.cdone (s + k) j mj i e1' hmj hb
        refine absurd ?_ hn
        rw [show s + k + 1 = k + 1 + s by omega, ← List.drop_drop] at this
        exact List.mem_of_mem_drop (by rwa [List.drop_drop, Nat.add_comm (k + 1) s, ← List.drop_drop] at this)
    show VRel ι (opt (nth k (L.drop s)) .any fun v => v) _
    rw [nth_eq, List.getElem?_drop]
    have hk : s + k < L.length := by
      rw [h.len]
      exact (List.getElem?_eq_some_iff.1 e1').1
    rw [List.getElem?_eq_getElem hk]
    exact h.val (s + k) j p t _ e1' hj e2 e3 (List.getElem?_eq_getElem hk)
  | none =>
    rw [hl] at hx
    cases hx
    show VRel ι (opt (T.get (Pos.of t)) .any fun v => v) _
    cases hT : T.get (Pos.of t) with
    | none => exact .any _
    | some v =>
      refine h.old t v hT fun j hj p hp hd => ?_
      obtain ⟨mj, hmj⟩ := masks_some (ops := ops.toList) (by rw [Array.getElem?_toList]; exact hp)
      have hne : i ≠ j := by intro e; subst e; exact hi hj
      rcases hW.tmp i j o p t mi mj ho hp hne ht hd hm hmj with hb | hb
      · exact locOf_none hl j (hcl j hb) p (by rw [Array.getElem?_toList]; exact hp) hd
      · exact hi (h.clo j mj i hj hmj hb)

theorem DI.guard (hO : OpsOk nt ops) (hW : DrawOk ops) (h : DI E base w0 nt ops T ι0 H0 D lis done L H ι PA bo a w) (s : Nat) {i mi : Nat} {o : Oper} (ho : ops[i]? = some o) (hm : (masks ops.toList)[i]? = some mi)
    (hr : ∀ j, mi.testBit j = true → lis j) {g : Option (Nat × Bool)} (hg : cGuard (done.drop s) o.guard = some g) {b : Bool} (hb : guardB g (L.drop s) = some b) : Region.wanted o (yielded ops a.tmps) = b := by
  unfold cGuard at hg
  unfold Region.wanted
  split at hg
  · rename_i e
    cases hg
    rw [e]
    cases hb; rfl
  · rename_i j want e
    obtain ⟨k, h1, h2⟩ := opt_eq_some hg
    cases h2
    rw [e]
    obtain ⟨p, d, hp, hd⟩ := hO.gd i o j want ho e
    have hk := idxOf_some h1
    have hk' : done[s + k]? = some j := by rw [← List.getElem?_drop]; exact hk
    have hj : lis j := hr j (hW.grd i j o want mi ho e hm)
    replace hb : (opt (nth k (L.drop s)) none fun v => match v with | .bool b => some (Bool.rec (inot want) want b) | .tup _ => some false | _ => none) = some b := hb
    obtain ⟨v, h3, h4⟩ := opt_eq_some hb
    rw [nth_eq, List.getElem?_drop] at h3
    have hv := h.val (s + k) j p d v hk' hj hp hd h3
    have hs : d < a.tmps.size := Nat.lt_of_lt_of_le (hO.lt j p d hp hd) h.size
    show (yielded ops a.tmps j == some want) = b
    rw [yielded_of hp hd hs]
    generalize a.eval (.tmp d) = c at hv
    split at h4
    · cases hv
      rename_i b'
      cases h4
      cases b' <;> cases want <;> rfl
    · cases hv
      cases h4
      rfl
    · cases h4

/-- One that stood in the row is carried out. -/
theorem DI.mark (hO : OpsOk nt ops) (h : DI E base w0 nt ops T ι0 H0 D lis done L H ι PA bo a w) {k i mi : Nat} {o : Oper} {v : AV} {c : Value} (hk : done[k]? = some i) (hv : L[k]? = some v) (ho : ops[i]? = some o)
    (hm : (masks ops.toList)[i]? = some mi) (hr : ∀ j, mi.testBit j = true → lis j) {κ : Inj} (hle : ι.le κ) (hval : VRel κ v c) {w' : World} (hrl : Rl E base w0 κ H w') (hstp : Stp ι0 κ H0 H)
    (hpa : ∀ j, PA j → j ≠ i → κ (bo j) = none) : DI E base w0 nt ops T ι0 H0 D (fun j => lis j ∨ j = i) done L H κ (fun j => PA j ∧ j ≠ i) bo (a.put o.dst c) w' where
  size := by rw [size_put]; exact h.size
  len := h.len
  nodup := h.nodup
  lt := h.lt
  sub j hj := by
    rcases hj with hj | hj
    · exact h.sub j hj
    · subst hj; exact List.mem_of_getElem? hk
  clo j m j' hj hmj hb := by
    rcases hj with hj | hj
    · exact .inl (h.clo j m j' hj hmj hb)
    · subst hj; rw [hm] at hmj; cases hmj; exact .inl (hr j' hb)
  cdone := h.cdone
  val k' j p d u hk' hj hp hd hu := by
    by_cases hji : j = i
    · subst hji
      have : k' = k := by
        have l1 := (List.getElem?_eq_some_iff.1 hk')
        have l2 := (List.getElem?_eq_some_iff.1 hk)
        obtain ⟨l1, e1⟩ := l1
        obtain ⟨l2, e2⟩ := l2
        exact (List.getElem_inj h.nodup).1 (e1.trans e2.symm)
      subst this
      rw [hv] at hu; cases hu
      rw [ho] at hp; cases hp
      rw [hd, eval_put_same _ _ _ (Nat.lt_of_lt_of_le (hO.lt j o d ho hd) h.size)]
      exact hval
    · have hj' : lis j := hj.resolve_right hji
      have hne : o.dst ≠ some d := fun e => hji (hO.nd i j o p d ho hp e hd).symm
      rw [eval_put_ne _ _ _ _ hne]
      exact (h.val k' j p d u hk' hj' hp hd hu).mono hle
  old t u ht hno := by
    have hne : o.dst ≠ some t := hno i (.inr rfl) o ho
    rw [eval_put_ne _ _ _ _ hne]
    exact (h.old t u ht fun j hj p hp => hno j (.inl hj) p hp).mono hle
  pend k' j u hk' hj hu := by
    have hj1 : ¬ lis j := fun e => hj (.inl e)
    have hj2 : j ≠ i := fun e => hj (.inr e)
    obtain ⟨o', g, q, b, e1, e2, e3, e4, e5, e6, e7⟩ := h.pend k' j u hk' hj1 hu
    refine ⟨o', g, q, b, e1, e2, e3, e4, e5, e6, fun hb => ?_⟩
    rcases e7 hb with e | e | ⟨f, xs, x, m, e8, e9, e10, e11, e12⟩
    · exact .inl e
    · exact .inr (.inl e)
    · exact .inr (.inr ⟨f, xs, x, m, e8, e9, e10, e11, e12, hj2⟩)
  pa j hj := ⟨hpa j hj.1 hj.2, (h.pa j hj.1).2⟩
  pai j j' hj hj' := h.pai j j' hj.1 hj'.1
  rl := hrl
  stp := hstp
  dfr := by rw [defers_put]; exact h.dfr.mono hle

/-- A quiet one is carried out, whenever it may be. -/
theorem DI.quiet (hE : EnvOk P E) (hO : OpsOk nt ops) (hW : DrawOk ops) (h : DI E base w0 nt ops T ι0 H0 D lis done L H ι PA bo a w) {k i mi : Nat} (hk : done[k]? = some i) (hi : ¬ lis i)
    (hm : (masks ops.toList)[i]? = some mi) (hr : ∀ j, mi.testBit j = true → lis j) {Q : Exit → Act → World → Prop} {K : Act → World → Prop}
    (hK : ∀ κ PA' a' w', DI E base w0 nt ops T ι0 H0 D (fun j => lis j ∨ j = i) done L H κ PA' bo a' w' → K a' w') : wpOp P ops Q i K a w := by
  have hkl : k < L.length := by rw [h.len]; exact (List.getElem?_eq_some_iff.1 hk).1
  have hv := List.getElem?_eq_getElem hkl
  obtain ⟨o, g, q, b, ho, hq, hg, hc, hgb, hf, ht⟩ := h.pend k i _ hk hi hv
  have hnot : i ∉ done.drop (k + 1) := by
    intro hmem
    obtain ⟨k', hk'⟩ := List.getElem?_of_mem hmem
    rw [List.getElem?_drop] at hk'
    obtain ⟨l1, e1⟩ := List.getElem?_eq_some_iff.1 hk'
    obtain ⟨l2, e2⟩ := List.getElem?_eq_some_iff.1 hk
    have := (List.getElem_inj h.nodup).1 (e1.trans e2.symm)
    omega
  have hlk := h.look hW (k + 1) ho hm hi hr hnot (fun j hj => h.cdone k i mi j hk hm hj)
  have hwant := h.guard hO hW (k + 1) ho hm hr hg hgb
  have hc' := cK_only hc
  unfold wpOp
  simp only [ho]
  cases b with
  | false =>
    rw [if_neg (by rw [hwant]; decide)]
    refine hK ι _ _ w (h.mark hO hk hv ho hm hr (Inj.le_refl ι) ?_ h.rl h.stp fun j hj _ => (h.pa j hj).1)
    rw [hf rfl]
    exact .tup [] [] .nil
  | true =>
    rw [if_pos hwant]
    left
    have plain : OpGives P ι w a.eval o L[k] → o.wp P a w K Q := by
      rintro ⟨c, h1, h2⟩
      unfold Oper.wp
      rw [h1]
      exact hK ι _ _ w (h.mark hO hk hv ho hm hr (Inj.le_refl ι) h2 h.rl h.stp fun j hj _ => (h.pa j hj).1)
    rcases ht rfl with ⟨_, e⟩ | ⟨f, x, rfl, e⟩ | ⟨f, xs, x, m, rfl, e1, e2, e3, e4⟩
    · exact plain (pure_sound hE h.rl.glob hlk hc' e)
    · exact plain (read_sound hE h.rl hlk hc' e)
    · obtain ⟨ob, z, g1, g2, g3, g4⟩ := al_sound (P := P) (w := w) hE h.rl.glob hlk hc' e1
      obtain ⟨p1, p2, p3⟩ := h.pa i e4
      have hrl := h.rl.map p1 e3 ob z g2
      have hle : ι.le (upd ι (bo i) (w.heap.size, 0, z)) := upd_le p1
      unfold Oper.wp
      rw [g1]
      refine hK _ _ _ _ (h.mark hO hk hv ho hm hr hle (by rw [e2]; exact Mk.rel (upd_same _ _ _)) hrl ⟨Inj.le_trans h.stp.le hle, fun b hb hn => ?_, h.stp.nx⟩ fun j hj hji => ?_)
      · obtain ⟨s1, s2⟩ := h.stp.keep b hb hn
        have hne : b ≠ bo i := by intro e; rw [e] at hb; omega
        exact ⟨by rw [upd_ne _ _ hne]; exact s1, s2⟩
      · have hne : bo j ≠ bo i := fun e => hji (h.pai j i hj e4 e)
        rw [upd_ne _ _ hne]; exact (h.pa j hj).1

theorem hp_ext (h : Rl E base w0 ι H w) (x : Blk) : H.ext ⟨H.m.set H.nx x, H.nx.succ⟩ := by
  intro b y hb
  have hne : b ≠ H.nx := by
    intro e; subst e
    rw [(h.fresh H.nx (Nat.le_refl _)).2] at hb; cases hb
  show (PT.set H.nx x H.m).get b = some y
  rw [get_set_ne _ _ _ _ hne]; exact hb

/-- A quiet one is laid into the row. -/
theorem DI.lay (h : DI E base w0 nt ops T ι0 H0 D lis done L H ι PA bo a w) {i mi : Nat} {o : Oper} (ho : ops[i]? = some o) (hq : loudOp E o.op = false) (hni : i ∉ done) (hm : (masks ops.toList)[i]? = some mi)
    (hcl : ∀ j, mi.testBit j = true → j ∈ done) {g : Option (Nat × Bool)} {q : K} (hg : cGuard done o.guard = some g) (hc : cK E (lookR ops.toList done) o.op = some q) {call : CallT} {cs : List CO} {r : RO} (hr : r ≠ .no)
    (he : evCs call T (mkCO g q [] :: cs) L D H = r) :
    ∃ v H' PA' bo', evCs call T cs (v :: L) D H' = r ∧ DI E base w0 nt ops T ι0 H0 D lis (i :: done) (v :: L) H' ι PA' bo' a w := by
  have hnl : ¬ lis i := fun e => hni (h.sub i e)
  -- the same heap
  have same : ∀ v, (∀ PA0 : Nat → Prop, Pend E ops T H PA0 bo done L i v) → DI E base w0 nt ops T ι0 H0 D lis (i :: done) (v :: L) H ι PA bo a w := by
    intro v hp
    refine ⟨h.size, by simp [h.len], List.nodup_cons.2 ⟨hni, h.nodup⟩, ?_, fun j hj => List.mem_cons_of_mem _ (h.sub j hj), h.clo, ?_, ?_, h.old, ?_, h.pa, h.pai, h.rl, h.stp, h.dfr⟩
    · intro j hj
      cases hj with
      | head => exact ⟨o, ho⟩
      | tail _ hj => exact h.lt j hj
    · intro k j m j' hk hmj hb
      cases k with
      | zero =>
        have : i = j := by simpa using hk
        subst this
        rw [hm] at hmj; cases hmj
        simpa using hcl j' hb
      | succ k => simpa using h.cdone k j m j' (by simpa using hk) hmj hb
    · intro k j p d u hk hj hp' hd hu
      cases k with
      | zero =>
        have : i = j := by simpa using hk
        subst this
        exact absurd hj hnl
      | succ k => exact h.val k j p d u (by simpa using hk) hj hp' hd (by simpa using hu)
    · intro k j u hk hj hu
      cases k with
      | zero =>
        have e1 : i = j := by simpa using hk
        have e2 : v = u := by simpa using hu
        subst e1; subst e2
        simpa using hp PA
      | succ k => simpa using h.pend k j u (by simpa using hk) hj (by simpa using hu)
  rw [evCs_mk] at he
  obtain ⟨b, h1, h2⟩ := optR_ne he hr
  cases b with
  | false => exact ⟨.tup [], H, PA, bo, h2, same _ fun PA0 => ⟨o, g, q, false, ho, hq, hg, hc, h1, fun _ => rfl, (fun e => by cases e)⟩⟩
  | true =>
    replace h2 : exec q call T L D H (fun v D' H' => evCs call T cs (v :: L) D' H') = r := h2
    rcases quiet_K hc hq with hp | ⟨f, x, rfl⟩ | ⟨f, xs, rfl⟩
    · rw [pv_pure hp] at h2
      obtain ⟨v, e1, e2⟩ := tryV_ne h2 hr
      exact ⟨v, H, PA, bo, e2, same v fun PA0 => ⟨o, g, q, true, ho, hq, hg, hc, h1, (fun e => by cases e), fun _ => .inl ⟨hp, e1⟩⟩⟩
    · obtain ⟨v, e1, e2⟩ := tryV_ne (x := f (x.ev T L) H) h2 hr
      exact ⟨v, H, PA, bo, e2, same v fun PA0 => ⟨o, g, _, true, ho, hq, hg, hc, h1, (fun e => by cases e), fun _ => .inr (.inl ⟨f, x, rfl, e1⟩)⟩⟩
    · obtain ⟨⟨x, m⟩, e1, e2⟩ := optR_ne (x := f (evs T L xs)) h2 hr
      rw [new_eq] at e2
      have hpa0 : ¬ PA i ∨ PA i := Classical.em _ |>.symm
      let bo' : Nat → Pos := fun j => if j = i then H.nx else bo j
      have hboi : bo' i = H.nx := by simp [bo']
      have hboj : ∀ j, j ≠ i → bo' j = bo j := fun j hj => by simp [bo', hj]
      refine ⟨m.av H.nx, ⟨H.m.set H.nx x, H.nx.succ⟩, fun j => (PA j ∧ j ≠ i) ∨ j = i, bo', e2, ?_⟩
      have ext := hp_ext h.rl x
      refine ⟨h.size, by simp [h.len], List.nodup_cons.2 ⟨hni, h.nodup⟩, ?_, fun j hj => List.mem_cons_of_mem _ (h.sub j hj), h.clo, ?_, ?_, h.old, ?_, ?_, ?_, h.rl.phantom x, ?_, h.dfr⟩
      · intro j hj
        cases hj with
        | head => exact ⟨o, ho⟩
        | tail _ hj => exact h.lt j hj
      · intro k j m j' hk hmj hb
        cases k with
        | zero =>
          have : i = j := by simpa using hk
          subst this
          rw [hm] at hmj; cases hmj
          simpa using hcl j' hb
        | succ k => simpa using h.cdone k j m j' (by simpa using hk) hmj hb
      · intro k j p d u hk hj hp' hd hu
        cases k with
        | zero =>
          have : i = j := by simpa using hk
          subst this
          exact absurd hj hnl
        | succ k => exact h.val k j p d u (by simpa using hk) hj hp' hd (by simpa using hu)
      · intro k j u hk hj hu
        cases k with
        | zero =>
          have e3 : i = j := by simpa using hk
          have e4 : m.av H.nx = u := by simpa using hu
          subst e3; subst e4
          refine ⟨o, g, _, true, ho, hq, by simpa using hg, by simpa using hc, by simpa using h1, (fun e => by cases e), fun _ => .inr (.inr ⟨f, xs, x, m, rfl, by simpa using e1, by rw [hboi], ?_, .inr rfl⟩)⟩
          rw [hboi]; exact get_set_same _ _ _
        | succ k =>
          have hk' : done[k]? = some j := by simpa using hk
          have hji : j ≠ i := fun e => hni (e ▸ List.mem_of_getElem? hk')
          obtain ⟨o', g', q', b', f1, f2, f3, f4, f5, f6, f7⟩ := h.pend k j u hk' hj (by simpa using hu)
          refine ⟨o', g', q', b', f1, f2, by simpa using f3, by simpa using f4, by simpa using f5, f6, fun hb => ?_⟩
          rcases f7 hb with e | ⟨f', x', e5, e6⟩ | ⟨f', xs', x', m', e5, e6, e7, e8, e9⟩
          · exact .inl ⟨e.1, by simpa using e.2⟩
          · subst e5
            exact .inr (.inl ⟨f', x', rfl, by simpa using read_ext f4 ext e6⟩)
          · exact .inr (.inr ⟨f', xs', x', m', e5, by simpa using e6, by rw [hboj j hji]; exact e7, by rw [hboj j hji]; exact ext _ _ e8, .inl ⟨e9, hji⟩⟩)
      · intro j hj
        rcases hj with ⟨hj, hji⟩ | hj
        · rw [hboj j hji]
          obtain ⟨p1, p2, p3⟩ := h.pa j hj
          exact ⟨p1, by simp; omega, p3⟩
        · subst hj
          rw [hboi]
          exact ⟨(h.rl.fresh H.nx (Nat.le_refl _)).1, by simp, h.stp.nx⟩
      · intro j j' hj hj' hb
        rcases hj with ⟨hj, hji⟩ | hj <;> rcases hj' with ⟨hj', hji'⟩ | hj'
        · rw [hboj j hji, hboj j' hji'] at hb
          exact h.pai j j' hj hj' hb
        · subst hj'
          rw [hboj j hji, hboi] at hb
          have := (h.pa j hj).2.1
          rw [hb] at this; omega
        · subst hj
          rw [hboj j' hji', hboi] at hb
          have := (h.pa j' hj').2.1
          rw [← hb] at this; omega
        · rw [hj, hj']
      · refine ⟨h.stp.le, fun b hb hn => ?_, by have := h.stp.nx; simp; omega⟩
        obtain ⟨s1, s2⟩ := h.stp.keep b hb hn
        have hne : b ≠ H.nx := by
          intro e; rw [e] at hb
          have := h.stp.nx; omega
        exact ⟨s1, by show (PT.set H.nx x H.m).get b = _; rw [get_set_ne _ _ _ _ hne]; exact s2⟩
end Go.Ev
