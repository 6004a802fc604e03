/- The evaluator at a region that draws its order: the law. -/
import Derived.Test.YtmjccopjophgjaaGreatDoorEvDraw3
namespace Go.Ev
open Go.RowKit (Below)
variable {P : Program} {E : Env} {base : Nat} {w0 : World} {T : PT AV}
variable {nt : Nat} {ops : Array Oper} {ι0 ι : Inj} {H0 H : Hp} {D : List DF} {lis : Nat → Prop} {done : List Nat} {L : List AV} {PA : Nat → Prop} {bo : Nat → Pos} {a : Act} {w : World}

/-- The loud one that is next is carried out. -/
theorem DI.loud (hE : EnvOk P E) {call : CallT} (hC : CallOk P E base w0 call) (hO : OpsOk nt ops) (hW : DrawOk ops) (h : DI E base w0 nt ops T ι0 H0 D lis done L H ι PA bo a w) {i mi : Nat} {o : Oper} (ho : ops[i]? = some o)
    (hni : i ∉ done) (hm : (masks ops.toList)[i]? = some mi) (hr : ∀ j, mi.testBit j = true → lis j) {g : Option (Nat × Bool)} {q : K} (hg : cGuard done o.guard = some g) (hc : cK E (lookR ops.toList done) o.op = some q)
    {cs : List CO} {r : RO} (hne : r ≠ .no) (he : evCs call T (mkCO g q (rechecks E ops.toList mi (i :: done)) :: cs) L D H = r) {Q : Exit → Act → World → Prop} {K : Act → World → Prop}
    (hp : ∀ v D' H' ι' c a' w', r = .pan v D' H' → VRel ι' v c → OldOk nt ops ι' T a' → AfterR E base w0 ι0 H0 D' H' ι' a'.defers w' → Q (.panic [{ v := c, recovered := false }]) a' w')
    (hK : ∀ v D' H' κ PA' a' w', evCs call T cs (v :: L) D' H' = r → DI E base w0 nt ops T ι0 H0 D' (fun j => lis j ∨ j = i) (i :: done) (v :: L) H' κ PA' bo a' w' → K a' w') : wpOp P ops Q i K a w := by
  have hnl : ¬ lis i := fun e => hni (h.sub i e)
  have hcl : ∀ j, mi.testBit j = true → j ∈ done := fun j hj => h.sub j (hr j hj)
  have hlk := h.look hW 0 ho hm hnl hr (by simpa using hni) (by simpa using hcl)
  simp only [List.drop_zero] at hlk
  have hc' := cK_only hc
  rw [evCs_mk] at he
  obtain ⟨b, h1, h2⟩ := optR_ne he hne
  have hwant := h.guard hO hW 0 ho hm hr (by simpa using hg) (by simpa using h1)
  -- what holds behind it
  have next : ∀ v D' H' κ c S w', After E base w0 ι H v D' H' κ c S w' →
      (∀ k j (o' : Oper) f x u, done[k]? = some j → ¬ lis j → ops[j]? = some o' → cK E (lookR ops.toList (done.drop (k + 1))) o'.op = some (.r1 f x) → L[k]? = some u → f (x.ev T (L.drop (k + 1))) H = some u → f (x.ev T (L.drop (k + 1))) H' = some u) →
      DI E base w0 nt ops T ι0 H0 D' (fun j => lis j ∨ j = i) (i :: done) (v :: L) H' κ PA bo (Act.done a S o.dst c) w' := by
    intro v D' H' κ c S w' hA hre
    have hsz : (Act.done a S o.dst c).tmps.size = a.tmps.size := by unfold Act.done; rw [size_put]
    have hev : ∀ t, o.dst ≠ some t → (Act.done a S o.dst c).eval (.tmp t) = a.eval (.tmp t) := fun t ht => by
      unfold Act.done; rw [eval_put_ne _ _ _ _ ht]; rfl
    refine ⟨by rw [hsz]; exact h.size, by simp [h.len], List.nodup_cons.2 ⟨hni, h.nodup⟩, ?_, ?_, ?_, ?_, ?_, ?_, ?_, ?_, h.pai, hA.rl, h.stp.trans hA.stp, ?_⟩
    · intro j hj
      cases hj with
      | head => exact ⟨o, ho⟩
      | tail _ hj => exact h.lt j hj
    · intro j hj
      rcases hj with hj | hj
      · exact List.mem_cons_of_mem _ (h.sub j hj)
      · subst hj; exact .head _
    · intro j m j' hj hmj hb
      rcases hj with hj | hj
      · exact .inl (h.clo j m j' hj hmj hb)
      · subst hj; rw [hm] at hmj; cases hmj; exact .inl (hr j' hb)
    · intro k j m j' hk hmj hb
      cases k with
      | zero =>
        have : i = j := by simpa using hk
        subst this
        rw [hm] at hmj; cases hmj
        simpa using hcl j' hb
      | succ k => simpa using h.cdone k j m j' (by simpa using hk) hmj hb
    · intro k j p d u hk hj hp' hd hu
      cases k with
      | zero =>
        have e1 : i = j := by simpa using hk
        have e2 : v = u := by simpa using hu
        subst e1; subst e2
        rw [ho] at hp'; cases hp'
        unfold Act.done
        rw [hd, eval_put_same _ _ _ (by exact Nat.lt_of_lt_of_le (hO.lt i o d ho hd) h.size)]
        exact hA.val
      | succ k =>
        have hk' : done[k]? = some j := by simpa using hk
        have hji : j ≠ i := fun e => hni (e ▸ List.mem_of_getElem? hk')
        have hne : o.dst ≠ some d := fun e => hji (hO.nd i j o p d ho hp' e hd).symm
        rw [hev d hne]
        exact (h.val k j p d u hk' (hj.resolve_right hji) hp' hd (by simpa using hu)).mono hA.stp.le
    · intro t u ht hno
      have hne : o.dst ≠ some t := hno i (.inr rfl) o ho
      rw [hev t hne]
      exact (h.old t u ht fun j hj p hp => hno j (.inl hj) p hp).mono hA.stp.le
    · intro k j u hk hj hu
      have hj1 : ¬ lis j := fun e => hj (.inl e)
      have hj2 : j ≠ i := fun e => hj (.inr e)
      cases k with
      | zero => exact absurd (by simpa using hk : i = j).symm hj2
      | succ k =>
        have hk' : done[k]? = some j := by simpa using hk
        have hu' : L[k]? = some u := by simpa using hu
        obtain ⟨o', g', q', b', f1, f2, f3, f4, f5, f6, f7⟩ := h.pend k j u hk' hj1 hu'
        refine ⟨o', g', q', b', f1, f2, by simpa using f3, by simpa using f4, by simpa using f5, f6, fun hb => ?_⟩
        rcases f7 hb with e | ⟨f', x', e5, e6⟩ | ⟨f', xs', x', m', e5, e6, e7, e8, e9⟩
        · exact .inl ⟨e.1, by simpa using e.2⟩
        · subst e5
          exact .inr (.inl ⟨f', x', rfl, by simpa using hre k j o' f' x' u hk' hj1 f1 f4 hu' e6⟩)
        · obtain ⟨p1, p2, p3⟩ := h.pa j e9
          exact .inr (.inr ⟨f', xs', x', m', e5, by simpa using e6, e7, by rw [(hA.stp.keep _ p2 p1).2]; exact e8, e9⟩)
    · intro j hj
      obtain ⟨p1, p2, p3⟩ := h.pa j hj
      exact ⟨(hA.stp.keep _ p2 p1).1, by have := hA.stp.nx; omega, p3⟩
    · unfold Act.done; rw [defers_put]; exact hA.dfr
  unfold wpOp
  simp only [ho]
  cases b with
  | false =>
    rw [if_neg (by rw [hwant]; decide)]
    have := next (.tup []) D H ι undef a.defers w ⟨.tup [] [] .nil, h.rl, .refl ι H, h.dfr⟩ fun k j o' f x u _ _ _ _ _ e => e
    rw [done_self] at this
    exact hK _ D H ι PA _ w h2 this
  | true =>
    rw [if_pos hwant]
    left
    refine exec_sound hE hC h.rl hlk h.dfr hc' h2 hne (fun v D' H' κ c S w' e1 e2 => ?_) (fun v H' κ c w' e1 e2 => ?_)
    · have e3 : reB T (v :: L) H' (rechecks E ops.toList mi (i :: done)) = true ∧ evCs call T cs (v :: L) D' H' = r := by
        cases hb : reB T (v :: L) H' (rechecks E ops.toList mi (i :: done)) with
        | true => rw [hb] at e1; exact ⟨rfl, e1⟩
        | false => rw [hb] at e1; exact absurd e1.symm hne
      refine hK v D' H' κ PA _ w' e3.2 (next v D' H' κ c S w' e2 fun k j o' f x u hk hj ho' hcj hu _ => ?_)
      have hbit : tb mi j = false := by
        rw [tb_eq]
        cases hbb : mi.testBit j with
        | false => rfl
        | true => exact absurd (hr j hbb) hj
      have hmem := rechecks_spec (E := E) (ops := ops.toList) (m := mi) (i :: done) 0 (k + 1) j o' f x (by simpa using hk) hbit (by rw [Array.getElem?_toList]; exact ho') (by simpa using hcj)
      obtain ⟨u', r1, r2⟩ := reB_spec e3.1 _ _ _ hmem
      have : u' = u := by
        rw [Nat.zero_add] at r1
        have r3 : L[k]? = some u' := by simpa using r1
        rw [hu] at r3; cases r3; rfl
      subst this
      simpa using r2
    · exact hp v D H' κ c a w' e1 e2.val ⟨h.size, fun t u ht hno => (h.old t u ht fun j _ p hp => hno j p hp).mono e2.stp.le⟩ ⟨e2.rl, h.stp.trans e2.stp, e2.dfr⟩

/-! ### the row's loud ones come in their row -/
theorem lor_false {dm i j : Nat} (h : (Nat.lor dm (Nat.pow 2 i)).testBit j = false) : dm.testBit j = false := by
  rw [lor_bit] at h
  simp only [Bool.or_eq_false_iff] at h
  exact h.1
theorem lor_false' {dm i j : Nat} (h : dm.testBit j = false) (hne : j ≠ i) : (Nat.lor dm (Nat.pow 2 i)).testBit j = false := by
  rw [lor_bit, h]
  simp [Ne.symm hne]

theorem chain1 {ops : List Oper} {n0 : Nat} (hlen : n0 = ops.length) : ∀ (n : Nat) (done : List Nat) (dm l : Nat) (r : List CO × List Nat), cDraw E ops (masks ops) (2 ^ n0 - 1) n done dm (some l) = some r →
    ∀ (i : Nat) (o : Oper) (m : Nat), ops[i]? = some o → (masks ops)[i]? = some m → loudOp E o.op = true → dm.testBit i = false → ∃ j, m.testBit j = true ∧ (j = l ∨ dm.testBit j = false)
  | 0, done, dm, l, r, h, i, o, m, ho, hm, hl, hd => by
    obtain ⟨e, _⟩ := cDraw_zero h
    have hi : i < n0 := by rw [hlen]; exact (List.getElem?_eq_some_iff.1 ho).1
    rw [e, Nat.testBit_two_pow_sub_one] at hd
    simp [hi] at hd
  | n + 1, done, dm, l, r, h, i, o, m, ho, hm, hl, hd => by
    rcases cDraw_succ h with ⟨q, p, hq, hs⟩ | ⟨_, q, mq, p, hq, hmq, hlast, hs⟩
    · obtain ⟨oq, mq, e1, e2, e3, e4, e5⟩ := pickQ_some hq
      have hne : i ≠ q := by
        intro e; subst e
        rw [ho] at e1; cases e1
        rw [hl] at e5; cases e5
      obtain ⟨cs, e6, e7⟩ := hs.rest
      obtain ⟨j, k1, k2⟩ := chain1 hlen n _ _ l _ e6 i o m ho hm hl (lor_false' hd hne)
      exact ⟨j, k1, k2.imp id lor_false⟩
    · obtain ⟨oq, mq', e1, e2, e3, e4, e5⟩ := pickQ_some hq
      by_cases hne : i = q
      · subst hne
        rw [hmq] at hm; cases hm
        exact ⟨l, hlast l rfl, .inl rfl⟩
      · obtain ⟨cs, e6, e7⟩ := hs.rest
        obtain ⟨j, k1, k2⟩ := chain1 hlen n _ _ q _ e6 i o m ho hm hl (lor_false' hd hne)
        refine ⟨j, k1, .inr ?_⟩
        rcases k2 with k2 | k2
        · rw [k2]; exact e3
        · exact lor_false k2

/-- Where a run stands, and what is left of the row. -/
structure NS (E : Env) (base : Nat) (w0 : World) (nt : Nat) (ops : Array Oper) (T : PT AV) (ι0 : Inj) (H0 : Hp) (call : CallT) (r : RO) (de : List Nat) (lis : Nat → Prop) (D : List DF) (n : Nat) (done : List Nat) (dm : Nat) (last : Option Nat) (L : List AV) (H : Hp) (ι : Inj) (PA : Nat → Prop) (bo : Nat → Pos) (cs : List CO) (a : Act) (w : World) : Prop where
  di : DI E base w0 nt ops T ι0 H0 D lis done L H ι PA bo a w
  dmk : ∀ j, dm.testBit j = true ↔ j ∈ done
  row : cDraw E ops.toList (masks ops.toList) (2 ^ ops.toList.length - 1) n done dm last = some (cs, de)
  ev : evCs call T cs L D H = r

variable {call : CallT} {r : RO} {de : List Nat} {n dm : Nat} {last : Option Nat} {cs : List CO}

theorem dm_step (h : ∀ j, dm.testBit j = true ↔ j ∈ done) (i : Nat) : ∀ j, (Nat.lor dm (Nat.pow 2 i)).testBit j = true ↔ j ∈ i :: done := by
  intro j
  rw [lor_bit]
  simp only [Bool.or_eq_true, decide_eq_true_eq, List.mem_cons, h j]
  constructor
  · rintro (h | h)
    · exact .inr h
    · exact .inl h.symm
  · rintro (h | h)
    · exact .inr h.symm
    · exact .inl h
theorem not_done (h : ∀ j, dm.testBit j = true ↔ j ∈ done) {i : Nat} (hi : dm.testBit i = false) : i ∉ done := fun e => by
  rw [(h i).2 e] at hi; cases hi
theorem bit_false (h : ∀ j, dm.testBit j = true ↔ j ∈ done) {i : Nat} (hi : i ∉ done) : dm.testBit i = false := by
  cases hb : dm.testBit i with
  | false => rfl
  | true => exact absurd ((h i).1 hb) hi

/-- Quiet ones are laid into the row until a loud one is next, or none. -/
theorem NS.advance (hr : r ≠ .no) : ∀ (n : Nat) (done : List Nat) (dm : Nat) (last : Option Nat) (L : List AV) (H : Hp) (PA : Nat → Prop) (bo : Nat → Pos) (cs : List CO),
    NS E base w0 nt ops T ι0 H0 call r de lis D n done dm last L H ι PA bo cs a w →
    ∃ n' done' dm' last' L' H' PA' bo' cs', NS E base w0 nt ops T ι0 H0 call r de lis D n' done' dm' last' L' H' ι PA' bo' cs' a w ∧ (n' = 0 ∨ pickQ E ops.toList (masks ops.toList) dm' false = none)
  | 0, done, dm, last, L, H, PA, bo, cs, h => ⟨0, done, dm, last, L, H, PA, bo, cs, h, .inl rfl⟩
  | n + 1, done, dm, last, L, H, PA, bo, cs, h => by
    rcases cDraw_succ h.row with ⟨i, p, hq, hs⟩ | ⟨hq, _⟩
    · obtain ⟨o, m, e1, e2, e3, e4, e5⟩ := pickQ_some hq
      rw [Array.getElem?_toList] at e1
      obtain ⟨cs', e6, e7⟩ := hs.rest
      obtain ⟨o', f1, f2, f3⟩ := cOne_inv hs.one
      rw [e1] at f1; cases f1
      have hev := h.ev
      have e7' : cs = mkCO p.1 p.2 [] :: cs' := e7
      rw [e7'] at hev
      obtain ⟨v, H', PA', bo', k1, k2⟩ := h.di.lay e1 e5 (not_done h.dmk e3) e2 (fun j hj => (h.dmk j).1 (e4 j hj)) f2 f3 hr hev
      exact NS.advance hr n (i :: done) _ last (v :: L) H' PA' bo' cs' ⟨k2, dm_step h.dmk i, e6, k1⟩
    · exact ⟨n + 1, done, dm, last, L, H, PA, bo, cs, h, .inr hq⟩

/-- Who waits for whom, in a run. -/
theorem ready_mask (h : DI E base w0 nt ops T ι0 H0 D lis done L H ι PA bo a w) {i mi : Nat} {o : Oper} (ho : ops[i]? = some o) (hm : (masks ops.toList)[i]? = some mi) (hr : ∀ e ∈ o.after, Region.binds .any e = true → lis e.on) :
    ∀ j, mi.testBit j = true → lis j := by
  intro j hj
  obtain ⟨e, he, hb, hor⟩ := (masks_spec (by rw [Array.getElem?_toList]; exact ho) hm j).1 hj
  have hl := hr e (by simpa using he) hb
  rcases hor with rfl | ⟨m', _, h1, h2⟩
  · exact hl
  · exact h.clo e.on m' j hl h1 h2
theorem mask_ready {i mi : Nat} {o : Oper} (ho : ops[i]? = some o) (hm : (masks ops.toList)[i]? = some mi) (hr : ∀ j, mi.testBit j = true → lis j) : ∀ e ∈ o.after, Region.binds .any e = true → lis e.on := by
  intro e he hb
  exact hr e.on ((masks_spec (by rw [Array.getElem?_toList]; exact ho) hm e.on).2 ⟨e, by simpa using he, hb, .inl rfl⟩)

/-- Where none may come, all is done. -/
theorem NS.finish (h : NS E base w0 nt ops T ι0 H0 call r de lis D n done dm last L H ι PA bo cs a w) (hN : n = 0 ∨ pickQ E ops.toList (masks ops.toList) dm false = none)
    (hno : ∀ (i : Nat) (o : Oper), ops[i]? = some o → ¬ lis i → (∀ e ∈ o.after, Region.binds .any e = true → lis e.on) → False) : r = .nrm L D H ∧ RInv nt ops ι T de L a := by
  have all : ∀ (t s : Nat), done.length ≤ s + t → ∀ i ∈ done.drop s, lis i := by
    intro t
    induction t with
    | zero => intro s hs i hi; rw [List.drop_eq_nil_of_le (by omega)] at hi; cases hi
    | succ t ih =>
      intro s hs i hi
      rcases Nat.lt_or_ge s done.length with hlt | hge
      · rw [List.drop_eq_getElem_cons hlt] at hi
        have ih' := ih (s + 1) (by omega)
        cases hi with
        | tail _ hi => exact ih' i hi
        | head =>
          have hk : done[s]? = some done[s] := List.getElem?_eq_getElem hlt
          obtain ⟨o, ho⟩ := h.di.lt done[s] (List.getElem_mem hlt)
          obtain ⟨m, hm⟩ := masks_some (ops := ops.toList) (by rw [Array.getElem?_toList]; exact ho)
          refine Classical.byContradiction fun hl => hno _ o ho hl (mask_ready ho hm fun j hj => ih' j (h.di.cdone s _ m j hk hm hj))
      · rw [List.drop_eq_nil_of_le hge] at hi; cases hi
  have all0 : ∀ i ∈ done, lis i := by simpa using all done.length 0 (by omega)
  have hn : n = 0 := by
    rcases hN with e | hq
    · exact e
    · cases n with
      | zero => rfl
      | succ n =>
        rcases cDraw_succ h.row with ⟨i, p, hq', _⟩ | ⟨_, i, m, p, hq', hm, _, _⟩
        · rw [hq] at hq'; cases hq'
        · obtain ⟨o, m', e1, e2, e3, e4, e5⟩ := pickQ_some hq'
          rw [Array.getElem?_toList] at e1
          exact (hno i o e1 (fun e => not_done h.dmk e3 (h.di.sub i e)) (mask_ready e1 e2 fun j hj => all0 j ((h.dmk j).1 (e4 j hj)))).elim
  subst hn
  obtain ⟨_, e⟩ := cDraw_zero h.row
  cases e
  refine ⟨h.ev.symm, h.di.size, h.di.len, fun k i o d v hk hi hd hv => h.di.val k i o d v hk (all0 i (List.mem_of_getElem? hk)) hi hd hv, fun t v ht hno' => h.di.old t v ht fun j hj p hp => hno' j (h.di.sub j hj) p hp⟩

theorem countP_lt (f g : Nat → Bool) (i : Nat) (hi : f i = true) (hg : g i = false) (hfg : ∀ j, g j = true → f j = true) : ∀ l : List Nat, i ∈ l → l.countP g < l.countP f
  | x :: l, h => by
    have mono : l.countP g ≤ l.countP f := List.countP_mono_left fun j _ hj => hfg j hj
    rw [List.countP_cons, List.countP_cons]
    by_cases hx : x = i
    · subst hx
      rw [if_pos hi, if_neg (by rw [hg]; decide)]
      omega
    · have hm : i ∈ l := by
        cases h with
        | head => exact absurd rfl hx
        | tail _ h => exact h
      have ih := countP_lt f g i hi hg hfg l hm
      have : (if g x = true then 1 else 0) ≤ (if f x = true then 1 else 0) := by
        split
        · rename_i hgx; rw [if_pos (hfg x hgx)]; exact Nat.le_refl _
        · exact Nat.zero_le _
      omega

/-- EVERY ORDER. -/
theorem draw_run (hE : EnvOk P E) (hC : CallOk P E base w0 call) (hO : OpsOk nt ops) (hW : DrawOk ops) (hr : r ≠ .no) {Q : Exit → Act → World → Prop}
    (hn : ∀ L' D' H' ι' a' w', r = .nrm L' D' H' → RInv nt ops ι' T de L' a' → AfterR E base w0 ι0 H0 D' H' ι' a'.defers w' → Q .normal a' w')
    (hp : ∀ v D' H' ι' c a' w', r = .pan v D' H' → VRel ι' v c → OldOk nt ops ι' T a' → AfterR E base w0 ι0 H0 D' H' ι' a'.defers w' → Q (.panic [{ v := c, recovered := false }]) a' w') :
    ∀ (fuel : Nat) (listed : Array Bool) (D : List DF) (n : Nat) (done : List Nat) (dm : Nat) (last : Option Nat) (L : List AV) (H : Hp) (ι : Inj) (PA : Nat → Prop) (bo : Nat → Pos) (cs : List CO) (a : Act) (w : World), listed.size = ops.size →
      (List.range ops.size).countP (fun i => !listed.getD i true) ≤ fuel → NS E base w0 nt ops T ι0 H0 call r de (fun j => listed.getD j false = true) D n done dm last L H ι PA bo cs a w → wpAny P .any ops Q fuel listed a w := by
  have fin : ∀ (listed : Array Bool) (D : List DF) (n : Nat) (done : List Nat) (dm : Nat) (last : Option Nat) (L : List AV) (H : Hp) (ι : Inj) (PA : Nat → Prop) (bo : Nat → Pos) (cs : List CO) (a : Act) (w : World), listed.size = ops.size →
      NS E base w0 nt ops T ι0 H0 call r de (fun j => listed.getD j false = true) D n done dm last L H ι PA bo cs a w → Region.ready .any ops listed = [] → Q .normal a w := by
    intro listed D n done dm last L H ι PA bo cs a w hsz h hrd
    obtain ⟨n', done', dm', last', L', H', PA', bo', cs', h', hN⟩ := NS.advance hr n done dm last L H PA bo cs h
    obtain ⟨e1, e2⟩ := h'.finish hN fun i o ho hl hdep => by
      have hi : i < listed.size := by rw [hsz]; exact (Array.getElem?_eq_some_iff.1 ho).1
      have hd0 : listed.getD i true = false := by
        have e1 : listed.getD i true = listed.getD i false := by simp [hi]
        rw [e1]
        exact Bool.eq_false_iff.2 hl
      have : i ∈ Region.ready .any ops listed := mem_ready.2 ⟨hd0, o, ho, hdep⟩
      rw [hrd] at this; cases this
    exact hn L' D H' ι a w e1 e2 ⟨h'.di.rl, h'.di.stp, h'.di.dfr⟩
  intro fuel
  induction fuel with
  | zero =>
    intro listed D n done dm last L H ι PA bo cs a w hsz hc h
    have hrd : Region.ready .any ops listed = [] := by
      refine List.eq_nil_iff_forall_not_mem.2 fun i hi => ?_
      obtain ⟨h0, o, ho, _⟩ := mem_ready.1 hi
      have hlt : i < ops.size := (Array.getElem?_eq_some_iff.1 ho).1
      have := List.countP_eq_zero.1 (Nat.le_zero.1 hc) i (List.mem_range.2 hlt)
      rw [h0] at this; exact this rfl
    exact ⟨hrd, fin listed D n done dm last L H ι PA bo cs a w hsz h hrd⟩
  | succ fuel ih =>
    intro listed D n done dm last L H ι PA bo cs a w hsz hc h
    refine ⟨fun hrd => fin listed D n done dm last L H ι PA bo cs a w hsz h hrd, fun i hi => ?_⟩
    obtain ⟨n', done', dm', last', L', H', PA', bo', cs', h', hN⟩ := NS.advance hr n done dm last L H PA bo cs h
    obtain ⟨h0, o, ho, hdep⟩ := mem_ready.1 hi
    have hlt : i < listed.size := by rw [hsz]; exact (Array.getElem?_eq_some_iff.1 ho).1
    have hnl : ¬ listed.getD i false = true := by
      intro hh
      have : listed.getD i true = listed.getD i false := by simp [hlt]
      rw [h0, hh] at this; cases this
    obtain ⟨mi, hm⟩ := masks_some (ops := ops.toList) (by rw [Array.getElem?_toList]; exact ho)
    have hmask := ready_mask h'.di ho hm hdep
    have hset : (fun j => (listed.setIfInBounds i true).getD j false = true) = (fun j => listed.getD j false = true ∨ j = i) := by
      funext j
      apply propext
      by_cases hji : j = i
      · subst hji
        simp [hlt]
      · rw [getD_set_ne false (Ne.symm hji)]
        simp [hji]
    have hcnt : (List.range ops.size).countP (fun j => !(listed.setIfInBounds i true).getD j true) ≤ fuel := by
      have := countP_lt (fun j => !listed.getD j true) (fun j => !(listed.setIfInBounds i true).getD j true) i (by rw [h0]; rfl) (by simp [hlt]) (fun j hj => by
        by_cases hji : j = i
        · subst hji; rw [h0]; rfl
        · rw [getD_set_ne true (Ne.symm hji)] at hj; exact hj) (List.range ops.size) (List.mem_range.2 (by rw [← hsz]; exact hlt))
      omega
    have hsz' : (listed.setIfInBounds i true).size = ops.size := by simp [hsz]
    by_cases hd : i ∈ done'
    · obtain ⟨k, hk⟩ := List.getElem?_of_mem hd
      refine h'.di.quiet hE hO hW hk hnl hm hmask fun κ PA'' a' w' hdi => ?_
      rw [← hset] at hdi
      exact ih _ D n' done' dm' last' L' H' κ PA'' bo' cs' a' w' hsz' hcnt ⟨hdi, h'.dmk, h'.row, h'.ev⟩
    · have hbit := bit_false h'.dmk hd
      have hall : ∀ j, mi.testBit j = true → dm'.testBit j = true := fun j hj => (h'.dmk j).2 (h'.di.sub j (hmask j hj))
      have ho' : ops.toList[i]? = some o := by rw [Array.getElem?_toList]; exact ho
      cases n' with
      | zero =>
        obtain ⟨e, _⟩ := cDraw_zero h'.row
        have hi' : i < ops.toList.length := (List.getElem?_eq_some_iff.1 ho').1
        rw [e, Nat.testBit_two_pow_sub_one] at hbit
        rw [decide_eq_true hi'] at hbit; cases hbit
      | succ n' =>
        have hq : pickQ E ops.toList (masks ops.toList) dm' false = none := hN.resolve_left (by omega)
        have hloud : loudOp E o.op = true := by
          cases hl : loudOp E o.op with
          | true => rfl
          | false => exact absurd hl (pickQ_none hq ho' hm hbit hall)
        rcases cDraw_succ h'.row with ⟨q, p, hq', _⟩ | ⟨_, q, mq, p, hq', hmq, hlast, hs⟩
        · rw [hq] at hq'; cases hq'
        · obtain ⟨cs'', e6, e7⟩ := hs.rest
          have hqi : i = q := by
            refine Classical.byContradiction fun hne => ?_
            obtain ⟨j, j1, j2⟩ := chain1 rfl n' _ _ q _ e6 i o mi ho' hm hloud (lor_false' hbit hne)
            have j3 := hall j j1
            rcases j2 with j2 | j2
            · subst j2
              obtain ⟨_, _, _, _, b3, _, _⟩ := pickQ_some hq'
              rw [j3] at b3; cases b3
            · rw [lor_false j2] at j3; cases j3
          subst hqi
          rw [hm] at hmq; cases hmq
          obtain ⟨o', f1, f2, f3⟩ := cOne_inv hs.one
          rw [ho] at f1; cases f1
          have hev := h'.ev
          have e7' : cs' = mkCO p.1 p.2 (rechecks E ops.toList mi (i :: done')) :: cs'' := e7
          rw [e7'] at hev
          refine h'.di.loud hE hC hO hW ho hd hm hmask f2 f3 hr hev hp fun v D'' H'' κ PA'' a' w' g1 g2 => ?_
          rw [← hset] at g2
          exact ih _ D'' n' (i :: done') _ (some i) (v :: L') H'' κ PA'' bo' cs'' a' w' hsz' hcnt ⟨g2, dm_step h'.dmk i, e6, g1⟩
end Go.Ev
