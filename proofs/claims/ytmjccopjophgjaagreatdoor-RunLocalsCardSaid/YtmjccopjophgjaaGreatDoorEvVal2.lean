/- The evaluator's operations that only reckon: each gives what the model gives. -/
import Derived.Test.YtmjccopjophgjaaGreatDoorEvVal
namespace Go.Ev
variable {P : Program} {E : Env} {ι : Inj} {w : World} {T : PT AV} {L : List AV} {lk : Look} {a : Act}

theorem opt_some_eq {α β : Type} {x : Option α} {s : α → Option β} {b : β} (h : opt x none s = some b) : ∃ y, x = some y ∧ s y = some b := opt_eq_some h
theorem cnd_some {β : Type} {c : Bool} {x : Option β} {b : β} (h : cnd c x none = some b) : c = true ∧ x = some b := by
  cases c with
  | true => exact ⟨rfl, h⟩
  | false => cases h
theorem cnd_some' {β : Type} {c : Bool} {x : Option β} {b : β} (h : cnd c none x = some b) : c = false ∧ x = some b := by
  cases c with
  | true => cases h
  | false => exact ⟨rfl, h⟩

/-- what a plain operation gives -/
noncomputable def pv (q : K) (T : PT AV) (L : List AV) : Option AV :=
  match q with
  | .p1 f x => f (x.ev T L)
  | .p2 f x y => f (x.ev T L) (y.ev T L)
  | .p3 f x y z => f (x.ev T L) (y.ev T L) (z.ev T L)
  | .pn f xs => f (evs T L xs)
  | _ => none
/-- The model's operation gives a value, and turns nothing. -/
def OpGives (P : Program) (ι : Inj) (w : World) (ρ : Operand → Value) (o : Oper) (v : AV) : Prop := ∃ c, (execOp ρ o).run P w = .ok (.value c) w ∧ VRel ι v c
theorem OpGives.of {ρ : Operand → Value} {o : Oper} {v : AV} {s : Sem Value} (h : Gives P ι w s v) (e : execOp ρ o = (do pure (.value (← s)))) : OpGives P ι w ρ o v := by
  obtain ⟨c, h1, h2⟩ := h
  exact ⟨c, by rw [e]; simp [h1], h2⟩

theorem K1_inv {x : Operand} {k : Opd → Option K} {q : K} (h : K1 E lk x k = some q) : ∃ y, E.opd lk x = some y ∧ k y = some q := opt_eq_some h
theorem K2_inv {x y : Operand} {k : Opd → Opd → Option K} {q : K} (h : K2 E lk x y k = some q) : ∃ u v, E.opd lk x = some u ∧ E.opd lk y = some v ∧ k u v = some q := by
  obtain ⟨u, h1, h2⟩ := opt_eq_some h
  obtain ⟨v, h3, h4⟩ := opt_eq_some h2
  exact ⟨u, v, h1, h3, h4⟩

/-! ### one by one -/
theorem pick_gives {c x y : AV} {cc cx cy : Value} (hc : VRel ι c cc) (hx : VRel ι x cx) (hy : VRel ι y cy) {v : AV} (h : avPick c x y = some v) :
    Gives P ι w (do pure (if ← asBool cc then cx else cy)) v := by
  unfold avPick at h
  split at h
  · rename_i t
    have := bool_rel hc; subst this
    cases t with
    | true => rw [show (Bool.rec (avId y) (avId x) true : Option AV) = avId x from rfl, avId_eq] at h; cases h; exact ⟨cx, by simp [asBool], hx⟩
    | false => rw [show (Bool.rec (avId y) (avId x) false : Option AV) = avId y from rfl, avId_eq] at h; cases h; exact ⟨cy, by simp [asBool], hy⟩
  · cases h
theorem nil_gives {x : AV} {cx : Value} (hx : VRel ι x cx) {v : AV} (h : avNC x = some v) {o : Oper} {ρ : Operand → Value} {y : Operand} (ho : o.op = .nilCheck y) (hr : ρ y = cx) : OpGives P ι w ρ o v := by
  obtain ⟨dst, op, type, pos, after, guard⟩ := o
  simp only at ho
  subst ho
  unfold avNC at h
  split at h
  · rename_i b o'
    cases h
    cases hx with
    | ptr _ _ r d z hi =>
      refine ⟨.pointer (some ⟨r, d + o', none⟩), ?_, .ptr b o' r d z hi⟩
      simp only [execOp, hr, Sem.run_pure]
  · cases h
    cases hx with
    | fn _ _ _ A C ha hc =>
      refine ⟨_, ?_, .fn _ _ _ A C ha hc⟩
      simp only [execOp, hr, Sem.run_pure]
  · cases h
theorem lenL_gives (hE : EnvOk P E) {t e : Nat} (hd : E.und t = some (.slice e)) {x : AV} {cx : Value} (hx : VRel ι x cx) {v : AV} (h : avLenL x = some v) {ty : TypeId} :
    Gives P ι w (Builtin.len_ #[t] ty #[cx]) v := by
  have hu := und_run (P := P) (w := w) hE hd
  unfold avLenL at h
  split at h
  · cases h; cases hx; exact ⟨.int .i64 0, by simp [Builtin.len_, hu, goInt], .int _ _⟩
  · rename_i b o n c; cases h; cases hx <;> exact ⟨.int .i64 (Int.ofNat _), by simp [Builtin.len_, hu, goInt], .int _ _⟩
  · cases h
    cases hx with
    | slq _ _ n c r d Z hi hm hc hz => exact ⟨.int .i64 (Int.ofNat n), by simp [Builtin.len_, hu, goInt], .nle _ _ (by simp only [Int.ofNat_eq_natCast]; omega) (by simp only [Int.ofNat_eq_natCast]; omega)⟩
  · cases h
theorem lenT_gives (hE : EnvOk P E) {t : Nat} (hd : E.und t = some .string) {x : AV} {cx : Value} (hx : VRel ι x cx) {v : AV} (h : avLenT x = some v) {ty : TypeId} :
    Gives P ι w (Builtin.len_ #[t] ty #[cx]) v := by
  have hu := und_run (P := P) (w := w) hE hd
  unfold avLenT at h
  split at h
  · rename_i l
    rw [fNat_eq] at h
    cases h
    obtain ⟨s, rfl, hs⟩ := str_rel hx
    refine ⟨.int .i64 s.size, by simp [Builtin.len_, hu, goInt], ?_⟩
    rw [size_str hs, len_eq]
    exact .int _ _
  · rename_i l
    rw [fNat_eq] at h
    cases h
    cases hx with
    | stk _ s hs hk =>
      refine ⟨.int .i64 s.size, by simp [Builtin.len_, hu, goInt], ?_⟩
      have e : s.size = (tksB ι.s (l.take (len l))).length := by
        rw [len_eq, List.take_length, ← hs, List.length_map, Array.length_toList]; rfl
      exact .pos l (len l) s.size e (by rw [len_eq]; exact Nat.le_refl _) hk
  · cases h
theorem max_gives {xs : List AV} {cs : List Value} (hx : LRel ι xs cs) {v : AV} (h : avMax xs = some v) {ts : Array TypeId} {ty : TypeId} : Gives P ι w (Builtin.max_ ts ty cs.toArray) v := by
  unfold avMax at h
  split at h
  · rename_i k a k' b
    obtain ⟨hk, h2⟩ := cnd_some h
    have := kbeq_eq hk; subst this
    cases h2
    cases hx with
    | cons _ _ _ _ h1 t =>
      cases t with
      | cons _ _ _ _ h2 t =>
        cases t
        have e1 := int_rel h1; have e2 := int_rel h2
        subst e1; subst e2
        refine ⟨.int k (if b > a then b else a), by simp [Builtin.max_, Builtin.max2], ?_⟩
        rw [ile_eq, cnd_eq]
        have : (if decide (b ≤ a) = true then a else b) = (if b > a then b else a) := by
          by_cases hb : b ≤ a
          · rw [if_pos (by simpa using hb), if_neg (by omega)]
          · rw [if_neg (by simpa using hb), if_pos (by omega)]
        rw [this]
        exact .int _ _
  · cases h
theorem conv_gives (hE : EnvOk P E) {s t : Nat} {ds : TypeDesc} {k : IntKind} (hs : E.und s = some ds) (ht : E.und t = some (.int k)) {x : AV} {cx : Value} (hx : VRel ι x cx) {v : AV} (h : avConv k x = some v) :
    Gives P ι w (convert s t cx) v := by
  have h1 := und_run (P := P) (w := w) hE hs
  have h2 := und_run (P := P) (w := w) hE ht
  unfold avConv at h
  split at h
  · rw [vI_eq] at h; cases h
    have e := int_rel hx; subst e
    rw [wr_eq]
    exact ⟨_, by simp [convert, h1, h2, Conv.intToInt], .int _ _⟩
  · obtain ⟨l, n, y, rfl, g1, g2⟩ := sy_rel hx h
    have e : y = .int k (wr k n) := g2
    subst e
    rw [wr_eq] at g1
    exact ⟨_, by simp [convert, h1, h2, Conv.intToInt], g1⟩
  · rename_i i tb
    obtain ⟨ho, rfl⟩ := at_rel hx
    obtain ⟨r, g1, g2⟩ := atL_some ho h
    have g3 : AtV.av ι.s r = .int k (wr k (ι.s i).2) := (Option.some.inj g1).symm
    refine ⟨.int k (wr k (ι.s i).2), by rw [wr_eq]; simp [convert, h1, h2, Conv.intToInt], at_lift ho g2 ?_⟩
    rw [g3]; exact .int _ _
  · cases h
theorem convS_gives (hE : EnvOk P E) {s t : Nat} (hs : E.und s = some .string) (ht : E.und t = some .string) {x : AV} {cx : Value} (hx : VRel ι x cx) {v : AV} (h : avStr x = some v) :
    Gives P ι w (convert s t cx) v := by
  have h1 := und_run (P := P) (w := w) hE hs
  have h2 := und_run (P := P) (w := w) hE ht
  unfold avStr at h
  split at h
  · cases h
    obtain ⟨u, rfl, hu⟩ := str_rel hx
    exact ⟨.string u, by simp [convert, h1, h2], .str _ _ hu⟩
  · cases h
theorem ifc_gives (hE : EnvOk P E) {t : Nat} {d : TypeDesc} (hd : E.und t = some d) (hn : notIfc d = true) {x : AV} {cx : Value} (hx : VRel ι x cx) {v : AV} (h : avIfc t x = some v) :
    Gives P ι w (Instr.makeInterface t cx) v := by
  cases h
  refine ⟨.iface t cx, ?_, .ifc t x cx hx⟩
  simp only [Instr.makeInterface, Sem.run_bind, und_run (P := P) (w := w) hE hd, Result.andThen_ok]
  cases d <;> first | rfl | (exact absurd hn Bool.false_ne_true)
theorem mkf_gives {f : Fn} {xs cs : List Operand} {ρ : Operand → Value} {vs : List AV} (hx : LRel ι vs ((xs ++ cs).map ρ)) {v : AV} (h : mkfF f xs.length vs = some v) :
    Gives P ι w (Instr.makeFunc f (xs.map ρ).toArray (cs.map ρ).toArray) v := by
  obtain ⟨p, h1, h2⟩ := opt_eq_some h
  obtain ⟨q, h3, h4⟩ := opt_eq_some h2
  cases h4
  have hle : xs.length ≤ vs.length := by rw [hx.length]; simp
  rw [take_eq, if_pos hle] at h1
  rw [drop_eq, if_pos hle] at h3
  cases h1
  cases h3
  refine ⟨_, rfl, ?_⟩
  have e1 := hx.take xs.length
  have e2 := hx.drop xs.length
  rw [List.map_append] at e1 e2
  rw [List.take_left' (by simp)] at e1
  rw [List.drop_left' (by simp)] at e2
  exact .fn f _ _ _ _ e1 e2
theorem add_none (r o n : Nat) : (⟨r, o, none⟩ : Addr).add n = ⟨r, o + n, none⟩ := by
  unfold Addr.add
  split
  · rename_i h; subst h; rfl
  · rfl
theorem fieldOf_inv {s f : Nat} {fd : Field} (h : fieldOf E s f = some fd) : ∃ fs, E.und s = some (.struct fs) ∧ fs[f]? = some fd := by
  obtain ⟨d, h1, h2⟩ := opt_eq_some h
  split at h2
  · rename_i fs
    rw [nth_eq] at h2
    exact ⟨fs, h1, by simpa using h2⟩
  · cases h2
theorem fa_gives (hE : EnvOk P E) {s f n : Nat} {fd : Field} (hf : fieldOf E s f = some fd) (hn : E.size fd.type = some n) (hz : Nat.beq n 0 = false) {x : AV} {cx : Value} (hx : VRel ι x cx) {v : AV} (h : avFA fd.offset x = some v) :
    Gives P ι w (Instr.fieldAt s cx f) v := by
  obtain ⟨fs, h1, h2⟩ := fieldOf_inv hf
  unfold avFA at h
  split at h
  · rename_i b o
    rw [fNat_eq] at h
    cases h
    cases hx with
    | ptr _ _ r d z hi =>
      have hz' : ¬ n = 0 := by intro e; subst e; exact absurd hz (by decide)
      refine ⟨.pointer (some ⟨r, d + (o + fd.offset), none⟩), ?_, .ptr b _ r d z hi⟩
      simp [Instr.fieldAt, und_run (P := P) (w := w) hE h1, h2, Instr.sureAddr, fieldPlace, size_run (P := P) (w := w) hE hn, hz', add_none, Nat.add_assoc]
  · cases h
theorem field_gives (hE : EnvOk P E) {s f n : Nat} {g : Bool} {fd : Field} (hf : fieldOf E s f = some fd) (hn : E.size fd.type = some n) (hg : E.isAgg fd.type = some g) {x : AV} {cx : Value} (hx : VRel ι x cx) {v : AV}
    (h : avField fd.offset n g x = some v) : Gives P ι w (Instr.field s cx f) v := by
  obtain ⟨fs, h1, h2⟩ := fieldOf_inv hf
  unfold avField at h
  split at h
  · rename_i l
    cases hx with
    | agg _ C hc =>
      cases g with
      | true =>
        replace h : opt (sub fd.offset n l) none (fun r => some (.agg r)) = some v := h
        obtain ⟨r, h3, h4⟩ := opt_eq_some h
        cases h4
        obtain ⟨h5, h6⟩ := sub_eq h3
        refine ⟨.agg ((C.drop fd.offset).take n).toArray, ?_, ?_⟩
        · simp [Instr.field, und_run (P := P) (w := w) hE h1, h2, asAgg, part, isAgg_run (P := P) (w := w) hE hg, size_run (P := P) (w := w) hE hn]
        · rw [h6]; exact .agg _ _ ((hc.drop _).take _)
      | false =>
        replace h : nth fd.offset l = some v := h
        rw [nth_eq] at h
        obtain ⟨c, h3, h4⟩ := hc.get h
        refine ⟨c, ?_, h4⟩
        simp [Instr.field, und_run (P := P) (w := w) hE h1, h2, asAgg, part, isAgg_run (P := P) (w := w) hE hg, h3]
  · cases h
theorem ia_gives (hE : EnvOk P E) {t e n : Nat} (hd : E.und t = some (.slice e)) (hn : E.size e = some n) {x i : AV} {cx ci : Value} (hx : VRel ι x cx) (hi : VRel ι i ci) {v : AV} (h : avIA n x i = some v) :
    Gives P ι w (Instr.indexAt t cx ci) v := by
  have hu := und_run (P := P) (w := w) hE hd
  have hs := size_run (P := P) (w := w) hE hn
  unfold avIA at h
  split at h
  · rename_i b o q c k m
    obtain ⟨h1, h2⟩ := cnd_some h
    rw [fNat_eq] at h2
    cases h2
    have h1' : m < q := Nat.le_of_ble_eq_true h1
    have e := int_rel hi; subst e
    have hb : (0 ≤ Int.ofNat m ∧ Int.ofNat m < (q : Int)) := ⟨by simp, by simp only [Int.ofNat_eq_natCast]; omega⟩
    have fin : ∀ (r d z c' : Nat), ι b = some (r, d, z) → Gives P ι w (Instr.indexAt t (.slice (some ⟨r, d + o, none⟩) q c') (.int k (Int.ofNat m))) (.ptr b (o + m * n)) := by
      intro r d z c' hr
      refine ⟨.pointer (some ⟨r, d + (o + m * n), none⟩), ?_, .ptr b _ r d z hr⟩
      simp only [Instr.indexAt, asIntOf, Sem.run_bind, Sem.run_pure, Result.andThen_ok, hu]
      rw [if_pos hb]
      simp [hs, add_none, Nat.add_assoc]
    cases hx with
    | sl _ _ _ c' r d z hr => exact fin r d z c' hr
    | slu _ _ _ c' r d z e hr hc hz => exact fin r d z c' hr
    | slv _ _ r d z a _ hr _ => omega
  · cases h
theorem iaa_gives (hE : EnvOk P E) {t len e n : Nat} (hd : E.und t = some (.array len e)) (hn : E.size e = some n) {x i : AV} {cx ci : Value} (hx : VRel ι x cx) (hi : VRel ι i ci) {v : AV} (h : avIAA len n x i = some v) :
    Gives P ι w (Instr.indexAt t cx ci) v := by
  have hu := und_run (P := P) (w := w) hE hd
  have hs := size_run (P := P) (w := w) hE hn
  unfold avIAA at h
  split at h
  · rename_i b o k m
    obtain ⟨h1, h2⟩ := cnd_some h
    rw [fNat_eq] at h2
    cases h2
    have h1' : m < len := Nat.le_of_ble_eq_true h1
    have e := int_rel hi; subst e
    have hb : (0 ≤ Int.ofNat m ∧ Int.ofNat m < (len : Int)) := ⟨by simp, by simp only [Int.ofNat_eq_natCast]; omega⟩
    cases hx with
    | ptr _ _ r d z hr =>
      refine ⟨.pointer (some ⟨r, d + (o + m * n), none⟩), ?_, .ptr b _ r d z hr⟩
      simp only [Instr.indexAt, asIntOf, Sem.run_bind, Sem.run_pure, Result.andThen_ok, hu, Instr.sureAddr]
      rw [if_pos hb]
      simp [hs, add_none, Nat.add_assoc]
  · cases h
theorem is_core (hE : EnvOk P E) {t : Nat} (hd : E.und t = some .string) {s : ByteArray} {m : Nat} {b : UInt8} {k : IntKind} (h3 : s.data.toList[m]? = some b) : (Instr.index t (.string s) (.int k (.ofNat m))).run P w = .ok (.int .u8 b.toNat) w := by
  have hu := und_run (P := P) (w := w) hE hd
  have hm : s[m]? = some b := by
    have : m < s.data.toList.length := by
      rcases Nat.lt_or_ge m s.data.toList.length with h' | h'
      · exact h'
      · rw [List.getElem?_eq_none h'] at h3; cases h3
    have hlt : m < s.size := by
      show m < s.data.size
      rw [← Array.length_toList]; exact this
    rw [getElem?_pos s m hlt]
    rw [List.getElem?_eq_getElem this] at h3
    exact h3
  have e : (if 0 ≤ Int.ofNat m then s[(Int.ofNat m).toNat]? else none) = some b := by
    rw [if_pos (show (0 : Int) ≤ Int.ofNat m from Int.natCast_nonneg m)]; exact hm
  simp only [Instr.index, asIntOf, Sem.run_bind, Sem.run_pure, Result.andThen_ok, hu, e]
theorem tk_at {σ : Nat → IntKind × Int} {l : List Tk} {k : Nat} {t : Tk} {x : Nat} (h : l[k]? = some t) (h1 : t.bs σ = [x]) : (tksB σ l)[(tksB σ (l.take k)).length]? = some x := by
  have hk : k < l.length := (List.getElem?_eq_some_iff.1 h).1
  have e : l = l.take k ++ t :: l.drop (k + 1) := by
    rw [List.getElem?_eq_getElem hk] at h
    cases h
    have : l[k] :: l.drop (k + 1) = l.drop k := (List.drop_eq_getElem_cons hk).symm
    rw [this, List.take_append_drop]
  have e2 : tksB σ l = tksB σ (l.take k) ++ (x :: tksB σ (l.drop (k + 1))) := by
    conv => lhs; rw [e]
    rw [tksB_app]
    congr 1
    have : tksB σ (t :: l.drop (k + 1)) = t.bs σ ++ tksB σ (l.drop (k + 1)) := by simp [tksB]
    rw [this, h1]; rfl
  rw [e2, List.getElem?_append_right (Nat.le_refl _), Nat.sub_self]; rfl
theorem is_gives (hE : EnvOk P E) {t : Nat} (hd : E.und t = some .string) {x i : AV} {cx ci : Value} (hx : VRel ι x cx) (hi : VRel ι i ci) {v : AV} (h : avIS x i = some v) :
    Gives P ι w (Instr.index t cx ci) v := by
  unfold avIS at h
  split at h
  · rename_i l l' k
    replace h := cndN_some h
    obtain ⟨h0, h⟩ := h
    obtain rfl := tksEq_eq h0
    obtain ⟨c, h1, h2⟩ := opt_eq_some h
    rw [nth_eq] at h1
    cases hx with
    | stk _ s hs hk =>
      cases hi with
      | pos _ _ n hn hl _ =>
        have hc : c.ok ι.s := hk.1 c (List.mem_of_getElem? h1)
        have fin : ∀ x : Nat, c.bs ι.s = [x] → ∃ b : UInt8, b.toNat = x ∧ (Instr.index t (.string s) (.int .i64 n)).run P w = .ok (.int .u8 b.toNat) w := by
          intro x hx
          have h3 := tk_at h1 hx
          rw [← hs, ← hn, List.getElem?_map, Option.map_eq_some_iff] at h3
          obtain ⟨b, h4, h5⟩ := h3
          exact ⟨b, h5, is_core hE hd h4⟩
        cases c with
        | b m =>
          cases h2
          obtain ⟨b, e1, e2⟩ := fin m rfl
          refine ⟨_, e2, ?_⟩
          rw [e1]
          exact .int _ _
        | a i tb =>
          cases h2
          obtain ⟨k1, k2, k3, k4⟩ := hc
          obtain ⟨b, e1, e2⟩ := fin _ rfl
          refine ⟨_, e2, .at i tb .u8 _ k1 ?_⟩
          have : (ι.s i).2 = (b.toNat : Int) := by rw [e1]; omega
          rw [← this, ← k2]
        | q i tb => cases h2
        | o i => cases h2
  · rename_i l k m _
    obtain ⟨c, h1, h2⟩ := opt_eq_some h
    cases h2
    rw [nth_eq] at h1
    obtain ⟨s, rfl, hs⟩ := str_rel hx
    have e := int_rel hi; subst e
    rw [← hs, List.getElem?_map, Option.map_eq_some_iff] at h1
    obtain ⟨b, h3, h4⟩ := h1
    subst h4
    exact ⟨.int .u8 b.toNat, is_core hE hd h3, .int _ _⟩
  · cases h
theorem ext_gives {i : Nat} {x : AV} {cx : Value} (hx : VRel ι x cx) {v : AV} (h : avExt i x = some v) : Gives P ι w (Instr.extract cx i) v := by
  unfold avExt at h
  split at h
  · cases hx with
    | tup _ C hc =>
      rw [nth_eq] at h
      obtain ⟨c, h3, h4⟩ := hc.get h
      exact ⟨c, by simp [Instr.extract, h3], h4⟩
  · cases h
theorem ta_gives (hE : EnvOk P E) {xt t : Nat} {d : TypeDesc} {ok : Bool} {z : AV} (hd : E.und t = some d) (hn : notIfc d = true) (hz : E.zero t = some z) {x : AV} {cx : Value} (hx : VRel ι x cx) {v : AV} (h : avTA t ok z x = some v) :
    Gives P ι w (Instr.typeAssert cx xt t ok) v := by
  have hu := und_run (P := P) (w := w) hE hd
  obtain ⟨zc, hz1, hz2⟩ := zero_run (P := P) (ι := ι) (w := w) hE hz
  have tr : VRel ι (.tup [z, .bool false]) (.tuple #[zc, .bool false]) := .tup _ [zc, .bool false] (.cons _ _ _ _ hz2 (.cons _ _ _ _ (.bool _) .nil))
  unfold avTA at h
  split at h
  · rename_i u y
    cases hx with
    | ifc _ _ cy hy =>
      by_cases hb : Nat.beq u t = true
      · rw [hb, cnd_true] at h
        have hut := Nat.eq_of_beq_eq_true hb
        subst hut
        cases ok with
        | true =>
          cases h
          refine ⟨.tuple #[cy, .bool true], ?_, .tup _ [cy, .bool true] (.cons _ _ _ _ hy (.cons _ _ _ _ (.bool _) .nil))⟩
          simp only [Instr.typeAssert, Sem.run_bind, hu, Result.andThen_ok]
          cases d <;> first | (exact absurd hn Bool.false_ne_true) | simp
        | false =>
          rw [cnd_false, avId_eq] at h
          cases h
          refine ⟨cy, ?_, hy⟩
          simp only [Instr.typeAssert, Sem.run_bind, hu, Result.andThen_ok]
          cases d <;> first | (exact absurd hn Bool.false_ne_true) | simp
      · have hb' : Nat.beq u t = false := eq_false_of_ne_true hb
        rw [hb', cnd_false] at h
        cases ok with
        | false => cases h
        | true =>
          cases h
          refine ⟨_, ?_, tr⟩
          have hne : ¬ u = t := fun e => hb (by rw [e]; exact Nat.beq_refl t)
          simp only [Instr.typeAssert, Sem.run_bind, hu, Result.andThen_ok]
          cases d <;> first | (exact absurd hn Bool.false_ne_true) | simp [hne, hz1]
  · cases hx
    cases ok with
    | false => cases h
    | true =>
      cases h
      refine ⟨_, ?_, tr⟩
      simp only [Instr.typeAssert, Sem.run_bind, hu, Result.andThen_ok]
      cases d <;> first | (exact absurd hn Bool.false_ne_true) | simp [hz1]
  · cases h
theorem min_gives {xs : List AV} {cs : List Value} (hx : LRel ι xs cs) {v : AV} (h : avMin xs = some v) {ts : Array TypeId} {ty : TypeId} : Gives P ι w (Builtin.min_ ts ty cs.toArray) v := by
  unfold avMin at h
  split at h
  · rename_i k a k' b
    obtain ⟨hk, h2⟩ := cnd_some h
    have := kbeq_eq hk; subst this
    cases h2
    cases hx with
    | cons _ _ _ _ h1 t =>
      cases t with
      | cons _ _ _ _ h2 t =>
        cases t
        have e1 := int_rel h1; have e2 := int_rel h2
        subst e1; subst e2
        refine ⟨.int k (if b < a then b else a), by simp [Builtin.min_, Builtin.min2], ?_⟩
        rw [ile_eq, cnd_eq]
        have : (if decide (a ≤ b) = true then a else b) = (if b < a then b else a) := by
          by_cases hb : a ≤ b
          · rw [if_pos (by simpa using hb), if_neg (by omega)]
          · rw [if_neg (by simpa using hb), if_pos (by omega)]
        rw [this]
        exact .int _ _
  · cases h
end Go.Ev
