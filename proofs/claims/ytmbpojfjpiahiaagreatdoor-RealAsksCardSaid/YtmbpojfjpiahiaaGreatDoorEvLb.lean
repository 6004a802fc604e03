/- The evaluator's operations that only reckon: each gives what the model gives. -/
import Derived.Test.YtmbpojfjpiahiaaGreatDoorEvLa
import Derived.Lib.Strings
import Derived.Conc.SmallLaws
import Derived.MapKept
import Derived.Laws.BytesString
import Derived.Deep.MidRow
import Derived.Deep.Upon

namespace Go.Ev
variable {P : Program} {E : Env} {ι : Inj} {w : World} {T : PT AV} {L : List AV} {lk : Look} {a : Act}

theorem opt_some_eq {α β : Type} {x : Option α} {s : α → Option β} {b : β} (h : opt x none s = some b) : ∃ y, x = some y ∧ s y = some b := opt_eq_some h
theorem cnd_some {β : Type} {c : Bool} {x : Option β} {b : β} (h : cnd c x none = some b) : c = true ∧ x = some b := by
  cases c with
  | true => exact ⟨rfl, h⟩
  | false => cases h
theorem cnd_some' {β : Type} {c : Bool} {x : Option β} {b : β} (h : cnd c none x = some b) : c = false ∧ x = some b := by
  cases c with
  | true => cases h
  | false => exact ⟨rfl, h⟩

noncomputable def pv (q : K) (T : PT AV) (L : List AV) : Option AV :=
  match q with
  | .p1 f x => f (x.ev T L)
  | .p2 f x y => f (x.ev T L) (y.ev T L)
  | .p3 f x y z => f (x.ev T L) (y.ev T L) (z.ev T L)
  | .pn f xs => f (evs T L xs)
  | _ => none
def OpGives (P : Program) (ι : Inj) (w : World) (ρ : Operand → Value) (o : Oper) (v : AV) : Prop := ∃ c, (execOp ρ o).run P w = .ok (.value c) w ∧ VRel ι v c
theorem OpGives.of {ρ : Operand → Value} {o : Oper} {v : AV} {s : Sem Value} (h : Gives P ι w s v) (e : execOp ρ o = (do pure (.value (← s)))) : OpGives P ι w ρ o v := by
  obtain ⟨c, h1, h2⟩ := h
  exact ⟨c, by rw [e]; simp [h1], h2⟩

theorem K1_inv {x : Operand} {k : Opd → Option K} {q : K} (h : K1 E lk x k = some q) : ∃ y, E.opd lk x = some y ∧ k y = some q := opt_eq_some h
theorem K2_inv {x y : Operand} {k : Opd → Opd → Option K} {q : K} (h : K2 E lk x y k = some q) : ∃ u v, E.opd lk x = some u ∧ E.opd lk y = some v ∧ k u v = some q := by
  obtain ⟨u, h1, h2⟩ := opt_eq_some h
  obtain ⟨v, h3, h4⟩ := opt_eq_some h2
  exact ⟨u, v, h1, h3, h4⟩

theorem pick_gives {c x y : AV} {cc cx cy : Value} (hc : VRel ι c cc) (hx : VRel ι x cx) (hy : VRel ι y cy) {v : AV} (h : avPick c x y = some v) :
    Gives P ι w (do pure (if ← asBool cc then cx else cy)) v := by
  unfold avPick at h
  split at h
  · rename_i t
    have := bool_rel hc; subst this
    cases t with
    | true => rw [show (Bool.rec (avId y) (avId x) true : Option AV) = avId x from rfl, avId_eq] at h; cases h; exact ⟨cx, by simp [asBool], hx⟩
    | false => rw [show (Bool.rec (avId y) (avId x) false : Option AV) = avId y from rfl, avId_eq] at h; cases h; exact ⟨cy, by simp [asBool], hy⟩
  · cases h
theorem nil_gives {x : AV} {cx : Value} (hx : VRel ι x cx) {v : AV} (h : avNC x = some v) {o : Oper} {ρ : Operand → Value} {y : Operand} (ho : o.op = .nilCheck y) (hr : ρ y = cx) : OpGives P ι w ρ o v := by
  obtain ⟨dst, op, type, pos, after, guard⟩ := o
  simp only at ho
  subst ho
  unfold avNC at h
  split at h
  · rename_i b o'
    cases h
    cases hx with
    | ptr _ _ r d z hi =>
      refine ⟨.pointer (some ⟨r, d + o', none⟩), ?_, .ptr b o' r d z hi⟩
      simp only [execOp, hr, Sem.run_pure]
  · cases h
    cases hx with
    | fn _ _ _ A C ha hc =>
      refine ⟨_, ?_, .fn _ _ _ A C ha hc⟩
      simp only [execOp, hr, Sem.run_pure]
  · cases h
theorem lenL_gives (hE : EnvOk P E) {t e : Nat} (hd : E.und t = some (.slice e)) {x : AV} {cx : Value} (hx : VRel ι x cx) {v : AV} (h : avLenL x = some v) {ty : TypeId} :
    Gives P ι w (Builtin.len_ #[t] ty #[cx]) v := by
  have hu := und_run (P := P) (w := w) hE hd
  unfold avLenL at h
  split at h
  · cases h; cases hx; exact ⟨.int .i64 0, by simp [Builtin.len_, hu, goInt], .int _ _⟩
  · rename_i b o n c; cases h; cases hx <;> exact ⟨.int .i64 (Int.ofNat _), by simp [Builtin.len_, hu, goInt], .int _ _⟩
  · cases h
    cases hx with
    | slq _ _ n c r d Z hi hm hc hz => exact ⟨.int .i64 (Int.ofNat n), by simp [Builtin.len_, hu, goInt], .nle _ _ (by simp only [Int.ofNat_eq_natCast]; omega) (by simp only [Int.ofNat_eq_natCast]; omega)⟩
  · cases h
    cases hx with
    | sln _ _ _ _ n c r d Z hb ho hi hc hz he => exact ⟨.int .i64 (Int.ofNat n), by simp [Builtin.len_, hu, goInt], .at _ _ _ _ ho hi⟩
  · cases h
theorem lenT_gives (hE : EnvOk P E) {t : Nat} (hd : E.und t = some .string) {x : AV} {cx : Value} (hx : VRel ι x cx) {v : AV} (h : avLenT x = some v) {ty : TypeId} :
    Gives P ι w (Builtin.len_ #[t] ty #[cx]) v := by
  have hu := und_run (P := P) (w := w) hE hd
  unfold avLenT at h
  split at h
  · rename_i l
    rw [fNat_eq] at h
    cases h
    obtain ⟨s, rfl, hs⟩ := str_rel hx
    refine ⟨.int .i64 s.size, by simp [Builtin.len_, hu, goInt], ?_⟩
    rw [size_str hs, len_eq]
    exact .int _ _
  · rename_i l
    rw [fNat_eq] at h
    cases h
    cases hx with
    | stk _ s hs hk =>
      refine ⟨.int .i64 s.size, by simp [Builtin.len_, hu, goInt], ?_⟩
      have e : s.size = (tksB ι.s (l.take (len l))).length := by
        rw [len_eq, List.take_length, ← hs, List.length_map, Array.length_toList]; rfl
      exact .pos l (len l) s.size e (by rw [len_eq]; exact Nat.le_refl _) hk
  · cases h
theorem max_gives {xs : List AV} {cs : List Value} (hx : LRel ι xs cs) {v : AV} (h : avMax xs = some v) {ts : Array TypeId} {ty : TypeId} : Gives P ι w (Builtin.max_ ts ty cs.toArray) v := by
  unfold avMax at h
  split at h
  · rename_i k a k' b
    obtain ⟨hk, h2⟩ := cnd_some h
    have := kbeq_eq hk; subst this
    cases h2
    cases hx with
    | cons _ _ _ _ h1 t =>
      cases t with
      | cons _ _ _ _ h2 t =>
        cases t
        have e1 := int_rel h1; have e2 := int_rel h2
        subst e1; subst e2
        refine ⟨.int k (if b > a then b else a), by simp [Builtin.max_, Builtin.max2], ?_⟩
        rw [ile_eq, cnd_eq]
        have : (if decide (b ≤ a) = true then a else b) = (if b > a then b else a) := by
          by_cases hb : b ≤ a
          · rw [if_pos (by simpa using hb), if_neg (by omega)]
          · rw [if_neg (by simpa using hb), if_pos (by omega)]
        rw [this]
        exact .int _ _
  · cases h
theorem conv_gives (hE : EnvOk P E) {s t : Nat} {ds : TypeDesc} {k : IntKind} (hs : E.und s = some ds) (ht : E.und t = some (.int k)) {x : AV} {cx : Value} (hx : VRel ι x cx) {v : AV} (h : avConv k x = some v) :
    Gives P ι w (convert s t cx) v := by
  have h1 := und_run (P := P) (w := w) hE hs
  have h2 := und_run (P := P) (w := w) hE ht
  unfold avConv at h
  split at h
  · rw [vI_eq] at h; cases h
    have e := int_rel hx; subst e
    rw [wr_eq]
    exact ⟨_, by simp [convert, h1, h2, Conv.intToInt], .int _ _⟩
  · obtain ⟨l, n, y, rfl, g1, g2⟩ := sy_rel hx h
    have e : y = .int k (wr k n) := g2
    subst e
    rw [wr_eq] at g1
    exact ⟨_, by simp [convert, h1, h2, Conv.intToInt], g1⟩
  · rename_i i tb
    obtain ⟨ho, rfl⟩ := at_rel hx
    obtain ⟨r, g1, g2⟩ := atL_some ho h
    have g3 : AtV.av ι.s r = .int k (wr k (ι.s i).2) := (Option.some.inj g1).symm
    refine ⟨.int k (wr k (ι.s i).2), by rw [wr_eq]; simp [convert, h1, h2, Conv.intToInt], at_lift ho g2 ?_⟩
    rw [g3]; exact .int _ _
  · cases h
theorem convS_gives (hE : EnvOk P E) {s t : Nat} (hs : E.und s = some .string) (ht : E.und t = some .string) {x : AV} {cx : Value} (hx : VRel ι x cx) {v : AV} (h : avStr x = some v) :
    Gives P ι w (convert s t cx) v := by
  have h1 := und_run (P := P) (w := w) hE hs
  have h2 := und_run (P := P) (w := w) hE ht
  unfold avStr at h
  split at h
  · cases h
    obtain ⟨u, rfl, hu⟩ := str_rel hx
    exact ⟨.string u, by simp [convert, h1, h2], .str _ _ hu⟩
  · cases h
theorem ifc_gives (hE : EnvOk P E) {t : Nat} {d : TypeDesc} (hd : E.und t = some d) (hn : notIfc d = true) {x : AV} {cx : Value} (hx : VRel ι x cx) {v : AV} (h : avIfc t x = some v) :
    Gives P ι w (Instr.makeInterface t cx) v := by
  cases h
  refine ⟨.iface t cx, ?_, .ifc t x cx hx⟩
  simp only [Instr.makeInterface, Sem.run_bind, und_run (P := P) (w := w) hE hd, Result.andThen_ok]
  cases d <;> first | rfl | (exact absurd hn Bool.false_ne_true)
theorem mkf_gives {f : Fn} {xs cs : List Operand} {ρ : Operand → Value} {vs : List AV} (hx : LRel ι vs ((xs ++ cs).map ρ)) {v : AV} (h : mkfF f xs.length vs = some v) :
    Gives P ι w (Instr.makeFunc f (xs.map ρ).toArray (cs.map ρ).toArray) v := by
  obtain ⟨p, h1, h2⟩ := opt_eq_some h
  obtain ⟨q, h3, h4⟩ := opt_eq_some h2
  cases h4
  have hle : xs.length ≤ vs.length := by rw [hx.length]; simp
  rw [take_eq, if_pos hle] at h1
  rw [drop_eq, if_pos hle] at h3
  cases h1
  cases h3
  refine ⟨_, rfl, ?_⟩
  have e1 := hx.take xs.length
  have e2 := hx.drop xs.length
  rw [List.map_append] at e1 e2
  rw [List.take_left' (by simp)] at e1
  rw [List.drop_left' (by simp)] at e2
  exact .fn f _ _ _ _ e1 e2
theorem add_none (r o n : Nat) : (⟨r, o, none⟩ : Addr).add n = ⟨r, o + n, none⟩ := by
  unfold Addr.add
  split
  · rename_i h; subst h; rfl
  · rfl
theorem fieldOf_inv {s f : Nat} {fd : Field} (h : fieldOf E s f = some fd) : ∃ fs, E.und s = some (.struct fs) ∧ fs[f]? = some fd := by
  obtain ⟨d, h1, h2⟩ := opt_eq_some h
  split at h2
  · rename_i fs
    rw [nth_eq] at h2
    exact ⟨fs, h1, by simpa using h2⟩
  · cases h2
theorem fa_gives (hE : EnvOk P E) {s f n : Nat} {fd : Field} (hf : fieldOf E s f = some fd) (hn : E.size fd.type = some n) (hz : Nat.beq n 0 = false) {x : AV} {cx : Value} (hx : VRel ι x cx) {v : AV} (h : avFA fd.offset x = some v) :
    Gives P ι w (Instr.fieldAt s cx f) v := by
  obtain ⟨fs, h1, h2⟩ := fieldOf_inv hf
  unfold avFA at h
  split at h
  · rename_i b e j tb f0
    obtain ⟨h3, h⟩ := cnd_some h
    rw [fNat_eq] at h
    cases h
    have h4 : f0 + fd.offset < e := Nat.le_of_ble_eq_true h3
    cases hx with
    | pat _ _ _ _ _ n0 r d Z q hi ho hj hq hf0 =>
      have hz' : ¬ n = 0 := by intro e; subst e; exact absurd hz (by decide)
      refine ⟨.pointer (some ⟨r, d + (q * e + (f0 + fd.offset)), none⟩), ?_, .pat b e j tb _ n0 r d Z q hi ho hj hq h4⟩
      simp [Instr.fieldAt, und_run (P := P) (w := w) hE h1, h2, Instr.sureAddr, fieldPlace, size_run (P := P) (w := w) hE hn, hz', add_none, Nat.add_assoc]
  · rename_i b o
    rw [fNat_eq] at h
    cases h
    cases hx with
    | ptr _ _ r d z hi =>
      have hz' : ¬ n = 0 := by intro e; subst e; exact absurd hz (by decide)
      refine ⟨.pointer (some ⟨r, d + (o + fd.offset), none⟩), ?_, .ptr b _ r d z hi⟩
      simp [Instr.fieldAt, und_run (P := P) (w := w) hE h1, h2, Instr.sureAddr, fieldPlace, size_run (P := P) (w := w) hE hn, hz', add_none, Nat.add_assoc]
  · cases h
theorem field_gives (hE : EnvOk P E) {s f n : Nat} {g : Bool} {fd : Field} (hf : fieldOf E s f = some fd) (hn : E.size fd.type = some n) (hg : E.isAgg fd.type = some g) {x : AV} {cx : Value} (hx : VRel ι x cx) {v : AV}
    (h : avField fd.offset n g x = some v) : Gives P ι w (Instr.field s cx f) v := by
  obtain ⟨fs, h1, h2⟩ := fieldOf_inv hf
  unfold avField at h
  split at h
  · rename_i l
    cases hx with
    | agg _ C hc =>
      cases g with
      | true =>
        replace h : opt (sub fd.offset n l) none (fun r => some (.agg r)) = some v := h
        obtain ⟨r, h3, h4⟩ := opt_eq_some h
        cases h4
        obtain ⟨h5, h6⟩ := sub_eq h3
        refine ⟨.agg ((C.drop fd.offset).take n).toArray, ?_, ?_⟩
        · simp [Instr.field, und_run (P := P) (w := w) hE h1, h2, asAgg, part, isAgg_run (P := P) (w := w) hE hg, size_run (P := P) (w := w) hE hn]
        · rw [h6]; exact .agg _ _ ((hc.drop _).take _)
      | false =>
        replace h : nth fd.offset l = some v := h
        rw [nth_eq] at h
        obtain ⟨c, h3, h4⟩ := hc.get h
        refine ⟨c, ?_, h4⟩
        simp [Instr.field, und_run (P := P) (w := w) hE h1, h2, asAgg, part, isAgg_run (P := P) (w := w) hE hg, h3]
  · cases h
theorem lssC_inv {σ : Nat → IntKind × Int} {j : Nat} {c : Int} {t : Bool} (h : AtO.den σ j (.bc .lss .i64 c) = some (.bool t)) : (σ j).1 = .i64 ∧ decide ((σ j).2 < c) = t := by
  replace h : cnd (kbeq (σ j).1 .i64) (bI (inot (ile c (σ j).2))) none = some (.bool t) := h
  obtain ⟨h1, h2⟩ := cnd_some h
  rw [bI_eq, inot_eq, ile_eq] at h2
  refine ⟨kbeq_eq h1, ?_⟩
  have h3 := Option.some.inj h2
  injection h3 with h3
  rw [← h3, Bool.eq_iff_iff]; simp
theorem gtrC_inv {σ : Nat → IntKind × Int} {j : Nat} {c : Int} {t : Bool} (h : AtO.den σ j (.bc .gtr .i64 c) = some (.bool t)) : (σ j).1 = .i64 ∧ decide ((σ j).2 > c) = t := by
  replace h : cnd (kbeq (σ j).1 .i64) (bI (inot (ile (σ j).2 c))) none = some (.bool t) := h
  obtain ⟨h1, h2⟩ := cnd_some h
  rw [bI_eq, inot_eq, ile_eq] at h2
  refine ⟨kbeq_eq h1, ?_⟩
  have h3 := Option.some.inj h2
  injection h3 with h3
  rw [← h3, Bool.eq_iff_iff]; simp
theorem lssA_inv {σ : Nat → IntKind × Int} {i j : Nat} {t : Bool} (h : AtO.den σ j (.aa .lss i) = some (.bool t)) : decide ((σ j).2 < (σ i).2) = t := by
  replace h : cnd (kbeq (σ j).1 (σ i).1) (bI (inot (ile (σ i).2 (σ j).2))) none = some (.bool t) := h
  obtain ⟨h1, h2⟩ := cnd_some h
  rw [bI_eq, inot_eq, ile_eq] at h2
  have h3 := Option.some.inj h2
  injection h3 with h3
  rw [← h3, Bool.eq_iff_iff]; simp
theorem atIn_inv {σ : Nat → IntKind × Int} {i j : Nat} {tb : List (Nat × AtO × AtV)} (ho : AtOk σ tb) {n : Nat} (hi : σ i = (.i64, (n : Int))) (h : atIn i j tb = true) : ∃ q : Nat, σ j = (.i64, (q : Int)) ∧ q < n := by
  unfold atIn at h
  cases h1 : atB j (.bc .lss .i64 (.ofNat 0)) tb with
  | none => rw [h1] at h; cases h
  | some a =>
    rw [h1] at h
    replace h : opt (atB j (.aa .lss i) tb) false (fun b => iand (inot a) b) = true := h
    cases h2 : atB j (.aa .lss i) tb with
    | none => rw [h2] at h; cases h
    | some b =>
      rw [h2] at h
      replace h : iand (inot a) b = true := h
      simp only [iand_eq, Bool.and_eq_true, inot_eq, Bool.not_eq_true'] at h
      obtain ⟨rfl, rfl⟩ := h
      obtain ⟨k1, k2⟩ := lssC_inv (atB_some ho h1)
      have k3 := lssA_inv (atB_some ho h2)
      have k4 : ¬ (σ j).2 < Int.ofNat 0 := of_decide_eq_false k2
      have k5 : (σ j).2 < (σ i).2 := of_decide_eq_true k3
      have k0 : (Int.ofNat 0 : Int) = 0 := rfl
      rw [hi] at k5
      replace k5 : (σ j).2 < (n : Int) := k5
      refine ⟨(σ j).2.toNat, ?_, by omega⟩
      have e : ((σ j).2.toNat : Int) = (σ j).2 := by omega
      rw [e, ← k1]
theorem atSz_inv {σ : Nat → IntKind × Int} {i : Nat} {tb : List (Nat × AtO × AtV)} (ho : AtOk σ tb) (h : atSz i tb = true) : ∃ n : Nat, σ i = (.i64, (n : Int)) ∧ n ≤ 1000000 := by
  unfold atSz at h
  cases h1 : atB i (.bc .lss .i64 (.ofNat 0)) tb with
  | none => rw [h1] at h; cases h
  | some a =>
    rw [h1] at h
    replace h : opt (atB i (.bc .gtr .i64 (.ofNat 1000000)) tb) false (fun b => iand (inot a) (inot b)) = true := h
    cases h2 : atB i (.bc .gtr .i64 (.ofNat 1000000)) tb with
    | none => rw [h2] at h; cases h
    | some b =>
      rw [h2] at h
      replace h : iand (inot a) (inot b) = true := h
      simp only [iand_eq, Bool.and_eq_true, inot_eq, Bool.not_eq_true'] at h
      obtain ⟨rfl, rfl⟩ := h
      obtain ⟨k1, k2⟩ := lssC_inv (atB_some ho h1)
      obtain ⟨_, k3⟩ := gtrC_inv (atB_some ho h2)
      have k4 : ¬ (σ i).2 < Int.ofNat 0 := of_decide_eq_false k2
      have k5 : ¬ (σ i).2 > Int.ofNat 1000000 := of_decide_eq_false k3
      have k0 : (Int.ofNat 0 : Int) = 0 := rfl
      have k6 : (Int.ofNat 1000000 : Int) = 1000000 := rfl
      refine ⟨(σ i).2.toNat, ?_, by omega⟩
      have e : ((σ i).2.toNat : Int) = (σ i).2 := by omega
      rw [e, ← k1]
theorem atSz1_inv {σ : Nat → IntKind × Int} {i : Nat} {tb : List (Nat × AtO × AtV)} (ho : AtOk σ tb) (h : atSz1 i tb = true) : ∃ n : Nat, σ i = (.i64, (n : Int)) ∧ n ≤ 1000000 ∧ 1 ≤ n := by
  unfold atSz1 at h
  rw [iand_eq, Bool.and_eq_true] at h
  obtain ⟨n, h1, h2⟩ := atSz_inv ho h.1
  refine ⟨n, h1, h2, ?_⟩
  have h := h.2
  cases h3 : atB i (.bc .lss .i64 (.ofNat 1)) tb with
  | none => rw [h3] at h; cases h
  | some a =>
    rw [h3] at h
    replace h : inot a = true := h
    rw [inot_eq, Bool.not_eq_true'] at h
    subst h
    obtain ⟨_, k2⟩ := lssC_inv (atB_some ho h3)
    have k4 : ¬ (σ i).2 < Int.ofNat 1 := of_decide_eq_false k2
    have k0 : (Int.ofNat 1 : Int) = 1 := rfl
    rw [h1] at k4
    simp only at k4
    omega
theorem ia_gives (hE : EnvOk P E) {t e n : Nat} (hd : E.und t = some (.slice e)) (hn : E.size e = some n) {x i : AV} {cx ci : Value} (hx : VRel ι x cx) (hi : VRel ι i ci) {v : AV} (h : avIA n x i = some v) :
    Gives P ι w (Instr.indexAt t cx ci) v := by
  have hu := und_run (P := P) (w := w) hE hd
  have hs := size_run (P := P) (w := w) hE hn
  unfold avIA at h
  split at h
  · rename_i b e' i0 tb0 j tb
    obtain ⟨h1, h2⟩ := cnd_some h
    cases h2
    simp only [iand_eq, Bool.and_eq_true] at h1
    obtain rfl := Nat.eq_of_beq_eq_true h1.1
    obtain ⟨ho, rfl⟩ := at_rel hi
    cases hx with
    | sln _ _ _ _ n0 c r d Z hb' ho0 hi0 hc hz he =>
      obtain ⟨q, hq1, hq2⟩ := atIn_inv ho hi0 h1.2.2
      have hb : (0 ≤ (q : Int) ∧ (q : Int) < (n0 : Int)) := ⟨by omega, by omega⟩
      rw [hq1]
      refine ⟨.pointer (some ⟨r, d + (q * n + 0), none⟩), ?_, .pat b n j tb 0 n0 r d Z q hb' ho hq1 hq2 he⟩
      simp only [Instr.indexAt, asIntOf, Sem.run_bind, Sem.run_pure, Result.andThen_ok, hu]
      rw [if_pos hb]
      simp [hs, add_none]
  · rename_i b o q c k m
    obtain ⟨h1, h2⟩ := cnd_some h
    rw [fNat_eq] at h2
    cases h2
    have h1' : m < q := Nat.le_of_ble_eq_true h1
    have e := int_rel hi; subst e
    have hb : (0 ≤ Int.ofNat m ∧ Int.ofNat m < (q : Int)) := ⟨by simp, by simp only [Int.ofNat_eq_natCast]; omega⟩
    have fin : ∀ (r d z c' : Nat), ι b = some (r, d, z) → Gives P ι w (Instr.indexAt t (.slice (some ⟨r, d + o, none⟩) q c') (.int k (Int.ofNat m))) (.ptr b (o + m * n)) := by
      intro r d z c' hr
      refine ⟨.pointer (some ⟨r, d + (o + m * n), none⟩), ?_, .ptr b _ r d z hr⟩
      simp only [Instr.indexAt, asIntOf, Sem.run_bind, Sem.run_pure, Result.andThen_ok, hu]
      rw [if_pos hb]
      simp [hs, add_none, Nat.add_assoc]
    cases hx with
    | sl _ _ _ c' r d z hr => exact fin r d z c' hr
    | slu _ _ _ c' r d z e hr hc hz => exact fin r d z c' hr
    | slv _ _ r d z a _ hr _ => omega
  · cases h
theorem iaa_gives (hE : EnvOk P E) {t len e n : Nat} (hd : E.und t = some (.array len e)) (hn : E.size e = some n) {x i : AV} {cx ci : Value} (hx : VRel ι x cx) (hi : VRel ι i ci) {v : AV} (h : avIAA len n x i = some v) :
    Gives P ι w (Instr.indexAt t cx ci) v := by
  have hu := und_run (P := P) (w := w) hE hd
  have hs := size_run (P := P) (w := w) hE hn
  unfold avIAA at h
  split at h
  · rename_i b o k m
    obtain ⟨h1, h2⟩ := cnd_some h
    rw [fNat_eq] at h2
    cases h2
    have h1' : m < len := Nat.le_of_ble_eq_true h1
    have e := int_rel hi; subst e
    have hb : (0 ≤ Int.ofNat m ∧ Int.ofNat m < (len : Int)) := ⟨by simp, by simp only [Int.ofNat_eq_natCast]; omega⟩
    cases hx with
    | ptr _ _ r d z hr =>
      refine ⟨.pointer (some ⟨r, d + (o + m * n), none⟩), ?_, .ptr b _ r d z hr⟩
      simp only [Instr.indexAt, asIntOf, Sem.run_bind, Sem.run_pure, Result.andThen_ok, hu, Instr.sureAddr]
      rw [if_pos hb]
      simp [hs, add_none, Nat.add_assoc]
  · cases h
theorem is_core (hE : EnvOk P E) {t : Nat} (hd : E.und t = some .string) {s : ByteArray} {m : Nat} {b : UInt8} {k : IntKind} (h3 : s.data.toList[m]? = some b) : (Instr.index t (.string s) (.int k (.ofNat m))).run P w = .ok (.int .u8 b.toNat) w := by
  have hu := und_run (P := P) (w := w) hE hd
  have hm : s[m]? = some b := by
    have : m < s.data.toList.length := by
      rcases Nat.lt_or_ge m s.data.toList.length with h' | h'
      · exact h'
      · rw [List.getElem?_eq_none h'] at h3; cases h3
    have hlt : m < s.size := by
      show m < s.data.size
      rw [← Array.length_toList]; exact this
    rw [getElem?_pos s m hlt]
    rw [List.getElem?_eq_getElem this] at h3
    exact h3
  have e : (if 0 ≤ Int.ofNat m then s[(Int.ofNat m).toNat]? else none) = some b := by
    rw [if_pos (show (0 : Int) ≤ Int.ofNat m from Int.natCast_nonneg m)]; exact hm
  simp only [Instr.index, asIntOf, Sem.run_bind, Sem.run_pure, Result.andThen_ok, hu, e]
theorem tk_at {σ : Nat → IntKind × Int} {l : List Tk} {k : Nat} {t : Tk} {x : Nat} (h : l[k]? = some t) (h1 : t.bs σ = [x]) : (tksB σ l)[(tksB σ (l.take k)).length]? = some x := by
  have hk : k < l.length := (List.getElem?_eq_some_iff.1 h).1
  have e : l = l.take k ++ t :: l.drop (k + 1) := by
    rw [List.getElem?_eq_getElem hk] at h
    cases h
    have : l[k] :: l.drop (k + 1) = l.drop k := (List.drop_eq_getElem_cons hk).symm
    rw [this, List.take_append_drop]
  have e2 : tksB σ l = tksB σ (l.take k) ++ (x :: tksB σ (l.drop (k + 1))) := by
    conv => lhs; rw [e]
    rw [tksB_app]
    congr 1
    have : tksB σ (t :: l.drop (k + 1)) = t.bs σ ++ tksB σ (l.drop (k + 1)) := by simp [tksB]
    rw [this, h1]; rfl
  rw [e2, List.getElem?_append_right (Nat.le_refl _), Nat.sub_self]; rfl
theorem is_gives (hE : EnvOk P E) {t : Nat} (hd : E.und t = some .string) {x i : AV} {cx ci : Value} (hx : VRel ι x cx) (hi : VRel ι i ci) {v : AV} (h : avIS x i = some v) :
    Gives P ι w (Instr.index t cx ci) v := by
  unfold avIS at h
  split at h
  · rename_i l l' k
    replace h := cndN_some h
    obtain ⟨h0, h⟩ := h
    obtain rfl := tksEq_eq h0
    obtain ⟨c, h1, h2⟩ := opt_eq_some h
    rw [nth_eq] at h1
    cases hx with
    | stk _ s hs hk =>
      cases hi with
      | pos _ _ n hn hl _ =>
        have hc : c.ok ι.s := hk.1 c (List.mem_of_getElem? h1)
        have fin : ∀ x : Nat, c.bs ι.s = [x] → ∃ b : UInt8, b.toNat = x ∧ (Instr.index t (.string s) (.int .i64 n)).run P w = .ok (.int .u8 b.toNat) w := by
          intro x hx
          have h3 := tk_at h1 hx
          rw [← hs, ← hn, List.getElem?_map, Option.map_eq_some_iff] at h3
          obtain ⟨b, h4, h5⟩ := h3
          exact ⟨b, h5, is_core hE hd h4⟩
        cases c with
        | b m =>
          cases h2
          obtain ⟨b, e1, e2⟩ := fin m rfl
          refine ⟨_, e2, ?_⟩
          rw [e1]
          exact .int _ _
        | a i tb =>
          cases h2
          obtain ⟨k1, k2, k3, k4⟩ := hc
          obtain ⟨b, e1, e2⟩ := fin _ rfl
          refine ⟨_, e2, .at i tb .u8 _ k1 ?_⟩
          have : (ι.s i).2 = (b.toNat : Int) := by rw [e1]; omega
          rw [← this, ← k2]
        | q i tb => cases h2
        | o i => cases h2
  · rename_i l k m _
    obtain ⟨c, h1, h2⟩ := opt_eq_some h
    cases h2
    rw [nth_eq] at h1
    obtain ⟨s, rfl, hs⟩ := str_rel hx
    have e := int_rel hi; subst e
    rw [← hs, List.getElem?_map, Option.map_eq_some_iff] at h1
    obtain ⟨b, h3, h4⟩ := h1
    subst h4
    exact ⟨.int .u8 b.toNat, is_core hE hd h3, .int _ _⟩
  · cases h
theorem ext_gives {i : Nat} {x : AV} {cx : Value} (hx : VRel ι x cx) {v : AV} (h : avExt i x = some v) : Gives P ι w (Instr.extract cx i) v := by
  unfold avExt at h
  split at h
  · cases hx with
    | tup _ C hc =>
      rw [nth_eq] at h
      obtain ⟨c, h3, h4⟩ := hc.get h
      exact ⟨c, by simp [Instr.extract, h3], h4⟩
  · cases h
theorem ta_gives (hE : EnvOk P E) {xt t : Nat} {d : TypeDesc} {ok : Bool} {z : AV} (hd : E.und t = some d) (hn : notIfc d = true) (hz : E.zero t = some z) {x : AV} {cx : Value} (hx : VRel ι x cx) {v : AV} (h : avTA t ok z x = some v) :
    Gives P ι w (Instr.typeAssert cx xt t ok) v := by
  have hu := und_run (P := P) (w := w) hE hd
  obtain ⟨zc, hz1, hz2⟩ := zero_run (P := P) (ι := ι) (w := w) hE hz
  have tr : VRel ι (.tup [z, .bool false]) (.tuple #[zc, .bool false]) := .tup _ [zc, .bool false] (.cons _ _ _ _ hz2 (.cons _ _ _ _ (.bool _) .nil))
  unfold avTA at h
  split at h
  · rename_i u y
    cases hx with
    | ifc _ _ cy hy =>
      by_cases hb : Nat.beq u t = true
      · rw [hb, cnd_true] at h
        have hut := Nat.eq_of_beq_eq_true hb
        subst hut
        cases ok with
        | true =>
          cases h
          refine ⟨.tuple #[cy, .bool true], ?_, .tup _ [cy, .bool true] (.cons _ _ _ _ hy (.cons _ _ _ _ (.bool _) .nil))⟩
          simp only [Instr.typeAssert, Sem.run_bind, hu, Result.andThen_ok]
          cases d <;> first | (exact absurd hn Bool.false_ne_true) | simp
        | false =>
          rw [cnd_false, avId_eq] at h
          cases h
          refine ⟨cy, ?_, hy⟩
          simp only [Instr.typeAssert, Sem.run_bind, hu, Result.andThen_ok]
          cases d <;> first | (exact absurd hn Bool.false_ne_true) | simp
      · have hb' : Nat.beq u t = false := eq_false_of_ne_true hb
        rw [hb', cnd_false] at h
        cases ok with
        | false => cases h
        | true =>
          cases h
          refine ⟨_, ?_, tr⟩
          have hne : ¬ u = t := fun e => hb (by rw [e]; exact Nat.beq_refl t)
          simp only [Instr.typeAssert, Sem.run_bind, hu, Result.andThen_ok]
          cases d <;> first | (exact absurd hn Bool.false_ne_true) | simp [hne, hz1]
  · cases hx
    cases ok with
    | false => cases h
    | true =>
      cases h
      refine ⟨_, ?_, tr⟩
      simp only [Instr.typeAssert, Sem.run_bind, hu, Result.andThen_ok]
      cases d <;> first | (exact absurd hn Bool.false_ne_true) | simp [hz1]
  · cases h
theorem min_gives {xs : List AV} {cs : List Value} (hx : LRel ι xs cs) {v : AV} (h : avMin xs = some v) {ts : Array TypeId} {ty : TypeId} : Gives P ι w (Builtin.min_ ts ty cs.toArray) v := by
  unfold avMin at h
  split at h
  · rename_i k a k' b
    obtain ⟨hk, h2⟩ := cnd_some h
    have := kbeq_eq hk; subst this
    cases h2
    cases hx with
    | cons _ _ _ _ h1 t =>
      cases t with
      | cons _ _ _ _ h2 t =>
        cases t
        have e1 := int_rel h1; have e2 := int_rel h2
        subst e1; subst e2
        refine ⟨.int k (if b < a then b else a), by simp [Builtin.min_, Builtin.min2], ?_⟩
        rw [ile_eq, cnd_eq]
        have : (if decide (a ≤ b) = true then a else b) = (if b < a then b else a) := by
          by_cases hb : a ≤ b
          · rw [if_pos (by simpa using hb), if_neg (by omega)]
          · rw [if_neg (by simpa using hb), if_pos (by omega)]
        rw [this]
        exact .int _ _
  · cases h
end Go.Ev

namespace Go.Ev
variable {P : Program} {E : Env} {ι : Inj} {w : World} {T : PT AV} {L : List AV} {lk : Look} {a : Act}

theorem bnd_run {y m : Nat} {x : AV} {cx : Value} (hx : VRel ι x cx) (h : bnd y x = some m) : m ≤ y ∧ ∀ y', m ≤ y' → ∀ code, (Instr.sliceBound cx y' code).run P w = .ok m w := by
  unfold bnd at h
  split at h
  · rename_i k q
    obtain ⟨h1, h2⟩ := cnd_some h
    cases h2
    have e := int_rel hx; subst e
    refine ⟨Nat.le_of_ble_eq_true h1, fun y' hy code => ?_⟩
    have hb : (0 ≤ Int.ofNat m ∧ Int.ofNat m ≤ (y' : Int)) := ⟨by simp, by simp only [Int.ofNat_eq_natCast]; omega⟩
    simp only [Instr.sliceBound, asIntOf, Sem.run_bind, Sem.run_pure, Result.andThen_ok]
    rw [if_pos hb]; rfl
  · cases h
def BndOk (P : Program) (w : World) (x : Option Value) (y m d : Nat) : Prop :=
  match x with
  | some v => ∀ code, (Instr.sliceBound v y code).run P w = .ok m w
  | none => m = d
theorem bndI {m y d : Nat} (h : m ≤ y) : BndOk P w (some (.int .i64 m)) y m d := by
  have : bnd y (.int .i64 (.ofNat m)) = some m := by
    show cnd (Nat.ble m y) (some m) none = _
    rw [Nat.ble_eq_true_of_le h]; rfl
  exact fun code => (bnd_run (P := P) (w := w) (ι := ⟨fun _ => none, fun _ => (.i64, 0)⟩) (.int .i64 (.ofNat m)) this).2 y h code
theorem bounds_run {isS : Bool} {n c lv hv mv : Nat} {lo hi mx : Option Value} (hmx : mx.isSome = true → hi.isSome = true) (hm : BndOk P w mx c mv c) (hh : BndOk P w hi mv hv n) (hl : BndOk P w lo hv lv 0) :
    (Instr.sliceBounds isS n c lo hi mx).run P w = .ok (lv, hv, mv) w := by
  unfold Instr.sliceBounds
  cases mx with
  | none =>
    have hm' : mv = c := hm
    subst hm'
    cases hi with
    | none =>
      have hh' : hv = n := hh
      subst hh'
      cases lo with
      | none => have hl' : lv = 0 := hl; subst hl'; simp
      | some v => simp [hl _]
    | some u =>
      cases lo with
      | none => have hl' : lv = 0 := hl; subst hl'; simp [hh _]
      | some v => simp [hh _, hl _]
  | some q =>
    cases hi with
    | none => exact absurd (hmx rfl) (by decide)
    | some u =>
      cases lo with
      | none => have hl' : lv = 0 := hl; subst hl'; simp [hm _, hh _]
      | some v => simp [hm _, hh _, hl _]

theorem bndOk {b : Bool} {y m d : Nat} {x : AV} {X : Option Value} (hX : X.isSome = b) (hx : ∀ c, X = some c → VRel ι x c) (h : cnd b (bnd y x) (some d) = some m) (y' : Nat) (hy : m ≤ y → m ≤ y') : BndOk P w X y' m d := by
  cases X with
  | none => cases hX; cases h; rfl
  | some c =>
    cases hX
    obtain ⟨h1, h2⟩ := bnd_run (P := P) (w := w) (hx c rfl) h
    exact fun code => h2 y' (hy h1) code
theorem bnd_le {b : Bool} {y m d : Nat} {x : AV} {X : Option Value} (hX : X.isSome = b) (hx : ∀ c, X = some c → VRel ι x c) (h : cnd b (bnd y x) (some d) = some m) : m ≤ y ∨ m = d := by
  cases X with
  | none => cases hX; cases h; exact .inr rfl
  | some c => cases hX; exact .inl (bnd_run (P := default) (w := default) (hx c rfl) h).1

theorem slice_at (hE : EnvOk P E) {t e : Nat} (hd : E.und t = some (.slice e)) (x : Value) (lo hi mx : Option Value) : (Instr.sliceAt t x lo hi mx).run P w = (Instr.slice t x lo hi mx).run P w := by
  simp [Instr.sliceAt, und_run (P := P) (w := w) hE hd]
theorem slice_atS (hE : EnvOk P E) {t : Nat} (hd : E.und t = some .string) (x : Value) (lo hi mx : Option Value) : (Instr.sliceAt t x lo hi mx).run P w = (Instr.slice t x lo hi mx).run P w := by
  simp [Instr.sliceAt, und_run (P := P) (w := w) hE hd]

theorem slS_gives (hE : EnvOk P E) {t e z : Nat} (hd : E.und t = some (.slice e)) (hz : E.size e = some z) {lo hi mx : Bool} {LO HI MX : Option Value} (hlo : LO.isSome = lo) (hhi : HI.isSome = hi) (hmx : MX.isSome = mx)
    {l h m : AV} (rl : ∀ c, LO = some c → VRel ι l c) (rh : ∀ c, HI = some c → VRel ι h c) (rm : ∀ c, MX = some c → VRel ι m c) (hi3 : mx = true → hi = true)
    {b : Pos} {o n : Nat} {c : Cap} {cs : Value} (hs : VRel ι (.sl b o n c) cs) {v : AV} (hv : avSlS z lo hi mx b o n c l h m = some v) : Gives P ι w (Instr.sliceAt t cs LO HI MX) v := by
  unfold avSlS at hv
  obtain ⟨mv, h1, hv⟩ := opt_eq_some hv
  obtain ⟨hv', h2, hv⟩ := opt_eq_some hv
  obtain ⟨h3, hv⟩ := cnd_some hv
  obtain ⟨lv, h4, hv⟩ := opt_eq_some hv
  rw [fNat_eq] at hv
  have ll : lv ≤ hv' := by
    rcases bnd_le hlo rl h4 with h | h
    · exact h
    · omega
  have hmx' : MX.isSome = true → HI.isSome = true := by rw [hmx, hhi]; exact hi3
  -- the model's run, once the capacity is known
  have run : ∀ (A : Addr) (C : Nat), (mx = true → mv ≤ C) → (mx = false → hi = true → hv' ≤ C) → (cs = .slice (some A) n C) →
      (Instr.sliceAt t cs LO HI MX).run P w = .ok (.slice (some (if (if mx then mv else C) = lv then A else A.add (lv * z))) (hv' - lv) ((if mx then mv else C) - lv)) w := by
    intro A C k1 k2 ecs
    rw [slice_at hE hd, ecs]
    have hb : (Instr.sliceBounds true n C LO HI MX).run P w = .ok (lv, hv', if mx then mv else C) w := by
      refine bounds_run hmx' ?_ ?_ ?_
      · cases mx with
        | true => exact bndOk hmx rm (d := C) (by simpa using h1) C (fun _ => k1 rfl)
        | false =>
          cases MX with
          | none => rfl
          | some _ => cases hmx
      · cases mx with
        | true =>
          have := hi3 rfl
          subst this
          refine bndOk hhi rh (y := mv) (by simpa using h2) mv (fun h => h)
        | false =>
          cases hi with
          | true => exact bndOk hhi rh h2 _ (fun _ => k2 rfl rfl)
          | false =>
            cases HI with
            | none => cases h2; rfl
            | some _ => cases hhi
      · exact bndOk hlo rl h4 hv' (fun h => h)
    simp only [Instr.slice, Sem.run_bind, und_run (P := P) (w := w) hE hd, Result.andThen_ok, hb, size_run (P := P) (w := w) hE hz, Sem.run_pure]
    generalize (if mx = true then mv else C) = M
    by_cases hM : M = lv
    · rw [if_pos hM, if_pos hM]
    · rw [if_neg hM, if_neg hM]; rfl
  -- which bound each comes under
  have bm : mx = true → mv ≤ c.n n := by
    intro e; subst e
    cases MX with
    | none => cases hmx
    | some q => exact (bnd_run (P := P) (w := w) (rm q rfl) h1).1
  have bh : mx = false → hi = true → hv' ≤ c.n n := by
    intro e1 e2; subst e1; subst e2
    cases HI with
    | none => cases hhi
    | some q => exact (bnd_run (P := P) (w := w) (rh q rfl) h2).1
  -- the result where the capacity is asked for
  have withM : ∀ (r d zz : Nat), ι b = some (r, d, zz) → mx = true → cnd mx (fNat (Nat.add o (cnd (Nat.beq mv lv) 0 (Nat.mul lv z))) fun o' => fNat (Nat.sub mv lv) fun cv => some (AV.sl b o' (Nat.sub hv' lv) (.ex cv))) (avSlC z b o lv (Nat.sub hv' lv) c) = some v →
      ∀ C, VRel ι v (.slice (some (if (if mx = true then mv else C) = lv then ⟨r, d + o, none⟩ else (⟨r, d + o, none⟩ : Addr).add (lv * z))) (hv' - lv) ((if mx = true then mv else C) - lv)) := by
    intro r d zz hr e hv C
    subst e
    rw [cnd_true, fNat_eq, fNat_eq] at hv
    cases hv
    rw [if_pos rfl, cnd_eq]
    by_cases hq : mv = lv
    · subst hq
      rw [if_pos rfl, if_pos (Nat.beq_refl _)]
      exact .sl b o _ _ r d zz hr
    · rw [if_neg hq, if_neg (fun h => hq (Nat.eq_of_beq_eq_true h)), add_none, Nat.add_assoc]
      exact .sl b _ _ _ r d zz hr
  cases hs with
  | sl _ _ _ C r d zz hr =>
    have hrun := run ⟨r, d + o, none⟩ C bm bh rfl
    refine ⟨_, hrun, ?_⟩
    by_cases hmxv : mx = true
    · exact withM r d zz hr hmxv hv C
    · have hf : mx = false := eq_false_of_ne_true hmxv
      subst hf
      rw [cnd_false] at hv
      replace hv : fNat (Nat.add o (cnd (Nat.beq C lv) 0 (Nat.mul lv z))) (fun o' => fNat (Nat.sub C lv) fun cv => some (AV.sl b o' (Nat.sub hv' lv) (.ex cv))) = some v := hv
      rw [fNat_eq, fNat_eq] at hv
      cases hv
      simp only [Bool.false_eq_true, if_false]
      rw [cnd_eq]
      by_cases hq : C = lv
      · subst hq
        rw [if_pos rfl, if_pos (Nat.beq_refl _)]
        exact .sl b o _ _ r d zz hr
      · rw [if_neg hq, if_neg (fun h => hq (Nat.eq_of_beq_eq_true h)), add_none, Nat.add_assoc]
        exact .sl b _ _ _ r d zz hr
  | slu _ _ _ C r d zz ee hr hc hcz =>
    have hrun := run ⟨r, d + o, none⟩ C (fun e => Nat.le_trans (bm e) hc) (fun e1 e2 => Nat.le_trans (bh e1 e2) hc) rfl
    refine ⟨_, hrun, ?_⟩
    by_cases hmxv : mx = true
    · exact withM r d zz hr hmxv hv C
    · have hf : mx = false := eq_false_of_ne_true hmxv
      subst hf
      rw [cnd_false] at hv
      replace hv : cnd (Nat.beq ee z) (fNat (Nat.add o (Nat.mul lv z)) fun o' => some (AV.sl b o' (Nat.sub hv' lv) (.op ee))) none = some v := hv
      obtain ⟨hez, hv⟩ := cnd_some hv
      have hez' := Nat.eq_of_beq_eq_true hez
      subst hez'
      rw [fNat_eq] at hv
      cases hv
      simp only [Bool.false_eq_true, if_false]
      have hle : hv' ≤ n := by
        cases hi with
        | true => exact bh rfl rfl
        | false => cases h2; exact Nat.le_refl _
      by_cases hq : C = lv
      · subst hq
        rw [if_pos rfl, show hv' - C = 0 by omega, show C - C = 0 by omega, show Nat.sub hv' C = 0 from by show hv' - C = 0; omega]
        exact .slv b _ r d zz _ (.op ee) hr rfl
      · rw [if_neg hq, add_none, Nat.add_assoc]
        have hlC : lv ≤ C := by omega
        refine .slu b _ _ _ r d zz ee hr (by show hv' - lv ≤ C - lv; omega) ?_
        show o + lv * ee + (C - lv) * ee ≤ zz
        rw [Nat.add_assoc, ← Nat.add_mul, show lv + (C - lv) = C by omega]
        exact hcz
  | slv _ _ r d zz A _ hr hc =>
    rw [hc] at bm bh
    have hrun := run A 0 bm bh rfl
    refine ⟨_, hrun, ?_⟩
    have hv0 : hv' = 0 := by
      cases hi with
      | true =>
        cases mx with
        | true =>
          cases HI with
          | none => cases hhi
          | some q =>
            have := (bnd_run (P := P) (w := w) (rh q rfl) (show bnd mv h = some hv' from by simpa using h2)).1
            have := bm rfl
            omega
        | false => have := bh rfl rfl; omega
      | false => cases h2; rfl
    subst hv0
    have hl0 : lv = 0 := by omega
    subst hl0
    have ez : (if (if mx = true then mv else 0) = 0 then A else A.add (0 * z)) = A := by
      rw [Nat.zero_mul]
      have : A.add 0 = A := by unfold Addr.add; rw [if_pos rfl]
      rw [this, ite_self]
    rw [ez]
    cases mx with
    | true =>
      have hm0 : mv = 0 := by have := bm rfl; omega
      subst hm0
      rw [cnd_true, fNat_eq, fNat_eq] at hv
      cases hv
      exact .slv b _ r d zz A (.ex 0) hr rfl
    | false =>
      rw [cnd_false] at hv
      cases c with
      | ex c =>
        have hc0 : c = 0 := hc
        subst hc0
        replace hv : fNat (Nat.add o (cnd (Nat.beq 0 0) 0 (Nat.mul 0 z))) (fun o' => fNat (Nat.sub 0 0) fun cv => some (AV.sl b o' (Nat.sub 0 0) (.ex cv))) = some v := hv
        rw [fNat_eq, fNat_eq] at hv
        cases hv
        exact .slv b _ r d zz A (.ex 0) hr rfl
      | op e =>
        replace hv : cnd (Nat.beq e z) (fNat (Nat.add o (Nat.mul 0 z)) fun o' => some (AV.sl b o' (Nat.sub 0 0) (.op e))) none = some v := hv
        obtain ⟨_, hv⟩ := cnd_some hv
        rw [fNat_eq] at hv
        cases hv
        exact .slv b _ r d zz A (.op e) hr rfl

theorem slL_gives (hE : EnvOk P E) {t z e : Nat} (hd : E.und t = some (.slice e)) (hz : E.size e = some z) {lo hi mx : Bool} {LO HI MX : Option Value} (hlo : LO.isSome = lo) (hhi : HI.isSome = hi) (hmx : MX.isSome = mx)
    {s l h m : AV} (rl : ∀ c, LO = some c → VRel ι l c) (rh : ∀ c, HI = some c → VRel ι h c) (rm : ∀ c, MX = some c → VRel ι m c) (hi3 : mx = true → hi = true)
    {cs : Value} (hs : VRel ι s cs) {v : AV} (hv : avSl z lo hi mx [s, l, h, m] = some v) : Gives P ι w (Instr.sliceAt t cs LO HI MX) v := by
  have hmx' : MX.isSome = true → HI.isSome = true := by rw [hmx, hhi]; exact hi3
  cases s with
  | sl b o n c => exact slS_gives hE hd hz hlo hhi hmx rl rh rm hi3 hs hv
  | snil =>
    replace hv : opt (cnd mx (bnd 0 m) (some 0)) none (fun _ => opt (cnd hi (bnd 0 h) (some 0)) none fun _ => opt (cnd lo (bnd 0 l) (some 0)) none fun _ => some AV.snil) = some v := hv
    obtain ⟨mv, h1, hv⟩ := opt_eq_some hv
    obtain ⟨hv', h2, hv⟩ := opt_eq_some hv
    obtain ⟨lv, h3, hv⟩ := opt_eq_some hv
    cases hv
    cases hs
    have zero : ∀ {b : Bool} {x : AV} {X : Option Value} {q : Nat}, X.isSome = b → (∀ c, X = some c → VRel ι x c) → cnd b (bnd 0 x) (some 0) = some q → q = 0 ∧ BndOk P w X 0 0 0 := by
      intro b x X q hX hx hq
      have : q = 0 := by rcases bnd_le hX hx hq with h | h <;> omega
      subst this
      exact ⟨rfl, bndOk hX hx hq 0 (fun h => h)⟩
    have hb : (Instr.sliceBounds true 0 0 LO HI MX).run P w = .ok (0, 0, 0) w :=
      bounds_run hmx' (zero hmx rm h1).2 (zero hhi rh h2).2 (zero hlo rl h3).2
    refine ⟨.slice none 0 0, ?_, .snil⟩
    rw [slice_at hE hd]
    simp [Instr.slice, und_run (P := P) (w := w) hE hd, hb, size_run (P := P) (w := w) hE hz]
  | sln b e' i tb =>
    replace hv : cnd (iand mx (iand hi (Nat.beq e' z))) (opt (bnd 0 m) none fun _ => opt (bnd 0 h) none fun _ => opt (cnd lo (bnd 0 l) (some 0)) none fun _ => some (AV.sl b 0 0 (.ex 0))) none = some v := hv
    replace hv := cnd_some hv
    obtain ⟨h0, hv⟩ := hv
    simp only [iand_eq, Bool.and_eq_true] at h0
    obtain ⟨hm1, hh1, _⟩ := h0
    subst hm1
    subst hh1
    obtain ⟨mv, h1, hv⟩ := opt_eq_some hv
    obtain ⟨hv', h2, hv⟩ := opt_eq_some hv
    obtain ⟨lv, h3, hv⟩ := opt_eq_some hv
    cases hv
    cases hs with
    | sln _ _ _ _ n c r d Z hb' ho hi hc hz2 he =>
      have zero : ∀ {x : AV} {X : Option Value} {q d' : Nat}, X.isSome = true → (∀ c, X = some c → VRel ι x c) → bnd 0 x = some q → ∀ y', q = 0 ∧ BndOk P w X y' 0 d' := by
        intro x X q d' hX hx hq y'
        cases X with
        | none => cases hX
        | some u =>
          obtain ⟨q1, q2⟩ := bnd_run (P := P) (w := w) (hx u rfl) hq
          have : q = 0 := by omega
          subst this
          exact ⟨rfl, fun code => q2 y' (Nat.zero_le _) code⟩
      have hl0 : BndOk P w LO 0 0 0 := by
        cases lo with
        | true => exact (zero hlo rl h3 0).2
        | false =>
          cases LO with
          | none => rfl
          | some _ => cases hlo
      have hb : (Instr.sliceBounds true n c LO HI MX).run P w = .ok (0, 0, 0) w :=
        bounds_run hmx' (zero hmx rm h1 c).2 (zero hhi rh h2 0).2 hl0
      refine ⟨.slice (some ⟨r, d, none⟩) 0 0, ?_, .slv b _ r d _ _ (.ex 0) hb' rfl⟩
      rw [slice_at hE hd]
      simp [Instr.slice, und_run (P := P) (w := w) hE hd, hb, size_run (P := P) (w := w) hE hz]
  | _ => cases hv
theorem tkByte_bs {σ : Nat → IntKind × Int} : ∀ {r : List Tk} {b : List Nat}, mapO tkByte r = some b → tksB σ r = b
  | [], b, h => by cases h; rfl
  | t :: r, b, h => by
    obtain ⟨y, ys, h1, h2, rfl⟩ := mapO_cons h
    have ih := tkByte_bs (σ := σ) h2
    have e : tksB σ (t :: r) = t.bs σ ++ tksB σ r := by simp [tksB]
    rw [e, ih]
    cases t with
    | b n => cases h1; rfl
    | _ => cases h1
theorem tkPl_rel {l : List Tk} {x : AV} {c : Value} (hx : VRel ι x c) {k : Nat} (h : tkPl l x = some k) : c = .int .i64 (tksB ι.s (l.take k)).length ∧ k ≤ l.length := by
  unfold tkPl at h
  split at h
  · rename_i n
    obtain ⟨r, h1, h⟩ := opt_eq_some h
    obtain ⟨h2, h⟩ := cnd_some h
    cases h
    obtain ⟨h3, rfl⟩ := take_tk h1
    rw [int_rel hx, tksB_one ι.s h2, List.length_take, Nat.min_eq_left h3]
    exact ⟨rfl, h3⟩
  · rename_i l' k'
    obtain ⟨h1, h⟩ := cnd_some h
    cases h
    obtain rfl := tksEq_eq h1
    cases hx with
    | pos _ _ n hn hl _ => rw [hn]; exact ⟨rfl, hl⟩
  · cases h
theorem slX_gives (hE : EnvOk P E) {t : Nat} (hd : E.und t = some .string) {lo hi mx : Bool} {LO HI MX : Option Value} (hlo : LO.isSome = lo) (hhi : HI.isSome = hi) (hmx : MX.isSome = mx)
    {s l h m : AV} (rl : ∀ c, LO = some c → VRel ι l c) (rh : ∀ c, HI = some c → VRel ι h c)
    {cs : Value} (hs : VRel ι s cs) {v : AV} (hv : avSlX lo hi mx [s, l, h, m] = some v) : Gives P ι w (Instr.sliceAt t cs LO HI MX) v := by
  cases s with
  | str l' =>
    replace hv : cnd mx none (avSlT lo hi l' l h) = some v := hv
    obtain ⟨hm, hv⟩ := cnd_some' hv
    subst hm
    unfold avSlT at hv
    obtain ⟨hv', h1, hv⟩ := opt_eq_some hv
    obtain ⟨lv, h2, hv⟩ := opt_eq_some hv
    obtain ⟨r, h3, hv⟩ := opt_eq_some hv
    cases hv
    obtain ⟨u, rfl, hu⟩ := str_rel hs
    have hlen := size_str hu
    rw [len_eq, ← hlen] at h1
    have hMX : MX = none := by cases MX with | none => rfl | some _ => cases hmx
    subst hMX
    have hb : (Instr.sliceBounds false u.size u.size LO HI none).run P w = .ok (lv, hv', u.size) w := by
      refine bounds_run (fun h => by cases h) rfl ?_ ?_
      · cases hi with
        | true => exact bndOk hhi rh h1 _ (fun h => h)
        | false =>
          cases HI with
          | none => cases h1; rfl
          | some _ => cases hhi
      · exact bndOk hlo rl h2 hv' (fun h => h)
    refine ⟨.string (u.extract lv hv'), ?_, ?_⟩
    · rw [slice_atS hE hd]
      simp [Instr.slice, und_run (P := P) (w := w) hE hd, hb]
    · refine .str _ _ ?_
      obtain ⟨h4, h5⟩ := sub_eq h3
      rw [Lib.extract_data, List.map_take, List.map_drop, hu, h5]; rfl
  | stk l' =>
    replace hv : cnd (iand hi (inot mx)) (avSlK lo l' l h) none = some v := hv
    obtain ⟨h0, hv⟩ := cnd_some hv
    simp only [iand_eq, Bool.and_eq_true, inot_eq, Bool.not_eq_true'] at h0
    obtain ⟨hh, hm⟩ := h0
    subst hh
    subst hm
    have hMX : MX = none := by cases MX with | none => rfl | some _ => cases hmx
    subst hMX
    obtain ⟨j, h1, hv⟩ := opt_eq_some hv
    obtain ⟨k, h2, hv⟩ := opt_eq_some hv
    obtain ⟨h3, hv⟩ := cnd_some hv
    obtain ⟨r, h4, hv⟩ := opt_eq_some hv
    obtain ⟨b, h5, hv⟩ := opt_eq_some hv
    cases hv
    have hjk := Nat.le_of_ble_eq_true h3
    cases hs with
    | stk _ u hu hk =>
      have hlen : u.size = (tksB ι.s l').length := by rw [← hu, List.length_map, Array.length_toList]; rfl
      obtain ⟨cH, eH⟩ : ∃ c, HI = some c := by cases HI with | none => cases hhi | some c => exact ⟨c, rfl⟩
      subst eH
      obtain ⟨rfl, _⟩ := tkPl_rel (rh cH rfl) h2
      have rL : (if lo then LO else some (.int .i64 0)) = some (.int .i64 (tksB ι.s (l'.take j)).length) := by
        cases lo with
        | false => cases h1; rfl
        | true =>
          cases LO with
          | none => cases hlo
          | some c => rw [(tkPl_rel (rl c rfl) h1).1]; rfl
      have hq : (tksB ι.s (l'.take k)).length ≤ u.size := by rw [hlen]; exact tks_take k
      have hp := tks_take_le (σ := ι.s) (l := l') hjk
      have hb : (Instr.sliceBounds false u.size u.size LO (some (.int .i64 (tksB ι.s (l'.take k)).length)) none).run P w = .ok ((tksB ι.s (l'.take j)).length, (tksB ι.s (l'.take k)).length, u.size) w := by
        refine bounds_run (fun h => by cases h) rfl ?_ ?_
        · exact bndI (by omega)
        · cases lo with
          | false =>
            cases LO with
            | none =>
              have : (tksB ι.s (l'.take j)).length = 0 := by cases h1; rfl
              rw [this]; rfl
            | some _ => cases hlo
          | true =>
            rw [if_pos rfl] at rL
            subst rL
            exact bndI (by omega)
      refine ⟨.string (u.extract (tksB ι.s (l'.take j)).length (tksB ι.s (l'.take k)).length), ?_, ?_⟩
      · rw [slice_atS hE hd]
        simp [Instr.slice, und_run (P := P) (w := w) hE hd, hb]
      · refine .str _ _ ?_
        obtain ⟨h6, h7⟩ := sub_tk h4
        have e1 : l'.take k = l'.take j ++ r := by rw [← h7]; congr 1; show k = j + (k - j); omega
        have e2 : tksB ι.s r = b := tkByte_bs h5
        have e3 : tksB ι.s l' = tksB ι.s (l'.take j) ++ (b ++ tksB ι.s (l'.drop k)) := by
          conv => lhs; rw [← List.take_append_drop k l', tksB_app, e1, tksB_app, e2, List.append_assoc]
        rw [Lib.extract_data, List.map_take, List.map_drop, hu, e3, List.drop_left, e1, tksB_app, List.length_append, e2, Nat.add_sub_cancel_left, List.take_left]
  | _ => cases hv

theorem opdD_sound (hg : ∀ g b, E.gl g = some b → ∃ z, ι b = some (g, 0, z)) (hl : LkOk ι T L lk a) {x : Option Operand} {y : Opd} (h : E.opdD lk x = some y) : ∀ c, x.map a.eval = some c → VRel ι (y.ev T L) c := by
  intro c hc
  cases x with
  | none => cases hc
  | some x => cases hc; exact opd_sound hg hl h
theorem mapO_of {α β γ : Type} {f : α → Option β} {P : Program} {w : World} {g : α → Sem β} : ∀ {l : List α} {r : List β}, mapO f l = some r → (∀ x y, f x = some y → (g x).run P w = .ok y w) → (l.mapM g).run P w = .ok r w
  | [], r, h, _ => by cases h; rfl
  | x :: l, r, h, hf => by
    obtain ⟨y, ys, h1, h2, rfl⟩ := mapO_cons h
    rw [List.mapM_cons, Sem.run_bind, hf x y h1]
    simp only [Result.andThen_ok, Sem.run_bind, mapO_of (γ := γ) h2 hf, Sem.run_pure]
theorem mapO_get {α β : Type} {f : α → Option β} : ∀ {l : List α} {r : List β}, mapO f l = some r → ∀ i : Nat, r[i]? = (l[i]?).bind f
  | [], r, h, i => by cases h; simp
  | x :: l, r, h, i => by
    obtain ⟨y, ys, h1, h2, rfl⟩ := mapO_cons h
    cases i with
    | zero => simp [h1]
    | succ i => simpa using mapO_get h2 i
theorem mapO_length {α β : Type} {f : α → Option β} : ∀ {l : List α} {r : List β}, mapO f l = some r → r.length = l.length
  | [], r, h => by cases h; rfl
  | x :: l, r, h => by
    obtain ⟨y, ys, h1, h2, rfl⟩ := mapO_cons h
    simp [mapO_length h2]
theorem mapO_map {α β : Type} {f : α → Option β} : ∀ {l : List α} {r : List β}, mapO f l = some r → l.map f = r.map some
  | [], r, h => by cases h; rfl
  | x :: l, r, h => by
    obtain ⟨y, ys, h1, h2, rfl⟩ := mapO_cons h
    simp [h1, mapO_map h2]

theorem build_gives (hE : EnvOk P E) {t : Nat} {z : List AV} {d : TypeDesc} {ps : List (Nat × Operand)} {pl : List (Nat × Nat)} {ρ : Operand → Value} (hz : E.zcells t = some z) (hd : E.und t = some d)
    (hp : places E d ps = some pl) {vs : List AV} (hx : LRel ι vs ((ps.map (·.2)).map ρ)) {v : AV} (h : bldF pl z vs = some v) :
    Gives P ι w (Instr.build t (ps.map fun (i, x) => (i, ρ x)).toArray) v := by
  obtain ⟨l, h1, h2⟩ := opt_eq_some h
  replace h1 := fillQ_eq h1
  cases h2
  obtain ⟨zc, hz1, hz2⟩ := zcells_run (P := P) (ι := ι) (w := w) hE hz
  have hu := und_run (P := P) (w := w) hE hd
  have hvs : LRel ι vs ((ps.map fun (p : Nat × Operand) => (p.1, ρ p.2)).map (·.2)) := by
    have e : (ps.map fun (p : Nat × Operand) => (p.1, ρ p.2)).map (·.2) = (ps.map (·.2)).map ρ := by simp
    rw [e]; exact hx
  unfold places at hp
  split at hp
  · rename_i fs
    obtain ⟨pls, h3, h4⟩ := opt_eq_some hp
    have hm : (fs.mapM fun (f : Field) => (do pure (f.offset, ← sizeOf f.type) : Sem (Nat × Nat))).run P w = .ok pls.toArray w := by
      rw [Array.mapM_eq_mapM_toList]
      rw [Sem.run_map]
      have := mapO_of (γ := Unit) (P := P) (w := w) (g := fun (f : Field) => (do pure (f.offset, ← sizeOf f.type) : Sem (Nat × Nat))) h3 (fun f y hy => by
        unfold placeF at hy
        obtain ⟨s, h5, h6⟩ := opt_eq_some hy
        cases h6
        simp [size_run (P := P) (w := w) hE h5])
      rw [this]; rfl
    obtain ⟨R, hR1, hR2⟩ := fill_rel (ι := ι) (fun i => pls.toArray[i]?) pl vs z l h1 (ps.map fun (p : Nat × Operand) => (p.1, ρ p.2)) zc.cells (by
      have := mapO_map h4
      rw [List.map_map, ← this]
      apply List.map_congr_left
      intro p _
      simp) hvs hz2
    refine ⟨.agg R, ?_, ?_⟩
    · simp only [Instr.build, Sem.run_bind, hz1, Result.andThen_ok, hu, hm]
      rw [hR1]; rfl
    · simpa using VRel.agg l R.toList hR2
  · rename_i n e
    obtain ⟨s, h3, h4⟩ := opt_eq_some hp
    cases h4
    obtain ⟨R, hR1, hR2⟩ := fill_rel (ι := ι) (fun i => some (i * s, s)) _ vs z l h1 (ps.map fun (p : Nat × Operand) => (p.1, ρ p.2)) zc.cells (by
      simp [placesA]) hvs hz2
    refine ⟨.agg R, ?_, ?_⟩
    · simp only [Instr.build, Sem.run_bind, hz1, Result.andThen_ok, hu, size_run (P := P) (w := w) hE h3]
      rw [hR1]; rfl
    · simpa using VRel.agg l R.toList hR2
  · cases hp
end Go.Ev

namespace Go.Ev
variable {P : Program} {E : Env} {ι : Inj} {w : World} {T : PT AV} {L : List AV} {lk : Look} {a : Act}

theorem pure_sound (hE : EnvOk P E) (hg : ∀ g b, E.gl g = some b → ∃ z, ι b = some (g, 0, z)) (hl : LkOk ι T L lk a) {o : Oper} {q : K} (h : cK E lk o.op = some q) {v : AV} (hv : pv q T L = some v) :
    OpGives P ι w a.eval o v := by
  obtain ⟨dst, op, type, pos, after, guard⟩ := o
  have O : ∀ {x : Operand} {y : Opd}, E.opd lk x = some y → VRel ι (y.ev T L) (a.eval x) := fun h => opd_sound hg hl h
  cases op with
  | move x =>
    obtain ⟨y, h1, h2⟩ := K1_inv h
    cases h2
    rw [show pv (.p1 avId y) T L = avId (y.ev T L) from rfl, avId_eq] at hv
    cases hv
    exact ⟨_, rfl, O h1⟩
  | assign x =>
    obtain ⟨y, h1, h2⟩ := K1_inv h
    cases h2
    rw [show pv (.p1 avId y) T L = avId (y.ev T L) from rfl, avId_eq] at hv
    cases hv
    exact ⟨_, rfl, O h1⟩
  | pick c x y =>
    obtain ⟨u, h1, h2⟩ := K1_inv h
    obtain ⟨p, r, h3, h4, h5⟩ := K2_inv h2
    cases h5
    exact .of (pick_gives (P := P) (w := w) (O h1) (O h3) (O h4) hv) (by simp [execOp])
  | alloc t => obtain ⟨z, _, h2⟩ := opt_eq_some h; cases h2; cases hv
  | box t x => obtain ⟨y, _, h2⟩ := K1_inv h; cases h2; cases hv
  | build t ps =>
    obtain ⟨z, h1, h⟩ := opt_eq_some h
    obtain ⟨d, h2, h⟩ := opt_eq_some h
    obtain ⟨xs, h3, h⟩ := opt_eq_some h
    obtain ⟨pl, h4, h⟩ := opt_eq_some h
    cases h
    have := build_gives (P := P) (w := w) hE h1 h2 h4 (opds_sound hg hl h3) hv
    refine OpGives.of this ?_
    show (do pure (.value (← Instr.build t (ps.map fun (i, x) => (i, a.eval x)))) : Sem Next) = _
    have e : (ps.map fun (p : Nat × Operand) => (p.1, a.eval p.2)) = (ps.toList.map fun (p : Nat × Operand) => (p.1, a.eval p.2)).toArray := by
      apply Array.toList_inj.1; simp
    rw [← e]
  | buildSlice t n ps =>
    replace h : cSlice E lk t n ps.toList = some q := h
    obtain ⟨d, _, h⟩ := opt_eq_some h
    obtain ⟨e, _, h⟩ := opt_eq_some h
    obtain ⟨s, _, h⟩ := opt_eq_some h
    obtain ⟨z, _, h⟩ := opt_eq_some h
    obtain ⟨xs, _, h⟩ := opt_eq_some h
    obtain ⟨_, h⟩ := cnd_some h
    cases h; cases hv
  | insert t m k x => cases h
  | load t x =>
    obtain ⟨g, _, h⟩ := opt_eq_some h
    obtain ⟨n, _, h⟩ := opt_eq_some h
    obtain ⟨y, _, h⟩ := K1_inv h
    cases h; cases hv
  | store t x y =>
    obtain ⟨n, _, h⟩ := opt_eq_some h
    obtain ⟨u, r, _, _, h⟩ := K2_inv h
    cases h; cases hv
  | ready g => cases h
  | waits g => cases h
  | nilCheck x =>
    obtain ⟨y, h1, h2⟩ := K1_inv h
    cases h2
    exact nil_gives (O h1) hv rfl rfl
  | binOp op t x y yt =>
    replace h : cBin E lk op t x y = some q := h
    have eq : ∀ (f : Nat → AV → AV → Option AV) (g : AV → Option AV), cEq E lk t x y f g = some q →
        ((∃ m, P.underlying t = some (.interface m) ∧ y = .const .nilIface ∧ ∃ u, VRel ι u (a.eval x) ∧ g u = some v) ∨ ∃ d u r, E.und t = some d ∧ VRel ι u (a.eval x) ∧ VRel ι r (a.eval y) ∧ f (tyCls d) u r = some v) := by
      intro f g hh
      obtain ⟨d, h1, hh⟩ := opt_eq_some hh
      rw [cnd_eq] at hh
      split at hh
      · rename_i hc
        obtain ⟨u, h2, hh⟩ := K1_inv hh
        cases hh
        simp only [iand_eq, Bool.and_eq_true] at hc
        obtain ⟨c1, c2⟩ := hc
        have hy : y = .const .nilIface := by
          unfold isNilC at c1
          split at c1
          · rfl
          · cases c1
        have hd : ∃ m, d = .interface m := by
          cases d <;> first | exact ⟨_, rfl⟩ | (exact absurd c2 (by decide)) | (exact absurd c2 Bool.false_ne_true)
        obtain ⟨m, rfl⟩ := hd
        exact .inl ⟨m, und_eq hE h1, hy, _, O h2, hv⟩
      · obtain ⟨u, r, h2, h3, hh⟩ := K2_inv hh
        cases hh
        exact .inr ⟨d, _, _, h1, O h2, O h3, hv⟩
    by_cases hop1 : op = .eql
    · subst hop1
      rcases eq avEq1 nilQ h with ⟨m, hu, rfl, u, hx, hq⟩ | ⟨d, u, r, hd, hx, hy, hq⟩
      · obtain ⟨b, e1, e2⟩ := opt_eq_some hq
        rw [bI_eq] at e2; cases e2
        exact .of ⟨.bool b, (nil_run hu hx e1 x).1, .bool b⟩ rfl
      · obtain ⟨b, e1, e2⟩ := opt_eq_some hq
        rw [bI_eq] at e2; cases e2
        exact .of ⟨.bool b, (eq_run hE hd hx hy e1 x y).1, .bool b⟩ rfl
    by_cases hop2 : op = .neq
    · subst hop2
      rcases eq avNe1 nilN h with ⟨m, hu, rfl, u, hx, hq⟩ | ⟨d, u, r, hd, hx, hy, hq⟩
      · obtain ⟨b, e1, e2⟩ := opt_eq_some hq
        rw [bI_eq, inot_eq] at e2; cases e2
        exact .of ⟨.bool (!b), (nil_run hu hx e1 x).2, .bool _⟩ rfl
      · obtain ⟨b, e1, e2⟩ := opt_eq_some hq
        rw [bI_eq, inot_eq] at e2; cases e2
        exact .of ⟨.bool (!b), (eq_run hE hd hx hy e1 x y).2, .bool _⟩ rfl
    have hb : cBin E lk op t x y = opt (avBin op) none fun f => K2 E lk x y fun a b => some (.p2 (syBin op f) a b) := by
      cases op <;> first | rfl | (exact absurd rfl hop1) | (exact absurd rfl hop2)
    rw [hb] at h
    obtain ⟨f, h1, h⟩ := opt_eq_some h
    obtain ⟨u, r, h2, h3, h⟩ := K2_inv h
    cases h
    exact .of (syBin_run h1 (O h2) (O h3) hv t x y) rfl
  | unOp op t x =>
    cases op with
    | not =>
      obtain ⟨y, h1, h2⟩ := K1_inv h
      cases h2
      replace hv : avNot (y.ev T L) = some v := hv
      have hx := O h1
      unfold avNot at hv
      split at hv
      · rename_i b e
        rw [e] at hx
        rw [bI_eq, inot_eq] at hv; cases hv
        have := bool_rel hx
        refine .of ⟨.bool !b, ?_, .bool _⟩ rfl
        rw [this]; rfl
      · cases hv
    | neg =>
      obtain ⟨y, h1, h2⟩ := K1_inv h
      cases h2
      replace hv : avNeg (y.ev T L) = some v := hv
      have hx := O h1
      unfold avNeg at hv
      split at hv
      · rename_i k n e
        rw [e] at hx
        rw [vI_eq] at hv; cases hv
        have := int_rel hx
        refine .of ⟨.int k (k.wrap (0 - n)), ?_, ?_⟩ rfl
        · rw [this]; rfl
        · rw [wr_eq, ineg_eq, show -n = 0 - n by omega]; exact .int _ _
      · rename_i i tb e
        rw [e] at hx
        obtain ⟨ho, hc⟩ := at_rel hx
        obtain ⟨r, g1, g2⟩ := atL_some ho hv
        replace g1 : vI (ι.s i).1 (wr (ι.s i).1 (ineg (ι.s i).2)) = some (AtV.av ι.s r) := g1
        rw [vI_eq, wr_eq, ineg_eq, show -(ι.s i).2 = 0 - (ι.s i).2 by omega] at g1
        have g3 := (Option.some.inj g1).symm
        refine .of ⟨.int (ι.s i).1 ((ι.s i).1.wrap (0 - (ι.s i).2)), by rw [hc]; rfl, at_lift ho g2 ?_⟩ rfl
        rw [g3]; exact .int _ _
      · cases hv
    | xor =>
      obtain ⟨y, h1, h2⟩ := K1_inv h
      cases h2
      replace hv : avCom (y.ev T L) = some v := hv
      have hx := O h1
      unfold avCom at hv
      split at hv
      · rename_i k n e
        rw [e] at hx
        obtain ⟨hk, hv⟩ := cnd_some hv
        simp only [iand_eq, Bool.and_eq_true] at hk
        rw [vI_eq] at hv; cases hv
        have := int_rel hx
        refine .of ⟨.int k (-1 - n), ?_, ?_⟩ rfl
        · rw [this]; exact avCom_run hk.1 hk.2
        · rw [isub_eq]; exact .int _ _
      · cases hv
    | _ => cases h
  | convert s t x =>
    replace h : cConv E lk s t x = some q := h
    obtain ⟨d, h1, h⟩ := opt_eq_some h
    obtain ⟨e, h2, h⟩ := opt_eq_some h
    split at h
    · obtain ⟨y, h3, h⟩ := K1_inv h
      cases h
      exact .of (conv_gives hE h2 h1 (O h3) hv) rfl
    · obtain ⟨y, h3, h⟩ := K1_inv h
      cases h
      exact .of (convS_gives hE h2 h1 (O h3) hv) rfl
    · obtain ⟨_, h⟩ := cnd_some h
      obtain ⟨y, _, h⟩ := K1_inv h
      cases h; cases hv
    · obtain ⟨_, h⟩ := cnd_some h
      obtain ⟨y, _, h⟩ := K1_inv h
      cases h; cases hv
    · obtain ⟨_, h⟩ := cnd_some h
      obtain ⟨_, _, h⟩ := opt_eq_some h
      obtain ⟨_, _, h⟩ := opt_eq_some h
      obtain ⟨_, h⟩ := cnd_some h
      obtain ⟨y, _, h⟩ := K1_inv h
      cases h; cases hv
    · cases h
  | sliceToArrayPointer t x => cases h
  | makeInterface t x =>
    obtain ⟨d, h1, h⟩ := opt_eq_some h
    obtain ⟨h2, h⟩ := cnd_some h
    obtain ⟨y, h3, h⟩ := K1_inv h
    cases h
    exact .of (ifc_gives hE h1 h2 (O h3) hv) rfl
  | makeFunc f first cap =>
    obtain ⟨xs, h1, h⟩ := opt_eq_some h
    cases h
    have hx := opds_sound hg hl h1
    replace hv : mkfF f first.toList.length (evs T L xs) = some v := hv
    refine .of (mkf_gives (P := P) (w := w) hx hv) ?_
    show (do pure (.value (← Instr.makeFunc f (first.map a.eval) (cap.map a.eval))) : Sem Next) = _
    have e1 : (first.map a.eval) = (first.toList.map a.eval).toArray := by apply Array.toList_inj.1; simp
    have e2 : (cap.map a.eval) = (cap.toList.map a.eval).toArray := by apply Array.toList_inj.1; simp
    rw [e1, e2]
  | makeMap t r =>
    obtain ⟨_, _, h⟩ := opt_eq_some h
    obtain ⟨_, _, h⟩ := opt_eq_some h
    cases h; cases hv
  | makeChan t s =>
    replace h : (opt (chE E t) none fun _ => K1 E lk s fun a => some (K.al mkcF [a])) = some q := h
    obtain ⟨_, _, h⟩ := opt_eq_some h
    obtain ⟨y, _, h⟩ := K1_inv h
    cases h; cases hv
  | makeSlice t l c =>
    replace h : cMks E lk t l c = some q := h
    obtain ⟨d, _, h⟩ := opt_eq_some h
    obtain ⟨e, _, h⟩ := opt_eq_some h
    obtain ⟨i, _, h⟩ := opt_eq_some h
    obtain ⟨z, _, h⟩ := opt_eq_some h
    obtain ⟨xs, _, h⟩ := opt_eq_some h
    obtain ⟨_, h⟩ := cnd_some h
    cases h; cases hv
  | slice t x lo hi mx =>
    replace h : cSl E lk t x lo hi mx = some q := h
    obtain ⟨d, h1, h⟩ := opt_eq_some h
    obtain ⟨f, h2, h⟩ := opt_eq_some h
    obtain ⟨s, h3, h⟩ := opt_eq_some h
    obtain ⟨l, h4, h⟩ := opt_eq_some h
    obtain ⟨hh, h5, h⟩ := opt_eq_some h
    obtain ⟨m, h6, h⟩ := opt_eq_some h
    obtain ⟨h7, h⟩ := cnd_some' h
    cases h
    have hi3 : mx.isSome = true → hi.isSome = true := by
      intro e
      rw [e] at h7
      simpa using h7
    have rl := opdD_sound hg hl h4
    have rh := opdD_sound hg hl h5
    have rm := opdD_sound hg hl h6
    unfold slF at h2
    split at h2
    · obtain ⟨z, h8, h2⟩ := opt_eq_some h2
      cases h2
      exact .of (slL_gives hE h1 h8 (by simp) (by simp) (by simp) rl rh rm hi3 (O h3) hv) rfl
    · cases h2
      exact .of (slX_gives hE h1 (by simp) (by simp) (by simp) (m := m.ev T L) rl rh (O h3) hv) rfl
    · cases h2
  | fieldAddr s x f =>
    obtain ⟨fd, h1, h⟩ := opt_eq_some h
    obtain ⟨n, h2, h⟩ := opt_eq_some h
    obtain ⟨h3, h⟩ := cnd_some' h
    obtain ⟨y, h4, h⟩ := K1_inv h
    cases h
    exact .of (fa_gives hE h1 h2 h3 (O h4) hv) rfl
  | field s x f =>
    obtain ⟨fd, h1, h⟩ := opt_eq_some h
    obtain ⟨n, h2, h⟩ := opt_eq_some h
    obtain ⟨g, h3, h⟩ := opt_eq_some h
    obtain ⟨y, h4, h⟩ := K1_inv h
    cases h
    exact .of (field_gives hE h1 h2 h3 (O h4) hv) rfl
  | indexAddr t x i =>
    obtain ⟨d, h1, h⟩ := opt_eq_some h
    unfold cIA at h
    split at h
    · obtain ⟨n, h2, h⟩ := opt_eq_some h
      obtain ⟨u, r, h3, h4, h⟩ := K2_inv h
      cases h
      exact .of (ia_gives hE h1 h2 (O h3) (O h4) hv) rfl
    · obtain ⟨n, h2, h⟩ := opt_eq_some h
      obtain ⟨u, r, h3, h4, h⟩ := K2_inv h
      cases h
      exact .of (iaa_gives hE h1 h2 (O h3) (O h4) hv) rfl
    · cases h
  | index t x i =>
    obtain ⟨d, h1, h⟩ := opt_eq_some h
    obtain ⟨h2, h⟩ := cnd_some h
    obtain ⟨u, r, h3, h4, h⟩ := K2_inv h
    cases h
    have hd : d = .string := by
      unfold isStr at h2
      split at h2
      · rfl
      · cases h2
    subst hd
    exact .of (is_gives hE h1 (O h3) (O h4) hv) rfl
  | lookup t x i ok =>
    obtain ⟨_, _, h⟩ := opt_eq_some h
    obtain ⟨_, _, h⟩ := opt_eq_some h
    obtain ⟨_, _, _, _, h⟩ := K2_inv h
    cases h; cases hv
  | mapUpdate t m k x =>
    obtain ⟨_, _, h⟩ := opt_eq_some h
    obtain ⟨_, _, _, _, h⟩ := K2_inv h
    obtain ⟨_, _, h⟩ := K1_inv h
    cases h; cases hv
  | mapEntry t m k => cases h
  | entryStore t m s x => cases h
  | range t x =>
    obtain ⟨_, _, h⟩ := opt_eq_some h
    obtain ⟨_, _, h⟩ := K1_inv h
    cases h; cases hv
  | next i s =>
    obtain ⟨_, h⟩ := cnd_some' h
    obtain ⟨_, _, h⟩ := K1_inv h
    cases h; cases hv
  | entry i => cases h
  | typeAssert x xt t ok =>
    obtain ⟨d, h1, h⟩ := opt_eq_some h
    obtain ⟨h2, h⟩ := cnd_some h
    obtain ⟨z, h3, h⟩ := opt_eq_some h
    obtain ⟨y, h4, h⟩ := K1_inv h
    cases h
    exact .of (ta_gives hE h1 h2 h3 (O h4) hv) rfl
  | extract x i =>
    obtain ⟨y, h4, h⟩ := K1_inv h
    cases h
    exact .of (ext_gives (O h4) hv) rfl
  | call c =>
    obtain ⟨callee, args, ats⟩ := c
    cases callee with
    | value f =>
      obtain ⟨xs, h1, h⟩ := opt_eq_some h
      cases f with
      | func g => cases h; cases hv
      | tmp t => obtain ⟨y, _, h⟩ := opt_eq_some h; cases h; cases hv
      | const c => obtain ⟨y, _, h⟩ := opt_eq_some h; cases h; cases hv
      | global g => obtain ⟨y, _, h⟩ := opt_eq_some h; cases h; cases hv
    | invoke r m => cases h
    | builtin b =>
      replace h : cBi E lk b args.toList ats.toList = some q := h
      unfold cBi at h
      split at h
      · rename_i x t ea et
        have ea' : args = #[x] := Array.toList_inj.1 ea
        have et' : ats = #[t] := Array.toList_inj.1 et
        subst ea'; subst et'
        obtain ⟨d, h1, h⟩ := opt_eq_some h
        split at h
        · obtain ⟨y, h2, h⟩ := K1_inv h
          cases h
          exact .of (lenT_gives (ty := type) hE h1 (O h2) hv) (by simp [execOp, resolve, invoke, builtin])
        · obtain ⟨y, h2, h⟩ := K1_inv h
          cases h
          exact .of (lenL_gives (ty := type) hE h1 (O h2) hv) (by simp [execOp, resolve, invoke, builtin])
        · obtain ⟨y, _, h⟩ := K1_inv h
          cases h; cases hv
        · cases h
      · unfold cApp at h
        obtain ⟨d, _, h⟩ := opt_eq_some h
        obtain ⟨e, _, h⟩ := opt_eq_some h
        obtain ⟨xd, _, h⟩ := opt_eq_some h
        obtain ⟨i, _, h⟩ := opt_eq_some h
        obtain ⟨_, _, h⟩ := opt_eq_some h
        obtain ⟨_, h⟩ := cnd_some h
        obtain ⟨_, _, _, _, h⟩ := K2_inv h
        cases h; cases hv
      · rename_i x y ea
        have ea' : args = #[x, y] := Array.toList_inj.1 ea
        subst ea'
        obtain ⟨os, h1, h⟩ := opt_eq_some h
        cases h
        have hx := opds_sound hg hl h1
        exact .of (max_gives (P := P) (w := w) (ts := ats) (ty := type) hx hv) (by simp [execOp, resolve, invoke, builtin])
      · rename_i x y ea
        have ea' : args = #[x, y] := Array.toList_inj.1 ea
        subst ea'
        obtain ⟨os, h1, h⟩ := opt_eq_some h
        cases h
        have hx := opds_sound hg hl h1
        exact .of (min_gives (P := P) (w := w) (ts := ats) (ty := type) hx hv) (by simp [execOp, resolve, invoke, builtin])
      · obtain ⟨_, _, h⟩ := opt_eq_some h
        obtain ⟨_, _, _, _, h⟩ := K2_inv h
        cases h; cases hv
      · obtain ⟨_, _, h⟩ := opt_eq_some h
        obtain ⟨_, _, h⟩ := opt_eq_some h
        obtain ⟨_, _, h⟩ := opt_eq_some h
        obtain ⟨_, h⟩ := cnd_some h
        obtain ⟨_, _, _, _, h⟩ := K2_inv h
        cases h; cases hv
      · cases h; cases hv
      · obtain ⟨y, _, h⟩ := K1_inv h
        cases h; cases hv
      · cases h
  | go c => cases h
  | defer c =>
    obtain ⟨callee, args, ats⟩ := c
    cases callee with
    | value f =>
      obtain ⟨xs, h1, h⟩ := opt_eq_some h
      obtain ⟨y, _, h⟩ := opt_eq_some h
      cases h; cases hv
    | invoke r m => cases h
    | builtin b => cases h
  | panic x => obtain ⟨y, h4, h⟩ := K1_inv h; cases h; cases hv
  | send c x => cases h
  | recv t c ok => cases h
  | select cs b =>
    replace h : cnd b none (opt (sel1 cs.toList) none fun p => opt (E.zero p.2) none fun z => K1 E lk p.1 fun a => some (K.sel z a)) = some q := h
    obtain ⟨_, h⟩ := cnd_some' h
    obtain ⟨_, _, h⟩ := opt_eq_some h
    obtain ⟨_, _, h⟩ := opt_eq_some h
    obtain ⟨y, _, h⟩ := K1_inv h
    cases h; cases hv
end Go.Ev

namespace Go.Ev
variable {P : Program} {E : Env} {lk : Look}

def K.pureK : K → Bool
  | .p1 _ _ => true
  | .p2 _ _ _ => true
  | .p3 _ _ _ _ => true
  | .pn _ _ => true
  | _ => false
inductive KInv (E : Env) (lk : Look) : Op → K → Prop
  | pur (op : Op) (q : K) (h : q.pureK = true) : KInv E lk op q
  | load (t n : Nat) (g : Bool) (x : Operand) (y : Opd) (h1 : E.isAgg t = some g) (h2 : E.size t = some n) (h3 : E.opd lk x = some y) : KInv E lk (.load t x) (.r1 (cnd g (ldn n) ld1) y)
  | alloc (t : Nat) (z : List AV) (h : E.zcells t = some z) : KInv E lk (.alloc t) (.al (fun _ => some (.cells false z, .ptr)) [])
  | box (t : Nat) (x : Operand) (y : Opd) (h : E.opd lk x = some y) : KInv E lk (.box t x) (.al boxF [y])
  | bsl (t n e s : Nat) (z : List AV) (ps : Array (Nat × Operand)) (xs : List Opd) (h1 : E.und t = some (.slice e)) (h2 : E.size e = some s) (h3 : E.zcells e = some z) (h4 : E.opds lk (ps.toList.map (·.2)) = some xs)
      (h5 : z.length = s) (h6 : 1 ≤ s) (h7 : n * s ≤ 16777216) : KInv E lk (.buildSlice t n ps) (.al (bslF (placesA s ps.toList) z n) xs)
  | mks (t e : Nat) (l c : Operand) (i : TypeInfo) (z : List AV) (xs : List Opd) (h1 : E.und t = some (.slice e)) (h2 : E.info e = some i) (h3 : E.zcells e = some z) (h4 : E.opds lk [l, c] = some xs)
      (h5 : z.length = i.size) (h6 : i.bytes ≤ 100000) : KInv E lk (.makeSlice t l c) (.al (mksF i.size z) xs)
  | store (t n : Nat) (x y : Operand) (u v : Opd) (h1 : E.size t = some n) (h2 : E.opd lk x = some u) (h3 : E.opd lk y = some v) : KInv E lk (.store t x y) (.w2 (st n) u v)
  | app (s x : Operand) (st xt e : Nat) (dx : TypeDesc) (i : TypeInfo) (z : List AV) (u v : Opd) (h1 : E.und st = some (.slice e)) (h2 : E.und xt = some dx) (h3 : strOrSl dx = true) (h4 : E.info e = some i) (hz : E.zcells e = some z) (hz2 : z.length = i.size) (h5 : 1 ≤ i.size) (h6 : i.bytes ≤ 100000)
      (h7 : E.opd lk s = some u) (h8 : E.opd lk x = some v) : KInv E lk (.call { callee := .builtin .append, args := #[s, x], argTypes := #[st, xt] }) (.w2 (apd i.size) u v)
  | call (g : Nat) (args : Array Operand) (ts : Array TypeId) (xs : List Opd) (h : E.opds lk args.toList = some xs) : KInv E lk (.call { callee := .value (.func g), args, argTypes := ts }) (.call g xs)
  | callv (f : Operand) (args : Array Operand) (ts : Array TypeId) (xs : List Opd) (y : Opd) (h : E.opds lk args.toList = some xs) (h2 : E.opd lk f = some y) : KInv E lk (.call { callee := .value f, args, argTypes := ts }) (.callv y xs)
  | lenm (t kt et : Nat) (x : Operand) (y : Opd) (h1 : E.und t = some (.map kt et)) (h2 : E.opd lk x = some y) : KInv E lk (.call { callee := .builtin .len, args := #[x], argTypes := #[t] }) (.r1 mlF y)
  | b2s (s d e : Nat) (x : Operand) (y : Opd) (h1 : E.und d = some .string) (h2 : E.und s = some (.slice e)) (h3 : E.und e = some (.int .u8)) (h4 : E.opd lk x = some y) : KInv E lk (.convert s d x) (.r1 b2s y)
  | s2b (s d e : Nat) (i : TypeInfo) (z : List AV) (x : Operand) (y : Opd) (h1 : E.und d = some (.slice e)) (h2 : E.und s = some .string) (h3 : E.und e = some (.int .u8)) (h4 : E.zcells e = some z) (h5 : E.info e = some i) (h6 : z.length = i.size) (h7 : i.size = 1) (h8 : E.opd lk x = some y) : KInv E lk (.convert s d x) (.w2 s2b y y)
  | s2s (s e : Nat) (x : Operand) (y : Opd) (h1 : E.und s = some (.slice e)) (h3 : E.und e = some (.int .u8)) (h8 : E.opd lk x = some y) : KInv E lk (.convert s s x) (.w2 s2s y y)
  | mkm (t kt et : Nat) (r : Option Operand) (xs : List Opd) (h1 : E.und t = some (.map kt et)) (h2 : E.opds lk r.toList = some xs) : KInv E lk (.makeMap t r) (.al mkmF xs)
  | look (t kt et : Nat) (d : TypeDesc) (z : AV) (x i : Operand) (ok : Bool) (u v : Opd) (h1 : E.und t = some (.map kt et)) (h2 : undK E kt = some d) (h3 : E.zero et = some z) (h4 : E.opd lk x = some u) (h5 : E.opd lk i = some v) : KInv E lk (.lookup t x i ok) (.w2 (lkF d z ok) u v)
  | mupd (t kt et : Nat) (d : TypeDesc) (m k x : Operand) (u v y : Opd) (h1 : E.und t = some (.map kt et)) (h2 : undK E kt = some d) (h4 : E.opd lk m = some u) (h5 : E.opd lk k = some v) (h6 : E.opd lk x = some y) : KInv E lk (.mapUpdate t m k x) (.w3 (muF d) u v y)
  | mdel (t kt et : Nat) (ts : List Nat) (d : TypeDesc) (m k : Operand) (u v : Opd) (h1 : E.und t = some (.map kt et)) (h2 : undK E kt = some d) (h4 : E.opd lk m = some u) (h5 : E.opd lk k = some v) : KInv E lk (.call { callee := .builtin .delete, args := #[m, k], argTypes := (t :: ts).toArray }) (.w2 (mdF d) u v)
  | copy (t e n : Nat) (ts : List Nat) (x y : Operand) (u v : Opd) (h1 : E.und t = some (.slice e)) (h2 : E.size e = some n) (h3 : 1 ≤ n) (h4 : E.opd lk x = some u) (h5 : E.opd lk y = some v) : KInv E lk (.call { callee := .builtin .copy, args := #[x, y], argTypes := (t :: ts).toArray }) (.w2 (cpF n) u v)
  | rng (t kt et : Nat) (x : Operand) (y : Opd) (h1 : E.und t = some (.map kt et)) (h2 : E.opd lk x = some y) : KInv E lk (.range t x) (.w2 rgF y y)
  | nxt (x : Operand) (y : Opd) (h2 : E.opd lk x = some y) : KInv E lk (.next x false) (.w2 nxF y y)
  | rcv (args : Array Operand) (ts : Array TypeId) : KInv E lk (.call { callee := .builtin .recover, args, argTypes := ts }) .rcv
  | dfr (f : Operand) (args : Array Operand) (ts : Array TypeId) (xs : List Opd) (y : Opd) (h : E.opds lk args.toList = some xs) (h2 : E.opd lk f = some y) : KInv E lk (.defer { callee := .value f, args, argTypes := ts }) (.dfr y xs)
  | pan (x : Operand) (y : Opd) (h : E.opd lk x = some y) : KInv E lk (.panic x) (.pan y)
  | mkc (t e : Nat) (dir : ChanDir) (i : TypeInfo) (x : Operand) (y : Opd) (h1 : E.und t = some (.chan dir e)) (h2 : E.info e = some i) (h3 : E.opd lk x = some y) : KInv E lk (.makeChan t x) (.al mkcF [y])
  | cls (x : Operand) (y : Opd) (ts : Array TypeId) (h : E.opd lk x = some y) : KInv E lk (.call { callee := .builtin .close, args := #[x], argTypes := ts }) (.w2 clF y y)
  | sel (c : SelectCase) (z : AV) (y : Opd) (h1 : c.send = none) (h2 : E.zero c.elem = some z) (h3 : E.opd lk c.chan = some y) : KInv E lk (.select #[c] false) (.sel z y)

theorem sliceElem_inv {d : TypeDesc} {e : Nat} (h : sliceElem d = some e) : d = .slice e := by
  unfold sliceElem at h
  split at h
  · cases h; rfl
  · cases h

theorem mapT_inv {t : Nat} {p : TypeDesc × Nat} (h : mapT E t = some p) : ∃ kt, E.und t = some (.map kt p.2) ∧ undK E kt = some p.1 := by
  unfold mapT at h
  obtain ⟨d, h1, h⟩ := opt_eq_some h
  split at h
  · obtain ⟨q, h2, h⟩ := opt_eq_some h
    cases h
    exact ⟨_, h1, h2⟩
  · cases h
theorem isU8_inv {e : Nat} (h : isU8 E e = true) : E.und e = some (.int .u8) := by
  unfold isU8 at h
  split at h
  · assumption
  · cases h
theorem cK_inv {op : Op} {q : K} (h : cK E lk op = some q) : KInv E lk op q := by
  cases op with
  | move x => obtain ⟨y, h1, h2⟩ := K1_inv h; cases h2; exact .pur _ _ rfl
  | assign x => obtain ⟨y, h1, h2⟩ := K1_inv h; cases h2; exact .pur _ _ rfl
  | pick c x y => obtain ⟨u, h1, h2⟩ := K1_inv h; obtain ⟨p, r, h3, h4, h5⟩ := K2_inv h2; cases h5; exact .pur _ _ rfl
  | alloc t => obtain ⟨z, h1, h2⟩ := opt_eq_some h; cases h2; exact .alloc t z h1
  | box t x => obtain ⟨y, h1, h2⟩ := K1_inv h; cases h2; exact .box t x y h1
  | build t ps =>
    obtain ⟨z, h1, h⟩ := opt_eq_some h
    obtain ⟨d, h2, h⟩ := opt_eq_some h
    obtain ⟨xs, h3, h⟩ := opt_eq_some h
    obtain ⟨pl, h4, h⟩ := opt_eq_some h
    cases h; exact .pur _ _ rfl
  | buildSlice t n ps =>
    replace h : cSlice E lk t n ps.toList = some q := h
    obtain ⟨d, h1, h⟩ := opt_eq_some h
    obtain ⟨e, h2, h⟩ := opt_eq_some h
    obtain ⟨s, h3, h⟩ := opt_eq_some h
    obtain ⟨z, h4, h⟩ := opt_eq_some h
    obtain ⟨xs, h5, h⟩ := opt_eq_some h
    obtain ⟨h6, h⟩ := cnd_some h
    cases h
    have := sliceElem_inv h2; subst this
    simp only [iand_eq, Bool.and_eq_true, len_eq] at h6
    exact .bsl t n e s z ps xs h1 h3 h4 h5 (Nat.eq_of_beq_eq_true h6.1) (Nat.le_of_ble_eq_true h6.2.1) (Nat.le_of_ble_eq_true h6.2.2)
  | insert t m k x => cases h
  | load t x =>
    obtain ⟨g, h1, h⟩ := opt_eq_some h
    obtain ⟨n, h2, h⟩ := opt_eq_some h
    obtain ⟨y, h3, h⟩ := K1_inv h
    cases h; exact .load t n g x y h1 h2 h3
  | store t x y =>
    obtain ⟨n, h1, h⟩ := opt_eq_some h
    obtain ⟨u, r, h2, h3, h⟩ := K2_inv h
    cases h; exact .store t n x y u r h1 h2 h3
  | ready g => cases h
  | waits g => cases h
  | nilCheck x => obtain ⟨y, h1, h2⟩ := K1_inv h; cases h2; exact .pur _ _ rfl
  | binOp op t x y yt =>
    replace h : cBin E lk op t x y = some q := h
    have eq : ∀ (f : Nat → AV → AV → Option AV) (g : AV → Option AV), cEq E lk t x y f g = some q → q.pureK = true := by
      intro f g hh
      obtain ⟨d, h1, hh⟩ := opt_eq_some hh
      rw [cnd_eq] at hh
      split at hh
      · obtain ⟨u, h2, hh⟩ := K1_inv hh; cases hh; rfl
      · obtain ⟨u, r, h2, h3, hh⟩ := K2_inv hh; cases hh; rfl
    by_cases hop1 : op = .eql
    · subst hop1; exact .pur _ _ (eq _ _ h)
    by_cases hop2 : op = .neq
    · subst hop2; exact .pur _ _ (eq _ _ h)
    have hb : cBin E lk op t x y = opt (avBin op) none fun f => K2 E lk x y fun a b => some (.p2 (syBin op f) a b) := by
      cases op <;> first | rfl | (exact absurd rfl hop1) | (exact absurd rfl hop2)
    rw [hb] at h
    obtain ⟨f, h1, h⟩ := opt_eq_some h
    obtain ⟨u, r, h2, h3, h⟩ := K2_inv h
    cases h; exact .pur _ _ rfl
  | unOp op t x =>
    cases op with
    | not => obtain ⟨y, h1, h2⟩ := K1_inv h; cases h2; exact .pur _ _ rfl
    | neg => obtain ⟨y, h1, h2⟩ := K1_inv h; cases h2; exact .pur _ _ rfl
    | xor => obtain ⟨y, h1, h2⟩ := K1_inv h; cases h2; exact .pur _ _ rfl
    | _ => cases h
  | convert s t x =>
    replace h : cConv E lk s t x = some q := h
    obtain ⟨d, h1, h⟩ := opt_eq_some h
    obtain ⟨e, h2, h⟩ := opt_eq_some h
    split at h
    · obtain ⟨y, h3, h⟩ := K1_inv h; cases h; exact .pur _ _ rfl
    · obtain ⟨y, h3, h⟩ := K1_inv h; cases h; exact .pur _ _ rfl
    · obtain ⟨h3, h⟩ := cnd_some h
      obtain ⟨y, h4, h⟩ := K1_inv h
      cases h; exact .b2s s t _ x y h1 h2 (isU8_inv h3) h4
    · rename_i e1 e2
      obtain ⟨h3, h'⟩ := cnd_some h
      obtain ⟨y, h4, h''⟩ := K1_inv h'
      simp only [iand_eq, Bool.and_eq_true] at h3
      have hst := Nat.eq_of_beq_eq_true h3.1
      subst hst
      cases h''; exact .s2s s _ x y h1 (isU8_inv h3.2) h4
    · obtain ⟨h3, h⟩ := cnd_some h
      obtain ⟨z, h5, h⟩ := opt_eq_some h
      obtain ⟨i, h6, h⟩ := opt_eq_some h
      obtain ⟨h7, h⟩ := cnd_some h
      obtain ⟨y, h4, h⟩ := K1_inv h
      simp only [iand_eq, Bool.and_eq_true, len_eq] at h7
      cases h; exact .s2b s t _ i z x y h1 h2 (isU8_inv h3) h5 h6 (Nat.eq_of_beq_eq_true h7.1) (Nat.eq_of_beq_eq_true h7.2) h4
    · cases h
  | sliceToArrayPointer t x => cases h
  | makeInterface t x =>
    obtain ⟨d, h1, h⟩ := opt_eq_some h
    obtain ⟨h2, h⟩ := cnd_some h
    obtain ⟨y, h3, h⟩ := K1_inv h
    cases h; exact .pur _ _ rfl
  | makeFunc f first cap => obtain ⟨xs, h1, h⟩ := opt_eq_some h; cases h; exact .pur _ _ rfl
  | makeMap t r =>
    obtain ⟨p, h1, h⟩ := opt_eq_some h
    obtain ⟨xs, h2, h⟩ := opt_eq_some h
    obtain ⟨kt, h3, h4⟩ := mapT_inv h1
    cases h; exact .mkm t kt p.2 r xs h3 h2
  | makeChan t s =>
    replace h : (opt (chE E t) none fun _ => K1 E lk s fun a => some (K.al mkcF [a])) = some q := h
    obtain ⟨e, h1, h⟩ := opt_eq_some h
    obtain ⟨y, h2, h⟩ := K1_inv h
    unfold chE at h1
    obtain ⟨d, h3, h4⟩ := opt_eq_some h1
    split at h4
    · obtain ⟨i, h5, h6⟩ := opt_eq_some h4
      cases h; exact .mkc t _ _ i s y h3 h5 h2
    · cases h4
  | makeSlice t l c =>
    replace h : cMks E lk t l c = some q := h
    obtain ⟨d, h1, h⟩ := opt_eq_some h
    obtain ⟨e, h2, h⟩ := opt_eq_some h
    obtain ⟨i, h3, h⟩ := opt_eq_some h
    obtain ⟨z, h4, h⟩ := opt_eq_some h
    obtain ⟨xs, h5, h⟩ := opt_eq_some h
    obtain ⟨h6, h⟩ := cnd_some h
    cases h
    have := sliceElem_inv h2; subst this
    simp only [iand_eq, Bool.and_eq_true, len_eq] at h6
    exact .mks t e l c i z xs h1 h3 h4 h5 (Nat.eq_of_beq_eq_true h6.1) (Nat.le_of_ble_eq_true h6.2)
  | slice t x lo hi mx =>
    replace h : cSl E lk t x lo hi mx = some q := h
    obtain ⟨d, h1, h⟩ := opt_eq_some h
    obtain ⟨f, h2, h⟩ := opt_eq_some h
    obtain ⟨s, h3, h⟩ := opt_eq_some h
    obtain ⟨l, h4, h⟩ := opt_eq_some h
    obtain ⟨hh, h5, h⟩ := opt_eq_some h
    obtain ⟨m, h6, h⟩ := opt_eq_some h
    obtain ⟨h7, h⟩ := cnd_some' h
    cases h; exact .pur _ _ rfl
  | fieldAddr s x f =>
    obtain ⟨fd, h1, h⟩ := opt_eq_some h
    obtain ⟨n, h2, h⟩ := opt_eq_some h
    obtain ⟨h3, h⟩ := cnd_some' h
    obtain ⟨y, h4, h⟩ := K1_inv h
    cases h; exact .pur _ _ rfl
  | field s x f =>
    obtain ⟨fd, h1, h⟩ := opt_eq_some h
    obtain ⟨n, h2, h⟩ := opt_eq_some h
    obtain ⟨g, h3, h⟩ := opt_eq_some h
    obtain ⟨y, h4, h⟩ := K1_inv h
    cases h; exact .pur _ _ rfl
  | indexAddr t x i =>
    obtain ⟨d, h1, h⟩ := opt_eq_some h
    unfold cIA at h
    split at h
    · obtain ⟨n, h2, h⟩ := opt_eq_some h; obtain ⟨u, r, h3, h4, h⟩ := K2_inv h; cases h; exact .pur _ _ rfl
    · obtain ⟨n, h2, h⟩ := opt_eq_some h; obtain ⟨u, r, h3, h4, h⟩ := K2_inv h; cases h; exact .pur _ _ rfl
    · cases h
  | index t x i =>
    obtain ⟨d, h1, h⟩ := opt_eq_some h
    obtain ⟨h2, h⟩ := cnd_some h
    obtain ⟨u, r, h3, h4, h⟩ := K2_inv h
    cases h; exact .pur _ _ rfl
  | lookup t x i ok =>
    obtain ⟨p, h1, h⟩ := opt_eq_some h
    obtain ⟨z, h2, h⟩ := opt_eq_some h
    obtain ⟨u, v, h3, h4, h⟩ := K2_inv h
    obtain ⟨kt, h5, h6⟩ := mapT_inv h1
    cases h; exact .look t kt p.2 p.1 z x i ok u v h5 h6 h2 h3 h4
  | mapUpdate t m k x =>
    obtain ⟨p, h1, h⟩ := opt_eq_some h
    obtain ⟨u, v, h3, h4, h⟩ := K2_inv h
    obtain ⟨y, h2, h⟩ := K1_inv h
    obtain ⟨kt, h5, h6⟩ := mapT_inv h1
    cases h; exact .mupd t kt p.2 p.1 m k x u v y h5 h6 h3 h4 h2
  | mapEntry t m k => cases h
  | entryStore t m s x => cases h
  | range t x =>
    obtain ⟨p, h1, h⟩ := opt_eq_some h
    obtain ⟨y, h2, h⟩ := K1_inv h
    obtain ⟨kt, h5, h6⟩ := mapT_inv h1
    cases h; exact .rng t kt p.2 x y h5 h2
  | next i s =>
    obtain ⟨hs, h⟩ := cnd_some' h
    subst hs
    obtain ⟨y, h2, h⟩ := K1_inv h
    cases h; exact .nxt i y h2
  | entry i => cases h
  | typeAssert x xt t ok =>
    obtain ⟨d, h1, h⟩ := opt_eq_some h
    obtain ⟨h2, h⟩ := cnd_some h
    obtain ⟨z, h3, h⟩ := opt_eq_some h
    obtain ⟨y, h4, h⟩ := K1_inv h
    cases h; exact .pur _ _ rfl
  | extract x i => obtain ⟨y, h4, h⟩ := K1_inv h; cases h; exact .pur _ _ rfl
  | call c =>
    obtain ⟨callee, args, ats⟩ := c
    cases callee with
    | value f =>
      obtain ⟨xs, h1, h⟩ := opt_eq_some h
      cases f with
      | func g => cases h; exact .call g args ats xs h1
      | tmp t => obtain ⟨y, h2, h⟩ := opt_eq_some h; cases h; exact .callv _ args ats xs y h1 h2
      | const c => obtain ⟨y, h2, h⟩ := opt_eq_some h; cases h; exact .callv _ args ats xs y h1 h2
      | global g => obtain ⟨y, h2, h⟩ := opt_eq_some h; cases h; exact .callv _ args ats xs y h1 h2
    | invoke r m => cases h
    | builtin b =>
      replace h : cBi E lk b args.toList ats.toList = some q := h
      unfold cBi at h
      split at h
      · obtain ⟨d, h1, h⟩ := opt_eq_some h
        split at h
        · obtain ⟨y, h2, h⟩ := K1_inv h; cases h; exact .pur _ _ rfl
        · obtain ⟨y, h2, h⟩ := K1_inv h; cases h; exact .pur _ _ rfl
        · rename_i x t ea et hx0 hx1 kt et'
          obtain ⟨y, h2, h⟩ := K1_inv h
          have ea' : args = #[x] := Array.toList_inj.1 ea
          have et'' : ats = #[t] := Array.toList_inj.1 et
          subst ea'; subst et''
          cases h; exact .lenm t kt et' x y h1 h2
        · cases h
      · rename_i s x st xt ea et
        have ea' : args = #[s, x] := Array.toList_inj.1 ea
        have et' : ats = #[st, xt] := Array.toList_inj.1 et
        subst ea'; subst et'
        unfold cApp at h
        obtain ⟨d, h1, h⟩ := opt_eq_some h
        obtain ⟨e, h1', h⟩ := opt_eq_some h
        obtain ⟨dx, h2, h⟩ := opt_eq_some h
        obtain ⟨i, h3, h⟩ := opt_eq_some h
        obtain ⟨z, hz, h⟩ := opt_eq_some h
        obtain ⟨h4, h⟩ := cnd_some h
        obtain ⟨u, v, h5, h6, h⟩ := K2_inv h
        cases h
        have := sliceElem_inv h1'; subst this
        simp only [iand_eq, Bool.and_eq_true, len_eq] at h4
        exact .app s x st xt e dx i z u v h1 h2 h4.1 h3 hz (Nat.eq_of_beq_eq_true h4.2.1) (Nat.le_of_ble_eq_true h4.2.2.1) (Nat.le_of_ble_eq_true h4.2.2.2) h5 h6
      · obtain ⟨os, h1, h⟩ := opt_eq_some h; cases h; exact .pur _ _ rfl
      · obtain ⟨os, h1, h⟩ := opt_eq_some h; cases h; exact .pur _ _ rfl
      · rename_i x y t ts ea et
        have ea' : args = #[x, y] := Array.toList_inj.1 ea
        have et' : ats = (t :: ts).toArray := Array.toList_inj.1 (by rw [et])
        subst ea'; subst et'
        obtain ⟨p, h1, h⟩ := opt_eq_some h
        obtain ⟨u, v, h3, h4, h⟩ := K2_inv h
        obtain ⟨kt, h5, h6⟩ := mapT_inv h1
        cases h; exact .mdel t kt p.2 ts p.1 x y u v h5 h6 h3 h4
      · rename_i x y t ts ea et
        have ea' : args = #[x, y] := Array.toList_inj.1 ea
        have et' : ats = (t :: ts).toArray := Array.toList_inj.1 (by rw [et])
        subst ea'; subst et'
        obtain ⟨d, h1, h'⟩ := opt_eq_some h
        obtain ⟨e, h2, h''⟩ := opt_eq_some h'
        obtain ⟨n, h3, h3'⟩ := opt_eq_some h''
        obtain ⟨h4, h4'⟩ := cnd_some h3'
        obtain ⟨u, v, h5, h6, h7⟩ := K2_inv h4'
        have hd := sliceElem_inv h2
        rw [hd] at h1
        cases h7; exact .copy t e n ts x y u v h1 h3 (Nat.le_of_ble_eq_true h4) h5 h6
      · cases h; exact .rcv args ats
      · rename_i x ea
        have ea' : args = #[x] := Array.toList_inj.1 ea
        subst ea'
        obtain ⟨y, h1, h⟩ := K1_inv h
        cases h; exact .cls x y ats h1
      · cases h
  | go c => cases h
  | defer c =>
    obtain ⟨callee, args, ats⟩ := c
    cases callee with
    | value f =>
      obtain ⟨xs, h1, h⟩ := opt_eq_some h
      obtain ⟨y, h2, h⟩ := opt_eq_some h
      cases h; exact .dfr f args ats xs y h1 h2
    | invoke r m => cases h
    | builtin b => cases h
  | panic x => obtain ⟨y, h4, h⟩ := K1_inv h; cases h; exact .pan x y h4
  | send c x => cases h
  | recv t c ok => cases h
  | select cs b =>
    replace h : cnd b none (opt (sel1 cs.toList) none fun p => opt (E.zero p.2) none fun z => K1 E lk p.1 fun a => some (K.sel z a)) = some q := h
    obtain ⟨hb, g1⟩ := cnd_some' h
    obtain ⟨p, h1, g2⟩ := opt_eq_some g1
    obtain ⟨z, h2, g3⟩ := opt_eq_some g2
    obtain ⟨y, h3, g4⟩ := K1_inv g3
    clear h g1 g2 g3
    unfold sel1 at h1
    split at h1
    · rename_i c ec
      have ec' : cs = #[c] := Array.toList_inj.1 ec
      subst ec'
      cases hs : c.send with
      | some x => rw [hs] at h1; cases h1
      | none =>
        rw [hs] at h1
        cases h1
        subst hb
        cases g4; exact .sel c z y hs h2 h3
    · cases h1
end Go.Ev

namespace Go.Ev
open Go.RowKit (Below)
variable {P : Program} {E : Env} {base : Nat} {w0 : World} {ι : Inj} {H : Hp} {w : World} {T : PT AV} {L : List AV} {lk : Look} {a : Act}

theorem ar_inv {β : Type} {H : Hp} {b : Pos} {k : AV → PT AV → Nat → Option β} {v : β} (h : H.ar b none k = some v) : ∃ z t n, H.m.get b = some (.arr z t n) ∧ k z t n = some v := by
  unfold Hp.ar at h
  obtain ⟨x, h1, h2⟩ := opt_eq_some h
  cases x with
  | arr z t n => exact ⟨z, t, n, h1, h2⟩
  | _ => cases h2
theorem cellsA_inv {β : Type} {H : Hp} {b : Pos} {k : Bool → List AV → Option β} {k' : AV → PT AV → Nat → Option β} {v : β} (h : H.cells b (H.ar b none k') k = some v) :
    (∃ ro l, H.m.get b = some (.cells ro l) ∧ k ro l = some v) ∨ ∃ z t n, H.m.get b = some (.arr z t n) ∧ k' z t n = some v := by
  unfold Hp.cells at h
  cases hx : H.m.get b with
  | none =>
    rw [hx] at h
    replace h : H.ar b none k' = some v := h
    obtain ⟨z, t, n, h1, _⟩ := ar_inv h
    rw [hx] at h1; cases h1
  | some x =>
    rw [hx] at h
    cases x with
    | cells ro l => exact .inl ⟨ro, l, rfl, h⟩
    | arr z t n =>
      replace h : H.ar b none k' = some v := h
      obtain ⟨z', t', n', h1, h2⟩ := ar_inv h
      rw [hx] at h1; cases h1
      exact .inr ⟨z, t, n, rfl, h2⟩
    | _ =>
      obtain ⟨z', t', n', h1, _⟩ := ar_inv (show H.ar b none k' = some v from h)
      rw [hx] at h1; cases h1
theorem cells_inv {β : Type} {H : Hp} {b : Pos} {k : Bool → List AV → Option β} {v : β} (h : H.cells b none k = some v) : ∃ ro l, H.m.get b = some (.cells ro l) ∧ k ro l = some v := by
  unfold Hp.cells at h
  obtain ⟨x, h1, h2⟩ := opt_eq_some h
  cases x with
  | cells ro l => exact ⟨ro, l, h1, h2⟩
  | map es c => cases h2
  | dead => cases h2
  | iter m s q l => cases h2
  | u8s => cases h2
  | chan cl => cases h2
  | arr u t n => cases h2
  | zrs e u x => cases h2
theorem cells_invO {H : Hp} {b : Pos} {k : Bool → List AV → OR} {v : AV} {H' : Hp} (h : H.cells b .no k = .val v H') : ∃ ro l, H.m.get b = some (.cells ro l) ∧ k ro l = .val v H' := by
  unfold Hp.cells at h
  cases hx : H.m.get b with
  | none => rw [hx] at h; cases h
  | some x =>
    rw [hx] at h
    cases x with
    | cells ro l => exact ⟨ro, l, rfl, h⟩
    | map es c => cases h
    | dead => cases h
    | iter m s q l => cases h
    | u8s => cases h
    | chan cl => cases h
    | arr u t n => cases h
    | zrs e u x => cases h
theorem opt_invO {α : Type} {x : Option α} {s : α → OR} {v : AV} {H' : Hp} (h : opt x .no s = .val v H') : ∃ y, x = some y ∧ s y = .val v H' := by
  cases x with
  | none => cases h
  | some y => exact ⟨y, rfl, h⟩
theorem cnd_invO {c : Bool} {x : OR} {v : AV} {H' : Hp} (h : cnd c x .no = .val v H') : c = true ∧ x = .val v H' := by
  cases c with
  | true => exact ⟨rfl, h⟩
  | false => cases h
theorem cnd_invO' {c : Bool} {x : OR} {v : AV} {H' : Hp} (h : cnd c .no x = .val v H') : c = false ∧ x = .val v H' := by
  cases c with
  | true => cases h
  | false => exact ⟨rfl, h⟩

theorem brow {r d z o n : Nat} {ro : Bool} {l q : List AV} (hb : BRel ι w r d z (.cells ro l)) (hq : o + n ≤ l.length) (he : q = (l.drop o).take n) :
    ∃ C : List Value, LRel ι q C ∧ C.length = n ∧ (∀ j v, C[j]? = some v → w.cell? ((⟨r, d + o, none⟩ : Addr).add j) = some v) := by
  have key : ∀ j, j < n → ∃ v, w.cell? ⟨r, d + (o + j), none⟩ = some v ∧ (∀ x, l[o + j]? = some x → VRel ι x v) := by
    intro j hj
    have hlt : o + j < l.length := by omega
    obtain ⟨v, h1, h2⟩ := hb.2.1 (o + j) l[o + j] (List.getElem?_eq_getElem hlt)
    exact ⟨v, h1, fun x hx => by rw [List.getElem?_eq_getElem hlt] at hx; cases hx; exact h2⟩
  refine ⟨(List.range n).map fun j => (w.cell? ⟨r, d + (o + j), none⟩).getD undef, ?_, by simp, ?_⟩
  · subst he
    refine .of_get (by simp; omega) fun i x v hx hv => ?_
    have hin : i < n := by
      rcases Nat.lt_or_ge i n with h' | h'
      · exact h'
      · rw [List.getElem?_eq_none (by simp; omega)] at hv; cases hv
    obtain ⟨u, h1, h2⟩ := key i hin
    rw [List.getElem?_map, List.getElem?_range hin] at hv
    simp only [Option.map_some, h1, Option.getD_some, Option.some.injEq] at hv
    subst hv
    refine h2 x ?_
    rw [List.getElem?_take_of_lt hin, List.getElem?_drop] at hx
    exact hx
  · intro j v hv
    have hin : j < n := by
      rcases Nat.lt_or_ge j n with h' | h'
      · exact h'
      · rw [List.getElem?_eq_none (by simp; omega)] at hv; cases hv
    obtain ⟨u, h1, _⟩ := key j hin
    rw [List.getElem?_map, List.getElem?_range hin] at hv
    simp only [Option.map_some, h1, Option.getD_some, Option.some.injEq] at hv
    subst hv
    rw [add_none, Nat.add_assoc]; exact h1

theorem Rl.row (h : Rl E base w0 ι H w) {b : Pos} {r d z o n : Nat} {ro : Bool} {l q : List AV} (hi : ι b = some (r, d, z)) (hg : H.m.get b = some (.cells ro l)) (hq : o + n ≤ l.length) (he : q = (l.drop o).take n) :
    ∃ C : List Value, LRel ι q C ∧ C.length = n ∧ (∀ j v, C[j]? = some v → w.cell? ((⟨r, d + o, none⟩ : Addr).add j) = some v) := brow (h.blk b r d z _ hi hg) hq he

theorem zr_inv {β : Type} {H : Hp} {b : Pos} {k : Nat → List AV → Option (Nat × List AV) → Option β} {v : β} (h : H.zr b none k = some v) : ∃ e z x, H.m.get b = some (.zrs e z x) ∧ k e z x = some v := by
  unfold Hp.zr at h
  obtain ⟨y, h1, h2⟩ := opt_eq_some h
  cases y with
  | zrs e z x => exact ⟨e, z, x, h1, h2⟩
  | _ => cases h2
theorem zrG_at {σ : Nat → IntKind × Int} {z : List AV} {x : Option (Nat × List AV)} {j : Nat} {l : List AV} {q : Nat} (h : zrG z x j = some l) (hj : σ j = (.i64, (q : Int))) : zrAt σ z x q = l := by
  cases x with
  | none => cases h; rfl
  | some p =>
    obtain ⟨i, l0⟩ := p
    replace h : cnd (Nat.beq i j) (some l0) none = some l := h
    obtain ⟨h1, h2⟩ := cnd_some h
    cases h2
    obtain rfl := Nat.eq_of_beq_eq_true h1
    show (if (σ i).2 = (q : Int) then l else z) = l
    rw [hj, if_pos rfl]
theorem atB_den {σ : Nat → IntKind × Int} {i : Nat} {o : AtO} {tb : List (Nat × AtO × AtV)} {t : Bool} (h : AtOk σ tb) (hb : atB i o tb = some t) : AtO.den σ i o = some (.bool t) := by
  unfold atB at hb
  obtain ⟨v, h1, h2⟩ := opt_eq_some hb
  rw [h _ _ _ (atG_some h1)]
  cases v with
  | bool b => cases h2; rfl
  | «at» j => cases h2
  | int k n => cases h2
theorem zrR_at {σ : Nat → IntKind × Int} {z : List AV} {x : Option (Nat × List AV)} {j : Nat} {tb : List (Nat × AtO × AtV)} (ho : AtOk σ tb) {l : List AV} {q : Nat} (h : zrR z x j tb = some l) (hj : σ j = (.i64, (q : Int))) : zrAt σ z x q = l := by
  cases x with
  | none => cases h; rfl
  | some p =>
    obtain ⟨i, l0⟩ := p
    replace h : cnd (Nat.beq i j) (some l0) (opt (atB j (.ea i) tb) none fun t => cnd t none (some z)) = some l := h
    rw [cnd_eq] at h
    split at h
    · rename_i h1
      cases h
      obtain rfl := Nat.eq_of_beq_eq_true h1
      show (if (σ i).2 = (q : Int) then l else z) = l
      rw [hj, if_pos rfl]
    · obtain ⟨t, h1, h2⟩ := opt_eq_some h
      cases t with
      | true => cases h2
      | false =>
        cases h2
        have h3 := atB_den ho h1
        replace h3 : (opt (avEqN (num σ j) (num σ i)) none fun b => some (AV.bool b)) = some (.bool false) := h3
        obtain ⟨b, h4, h5⟩ := opt_eq_some h3
        cases h5
        replace h4 : cnd (kbeq (σ j).1 (σ i).1) (some (ieq (σ j).2 (σ i).2)) none = some false := h4
        obtain ⟨_, h6⟩ := cnd_some h4
        have h7 : ieq (σ j).2 (σ i).2 = false := Option.some.inj h6
        rw [ieq_eq, beq_eq_false_iff_ne] at h7
        show (if (σ i).2 = (q : Int) then l0 else z) = z
        rw [if_neg fun e => h7 (by rw [hj]; exact e.symm)]
theorem zrR_len {r d n Z e : Nat} {z : List AV} {x : Option (Nat × List AV)} (hb : BRel ι w r d (code n Z) (.zrs e z x)) {j : Nat} {tb : List (Nat × AtO × AtV)} {l : List AV} (hl : zrR z x j tb = some l) : l.length = e := by
  obtain ⟨_, _, _, _, _, h4, h5, _, _⟩ := hb
  cases x with
  | none => cases hl; exact h4
  | some p =>
    obtain ⟨i, l0⟩ := p
    replace hl : cnd (Nat.beq i j) (some l0) (opt (atB j (.ea i) tb) none fun t => cnd t none (some z)) = some l := hl
    rw [cnd_eq] at hl
    split at hl
    · cases hl; exact (h5 i l rfl).1
    · obtain ⟨t, h1, h2⟩ := opt_eq_some hl
      cases t with
      | true => cases h2
      | false => cases h2; exact h4
theorem zrR_cell {r d n Z e q : Nat} {z : List AV} {x : Option (Nat × List AV)} (hb : BRel ι w r d (code n Z) (.zrs e z x)) {j : Nat} {tb : List (Nat × AtO × AtV)} (ho : AtOk ι.s tb) (hj : ι.s j = (.i64, (q : Int))) (hq : q < n) {l : List AV} (hl : zrR z x j tb = some l) {f : Nat} {v : AV} (hf : l[f]? = some v) :
    ∃ c, w.cell? ⟨r, d + (q * e + f), none⟩ = some c ∧ VRel ι v c := by
  obtain ⟨n', Z', e1, _, _, _, _, h6, _⟩ := hb
  obtain ⟨rfl, rfl⟩ := code_inj e1
  exact h6 q f v hq (by rw [zrR_at ho hl hj]; exact hf)
theorem zr_cell {r d n Z e q : Nat} {z : List AV} {x : Option (Nat × List AV)} (hb : BRel ι w r d (code n Z) (.zrs e z x)) {j : Nat} (hj : ι.s j = (.i64, (q : Int))) (hq : q < n) {l : List AV} (hl : zrG z x j = some l) {f : Nat} {v : AV} (hf : l[f]? = some v) :
    ∃ c, w.cell? ⟨r, d + (q * e + f), none⟩ = some c ∧ VRel ι v c := by
  obtain ⟨n', Z', e1, _, _, _, _, h6, _⟩ := hb
  obtain ⟨rfl, rfl⟩ := code_inj e1
  exact h6 q f v hq (by rw [zrG_at hl hj]; exact hf)
theorem zr_len {r d n Z e : Nat} {z : List AV} {x : Option (Nat × List AV)} (hb : BRel ι w r d (code n Z) (.zrs e z x)) {j : Nat} {l : List AV} (hl : zrG z x j = some l) : l.length = e := by
  obtain ⟨_, _, _, _, _, h4, h5, _, _⟩ := hb
  cases x with
  | none => cases hl; exact h4
  | some p =>
    obtain ⟨i, l0⟩ := p
    replace hl : cnd (Nat.beq i j) (some l0) none = some l := hl
    obtain ⟨h1, h2⟩ := cnd_some hl
    cases h2
    exact (h5 i l rfl).1
theorem zr_row {r d n Z e q : Nat} {z : List AV} {x : Option (Nat × List AV)} (hb : BRel ι w r d (code n Z) (.zrs e z x)) {j : Nat} {tb : List (Nat × AtO × AtV)} (ho : AtOk ι.s tb) (hj : ι.s j = (.i64, (q : Int))) (hq : q < n) {l : List AV} (hl : zrR z x j tb = some l) :
    ∃ C : List Value, LRel ι l C ∧ C.length = e ∧ ∀ (i : Nat) (v : Value), C[i]? = some v → w.cell? ((⟨r, d + q * e, none⟩ : Addr).add i) = some v := by
  have hlen := zrR_len hb hl
  have ex : ∀ i (h : i < l.length), ∃ c, w.cell? ⟨r, d + (q * e + i), none⟩ = some c ∧ VRel ι l[i] c := fun i h => zrR_cell hb ho hj hq hl (List.getElem?_eq_getElem h)
  refine ⟨(List.range l.length).map fun i => if h : i < l.length then (ex i h).choose else .int .i64 0, .of_get (by simp) fun i y v hy hv => ?_, by simp [hlen], fun i v hv => ?_⟩
  · have hi : i < l.length := (List.getElem?_eq_some_iff.1 hy).1
    rw [List.getElem?_map, List.getElem?_range hi] at hv
    have hv' : (if h : i < l.length then (ex i h).choose else .int .i64 0) = v := Option.some.inj hv
    rw [dif_pos hi] at hv'
    have := (ex i hi).choose_spec.2
    rw [hv'] at this
    rw [List.getElem?_eq_getElem hi] at hy
    cases hy
    exact this
  · have hi : i < l.length := by
      rcases Nat.lt_or_ge i l.length with h | h
      · exact h
      · rw [List.getElem?_eq_none (by simpa using h)] at hv; cases hv
    rw [List.getElem?_map, List.getElem?_range hi] at hv
    have hv' : (if h : i < l.length then (ex i h).choose else .int .i64 0) = v := Option.some.inj hv
    rw [dif_pos hi] at hv'
    have := (ex i hi).choose_spec.1
    rw [hv'] at this
    rw [add_none]
    simpa [Nat.add_assoc] using this
theorem load_gives (hE : EnvOk P E) (h : Rl E base w0 ι H w) {t n : Nat} {g : Bool} (hg : E.isAgg t = some g) (hn : E.size t = some n) {x : AV} {cx : Value} (hx : VRel ι x cx) {v : AV}
    (hv : (cnd g (ldn n) ld1) x H = some v) : Gives P ι w (Instr.loadAt t cx) v := by
  cases g with
  | true =>
    replace hv : ldn n x H = some v := hv
    unfold ldn at hv
    split at hv
    · rename_i b e j tb f
      obtain ⟨e', z, y, h1, h2⟩ := zr_inv hv
      replace h2 := cnd_some h2
      obtain ⟨h3, h2⟩ := h2
      simp only [iand_eq, Bool.and_eq_true] at h3
      obtain rfl := Nat.eq_of_beq_eq_true h3.1
      obtain rfl := Nat.eq_of_beq_eq_true h3.2.1
      obtain rfl := Nat.eq_of_beq_eq_true h3.2.2
      obtain ⟨l, h4, h5⟩ := opt_eq_some h2
      cases h5
      cases hx with
      | pat _ _ _ _ _ n0 r d Z q hi ho hj hq hf =>
        obtain ⟨C, c1, c2, c3⟩ := zr_row (h.blk b r d _ _ hi h1) ho hj hq h4
        refine ⟨.agg C.toArray, ?_, .agg _ _ c1⟩
        have := run_loadCells_list (P := P) w ⟨r, d + q * n, none⟩ C c3
        rw [c2] at this
        simp [Instr.loadAt, Instr.sureAddr, loadVar, isAgg_run (P := P) (w := w) hE hg, size_run (P := P) (w := w) hE hn, this]
    · rename_i b o
      obtain ⟨ro, l, h1, h2⟩ := cells_inv hv
      obtain ⟨q, h3, h4⟩ := opt_eq_some h2
      cases h4
      obtain ⟨h5, h6⟩ := sub_eq h3
      cases hx with
      | ptr _ _ r d z hi =>
        obtain ⟨C, c1, c2, c3⟩ := h.row hi h1 h5 h6
        refine ⟨.agg C.toArray, ?_, .agg _ _ c1⟩
        have := run_loadCells_list (P := P) w ⟨r, d + o, none⟩ C c3
        rw [c2] at this
        simp [Instr.loadAt, Instr.sureAddr, loadVar, isAgg_run (P := P) (w := w) hE hg, size_run (P := P) (w := w) hE hn, this]
    · cases hv
  | false =>
    replace hv : ld1 x H = some v := hv
    unfold ld1 at hv
    split at hv
    · rename_i b e j tb f
      obtain ⟨e', z, y, h1, h2⟩ := zr_inv hv
      replace h2 := cnd_some h2
      obtain ⟨h3, h2⟩ := h2
      obtain rfl := Nat.eq_of_beq_eq_true h3
      obtain ⟨l, h4, h5⟩ := opt_eq_some h2
      rw [nth_eq] at h5
      cases hx with
      | pat _ _ _ _ _ n0 r d Z q hi ho hj hq hf =>
        obtain ⟨u, k1, k2⟩ := zrR_cell (h.blk b r d _ _ hi h1) ho hj hq h4 h5
        refine ⟨u, ?_, k2⟩
        simp [Instr.loadAt, Instr.sureAddr, loadVar, isAgg_run (P := P) (w := w) hE hg, k1]
    · rename_i b o
      rcases cellsA_inv hv with ⟨ro, l, h1, h2⟩ | ⟨zz, t', n', h1, h2⟩
      · rw [nth_eq] at h2
        cases hx with
        | ptr _ _ r d z hi =>
          obtain ⟨u, h3, h4⟩ := (h.blk b r d z _ hi h1 : BRel ι w r d z (.cells ro l)).2.1 o v h2
          refine ⟨u, ?_, h4⟩
          simp [Instr.loadAt, Instr.sureAddr, loadVar, isAgg_run (P := P) (w := w) hE hg, h3]
      · obtain ⟨h6, h5⟩ := cnd_some h2
        cases h5
        cases hx with
        | ptr _ _ r d z hi =>
          obtain ⟨u, h3, h4⟩ := (h.blk b r d z _ hi h1 : BRel ι w r d z (.arr zz t' n')).2.1 o (Nat.le_of_ble_eq_true h6)
          refine ⟨u, ?_, h4⟩
          simp [Instr.loadAt, Instr.sureAddr, loadVar, isAgg_run (P := P) (w := w) hE hg, h3]
    · cases hv
theorem mp_inv {β : Type} {H : Hp} {b : Pos} {k : List (AV × AV × Nat) → Nat → Option β} {v : β} (h : H.mp b none k = some v) : ∃ es c, H.m.get b = some (.map es c) ∧ k es c = some v := by
  unfold Hp.mp at h
  obtain ⟨x, h1, h2⟩ := opt_eq_some h
  cases x with
  | map es c => exact ⟨es, c, h1, h2⟩
  | cells ro l => cases h2
  | dead => cases h2
  | iter m s q l => cases h2
  | u8s => cases h2
  | chan cl => cases h2
  | arr u t n => cases h2
  | zrs e u x => cases h2
theorem mp_invO {H : Hp} {b : Pos} {k : List (AV × AV × Nat) → Nat → OR} {v : AV} {H' : Hp} (h : H.mp b .no k = .val v H') : ∃ es c, H.m.get b = some (.map es c) ∧ k es c = .val v H' := by
  unfold Hp.mp at h
  obtain ⟨x, h1, h2⟩ := opt_invO h
  cases x with
  | map es c => exact ⟨es, c, h1, h2⟩
  | cells ro l => cases h2
  | dead => cases h2
  | iter m s q l => cases h2
  | u8s => cases h2
  | chan cl => cases h2
  | arr u t n => cases h2
  | zrs e u x => cases h2
theorem it_invO {H : Hp} {b : Pos} {k : Option Pos → Nat → List Nat → Nat → OR} {v : AV} {H' : Hp} (h : H.it b .no k = .val v H') : ∃ m s q l, H.m.get b = some (.iter m s q l) ∧ k m s q l = .val v H' := by
  unfold Hp.it at h
  obtain ⟨x, h1, h2⟩ := opt_invO h
  cases x with
  | map es c => cases h2
  | cells ro l => cases h2
  | dead => cases h2
  | iter m s q l => exact ⟨m, s, q, l, h1, h2⟩
  | u8s => cases h2
  | chan cl => cases h2
  | arr u t n => cases h2
  | zrs e u x => cases h2
theorem ERel.length : ∀ {l : List (AV × AV × Nat)} {L : List MapEntry}, ERel ι l L → l.length = L.length
  | _, _, .nil => rfl
  | _, _, .cons _ _ _ _ _ _ _ _ _ t => by simp [t.length]
theorem Rl.mapAt (h : Rl E base w0 ι H w) {b : Pos} {cx : Value} (hx : VRel ι (.map b) cx) {es : List (AV × AV × Nat)} {c : Nat} (hg : H.m.get b = some (.map es c)) :
    ∃ r z ES, cx = .map (some r) ∧ ι b = some (r, 0, z) ∧ w.heap[r]? = some (.map ES c) ∧ ERel ι es ES.toList := by
  cases hx with
  | map _ r z hi =>
    obtain ⟨_, ES, h1, h2⟩ : BRel ι w r 0 z (.map es c) := h.blk b r 0 z _ hi hg
    exact ⟨r, z, ES, rfl, hi, h1, h2⟩
theorem lenm_gives (hE : EnvOk P E) (h : Rl E base w0 ι H w) {t kt et : Nat} (hu : E.und t = some (.map kt et)) {x : AV} {cx : Value} (hx : VRel ι x cx) {v : AV} (hv : mlF x H = some v) {ty : TypeId} :
    Gives P ι w (Builtin.len_ #[t] ty #[cx]) v := by
  unfold mlF at hv
  split at hv
  · cases hv
    cases hx
    refine ⟨.int .i64 0, ?_, .int _ _⟩
    simp [Builtin.len_, und_run (P := P) (w := w) hE hu, goInt]
  · rename_i b
    obtain ⟨es, c, h1, h2⟩ := mp_inv hv
    obtain ⟨r, z, ES, rfl, hi, h3, h4⟩ := h.mapAt hx h1
    rw [fNat_eq] at h2
    cases h2
    have hl := h4.length
    refine ⟨.int .i64 (len es), ?_, .int _ _⟩
    rw [len_eq, hl]
    simp [Builtin.len_, und_run (P := P) (w := w) hE hu, goInt, getObj, Sem.run, h3]
  · cases hv
theorem bytes_fold : ∀ (s : List Nat) (b : ByteArray), (∀ n ∈ s, n ≤ 255) → ((s.map Int.ofNat).foldl (fun r n => r.push (UInt8.ofNat n.toNat)) b).data.toList.map (·.toNat) = b.data.toList.map (·.toNat) ++ s
  | [], b, _ => by simp
  | n :: s, b, h => by
    have hn : n ≤ 255 := h n (by simp)
    rw [List.map_cons, List.foldl_cons, bytes_fold s _ fun m hm => h m (by simp [hm])]
    have : (b.push (UInt8.ofNat n)).data = b.data.push (UInt8.ofNat n) := rfl
    show ((b.push (UInt8.ofNat n)).data).toList.map (·.toNat) ++ s = _
    rw [this]
    simp
    omega
theorem byteOf_rel {v : AV} {n : Nat} (h : byteOf v = some n) : v = .int .u8 (.ofNat n) ∧ n ≤ 255 := by
  unfold byteOf at h
  split at h
  · obtain ⟨h1, h2⟩ := cnd_some h
    cases h2
    exact ⟨rfl, Nat.le_of_ble_eq_true h1⟩
  · cases h
theorem bytes_rel : ∀ {r : List AV} {s : List Nat} {C : List Value}, mapO byteOf r = some s → LRel ι r C → C = (s.map Int.ofNat).map (Value.int .u8) ∧ ∀ n ∈ s, n ≤ 255
  | [], s, C, h, hC => by cases h; cases hC; exact ⟨rfl, by simp⟩
  | x :: r, s, C, h, hC => by
    obtain ⟨n, s', h1, h2, rfl⟩ := mapO_cons h
    obtain ⟨rfl, hn⟩ := byteOf_rel h1
    cases hC with
    | cons _ c _ C hx t =>
      obtain ⟨e, hs⟩ := bytes_rel h2 t
      have := int_rel hx
      subst this
      refine ⟨by rw [e]; rfl, fun m hm => ?_⟩
      cases hm with
      | head => exact hn
      | tail _ hm => exact hs m hm
theorem isAtB_rel {x : AV} {v : Value} (h : isAtB x = true) (hx : VRel ι x v) : ∃ n, v = .int .u8 n := by
  unfold isAtB at h
  split at h
  · exact ⟨_, int_rel hx⟩
  · rename_i i tb
    cases hg : atG i (.cv .u8) tb with
    | none => rw [hg] at h; cases h
    | some r =>
      rw [hg] at h
      cases r with
      | «at» j =>
        obtain rfl : j = i := Nat.eq_of_beq_eq_true h
        obtain ⟨ho, rfl⟩ := at_rel hx
        have h1 : some (AV.int .u8 (wr .u8 (ι.s j).2)) = some (.int (ι.s j).1 (ι.s j).2) := ho j _ _ (atG_some hg)
        have h2 := Option.some.inj h1
        injection h2 with h3 h4
        exact ⟨_, by rw [← h3]⟩
      | _ => cases h
  · cases h
theorem isAtB_ints : ∀ {l : List AV} {C : List Value}, allB isAtB l = true → LRel ι l C → ∃ ns : List Int, C = ns.map (Value.int .u8)
  | [], _, _, .nil => ⟨[], rfl⟩
  | x :: l, _, h, .cons _ v _ C hx t => by
    replace h : iand (isAtB x) (allB isAtB l) = true := h
    rw [iand_eq, Bool.and_eq_true] at h
    obtain ⟨n, rfl⟩ := isAtB_rel h.1 hx
    obtain ⟨ns, rfl⟩ := isAtB_ints h.2 t
    exact ⟨n :: ns, rfl⟩
theorem isAtB_at {i : Nat} {tb : List (Nat × AtO × AtV)} (h : isAtB (.at i tb) = true) (ho : AtOk ι.s tb) : (ι.s i).1 = .u8 ∧ 0 ≤ (ι.s i).2 ∧ (ι.s i).2 < 256 := by
  replace h : (opt (atG i (.cv .u8) tb) false fun r => AtV.rec (motive := fun _ => Bool) (fun j => Nat.beq j i) (fun _ => false) (fun _ _ => false) r) = true := h
  cases hg : atG i (.cv .u8) tb with
  | none => rw [hg] at h; cases h
  | some r =>
    rw [hg] at h
    cases r with
    | «at» j =>
      obtain rfl : j = i := Nat.eq_of_beq_eq_true h
      have h1 : some (AV.int .u8 (wr .u8 (ι.s j).2)) = some (.int (ι.s j).1 (ι.s j).2) := ho j _ _ (atG_some hg)
      have h2 := Option.some.inj h1
      injection h2 with h3 h4
      rw [wr_eq] at h4
      replace h4 : (ι.s j).2 % (2 ^ 8 : Int) = (ι.s j).2 := h4
      have h5 := Int.emod_nonneg (ι.s j).2 (show (2 ^ 8 : Int) ≠ 0 by decide)
      have h6 := Int.emod_lt_of_pos (ι.s j).2 (show (0 : Int) < 2 ^ 8 by decide)
      rw [h4] at h5 h6
      exact ⟨h3.symm, h5, h6⟩
    | _ => cases h
theorem putU_lt : ∀ (f u : Nat), u < 128 ^ (f + 1) → ∀ x ∈ putU f u, x ≤ 255
  | 0, u, h, x, hx => by
    have : x = u := by simpa [putU] using hx
    simp at h
    omega
  | f + 1, u, h, x, hx => by
    unfold putU at hx
    split at hx
    · have : x = u := by simpa using hx
      omega
    · cases hx with
      | head => omega
      | tail _ hx => exact putU_lt f (u / 128) (by rw [Nat.pow_succ] at h; omega) x hx
theorem decB_lt : ∀ (f n : Nat), ∀ x ∈ decB f n, x ≤ 255
  | 0, n, x, hx => by simp [decB] at hx
  | f + 1, n, x, hx => by
    unfold decB at hx
    split at hx
    · simp at hx
    · cases hx with
      | head => omega
      | tail _ hx => exact decB_lt f _ x hx
theorem tks_lt {σ : Nat → IntKind × Int} {l : List Tk} (h : ∀ t ∈ l, t.ok σ) : ∀ x ∈ tksB σ l, x ≤ 255 := by
  intro x hx
  obtain ⟨t, ht, hx⟩ := List.mem_flatMap.1 hx
  have hk := h t ht
  cases t with
  | b n =>
    have : x = n := by simpa [Tk.bs] using hx
    have hk' : n < 256 := hk
    omega
  | a i tb =>
    have : x = (σ i).2.toNat := by simpa [Tk.bs] using hx
    obtain ⟨_, _, k3, k4⟩ := hk
    omega
  | q i tb =>
    obtain ⟨_, _, k3, k4⟩ := hk
    refine putU_lt 9 _ ?_ x hx
    have : (128 : Nat) ^ (9 + 1) = 1180591620717411303424 := by decide
    rw [this]
    split <;> omega
  | o i => exact decB_lt _ _ x hx
theorem cellTk_rel : ∀ {r : List AV} {l : List Tk} {C : List Value}, mapO cellTk r = some l → allB isAtB r = true → LRel ι r C → (∀ t ∈ l, t.ok ι.s) ∧ C = ((tksB ι.s l).map Int.ofNat).map (Value.int .u8)
  | [], l, C, h, _, hC => by cases h; cases hC; exact ⟨by simp, rfl⟩
  | x :: r, l, C, h, hb, hC => by
    obtain ⟨n, s', h1, h2, rfl⟩ := mapO_cons h
    replace hb : iand (isAtB x) (allB isAtB r) = true := hb
    rw [iand_eq, Bool.and_eq_true] at hb
    cases hC with
    | cons _ c _ C hx t =>
      obtain ⟨e1, e2⟩ := cellTk_rel h2 hb.2 t
      have e3 : tksB ι.s (n :: s') = n.bs ι.s ++ tksB ι.s s' := by simp [tksB]
      have main : n.ok ι.s ∧ ∃ y : Nat, n.bs ι.s = [y] ∧ c = .int .u8 (Int.ofNat y) := by
        unfold cellTk at h1
        split at h1
        · rename_i m
          obtain ⟨h3, h4⟩ := cnd_some h1
          cases h4
          have h5 := Nat.le_of_ble_eq_true h3
          exact ⟨show m < 256 by omega, m, rfl, int_rel hx⟩
        · rename_i i tb
          cases h1
          obtain ⟨ho, rfl⟩ := at_rel hx
          obtain ⟨k1, k2, k3⟩ := isAtB_at hb.1 ho
          refine ⟨⟨ho, k1, k2, k3⟩, (ι.s i).2.toNat, rfl, ?_⟩
          rw [k1]
          congr 1
          show (ι.s i).2 = ((ι.s i).2.toNat : Int)
          omega
        · cases h1
      obtain ⟨m1, y, m2, rfl⟩ := main
      refine ⟨fun t ht => ?_, ?_⟩
      · cases ht with
        | head => exact m1
        | tail _ ht => exact e1 t ht
      · rw [e3, m2, e2]; rfl
theorem u8_inv {β : Type} {b : Pos} {k : Option (List Tk) → Option β} {v : β} (h : H.u8 b none k = some v) : ∃ t, H.m.get b = some (.u8s t) ∧ k t = some v := by
  unfold Hp.u8 at h
  obtain ⟨x, h1, h2⟩ := opt_eq_some h
  cases x with
  | u8s t => exact ⟨t, h1, h2⟩
  | _ => cases h2
theorem b2s_gives (hE : EnvOk P E) (h : Rl E base w0 ι H w) {s d e : Nat} (hd : E.und d = some .string) (hs : E.und s = some (.slice e)) (he : E.und e = some (.int .u8)) {x : AV} {cx : Value} (hx : VRel ι x cx) {v : AV} (hv : b2s x H = some v) :
    Gives P ι w (convert s d cx) v := by
  have conv : ∀ a l c, (convert s d (.slice a l c)).run P w = (Conv.bytesToString (.slice a l c)).run P w := fun a l c => run_convert_bytes_string w s d e a l c (und_eq hE hs) (und_eq hE he) (und_eq hE hd)
  have finC : ∀ (a : Addr) (c n : Nat) (ss : List Nat), (∀ x ∈ ss, x ≤ 255) → ss.length = n → (∀ j v, ((ss.map Int.ofNat).map (Value.int .u8))[j]? = some v → w.cell? (a.add j) = some v) →
      ∃ u : ByteArray, u.data.toList.map (·.toNat) = ss ∧ (convert s d (.slice (some a) n c)).run P w = .ok (.string u) w := by
    intro a c n ss e2 h3 h4
    have hl := run_loadCells_list (P := P) w a _ h4
    rw [List.length_map, List.length_map, h3] at hl
    refine ⟨_, ?_, (conv _ _ _).trans (run_bytesToString w a n c _ hl)⟩
    rw [bytes_fold _ _ e2]; rfl
  have fin : ∀ (a : Addr) (c n : Nat) (r : List AV) (ss : List Nat) (C : List Value), mapO byteOf r = some ss → LRel ι r C → C.length = n → (∀ j v, C[j]? = some v → w.cell? (a.add j) = some v) →
      Gives P ι w (convert s d (.slice (some a) n c)) (.str ss) := by
    intro a c n r ss C h1 h2 h3 h4
    obtain ⟨e1, e2⟩ := bytes_rel h1 h2
    subst e1
    obtain ⟨u, k1, k2⟩ := finC a c n ss e2 (by simpa using h3) h4
    exact ⟨_, k2, .str _ _ k1⟩
  have finT : ∀ (a : Addr) (c n : Nat) (l : List Tk), (∀ t ∈ l, t.ok ι.s) → n ≤ 1000000 → (tksB ι.s l).length = n → (∀ j v, (((tksB ι.s l).map Int.ofNat).map (Value.int .u8))[j]? = some v → w.cell? (a.add j) = some v) →
      Gives P ι w (convert s d (.slice (some a) n c)) (.stk l) := by
    intro a c n l h1 h2 h3 h4
    obtain ⟨u, k1, k2⟩ := finC a c n _ (tks_lt h1) h3 h4
    exact ⟨_, k2, .stk _ _ k1 ⟨h1, by omega⟩⟩
  have finA : ∀ (a : Addr) (c n : Nat) (r : List AV) (C : List Value) (v : AV), cnd (iand (Nat.ble n 1000000) (allB isAtB r)) (opt (mapO cellTk r) none fun l => some (.stk l)) none = some v → LRel ι r C → C.length = n → (∀ j v, C[j]? = some v → w.cell? (a.add j) = some v) → Gives P ι w (convert s d (.slice (some a) n c)) v := by
    intro a c n r C v h1 h2 h3 h4
    obtain ⟨h5, h6⟩ := cnd_some h1
    simp only [iand_eq, Bool.and_eq_true] at h5
    obtain ⟨l, h7, h8⟩ := opt_eq_some h6
    cases h8
    obtain ⟨e1, e2⟩ := cellTk_rel h7 h5.2 h2
    subst e2
    exact finT a c n l e1 (Nat.le_of_ble_eq_true h5.1) (by simpa using h3) h4
  unfold b2s at hv
  split at hv
  · cases hv
    cases hx
    exact ⟨.string .empty, conv _ _ _, .str _ _ rfl⟩
  · rename_i b o n c0
    obtain ⟨ro, l, h1, h2⟩ := cells_inv hv
    obtain ⟨r, h3, h4⟩ := opt_eq_some h2
    obtain ⟨h7, h8⟩ := sub_eq h3
    cases h5 : mapO byteOf r with
    | none =>
      rw [h5] at h4
      replace h4 : cnd (iand (Nat.ble n 1000000) (allB isAtB r)) (opt (mapO cellTk r) none fun l => some (.stk l)) none = some v := h4
      cases hx with
      | sl _ _ _ c r d z hi =>
        obtain ⟨C, c1, c2, c3⟩ := h.row hi h1 h7 h8
        exact finA _ _ _ _ _ _ h4 c1 c2 c3
      | slu _ _ _ c r d z e' hi hc hz =>
        obtain ⟨C, c1, c2, c3⟩ := h.row hi h1 h7 h8
        exact finA _ _ _ _ _ _ h4 c1 c2 c3
      | slv _ _ r d z ad c hi hc =>
        obtain ⟨C, c1, c2, c3⟩ := h.row hi h1 h7 h8
        have : C = [] := List.eq_nil_of_length_eq_zero c2
        subst this
        exact finA _ _ _ _ _ _ h4 c1 c2 (by simp)
    | some ss =>
    rw [h5] at h4
    cases h4
    cases hx with
    | sl _ _ _ c r d z hi =>
      obtain ⟨C, c1, c2, c3⟩ := h.row hi h1 h7 h8
      exact fin _ _ _ _ _ _ h5 c1 c2 c3
    | slu _ _ _ c r d z e' hi hc hz =>
      obtain ⟨C, c1, c2, c3⟩ := h.row hi h1 h7 h8
      exact fin _ _ _ _ _ _ h5 c1 c2 c3
    | slv _ _ r d z ad c hi hc =>
      obtain ⟨C, c1, c2, c3⟩ := h.row hi h1 h7 h8
      have : C = [] := List.eq_nil_of_length_eq_zero c2
      subst this
      exact fin _ _ _ _ _ _ h5 c1 c2 (by simp)
  · rename_i b m
    obtain ⟨t, h1, h2⟩ := u8_inv hv
    cases hx with
    | slq _ _ n c r d' Z hi hm hc hz =>
      obtain ⟨n', Z', e1, e2, e3, e4⟩ := h.blk b r d' _ _ hi h1
      obtain ⟨rfl, rfl⟩ := code_inj e1
      cases t with
      | some l =>
        cases h2
        obtain ⟨q1, q2, q3⟩ := e4 l rfl
        refine finT _ _ _ l q1.1 (by have := q1.2; omega) q2 fun j v hj => ?_
        rw [List.getElem?_map, List.getElem?_map] at hj
        cases hx : (tksB ι.s l)[j]? with
        | none => rw [hx] at hj; cases hj
        | some y =>
          rw [hx] at hj
          cases hj
          rw [add_none]
          exact q3 j y hx
      | none =>
        cases h2
        obtain ⟨f, hf⟩ : ∃ f : Nat → Int, ∀ j, j < n → w.cell? ⟨r, d' + j, none⟩ = some (.int .u8 (f j)) :=
          ⟨fun j => if hj : j < n then (e2 j hj).choose else 0, fun j hj => by show _ = some (Value.int .u8 (if hj : j < n then (e2 j hj).choose else 0)); rw [dif_pos hj]; exact (e2 j hj).choose_spec⟩
        have hl := run_loadCells_list (P := P) w ⟨r, d', none⟩ (((List.range n).map f).map (Value.int .u8)) (fun j v hj => by
          rw [List.map_map, List.getElem?_map] at hj
          cases hr : (List.range n)[j]? with
          | none => rw [hr] at hj; cases hj
          | some q =>
            rw [hr] at hj
            have hj2 := (List.getElem?_eq_some_iff.1 hr).1
            have : q = j := by
              have := (List.getElem?_eq_some_iff.1 hr).2
              simpa using this.symm
            subst this
            cases hj
            rw [add_none]
            exact hf q (by simpa using hj2))
        rw [List.length_map, List.length_map, List.length_range] at hl
        exact ⟨_, (conv _ _ _).trans (run_bytesToString w _ n c _ hl), .any _⟩
  · cases hv
theorem read_sound (hE : EnvOk P E) (h : Rl E base w0 ι H w) (hl : LkOk ι T L lk a) {o : Oper} {f : AV → Hp → Option AV} {x : Opd} (hk : cK E lk o.op = some (.r1 f x)) {v : AV} (hv : f (x.ev T L) H = some v) :
    OpGives P ι w a.eval o v := by
  obtain ⟨dst, op, type, pos, after, guard⟩ := o
  cases cK_inv hk with
  | pur _ _ h => cases h
  | load t n g y z h1 h2 h3 => exact .of (load_gives hE h h1 h2 (opd_sound h.glob hl h3) hv) rfl
  | lenm t kt et y z h1 h2 => exact .of (lenm_gives (ty := type) hE h h1 (opd_sound h.glob hl h2) hv) (by simp [execOp, resolve, invoke, builtin])
  | b2s s d e y z h1 h2 h3 h4 => exact .of (b2s_gives hE h h1 h2 h3 (opd_sound h.glob hl h4) hv) rfl
def Hp.ext (H H' : Hp) : Prop := ∀ b x, H.m.get b = some x → H'.m.get b = some x
theorem cells_ext {β : Type} {H H' : Hp} (hx : H.ext H') {b : Pos} {k : Bool → List AV → Option β} {v : β} (h : H.cells b none k = some v) : H'.cells b none k = some v := by
  obtain ⟨ro, l, h1, h2⟩ := cells_inv h
  unfold Hp.cells
  rw [hx _ _ h1]
  exact h2
theorem cellsA_ext {β : Type} {H H' : Hp} (hx : H.ext H') {b : Pos} {k : Bool → List AV → Option β} {k' : AV → PT AV → Nat → Option β} {v : β} (h : H.cells b (H.ar b none k') k = some v) : H'.cells b (H'.ar b none k') k = some v := by
  rcases cellsA_inv h with ⟨ro, l, h1, h2⟩ | ⟨z, t, n, h1, h2⟩
  · unfold Hp.cells
    rw [hx _ _ h1]
    exact h2
  · have e : H'.ar b none k' = some v := by
      unfold Hp.ar
      rw [hx _ _ h1]
      exact h2
    unfold Hp.cells
    rw [hx _ _ h1]
    exact e
theorem zr_ext {β : Type} {H H' : Hp} (hx : H.ext H') {b : Pos} {k : Nat → List AV → Option (Nat × List AV) → Option β} {v : β} (h : H.zr b none k = some v) : H'.zr b none k = some v := by
  obtain ⟨e, z, x, h1, h2⟩ := zr_inv h
  unfold Hp.zr
  rw [hx _ _ h1]
  exact h2
theorem load_ext {n : Nat} {g : Bool} {H H' : Hp} (hx : H.ext H') {x v : AV} (h : (cnd g (ldn n) ld1) x H = some v) : (cnd g (ldn n) ld1) x H' = some v := by
  cases g with
  | true =>
    replace h : ldn n x H = some v := h
    show ldn n x H' = some v
    unfold ldn at h ⊢
    split at h
    · exact zr_ext hx h
    · exact cells_ext hx h
    · cases h
  | false =>
    replace h : ld1 x H = some v := h
    show ld1 x H' = some v
    unfold ld1 at h ⊢
    split at h
    · exact zr_ext hx h
    · exact cellsA_ext hx h
    · cases h
theorem read_ext {op : Op} {f : AV → Hp → Option AV} {x : Opd} (hk : cK E lk op = some (.r1 f x)) {H H' : Hp} (hx : H.ext H') {y v : AV} (h : f y H = some v) : f y H' = some v := by
  cases cK_inv hk with
  | pur _ _ h => cases h
  | load t n g y z h1 h2 h3 => exact load_ext hx h
  | lenm t kt et y z h1 h2 =>
    unfold mlF at h ⊢
    split at h
    · exact h
    · obtain ⟨es, c, e1, e2⟩ := mp_inv h
      unfold Hp.mp
      rw [hx _ _ e1]
      exact e2
    · cases h
  | b2s s d e y z h1 h2 h3 h4 =>
    unfold b2s at h ⊢
    split at h
    · exact h
    · exact cells_ext hx h
    · obtain ⟨tk, e1, e2⟩ := u8_inv h
      unfold Hp.u8
      rw [hx _ _ e1]
      exact e2
    · cases h

def Mk.cv (σ : Nat → IntKind × Int) (m : Mk) (r : Nat) : Value :=
  match m with
  | .ptr => .pointer (some ⟨r, 0, none⟩)
  | .sl n c => .slice (some ⟨r, 0, none⟩) n c
  | .map => .map (some r)
  | .chn => .chan (some r)
  | .sln _ i _ => .slice (some ⟨r, 0, none⟩) (σ i).2.toNat (σ i).2.toNat
def Mk.ok (σ : Nat → IntKind × Int) (m : Mk) (z : Nat) : Prop :=
  match m with
  | .sln e i tb => AtOk σ tb ∧ 1 ≤ e ∧ ∃ n Z : Nat, z = code n Z ∧ σ i = (.i64, (n : Int)) ∧ n * e ≤ Z
  | _ => True
theorem Mk.rel {m : Mk} {b : Pos} {r z : Nat} (hk : m.ok ι.s z) (h : ι b = some (r, 0, z)) : VRel ι (m.av b) (m.cv ι.s r) := by
  cases m with
  | ptr => have := VRel.ptr b 0 r 0 z h; exact this
  | sl n c => have := VRel.sl b 0 n c r 0 z h; exact this
  | map => exact .map b r z h
  | chn => exact .chn b r z h
  | sln e i tb =>
    obtain ⟨h1, h2, n, Z, rfl, h3, h4⟩ := hk
    have : (ι.s i).2.toNat = n := by rw [h3]; rfl
    show VRel ι (.sln b e i tb) (.slice (some ⟨r, 0, none⟩) (ι.s i).2.toNat (ι.s i).2.toNat)
    rw [this]
    exact .sln b e i tb n n r 0 Z h h1 h3 (Nat.le_refl _) h4 h2
theorem brel_new {l : List AV} {C : Array Value} {t : TypeId} (ro : Bool) (h : LRel ι l C.toList) (w : World) (κ : Inj) (hi : ι.le κ) : BRel κ (w.alloc (.cells C t)) w.heap.size 0 C.size (.cells ro l) := by
  have hl : l.length = C.size := by rw [h.length]; simp
  refine ⟨by omega, fun j x hx => ?_, fun _ j hj => ⟨?_, ?_⟩⟩
  · obtain ⟨v, h1, h2⟩ := h.get hx
    refine ⟨v, ?_, h2.mono hi⟩
    rw [Nat.zero_add, World.cell?_alloc_new]
    simpa using h1
  · rw [Nat.zero_add, World.cell?_alloc_new]
    simp [hj]
  · rw [Nat.zero_add, World.frozen?_alloc_new]
theorem rep_get {α : Type} (z : List α) : ∀ (n i : Nat), i < n * z.length → (rep n z)[i]? = z[i % z.length]?
  | 0, i, h => by simp at h
  | n + 1, i, h => by
    have e : rep (n + 1) z = z ++ rep n z := by show app z (rep n z) = _; rw [app_eq]
    rw [e]
    by_cases hi : i < z.length
    · rw [List.getElem?_append_left hi, Nat.mod_eq_of_lt hi]
    · have hi' : z.length ≤ i := by omega
      rw [List.getElem?_append_right hi', rep_get z n (i - z.length) (by rw [Nat.succ_mul] at h; omega)]
      congr 1
      rw [Nat.mod_eq_sub_mod hi']
theorem rep_rel {z : List AV} {Z : Array Value} (hz : LRel ι z Z.toList) (n : Nat) (hp : 1 ≤ z.length) : LRel ι (rep n z) ((Array.range (n * z.length)).map (fun i => Z[i % Z.size]!)).toList := by
  have hl : Z.size = z.length := by rw [hz.length]; simp
  refine .of_get (by simp [rep_length]) fun i x v hx hv => ?_
  have hi : i < n * z.length := by
    rcases Nat.lt_or_ge i (n * z.length) with h' | h'
    · exact h'
    · rw [List.getElem?_eq_none (by rw [rep_length]; exact h')] at hx; cases hx
  rw [rep_get z n i hi] at hx
  obtain ⟨u, h1, h2⟩ := hz.get hx
  have hv' : v = Z[i % Z.size]! := by
    simp only [Array.toList_map, List.getElem?_map] at hv
    have : (Array.range (n * z.length)).toList[i]? = some i := by
      rw [Array.toList_range, List.getElem?_range hi]
    rw [this] at hv
    simpa using hv.symm
  have hm : i % Z.size < Z.size := Nat.mod_lt _ (by omega)
  rw [hv', getElem!_pos Z (i % Z.size) hm]
  rw [← hl] at h1
  have : Z.toList[i % Z.size]? = some Z[i % Z.size] := by simp [hm]
  rw [this] at h1
  cases h1
  exact h2

theorem mksB_cases (sz c : Nat) (z : List AV) : mksB sz c z = .cells false (rep c z) ∨ ∃ u, z = [u] ∧ mksB sz c z = .arr u .l c := by
  unfold mksB
  split
  · rename_i u
    rw [cnd_eq]
    split
    · exact .inr ⟨u, rfl, rfl⟩
    · exact .inl rfl
  · exact .inl rfl
theorem mksB_live (sz c : Nat) (z : List AV) : (mksB sz c z).live = true ∧ (mksB sz c z).ro = false := by
  rcases mksB_cases sz c z with e | ⟨u, _, e⟩ <;> rw [e] <;> exact ⟨rfl, rfl⟩
theorem mksB_rel {sz c : Nat} {zl : List AV} {κ : Inj} {w : World} {r d Z : Nat} (h : BRel κ w r d Z (.cells false (rep c zl))) : BRel κ w r d Z (mksB sz c zl) ∧ (mksB sz c zl).live = true ∧ (mksB sz c zl).ro = false := by
  rcases mksB_cases sz c zl with e | ⟨u, rfl, e⟩
  · rw [e]; exact ⟨h, rfl, rfl⟩
  · rw [e]
    obtain ⟨h1, h2, h3⟩ := h
    rw [rep_length] at h1
    refine ⟨⟨by simpa using h1, fun j hj => ?_, h3 rfl⟩, rfl, rfl⟩
    have e1 : arrG u .l j = u := by
      unfold arrG
      rw [show (PT.l : PT AV).get (toP j) = none by cases toP j <;> rfl]
      rfl
    rw [e1]
    refine h2 j u ?_
    rw [rep_get [u] c j (by simpa using hj)]
    simp [Nat.mod_one]

theorem bnd63 (n : Nat) (h : n ≤ 1000000) : IntKind.i64.wrap (Int.ofNat n) = (n : Int) := by
  simp [IntKind.wrap, IntKind.bits, IntKind.signed]; omega

theorem al_sound (hE : EnvOk P E) (hg : ∀ g b, E.gl g = some b → ∃ z, ι b = some (g, 0, z)) (hl : LkOk ι T L lk a) {o : Oper} {f : List AV → Option (Blk × Mk)} {xs : List Opd} (hk : cK E lk o.op = some (.al f xs)) {x : Blk} {m : Mk} (hv : f (evs T L xs) = some (x, m)) :
    ∃ (ob : Obj) (z : Nat), (execOp a.eval o).run P w = .ok (.value (m.cv ι.s w.heap.size)) (w.alloc ob) ∧ (∀ κ, ι.le κ → BRel κ (w.alloc ob) w.heap.size 0 z x) ∧ x.live = true ∧ x.ro = false ∧ m.ok ι.s z := by
  obtain ⟨dst, op, type, pos, after, guard⟩ := o
  cases cK_inv hk with
  | pur _ _ h => cases h
  | mkc t e dir i x' y h1 h2 h3 =>
    have hx := opd_sound hg hl h3
    have hrun : (Instr.makeChan t (a.eval x')).run P w = .ok (.chan (some w.heap.size)) (w.alloc (.chan 0 #[] false 0 0 false)) ∧ x = .chan false ∧ m = .chn := by
      replace hv : mkcF [y.ev T L] = some (x, m) := hv
      unfold mkcF at hv
      split at hv
      · rename_i k exs
        cases hv
        injection exs with e1 e2
        rw [e1] at hx
        rw [int_rel hx]
        have := Go.Conc.run_makeChan (P := P) (w := w) (und_eq hE h1) (hE.ty _ _ h2) k 0 (by decide) (by simp)
        exact ⟨by simpa using this, rfl, rfl⟩
      · cases hv
    obtain ⟨hrun, rfl, rfl⟩ := hrun
    refine ⟨.chan 0 #[] false 0 0 false, 0, by simp [execOp, hrun, Mk.cv], fun κ _ => ⟨rfl, 0, 0, 0, false, ?_⟩, rfl, rfl, trivial⟩
    show (w.heap.push _)[w.heap.size]? = _
    simp
  | mkm t kt et r xs h1 h2 =>
    have hx := opds_sound (T := T) (L := L) (a := a) hg hl h2
    have hrun : (Instr.makeMap t (r.map a.eval)).run P w = .ok (.map (some w.heap.size)) (w.alloc (.map #[] 0)) ∧ x = .map [] 0 ∧ m = .map := by
      unfold mkmF at hv
      split at hv
      · rename_i exs
        cases hv
        rw [exs] at hx
        cases r with
        | some y => cases hx
        | none => exact ⟨by simp [Instr.makeMap, newObj, Sem.run], rfl, rfl⟩
      · rename_i k n exs
        cases hv
        rw [exs] at hx
        cases r with
        | none => cases hx
        | some y =>
          replace hx : LRel ι [.int k n] [a.eval y] := hx
          cases hx with
          | cons _ _ _ _ hx1 _ =>
            have := int_rel hx1
            exact ⟨by simp [Instr.makeMap, this, und_run (P := P) (w := w) hE h1, asInt, asIntOf, newObj, Sem.run], rfl, rfl⟩
      · cases hv
    obtain ⟨hrun, rfl, rfl⟩ := hrun
    refine ⟨.map #[] 0, 0, by simp [execOp, hrun, Mk.cv], fun κ _ => ⟨rfl, #[], ?_, .nil⟩, rfl, rfl, trivial⟩
    show (w.heap.push _)[w.heap.size]? = _
    simp
  | alloc t z h =>
    cases hv
    obtain ⟨zc, h1, h2⟩ := zcells_run (P := P) (ι := ι) (w := w) hE h
    refine ⟨.cells zc.cells t, _, ?_, fun κ hκ => brel_new false h2 w κ hκ, rfl, rfl, trivial⟩
    have : (Instr.alloc t true (.tuple #[])).run P w = .ok (.pointer (some ⟨w.heap.size, 0, none⟩)) (w.alloc (.cells zc.cells t)) := by
      simp [Instr.alloc, h1, newVar, newRow, newObj, Sem.run]
    simp [execOp, this, Mk.cv]
  | box t x y h =>
    obtain ⟨l, h1, h2⟩ := opt_eq_some hv
    cases h2
    have hx := opd_sound hg hl h
    have hc := hx.cells h1
    refine ⟨.cells (a.eval x).cells t, _, ?_, fun κ hκ => brel_new false hc w κ hκ, rfl, rfl, trivial⟩
    have : (Instr.box t (a.eval x)).run P w = .ok (.pointer (some ⟨w.heap.size, 0, none⟩)) (w.alloc (.cells (a.eval x).cells t)) := by
      simp [Instr.box, newVar, newRow, newObj, Sem.run]
    simp [execOp, this, Mk.cv]
  | bsl t n e s z ps xs h1 h2 h3 h4 h5 h6 h7 =>
    obtain ⟨l, h8, h9⟩ := opt_eq_some hv
    replace h8 := fillQ_eq h8
    cases h9
    obtain ⟨zc, hz1, hz2⟩ := zcells_run (P := P) (ι := ι) (w := w) hE h3
    have hvs : LRel ι (evs T L xs) ((ps.toList.map fun (p : Nat × Operand) => (p.1, a.eval p.2)).map (·.2)) := by
      have e : (ps.toList.map fun (p : Nat × Operand) => (p.1, a.eval p.2)).map (·.2) = (ps.toList.map (·.2)).map a.eval := by simp
      rw [e]; exact opds_sound hg hl h4
    have hzl : zc.cells.size = s := by rw [← h5, hz2.length]; simp
    -- the zero cells
    obtain ⟨Z, hZ1, hZ2⟩ : ∃ Z : Array Value, ((if n * s = 0 then pure #[] else do pure (← zeroValue e).cells : Sem (Array Value)).run P w = .ok Z w) ∧ LRel ι (rep n z) ((Array.range (n * s)).map (Z[· % Z.size]!)).toList := by
      by_cases h0 : n * s = 0
      · refine ⟨#[], by rw [if_pos h0]; rfl, ?_⟩
        have hn0 : n = 0 := by
          rcases Nat.mul_eq_zero.1 h0 with h | h
          · exact h
          · omega
        subst hn0
        rw [h0]
        have e0 : ((Array.range 0).map ((#[] : Array Value)[· % (#[] : Array Value).size]!)).toList = [] := by simp
        rw [e0]
        exact .nil
      · refine ⟨zc.cells, by rw [if_neg h0]; simp [hz1], ?_⟩
        rw [← h5]
        exact rep_rel hz2 n (by omega)
    obtain ⟨R, hR1, hR2⟩ := fill_rel (ι := ι) (fun i => some (i * s, s)) _ _ _ l h8 (ps.toList.map fun (p : Nat × Operand) => (p.1, a.eval p.2)) _ (by simp [placesA]) hvs hZ2
    refine ⟨.cells R e, _, ?_, fun κ hκ => brel_new false hR2 w κ hκ, rfl, rfl, trivial⟩
    have : (Instr.buildSlice t n (ps.map fun (i, x) => (i, a.eval x))).run P w = .ok (.slice (some ⟨w.heap.size, 0, none⟩) n n) (w.alloc (.cells R e)) := by
      have e1 : (ps.map fun (p : Nat × Operand) => (p.1, a.eval p.2)).toList = ps.toList.map fun (p : Nat × Operand) => (p.1, a.eval p.2) := by simp
      have hR1' : Instr.fill (fun i => some (i * s, s)) ((Array.range (n * s)).map (Z[· % Z.size]!)) (ps.map fun (p : Nat × Operand) => (p.1, a.eval p.2)).toList = some R := by rw [e1]; exact hR1
      by_cases h0 : n * s = 0
      · rw [if_pos h0] at hZ1
        have hZ3 : #[] = Z := by simpa using hZ1
        subst hZ3
        simp only [Instr.buildSlice, Sem.run_bind, und_run (P := P) (w := w) hE h1, Result.andThen_ok, size_run (P := P) (w := w) hE h2]
        rw [if_neg (show ¬ n * s > 2 ^ 24 by omega), if_pos h0]
        simp only [Sem.run_bind, Sem.run_pure, Result.andThen_ok, hR1']
        simp [newRow, newObj, Sem.run]
      · rw [if_neg h0] at hZ1
        have hZ3 : zc.cells = Z := by simpa [hz1] using hZ1
        subst hZ3
        simp only [Instr.buildSlice, Sem.run_bind, und_run (P := P) (w := w) hE h1, Result.andThen_ok, size_run (P := P) (w := w) hE h2]
        rw [if_neg (show ¬ n * s > 2 ^ 24 by omega), if_neg h0]
        simp only [Sem.run_bind, Sem.run_pure, Result.andThen_ok, hz1, hR1']
        simp [newRow, newObj, Sem.run]
    simp [execOp, this, Mk.cv]
  | mks t e l c i z xs h1 h2 h3 h4 h5 h6 =>
    have hx := opds_sound (T := T) (L := L) (a := a) hg hl h4
    have key : ∀ l' c' : Nat, l' ≤ c' → c' ≤ 1000000 → 1 ≤ i.size → a.eval l = .int .i64 (.ofNat l') → a.eval c = .int .i64 (.ofNat c') →
        ∃ C : Array Value, LRel ι (rep c' z) C.toList ∧ C.size = c' * i.size ∧ (Instr.makeSlice t (a.eval l) (a.eval c)).run P w = .ok (.slice (some ⟨w.heap.size, 0, none⟩) l' c') (w.alloc (.cells C e)) := by
      intro l' c' k1 k2 k3 el ec
      obtain ⟨zc, hz1, hz2⟩ := zcells_run (P := P) (ι := ι) (w := w) hE h3
      obtain ⟨Z, hZ1, hZ2⟩ : ∃ Z : Array Value, ((if c' * i.size = 0 then pure #[] else do pure (← zeroValue e).cells : Sem (Array Value)).run P w = .ok Z w) ∧ LRel ι (rep c' z) ((Array.range (c' * i.size)).map (Z[· % Z.size]!)).toList := by
        by_cases h0 : c' * i.size = 0
        · refine ⟨#[], by rw [if_pos h0]; rfl, ?_⟩
          have hn0 : c' = 0 := by
            rcases Nat.mul_eq_zero.1 h0 with h | h
            · exact h
            · omega
          subst hn0
          rw [h0]
          have e0 : ((Array.range 0).map ((#[] : Array Value)[· % (#[] : Array Value).size]!)).toList = [] := by simp
          rw [e0]
          exact .nil
        · refine ⟨zc.cells, by rw [if_neg h0]; simp [hz1], ?_⟩
          rw [← h5]
          exact rep_rel hz2 c' (by omega)
      refine ⟨(Array.range (c' * i.size)).map (Z[· % Z.size]!), hZ2, by simp, ?_⟩
      rw [el, ec]
      have w1 := bnd63 l' (by omega)
      have w2 := bnd63 c' k2
      have hb : (i.bytes : Int) * (c' : Int) ≤ 2 ^ 48 := by
        have : i.bytes * c' ≤ 100000 * 1000000 := Nat.mul_le_mul h6 k2
        have : ((i.bytes * c' : Nat) : Int) ≤ 100000000000 := by omega
        rw [Int.natCast_mul] at this
        omega
      simp only [Instr.makeSlice, Sem.run_bind, und_run (P := P) (w := w) hE h1, Result.andThen_ok, asInt, asIntOf, Sem.run_pure, info_run (P := P) (w := w) hE h2, w1, w2]
      have c1 : ¬ ((decide ((c' : Int) < 0) || decide ((i.bytes : Int) * (c' : Int) > 2 ^ 48) || decide ((l' : Int) < 0) || decide ((l' : Int) > (c' : Int))) = true) := by
        simp only [Bool.or_eq_true, decide_eq_true_eq]
        omega
      rw [if_neg c1]
      have ask : ∀ n, (askRoom n).run P w = .ok () w := by
        intro n; unfold askRoom; split <;> rfl
      by_cases h0 : c' * i.size = 0
      · rw [if_pos h0] at hZ1
        have hZ3 : #[] = Z := by simpa using hZ1
        subst hZ3
        simp only [Sem.run_bind, Sem.run_pure, Result.andThen_ok, ask, sizeOf, info_run (P := P) (w := w) hE h2, Int.toNat_natCast, if_pos h0]
        simp [newRow, newObj, Sem.run]
      · rw [if_neg h0] at hZ1
        have hZ3 : zc.cells = Z := by simpa [hz1] using hZ1
        subst hZ3
        simp only [Sem.run_bind, Sem.run_pure, Result.andThen_ok, ask, sizeOf, info_run (P := P) (w := w) hE h2, Int.toNat_natCast, if_neg h0, hz1]
        simp [newRow, newObj, Sem.run]
    unfold mksF at hv
    split at hv
    · rename_i i0 tb j0 tb0 exs
      obtain ⟨h7, hv⟩ := cnd_some hv
      cases hv
      simp only [iand_eq, Bool.and_eq_true] at h7
      obtain rfl := Nat.eq_of_beq_eq_true h7.1.1
      have k3 : 1 ≤ i.size := Nat.le_of_ble_eq_true h7.2.1
      rw [exs] at hx
      cases hx with
      | cons _ _ _ _ hx1 hx =>
        cases hx with
        | cons _ _ _ _ hx2 hx =>
          obtain ⟨ho, el⟩ := at_rel hx1
          obtain ⟨_, ec⟩ := at_rel hx2
          obtain ⟨n, q1, q2⟩ := atSz_inv ho h7.2.2
          rw [q1] at el ec
          obtain ⟨C, g1, g2, g3⟩ := key n n (Nat.le_refl _) q2 k3 el ec
          have hz0 : z.length = i.size := by have := Nat.eq_of_beq_eq_true h7.1.2; rwa [len_eq] at this
          have hcv : Mk.cv ι.s (.sln i.size i0 tb) w.heap.size = .slice (some ⟨w.heap.size, 0, none⟩) n n := by
            show Value.slice (some ⟨w.heap.size, 0, none⟩) (ι.s i0).2.toNat (ι.s i0).2.toNat = _
            rw [q1]; rfl
          refine ⟨.cells C e, code n (n * i.size), by rw [hcv]; simp [execOp, g3], fun κ hκ => ?_, rfl, rfl, ho, k3, n, _, rfl, q1, Nat.le_refl _⟩
          obtain ⟨b1, b2, b3⟩ := brel_new (t := e) false g1 w κ hκ
          refine ⟨n, n * i.size, rfl, Nat.le_refl _, k3, hz0, (fun j l h => by cases h), fun q f v hq hf => ?_, fun j hj => b3 rfl j (by rw [g2]; exact hj)⟩
          have hf' : f < z.length := (List.getElem?_eq_some_iff.1 hf).1
          have hlt : q * i.size + f < n * z.length := by
            rw [hz0]
            have : (q + 1) * i.size ≤ n * i.size := Nat.mul_le_mul_right _ hq
            rw [Nat.succ_mul] at this
            omega
          have hg := rep_get z n (q * i.size + f) hlt
          rw [hz0, Nat.mul_comm q, Nat.mul_add_mod, Nat.mod_eq_of_lt (by omega), Nat.mul_comm] at hg
          exact b2 _ v (hg.trans hf)
    · rename_i l' c' exs
      obtain ⟨h7, hv⟩ := cnd_some hv
      cases hv
      simp only [iand_eq, Bool.and_eq_true] at h7
      have k1 : l' ≤ c' := Nat.le_of_ble_eq_true h7.1
      have k2 : c' ≤ 1000000 := Nat.le_of_ble_eq_true h7.2.1
      have k3 : 1 ≤ i.size := Nat.le_of_ble_eq_true h7.2.2
      rw [exs] at hx
      cases hx with
      | cons _ _ _ _ hx1 hx =>
        cases hx with
        | cons _ _ _ _ hx2 hx =>
          obtain ⟨C, g1, g2, g3⟩ := key l' c' k1 k2 k3 (int_rel hx1) (int_rel hx2)
          exact ⟨.cells C e, _, by simp [execOp, g3, Mk.cv], fun κ hκ => (mksB_rel (brel_new false g1 w κ hκ)).1, (mksB_live _ _ _).1, (mksB_live _ _ _).2, trivial⟩
    · cases hv
end Go.Ev

namespace Go.Ev
open Go.RowKit (Below)
variable {P : Program} {E : Env} {base : Nat} {w0 : World} {ι : Inj} {H : Hp} {w : World} {T : PT AV} {L : List AV} {lk : Look} {a : Act}

def WGives (P : Program) (E : Env) (base : Nat) (w0 : World) (ι : Inj) (H : Hp) (w : World) (s : Sem Value) (v : AV) (H' : Hp) : Prop :=
  ∃ c w' ι', s.run P w = .ok c w' ∧ VRel ι' v c ∧ Rl E base w0 ι' H' w' ∧ Stp ι ι' H H'

theorem setCells_size (b : Nat) : ∀ (vs : List Value) (o : Nat) (w : World), (w.setCells b o vs).heap.size = w.heap.size
  | [], _, _ => rfl
  | v :: r, o, w => by rw [World.setCells, setCells_size b r]; simp
theorem setCells_tape (b : Nat) : ∀ (vs : List Value) (o : Nat) (w : World), (w.setCells b o vs).tape = w.tape
  | [], _, _ => rfl
  | v :: r, o, w => by rw [World.setCells, setCells_tape b r]; simp
theorem setCells_heap (b : Nat) (vs : List Value) (o : Nat) (w : World) {k : Nat} (h : k ≠ b) : (w.setCells b o vs).heap[k]? = w.heap[k]? := by
  rcases Nat.lt_or_ge k w.heap.size with hk | hk
  · exact World.heap_setCells_other w b o vs hk h
  · rw [Array.getElem?_eq_none hk, Array.getElem?_eq_none (by rw [setCells_size]; exact hk)]

theorem Rl.kill (h : Rl E base w0 ι H w) {b : Pos} {r d z : Nat} (e : ι b = some (r, d, z)) : Rl E base w0 ι ⟨H.m.set b .dead, H.nx⟩ w ∧ Stp ι ι H ⟨H.m.set b .dead, H.nx⟩ := by
  refine ⟨⟨?_, ?_, ?_, h.size, ?_, h.below, h.base_le, h.glob⟩, ⟨Inj.le_refl _, ?_, Nat.le_refl _⟩⟩
  · intro b' r' d' z' x e' g
    by_cases hb : b' = b
    · subst hb; rw [get_set_same] at g; cases g; trivial
    · rw [get_set_ne _ _ _ _ hb] at g; exact h.blk b' r' d' z' x e' g
  · intro b1 b2 r1 d1 d2 z1 z2 x1 x2 e1 e2 g1 g2 l1 l2
    have look : ∀ {p : Pos} {u : Blk}, (PT.set b .dead H.m).get p = some u → u.live = true → H.m.get p = some u := by
      intro p u gp lp
      by_cases hp : p = b
      · subst hp; rw [get_set_same] at gp; cases gp; cases lp
      · rw [get_set_ne _ _ _ _ hp] at gp; exact gp
    exact h.inj b1 b2 r1 d1 d2 z1 z2 x1 x2 e1 e2 (look g1 l1) (look g2 l2) l1 l2
  · intro p hp
    obtain ⟨f1, f2⟩ := h.fresh p hp
    have hne : p ≠ b := by intro e'; rw [e', e] at f1; cases f1
    exact ⟨f1, by rw [get_set_ne _ _ _ _ hne]; exact f2⟩
  · intro p r' d' z' u e' g hz
    by_cases hb : p = b
    · subst hb; rw [get_set_same] at g; cases g; cases hz
    · rw [get_set_ne _ _ _ _ hb] at g; exact h.own p r' d' z' u e' g hz
  · intro p _ e'
    have hne : p ≠ b := by intro e''; rw [e'', e] at e'; cases e'
    exact ⟨e', by rw [get_set_ne _ _ _ _ hne]⟩

theorem allB_eq {α : Type} {f : α → Bool} : ∀ {l : List α}, allB f l = true → ∀ x ∈ l, f x = true
  | [], _, x, hx => by cases hx
  | y :: l, h, x, hx => by
    have h' : iand (f y) (allB f l) = true := h
    rw [iand_eq, Bool.and_eq_true] at h'
    cases hx with
    | head => exact h'.1
    | tail _ hx => exact allB_eq h'.2 x hx
theorem LRel.one : ∀ {l : List AV} {C : List Value}, LRel ι l C → allB AV.one l = true → ∀ u ∈ C, u.oneCell' = true
  | _, _, .nil, _, u, hu => by cases hu
  | _, _, .cons x v l C hx t, h, u, hu => by
    have h' : iand (AV.one x) (allB AV.one l) = true := h
    rw [iand_eq, Bool.and_eq_true] at h'
    cases hu with
    | head => exact hx.one h'.1
    | tail _ hu => exact t.one h'.2 u hu

theorem Rl.put (h : Rl E base w0 ι H w) {b : Pos} {r d z o : Nat} {l l' xs : List AV} {C : List Value} (e : ι b = some (r, d, z)) (g : H.m.get b = some (.cells false l)) (hp : puts o xs l = some l') (hC : LRel ι xs C) :
    Rl E base w0 ι ⟨H.m.set b (.cells false l'), H.nx⟩ (w.setCells r (d + o) C) ∧ Stp ι ι H ⟨H.m.set b (.cells false l'), H.nx⟩ := by
  have hb : BRel ι w r d z (.cells false l) := h.blk b r d z _ e g
  obtain ⟨p1, p2⟩ := puts_eq hp
  have hlen := hC.length
  have hin : ∀ j, j < C.length → (w.cell? ⟨r, d + o + j, none⟩).isSome = true := fun j hj => by
    rw [Nat.add_assoc]; exact (hb.2.2 rfl (o + j) (by have := hb.1; omega)).1
  refine h.write e g rfl rfl (fun k hk => setCells_heap r C (d + o) w hk) (setCells_size r C _ w) (World.os_setCells w r _ C) (setCells_tape r C _ w) (World.output_setCells w r _ C) ⟨?_, ?_, ?_⟩
  · subst p2; have := hb.1; simp; omega
  · intro j x hx
    by_cases hj : o ≤ j ∧ j < o + C.length
    · obtain ⟨k, rfl⟩ := Nat.exists_eq_add_of_le hj.1
      have hk : k < C.length := by omega
      have hx' : xs[k]? = some x := by
        subst p2
        rw [List.append_assoc, List.getElem?_append_right (by simp; omega)] at hx
        rw [List.getElem?_append_left (by simp; omega)] at hx
        rw [← hx]; congr 1; simp; omega
      obtain ⟨v, v1, v2⟩ := hC.get hx'
      refine ⟨v, ?_, v2⟩
      have := World.cell?_setCells_in r C (d + o) w hin k hk
      rw [← Nat.add_assoc, this]
      rw [List.getElem?_eq_getElem hk] at v1; exact v1
    · have hx' : l[j]? = some x := by
        subst p2
        rcases Nat.lt_or_ge j o with hj' | hj'
        · rw [List.append_assoc, List.getElem?_append_left (by simp; omega), List.getElem?_take_of_lt hj'] at hx
          exact hx
        · have hj2 : o + C.length ≤ j := by omega
          rw [List.getElem?_append_right (by simp; omega), List.getElem?_drop] at hx
          rw [← hx]; congr 1; simp; omega
      obtain ⟨v, v1, v2⟩ := hb.2.1 j x hx'
      refine ⟨v, ?_, v2⟩
      rw [World.cell?_setCells_out r C (d + o) w _ (fun _ _ => by simp only; omega)]
      exact v1
  · intro _ j hj
    obtain ⟨q1, q2⟩ := hb.2.2 rfl j hj
    refine ⟨?_, by rw [World.frozen?_setCells]; exact q2⟩
    by_cases hj' : d + o ≤ d + j ∧ d + j < d + o + C.length
    · obtain ⟨k, hk⟩ := Nat.exists_eq_add_of_le hj'.1
      have := World.cell?_setCells_in r C (d + o) w hin k (by omega)
      rw [← hk] at this; rw [this]; rfl
    · rw [World.cell?_setCells_out r C (d + o) w _ (fun _ _ => by simp only; omega)]
      exact q1

noncomputable def toPf (k n : Nat) : Pos :=
  Nat.rec (motive := fun _ => Nat → Pos) (fun _ => .h) (fun _ ih n => cnd (Nat.beq n 0) .h (fNat (Nat.div n 2) fun m => cnd (Nat.beq (Nat.mod n 2) 1) (.i (ih m)) (.o (ih m)))) k n
theorem toPf_succ (k n : Nat) : toPf (k + 1) n = if n = 0 then Pos.h else if n % 2 = 1 then Pos.i (toPf k (n / 2)) else Pos.o (toPf k (n / 2)) := by
  show cnd (Nat.beq n 0) Pos.h (fNat (Nat.div n 2) fun m => cnd (Nat.beq (Nat.mod n 2) 1) (Pos.i (toPf k m)) (Pos.o (toPf k m))) = _
  rw [fNat_eq, cnd_eq, cnd_eq]
  have e1 : (Nat.beq n 0 = true) = (n = 0) := by rw [eq_iff_iff]; exact ⟨Nat.eq_of_beq_eq_true, fun h => by rw [h]; rfl⟩
  have e2 : (Nat.beq (Nat.mod n 2) 1 = true) = (n % 2 = 1) := by
    rw [eq_iff_iff]
    exact ⟨fun h => Nat.eq_of_beq_eq_true h, fun h => by show Nat.beq (n % 2) 1 = true; rw [h]; rfl⟩
  simp only [e1, e2]
  rfl
theorem toPf_inj : ∀ (k n m : Nat), n < 2 ^ k → m < 2 ^ k → toPf k n = toPf k m → n = m
  | 0, n, m, hn, hm, _ => by simp at hn hm; omega
  | k + 1, n, m, hn, hm, e => by
    rw [toPf_succ, toPf_succ] at e
    rw [Nat.pow_succ] at hn hm
    by_cases n0 : n = 0
    · by_cases m0 : m = 0
      · omega
      · rw [if_pos n0, if_neg m0] at e
        split at e <;> cases e
    · by_cases m0 : m = 0
      · rw [if_neg n0, if_pos m0] at e
        split at e <;> cases e
      · rw [if_neg n0, if_neg m0] at e
        by_cases n1 : n % 2 = 1
        · by_cases m1 : m % 2 = 1
          · rw [if_pos n1, if_pos m1] at e
            injection e with e
            have := toPf_inj k (n / 2) (m / 2) (by omega) (by omega) e
            omega
          · rw [if_pos n1, if_neg m1] at e; cases e
        · by_cases m1 : m % 2 = 1
          · rw [if_neg n1, if_pos m1] at e; cases e
          · rw [if_neg n1, if_neg m1] at e
            injection e with e
            have := toPf_inj k (n / 2) (m / 2) (by omega) (by omega) e
            omega
theorem toP_inj {n m : Nat} (hn : n ≤ 1000000) (hm : m ≤ 1000000) (h : toP n = toP m) : n = m := toPf_inj 24 n m (by omega) (by omega) h
theorem arrG_same (z : AV) (t : PT AV) (j : Nat) (x : AV) : arrG z (t.set (toP j) x) j = x := by
  unfold arrG
  rw [get_set_same]; rfl
theorem arrG_ne (z : AV) (t : PT AV) {i j : Nat} (x : AV) (hi : i ≤ 1000000) (hj : j ≤ 1000000) (h : i ≠ j) : arrG z (t.set (toP j) x) i = arrG z t i := by
  unfold arrG
  rw [get_set_ne _ _ _ _ fun e => h (toP_inj hi hj e)]
theorem Rl.putA (h : Rl E base w0 ι H w) {b : Pos} {r d z o m : Nat} {u x : AV} {t : PT AV} {c : Value} (e : ι b = some (r, d, z)) (g : H.m.get b = some (.arr u t m)) (ho : o < m) (hm : m ≤ 1000000) (hv : VRel ι x c) :
    Rl E base w0 ι ⟨H.m.set b (.arr u (t.set (toP o) x) m), H.nx⟩ (w.setCells r (d + o) [c]) ∧ Stp ι ι H ⟨H.m.set b (.arr u (t.set (toP o) x) m), H.nx⟩ := by
  obtain ⟨b1, b2, b3⟩ : BRel ι w r d z (.arr u t m) := h.blk b r d z _ e g
  have hin : ∀ j, j < [c].length → (w.cell? ⟨r, d + o + j, none⟩).isSome = true := fun j hj => by
    rw [Nat.add_assoc]; exact (b3 (o + j) (by simp at hj; omega)).1
  refine h.write e g rfl rfl (fun k hk => setCells_heap r [c] (d + o) w hk) (setCells_size r [c] _ w) (World.os_setCells w r _ [c]) (setCells_tape r [c] _ w) (World.output_setCells w r _ [c]) ⟨b1, fun j hj => ?_, fun j hj => ?_⟩
  · by_cases hjo : j = o
    · subst hjo
      rw [arrG_same]
      have := World.cell?_setCells_in r [c] (d + j) w hin 0 (by simp)
      exact ⟨c, by simpa using this, hv⟩
    · rw [arrG_ne u t x (by omega) (by omega) hjo]
      obtain ⟨v, v1, v2⟩ := b2 j hj
      refine ⟨v, ?_, v2⟩
      have h1 : [c].length = 1 := rfl
      rw [World.cell?_setCells_out r [c] (d + o) w _ (fun _ _ => by simp only; omega)]
      exact v1
  · obtain ⟨q1, q2⟩ := b3 j hj
    have h1 : [c].length = 1 := rfl
    refine ⟨?_, by rw [World.frozen?_setCells]; exact q2⟩
    by_cases hj' : d + o ≤ d + j ∧ d + j < d + o + [c].length
    · obtain ⟨k, hk⟩ := Nat.exists_eq_add_of_le hj'.1
      have := World.cell?_setCells_in r [c] (d + o) w hin k (by omega)
      rw [← hk] at this; rw [this]; rfl
    · rw [World.cell?_setCells_out r [c] (d + o) w _ (fun _ _ => by simp only; omega)]
      exact q1

theorem cellsD_invO {b : Pos} {d : OR} {k : Bool → List AV → OR} {v : AV} {H' : Hp} (h : H.cells b d k = .val v H') : (∃ ro l, H.m.get b = some (.cells ro l) ∧ k ro l = .val v H') ∨ d = .val v H' := by
  unfold Hp.cells at h
  cases hx : H.m.get b with
  | none => rw [hx] at h; exact .inr h
  | some x =>
    rw [hx] at h
    cases x with
    | cells ro l => exact .inl ⟨ro, l, rfl, h⟩
    | _ => exact .inr h
theorem ar_invO {b : Pos} {k : AV → PT AV → Nat → OR} {v : AV} {H' : Hp} (h : H.ar b .no k = .val v H') : ∃ z t n, H.m.get b = some (.arr z t n) ∧ k z t n = .val v H' := by
  unfold Hp.ar at h
  obtain ⟨x, h1, h2⟩ := opt_invO h
  cases x with
  | arr z t n => exact ⟨z, t, n, h1, h2⟩
  | _ => cases h2
theorem zr_invO {b : Pos} {k : Nat → List AV → Option (Nat × List AV) → OR} {v : AV} {H' : Hp} (h : H.zr b .no k = .val v H') : ∃ e z x, H.m.get b = some (.zrs e z x) ∧ k e z x = .val v H' := by
  unfold Hp.zr at h
  obtain ⟨x, h1, h2⟩ := opt_invO h
  cases x with
  | zrs e z x => exact ⟨e, z, x, h1, h2⟩
  | _ => cases h2
theorem puts_get {xs l l' : List AV} {f : Nat} (h : puts f xs l = some l') (i : Nat) : f + xs.length ≤ l.length ∧ l'.length = l.length ∧ (f ≤ i → i < f + xs.length → l'[i]? = xs[i - f]?) ∧ (i < f ∨ f + xs.length ≤ i → l'[i]? = l[i]?) := by
  obtain ⟨h1, rfl⟩ := puts_eq h
  have hf : (l.take f).length = f := by rw [List.length_take]; omega
  refine ⟨h1, by simp; omega, fun h2 h3 => ?_, fun h2 => ?_⟩
  · rw [List.append_assoc, List.getElem?_append_right (by omega), hf, List.getElem?_append_left (by omega)]
  · rw [List.append_assoc]
    rcases h2 with h2 | h2
    · rw [List.getElem?_append_left (by omega), List.getElem?_take, if_pos h2]
    · rw [List.getElem?_append_right (by omega), hf, List.getElem?_append_right (by omega), List.getElem?_drop]
      congr 1
      omega
theorem Rl.putZ (h : Rl E base w0 ι H w) {b : Pos} {r d n Z e q j f : Nat} {z l l' xs : List AV} {x : Option (Nat × List AV)} {C : List Value} (hi : ι b = some (r, d, code n Z)) (g : H.m.get b = some (.zrs e z x)) (hj : ι.s j = (.i64, (q : Int))) (hq : q < n)
    (hl : zrG z x j = some l) (hp : puts f xs l = some l') (hC : LRel ι xs C) :
    Rl E base w0 ι ⟨H.m.set b (.zrs e z (some (j, l'))), H.nx⟩ (w.setCells r (d + (q * e + f)) C) ∧ Stp ι ι H ⟨H.m.set b (.zrs e z (some (j, l'))), H.nx⟩ := by
  have hb : BRel ι w r d (code n Z) (.zrs e z x) := h.blk b r d _ _ hi g
  have hll := zr_len hb hl
  have hb0 := hb
  obtain ⟨n', Z', e1, b1, b2, b3, b4, b5, b6⟩ := hb
  obtain ⟨rfl, rfl⟩ := code_inj e1
  have hCl : C.length = xs.length := hC.length.symm
  obtain ⟨p1, p2, _, _⟩ := puts_get hp 0
  have hqe : (q + 1) * e ≤ n * e := Nat.mul_le_mul_right _ hq
  rw [Nat.succ_mul] at hqe
  have hin : ∀ i, i < C.length → (w.cell? ⟨r, d + (q * e + f) + i, none⟩).isSome = true := fun i hi => by
    rw [Nat.add_assoc]; exact (b6 _ (by omega)).1
  refine h.write hi g rfl rfl (fun k hk => setCells_heap r C _ w hk) (setCells_size r C _ w) (World.os_setCells w r _ C) (setCells_tape r C _ w) (World.output_setCells w r _ C) ⟨n, Z, rfl, b1, b2, b3, fun j' l0 h0 => ?_, fun q' f' v hq' hv => ?_, fun i hi => ?_⟩
  · cases h0
    exact ⟨by omega, by rw [hj]⟩
  · by_cases hqq : q' = q
    · subst hqq
      have hz : zrAt ι.s z (some (j, l')) q' = l' := by
        show (if (ι.s j).2 = (q' : Int) then l' else z) = l'
        rw [hj, if_pos rfl]
      rw [hz] at hv
      have hf' : f' < l'.length := (List.getElem?_eq_some_iff.1 hv).1
      obtain ⟨_, _, p3, p4⟩ := puts_get hp f'
      by_cases hr : f ≤ f' ∧ f' < f + xs.length
      · rw [p3 hr.1 hr.2] at hv
        obtain ⟨c, c1, c2⟩ := hC.get hv
        have hlt : f' - f < C.length := (List.getElem?_eq_some_iff.1 c1).1
        have := World.cell?_setCells_in r C (d + (q' * e + f)) w hin (f' - f) hlt
        rw [show d + (q' * e + f) + (f' - f) = d + (q' * e + f') by omega] at this
        refine ⟨c, ?_, c2⟩
        rw [this, ← c1, List.getElem?_eq_getElem hlt]
      · rw [p4 (by omega)] at hv
        obtain ⟨c, c1, c2⟩ := zr_cell hb0 hj hq hl hv
        refine ⟨c, ?_, c2⟩
        rw [World.cell?_setCells_out r C _ w _ (fun _ _ => by simp only; omega)]
        exact c1
    · have hz : zrAt ι.s z (some (j, l')) q' = zrAt ι.s z x q' := by
        have hne : ¬ (q : Int) = (q' : Int) := by omega
        show (if (ι.s j).2 = (q' : Int) then l' else z) = _
        rw [hj, if_neg hne]
        cases x with
        | none => rfl
        | some p =>
          obtain ⟨i0, l0⟩ := p
          replace hl : cnd (Nat.beq i0 j) (some l0) none = some l := hl
          obtain ⟨h1, _⟩ := cnd_some hl
          obtain rfl := Nat.eq_of_beq_eq_true h1
          show z = (if (ι.s i0).2 = (q' : Int) then l0 else z)
          rw [hj, if_neg hne]
      rw [hz] at hv
      obtain ⟨c, c1, c2⟩ := b5 q' f' v hq' hv
      refine ⟨c, ?_, c2⟩
      have hf' : f' < e := by
        have := (List.getElem?_eq_some_iff.1 hv).1
        have hle : (zrAt ι.s z x q').length = e := by
          cases x with
          | none => exact b3
          | some p =>
            obtain ⟨i0, l0⟩ := p
            show (if (ι.s i0).2 = (q' : Int) then l0 else z).length = e
            split
            · exact (b4 i0 l0 rfl).1
            · exact b3
        omega
      rcases Nat.lt_or_ge q' q with hlt | hge
      · have h9 : (q' + 1) * e ≤ q * e := Nat.mul_le_mul_right _ hlt
        rw [Nat.succ_mul] at h9
        rw [World.cell?_setCells_out r C _ w _ (fun _ _ => by simp only; omega)]
        exact c1
      · have h9 : (q + 1) * e ≤ q' * e := Nat.mul_le_mul_right _ (by omega)
        rw [Nat.succ_mul] at h9
        rw [World.cell?_setCells_out r C _ w _ (fun _ _ => by simp only; omega)]
        exact c1
  · obtain ⟨q1, q2⟩ := b6 i hi
    exact ⟨World.isSome_setCells r C _ w _ q1, by rw [World.frozen?_setCells]; exact q2⟩
theorem st_sound (hE : EnvOk P E) (h : Rl E base w0 ι H w) {t n : Nat} (hn : E.size t = some n) {x y : AV} {cx cy : Value} (hx : VRel ι x cx) (hy : VRel ι y cy) {v : AV} {H' : Hp} (hv : st n x y H = .val v H') :
    v = .tup [] ∧ ∃ w', (Instr.storeAt t cx cy).run P w = .ok () w' ∧ Rl E base w0 ι H' w' ∧ Stp ι ι H H' := by
  unfold st at hv
  split at hv
  · rename_i b e j tb f
    obtain ⟨xs, h1, hv⟩ := opt_invO hv
    unfold stZ at hv
    obtain ⟨e', z, x', g1, hv⟩ := zr_invO hv
    replace hv := cnd_invO hv
    obtain ⟨g2, hv⟩ := hv
    obtain ⟨l, g3, hv⟩ := opt_invO hv
    obtain ⟨l', g4, hv⟩ := opt_invO hv
    cases hv
    simp only [iand_eq, Bool.and_eq_true, len_eq] at g2
    obtain rfl := Nat.eq_of_beq_eq_true g2.1
    have hl : xs.length = n := Nat.eq_of_beq_eq_true g2.2.1
    have hC := hy.cells h1
    cases hx with
    | pat _ _ _ _ _ n0 r d Z q hi ho hj hq hf =>
      have hb : BRel ι w r d (code n0 Z) (.zrs e z x') := h.blk b r d _ _ hi g1
      have hll := zr_len hb g3
      obtain ⟨n', Z', e1, b1, b2, b3, b4, b5, b6⟩ := hb
      obtain ⟨rfl, rfl⟩ := code_inj e1
      obtain ⟨k1, k2⟩ := h.putZ hi g1 hj hq g3 g4 hC
      rw [put_eq]
      refine ⟨rfl, _, ?_, k1, k2⟩
      obtain ⟨p1, _, _, _⟩ := puts_get g4 0
      have hqe : (q + 1) * e ≤ n0 * e := Nat.mul_le_mul_right _ hq
      rw [Nat.succ_mul] at hqe
      have hlen := hC.length
      have hz : cy.cells.size = n := by rw [← hl, hlen]; simp
      have hs := run_storeCells_cells (P := P) r (d + (q * e + f)) cy.cells.toList 0 w (fun i hi => by simp only [Nat.add_zero]; rw [Nat.add_assoc]; exact (b6 _ (by omega)).1)
        (fun i hi => by simp only [Nat.add_zero]; rw [Nat.add_assoc]; exact (b6 _ (by omega)).2) (hC.one g2.2.2)
      simp only [Nat.add_zero] at hs
      simp [Instr.storeAt, Instr.sureAddr, storeVar, size_run (P := P) (w := w) hE hn, hz, hs]
  · rename_i b o
    obtain ⟨xs, h1, hv⟩ := opt_invO hv
    rcases cellsD_invO hv with ⟨ro, l, h2, hv⟩ | hv
    case inr =>
      unfold stA at hv
      split at hv
      · rename_i u
        obtain ⟨zz, t', m, g1, hv⟩ := ar_invO hv
        obtain ⟨g2, hv⟩ := cnd_invO hv
        rw [frc_eq, put_eq] at hv
        cases hv
        simp only [iand_eq, Bool.and_eq_true] at g2
        obtain rfl := Nat.eq_of_beq_eq_true g2.1
        have ho : o < m := Nat.le_of_ble_eq_true g2.2.2.1
        have hC := hy.cells h1
        cases hx with
        | ptr _ _ r d z hi =>
          obtain ⟨b1, b2, b3⟩ : BRel ι w r d z (.arr zz t' m) := h.blk b r d z _ hi g1
          generalize hcl : cy.cells.toList = C at hC
          cases hC with
          | cons _ c _ L q1 q2 =>
            cases q2
            obtain ⟨k1, k2⟩ := h.putA hi g1 ho (Nat.le_of_ble_eq_true g2.2.2.2) q1
            refine ⟨rfl, _, ?_, k1, k2⟩
            have hz : cy.cells.size = 1 := by
              have := congrArg List.length hcl
              simpa using this
            have hs := run_storeCells_cells (P := P) r (d + o) [c] 0 w (fun j hj => by simp at hj; subst hj; simpa using (b3 o (by omega)).1)
              (fun j hj => by simp at hj; subst hj; simpa using (b3 o (by omega)).2) (fun v hv => by
                have : v = c := by simpa using hv
                subst this
                exact q1.one g2.2.1)
            simp only [Nat.add_zero] at hs
            simp [Instr.storeAt, Instr.sureAddr, storeVar, size_run (P := P) (w := w) hE hn, hz, hcl, hs]
      · cases hv
    obtain ⟨h3, hv⟩ := cnd_invO hv
    obtain ⟨l', h4, hv⟩ := opt_invO hv
    cases hv
    simp only [iand_eq, Bool.and_eq_true, len_eq, inot_eq] at h3
    have hro : ro = false := by simpa using h3.1
    subst hro
    have hC := hy.cells h1
    have hl : xs.length = n := Nat.eq_of_beq_eq_true h3.2.1
    cases hx with
    | ptr _ _ r d z hi =>
      obtain ⟨k1, k2⟩ := h.put hi h2 h4 hC
      rw [put_eq]
      refine ⟨rfl, _, ?_, k1, k2⟩
      have hb : BRel ι w r d z (.cells false l) := h.blk b r d z _ hi h2
      obtain ⟨p1, p2⟩ := puts_eq h4
      have hlen := hC.length
      have hz : cy.cells.size = n := by rw [← hl, hlen]; simp
      have hs := run_storeCells_cells (P := P) r (d + o) cy.cells.toList 0 w (fun j hj => by simp only [Nat.add_zero]; rw [Nat.add_assoc]; exact (hb.2.2 rfl (o + j) (by have := hb.1; omega)).1)
        (fun j hj => by simp only [Nat.add_zero]; rw [Nat.add_assoc]; exact (hb.2.2 rfl (o + j) (by have := hb.1; omega)).2) (hC.one h3.2.2)
      simp only [Nat.add_zero] at hs
      simp [Instr.storeAt, Instr.sureAddr, storeVar, size_run (P := P) (w := w) hE hn, hz, hs]
  · cases hv
end Go.Ev

namespace Go.Ev
open Go.RowKit (Below)
variable {P : Program} {E : Env} {base : Nat} {w0 : World} {ι : Inj} {H : Hp} {w : World} {T : PT AV} {L : List AV} {lk : Look} {a : Act}

theorem arrL_go (z : AV) (t : PT AV) : ∀ (n : Nat) (a : List AV), (Nat.rec (motive := fun _ => List AV → List AV) (fun a => a) (fun j ih a => ih (arrG z t j :: a)) n a : List AV) = (List.range n).map (arrG z t) ++ a
  | 0, a => by
    show a = _
    simp
  | n + 1, a => by
    show (Nat.rec (motive := fun _ => List AV → List AV) (fun a => a) (fun j ih a => ih (arrG z t j :: a)) n (arrG z t n :: a) : List AV) = _
    rw [arrL_go z t n, List.range_succ, List.map_append]
    simp
theorem arrL_eq (z : AV) (t : PT AV) (n : Nat) : arrL z t n = (List.range n).map (arrG z t) := by
  unfold arrL
  rw [arrL_go]; simp
theorem arr_list {r d zz n : Nat} {z : AV} {t : PT AV} (h : BRel ι w r d zz (.arr z t n)) : BRel ι w r d zz (.cells true (arrL z t n)) := by
  obtain ⟨h1, h2, h3⟩ := h
  rw [arrL_eq]
  refine ⟨by simpa using h1, fun j x hx => ?_, fun h => by cases h⟩
  rw [List.getElem?_map] at hx
  cases hr : (List.range n)[j]? with
  | none => rw [hr] at hx; cases hx
  | some q =>
    rw [hr] at hx
    have hj := (List.getElem?_eq_some_iff.1 hr).1
    obtain rfl : q = j := by
      have := (List.getElem?_eq_some_iff.1 hr).2
      simpa using this.symm
    cases hx
    exact h2 q (by simpa using hj)
theorem mkA_go : ∀ (l : List AV) (i : Nat) (t : PT AV) (j : Nat), i + l.length ≤ 1000000 → j ≤ 1000000 →
    (List.rec (motive := fun _ => Nat → PT AV → PT AV) (fun _ t => t) (fun x _ ih j t => (t.set (toP j) x).frc fun t' => ih (Nat.succ j) t') l i t : PT AV).get (toP j) = if i ≤ j ∧ j < i + l.length then l[j - i]? else t.get (toP j)
  | [], i, t, j, _, _ => by
    show t.get (toP j) = _
    rw [if_neg (by intro h; have := h.2; simp at this; omega)]
  | x :: l, i, t, j, hl, hj => by
    show ((t.set (toP i) x).frc fun t' => (List.rec (motive := fun _ => Nat → PT AV → PT AV) (fun _ t => t) (fun x _ ih j t => (t.set (toP j) x).frc fun t' => ih (Nat.succ j) t') l (i + 1) t' : PT AV)).get (toP j) = _
    rw [frc_eq, mkA_go l (i + 1) _ j (by simp at hl; omega) hj]
    by_cases h1 : i + 1 ≤ j ∧ j < i + 1 + l.length
    · rw [if_pos h1, if_pos (by simp; omega), show j - i = (j - (i + 1)) + 1 by omega]
      simp
    · rw [if_neg h1]
      by_cases h2 : j = i
      · subst h2
        rw [get_set_same, if_pos (by simp)]
        simp
      · rw [get_set_ne _ _ _ _ fun e => h2 (toP_inj hj (by simp at hl; omega) e), if_neg (by simp; omega)]
theorem mkA_get {l : List AV} (hl : l.length ≤ 1000000) {j : Nat} (hj : j < l.length) : arrG .any (mkA l) j = l[j] := by
  unfold arrG mkA
  rw [mkA_go l 0 .l j (by omega) (by omega), if_pos (by omega)]
  simp [hj]
theorem rowB_rel {c : Bool} {r d z : Nat} {l : List AV} {κ : Inj} (hl : c = true → l.length ≤ 1000000) (h : BRel κ w r d z (.cells false l)) : BRel κ w r d z (cnd c (.arr .any (mkA l) (len l)) (.cells false l)) := by
  cases c with
  | false => exact h
  | true =>
    obtain ⟨h1, h2, h3⟩ := h
    show BRel κ w r d z (.arr .any (mkA l) (len l))
    rw [len_eq]
    refine ⟨h1, fun j hj => ?_, h3 rfl⟩
    rw [mkA_get (hl rfl) hj]
    exact h2 j _ (List.getElem?_eq_getElem hj)
theorem rowB_live (c : Bool) (l : List AV) : (cnd c (.arr .any (mkA l) (len l)) (.cells false l) : Blk).live = true ∧ (cnd c (.arr .any (mkA l) (len l)) (.cells false l) : Blk).ro = false := by
  cases c <;> exact ⟨rfl, rfl⟩

theorem cells_run (h : Rl E base w0 ι H w) {b : Pos} {o k r d z : Nat} {q : List AV} (hi : ι b = some (r, d, z)) (hc : (H.cells b none fun _ l => sub o k l) = some q) :
    ∃ C, LRel ι q C ∧ C.length = k ∧ (∀ j v, C[j]? = some v → w.cell? ((⟨r, d + o, none⟩ : Addr).add j) = some v) := by
  obtain ⟨ro, l, h1, h2⟩ := cells_inv hc
  obtain ⟨h5, h6⟩ := sub_eq h2
  exact h.row hi h1 h5 h6

theorem cellsA_run (h : Rl E base w0 ι H w) {b : Pos} {o m e r d z : Nat} {q : List AV} (hi : ι b = some (r, d, z)) (hc : (H.cells b (H.ar b none fun z t k => cnd (Nat.beq e 1) (sub o m (arrL z t k)) none) fun _ l => sub o (Nat.mul m e) l) = some q) :
    ∃ C, LRel ι q C ∧ C.length = m * e ∧ (∀ j v, C[j]? = some v → w.cell? ((⟨r, d + o, none⟩ : Addr).add j) = some v) := by
  rcases cellsA_inv hc with ⟨ro, l, h1, h2⟩ | ⟨u, t, k, h1, h2⟩
  · obtain ⟨h5, h6⟩ := sub_eq h2
    exact h.row hi h1 h5 h6
  · obtain ⟨h3, h4⟩ := cnd_some h2
    obtain rfl := Nat.eq_of_beq_eq_true h3
    obtain ⟨h5, h6⟩ := sub_eq h4
    rw [Nat.mul_one]
    exact brow (arr_list (h.blk b r d z _ hi h1)) h5 h6
theorem cell_heap {w w' : World} (hh : w'.heap = w.heap) (a : Addr) : w'.cell? a = w.cell? a := World.cell?_of_block (w := w) (by rw [hh])

theorem src_run (h : Rl E base w0 ι H w) {x : AV} {cx : Value} (hx : VRel ι x cx) {m e : Nat} (hm : srcLen x = some m) {xs : List AV} (hc : srcCells e x H = some xs) :
    ∃ C, LRel ι xs C ∧ C.length = m * e ∧ (∀ w' : World, (Builtin.lenOf cx).run P w' = .ok m w') ∧ (∀ w' : World, w'.heap = w.heap → (Builtin.firstCells e m cx).run P w' = .ok C.toArray w') := by
  cases hx with
  | snil => cases hm; cases hc; exact ⟨[], .nil, by simp, fun _ => rfl, fun _ _ => rfl⟩
  | sl b o n c r d z hi =>
    cases hm
    replace hc : cnd (Nat.beq m 0) (some []) (H.cells b (H.ar b none fun z t k => cnd (Nat.beq e 1) (sub o m (arrL z t k)) none) fun _ l => sub o (Nat.mul m e) l) = some xs := hc
    rw [cnd_eq] at hc
    split at hc
    · rename_i h0
      have := Nat.eq_of_beq_eq_true h0; subst this
      cases hc
      exact ⟨[], .nil, by simp, fun _ => rfl, fun w' _ => by simpa using run_firstCells_some (P := P) w' e 0 ⟨r, d + o, none⟩ 0 c [] (by simp) (by simp)⟩
    · obtain ⟨C, c1, c2, c3⟩ := cellsA_run h hi hc
      exact ⟨C, c1, c2, fun _ => rfl, fun w' hh => run_firstCells_some (P := P) w' e m _ m c C c2 fun j v hj => by rw [cell_heap hh]; exact c3 j v hj⟩
  | slu b o n c r d z e' hi hcap hz =>
    cases hm
    replace hc : cnd (Nat.beq m 0) (some []) (H.cells b (H.ar b none fun z t k => cnd (Nat.beq e 1) (sub o m (arrL z t k)) none) fun _ l => sub o (Nat.mul m e) l) = some xs := hc
    rw [cnd_eq] at hc
    split at hc
    · rename_i h0
      have := Nat.eq_of_beq_eq_true h0; subst this
      cases hc
      exact ⟨[], .nil, by simp, fun _ => rfl, fun w' _ => by simpa using run_firstCells_some (P := P) w' e 0 ⟨r, d + o, none⟩ 0 c [] (by simp) (by simp)⟩
    · obtain ⟨C, c1, c2, c3⟩ := cellsA_run h hi hc
      exact ⟨C, c1, c2, fun _ => rfl, fun w' hh => run_firstCells_some (P := P) w' e m _ m c C c2 fun j v hj => by rw [cell_heap hh]; exact c3 j v hj⟩
  | slv b o r d z ad c hi hcap =>
    cases hm
    have : xs = [] := by
      replace hc : some [] = some xs := hc
      cases hc; rfl
    subst this
    exact ⟨[], .nil, by simp, fun _ => rfl, fun w' _ => by simpa using run_firstCells_some (P := P) w' e 0 ad 0 0 [] (by simp) (by simp)⟩
  | str s l hl =>
    cases hm
    replace hc : cnd (Nat.beq e 1) (some (l.map fun c => AV.int .u8 (.ofNat c))) none = some xs := hc
    obtain ⟨h1, hc⟩ := cnd_some hc
    have := Nat.eq_of_beq_eq_true h1; subst this
    cases hc
    have hlen : len l = s.size := by rw [len_eq, ← hl]; simp
    refine ⟨byteCells s, ?_, by rw [byteCells_length, hlen, Nat.mul_one], fun w' => by rw [hlen]; rfl, fun w' _ => by rw [hlen]; exact firstCells_string s w'⟩
    subst hl
    unfold byteCells
    refine .of_get (by simp) fun i x v hx hv => ?_
    simp only [List.getElem?_map, Option.map_eq_some_iff] at hx hv
    obtain ⟨y, ⟨u, hu, hy⟩, rfl⟩ := hx
    obtain ⟨u', hu', rfl⟩ := hv
    rw [hu] at hu'; cases hu'; subst hy
    exact .int _ _
  | _ => cases hm

theorem fits_ok {n old by' : Nat} (h : old < n) (h1 : n ≤ 1000000) (h2 : by' ≤ 100000) : Builtin.nextslicecap n old * by' ≤ 281474976710656 :=
  growslice_fits h (Nat.le_trans (Nat.mul_le_mul h1 h2) (by decide))

theorem grow_rel (h : Rl E base w0 ι H w) {e need old : Nat} {el : TypeId} {l : List AV} {C : List Value} (zc : Value) (hz : zc.cells.size = e) (hC : LRel ι l C) (hl : C.length = need * e) {v : AV} {H' : Hp} (hv : grow e need l H = .val v H') :
    need ≤ 1000000 ∧ ∃ ι', VRel ι' v (.slice (some ⟨w.heap.size, 0, none⟩) need (grownCap w need old el)) ∧
      Rl E base w0 ι' H' (w.drew.alloc (.cells (C.toArray ++ Builtin.zeroCells zc.cells (grownCap w need old el - need)) el)) ∧ Stp ι ι' H H' := by
  unfold grow at hv
  obtain ⟨h1, hv⟩ := cnd_invO hv
  rw [new_eq, fNat_eq] at hv
  cases hv
  refine ⟨Nat.le_of_ble_eq_true h1, ?_⟩
  have hge := grownCap_ge w need old el
  have hsz : (C.toArray ++ Builtin.zeroCells zc.cells (grownCap w need old el - need)).size = grownCap w need old el * e := by
    simp only [Array.size_append, List.size_toArray, size_zeroCells, hz, hl, ← Nat.add_mul]
    congr 1; omega
  obtain ⟨k1, k2⟩ := h.drew.alloc (.cells (C.toArray ++ Builtin.zeroCells zc.cells (grownCap w need old el - need)) el) (grownCap w need old el * e) (.cells false l) fun κ hκ => by
    refine ⟨by rw [hC.length, hl]; exact Nat.mul_le_mul_right _ hge, fun j x hx => ?_, fun _ j hj => ⟨?_, ?_⟩⟩
    · obtain ⟨v, h1, h2⟩ := hC.get hx
      refine ⟨v, ?_, h2.mono hκ⟩
      rw [Nat.zero_add, World.cell?_alloc_new, Array.getElem?_append_left (by
        have := (List.getElem?_eq_some_iff.1 h1).1
        simpa using this)]
      simpa using h1
    · rw [Nat.zero_add, World.cell?_alloc_new]
      rw [← hsz] at hj
      simp only [hj, getElem?_pos, Option.isSome_some]
    · rw [Nat.zero_add, World.frozen?_alloc_new]
  refine ⟨_, ?_, k1, k2⟩
  have := VRel.slu (ι := upd ι H.nx (w.drew.heap.size, 0, grownCap w need old el * e)) H.nx 0 need (grownCap w need old el) w.drew.heap.size 0 (grownCap w need old el * e) e (upd_same _ _ _) hge (by omega)
  simpa using this
theorem growA_rel (h : Rl E base w0 ι H w) {e need old : Nat} {el : TypeId} {l : List AV} {C : List Value} (zc : Value) (hz : zc.cells.size = e) (hC : LRel ι l C) (hl : C.length = need * e) {v : AV} {H' : Hp} (hv : growA e need l H = .val v H') :
    need ≤ 1000000 ∧ ∃ ι', VRel ι' v (.slice (some ⟨w.heap.size, 0, none⟩) need (grownCap w need old el)) ∧
      Rl E base w0 ι' H' (w.drew.alloc (.cells (C.toArray ++ Builtin.zeroCells zc.cells (grownCap w need old el - need)) el)) ∧ Stp ι ι' H H' := by
  unfold growA at hv
  obtain ⟨h1, hv⟩ := cnd_invO hv
  rw [iand_eq, Bool.and_eq_true] at h1
  rw [new_eq, fNat_eq] at hv
  cases hv
  refine ⟨Nat.le_of_ble_eq_true h1.1, ?_⟩
  have hge := grownCap_ge w need old el
  have hsz : (C.toArray ++ Builtin.zeroCells zc.cells (grownCap w need old el - need)).size = grownCap w need old el * e := by
    simp only [Array.size_append, List.size_toArray, size_zeroCells, hz, hl, ← Nat.add_mul]
    congr 1; omega
  obtain ⟨k1, k2⟩ := h.drew.alloc (.cells (C.toArray ++ Builtin.zeroCells zc.cells (grownCap w need old el - need)) el) (grownCap w need old el * e) (.arr .any (mkA l) (len l)) fun κ hκ => by
    refine rowB_rel (c := true) (fun _ => ?_) ⟨by rw [hC.length, hl]; exact Nat.mul_le_mul_right _ hge, fun j x hx => ?_, fun _ j hj => ⟨?_, ?_⟩⟩
    · have := Nat.eq_of_beq_eq_true h1.2
      have h1' := Nat.le_of_ble_eq_true h1.1
      rw [hC.length, hl, this]; omega
    · obtain ⟨v, h1, h2⟩ := hC.get hx
      refine ⟨v, ?_, h2.mono hκ⟩
      rw [Nat.zero_add, World.cell?_alloc_new, Array.getElem?_append_left (by
        have := (List.getElem?_eq_some_iff.1 h1).1
        simpa using this)]
      simpa using h1
    · rw [Nat.zero_add, World.cell?_alloc_new]
      rw [← hsz] at hj
      simp only [hj, getElem?_pos, Option.isSome_some]
    · rw [Nat.zero_add, World.frozen?_alloc_new]
  refine ⟨_, ?_, k1, k2⟩
  have := VRel.slu (ι := upd ι H.nx (w.drew.heap.size, 0, grownCap w need old el * e)) H.nx 0 need (grownCap w need old el) w.drew.heap.size 0 (grownCap w need old el * e) e (upd_same _ _ _) hge (by omega)
  simpa using this
theorem zcells_eq {t : Nat} {i : TypeInfo} {l : List AV} (hi : E.info t = some i) (h : E.zcells t = some l) : ∃ z : Value, i.zero = some z ∧ LRel ι l z.cells.toList := by
  unfold Env.zcells at h
  obtain ⟨x, h1, h2⟩ := opt_eq_some h
  unfold Env.zero at h1
  rw [hi] at h1
  replace h1 : opt i.zero none (fun v => ofV 8 v) = some x := h1
  obtain ⟨z, h3, h4⟩ := opt_eq_some h1
  exact ⟨z, h3, (ofV_sound 8 z x h4).cells h2⟩

theorem kind_of (hE : EnvOk P E) {xt : Nat} {dx : TypeDesc} (h : E.und xt = some dx) (hs : strOrSl dx = true) : (∃ e', P.underlying xt = some (.slice e')) ∨ P.underlying xt = some .string := by
  have hu := und_eq hE h
  cases dx with
  | slice e => exact .inl ⟨e, hu⟩
  | string => exact .inr hu
  | _ => cases hs

section
variable {st xt e : Nat} {ty : TypeId} {dx : TypeDesc} {i : TypeInfo} {z : List AV}

theorem app_grow (hE : EnvOk P E) (_h : Rl E base w0 ι H w) (h1 : E.und st = some (.slice e)) (h4 : E.info e = some i) (hz : E.zcells e = some z) (hz2 : z.length = i.size) (h6 : i.bytes ≤ 100000)
    {cx : Value} {n m : Nat} {news : List Value} (hs : Src P i.size xt cx m news w) (ad : Option Addr) (c : Nat) (olds : List Value) (hol : olds.length = n * i.size)
    (hold : (Builtin.firstCells i.size n (.slice ad n c)).run P w.drew = .ok olds.toArray w.drew) (hg : c < n + m) {l : List AV} (hl : LRel ι l (olds ++ news)) {H1 : Hp} (hR : Rl E base w0 ι H1 w) (hS : Stp ι ι H H1) {v : AV} {H' : Hp}
    (hv : grow i.size (n + m) l H1 = .val v H') : WGives P E base w0 ι H w (Builtin.append_ #[st, xt] ty #[.slice ad n c, cx]) v H' := by
  obtain ⟨zc, hz3, hz4⟩ := zcells_eq (ι := ι) h4 hz
  have hzl : zc.cells.size = i.size := by rw [← hz2, hz4.length]; simp
  obtain ⟨g1, ι', g2, g3, g4⟩ := grow_rel (old := c) (el := e) hR zc hzl hl (by rw [List.length_append, hol, hs.newsLen, Nat.add_mul]) hv
  exact ⟨_, _, ι', run_append_grow_src (P := P) w st xt ty e i zc (und_eq hE h1) (hE.ty _ _ h4) hz3 ad n c olds hold cx m news hs hg (by omega) (fits_ok hg g1 h6), g2, g3, hS.trans g4⟩
theorem app_growA (hE : EnvOk P E) (_h : Rl E base w0 ι H w) (h1 : E.und st = some (.slice e)) (h4 : E.info e = some i) (hz : E.zcells e = some z) (hz2 : z.length = i.size) (h6 : i.bytes ≤ 100000)
    {cx : Value} {n m : Nat} {news : List Value} (hs : Src P i.size xt cx m news w) (ad : Option Addr) (c : Nat) (olds : List Value) (hol : olds.length = n * i.size)
    (hold : (Builtin.firstCells i.size n (.slice ad n c)).run P w.drew = .ok olds.toArray w.drew) (hg : c < n + m) {l : List AV} (hl : LRel ι l (olds ++ news)) {H1 : Hp} (hR : Rl E base w0 ι H1 w) (hS : Stp ι ι H H1) {v : AV} {H' : Hp}
    (hv : growA i.size (n + m) l H1 = .val v H') : WGives P E base w0 ι H w (Builtin.append_ #[st, xt] ty #[.slice ad n c, cx]) v H' := by
  obtain ⟨zc, hz3, hz4⟩ := zcells_eq (ι := ι) h4 hz
  have hzl : zc.cells.size = i.size := by rw [← hz2, hz4.length]; simp
  obtain ⟨g1, ι', g2, g3, g4⟩ := growA_rel (old := c) (el := e) hR zc hzl hl (by rw [List.length_append, hol, hs.newsLen, Nat.add_mul]) hv
  exact ⟨_, _, ι', run_append_grow_src (P := P) w st xt ty e i zc (und_eq hE h1) (hE.ty _ _ h4) hz3 ad n c olds hold cx m news hs hg (by omega) (fits_ok hg g1 h6), g2, g3, hS.trans g4⟩
end
end Go.Ev
