/- The evaluator's plain operations: what they give, the model gives. -/
import Derived.Test.YtmjccopjophgjaaGreatDoorEvRel
import Derived.Laws.Bits
import Derived.Laws.Cells
import Derived.Laws.IdiomCopy
namespace Go.Ev
variable {P : Program} {E : Env} {ι : Inj} {w : World}

structure EnvOk (P : Program) (E : Env) : Prop where
  ty : ∀ t i, E.info t = some i → P.info? t = some i
  fn : ∀ f x, fnOf E f = some x → P.funcs[f]? = some x ∧ (x.name == "runtime.NumGoroutine") = false

theorem info_run (hE : EnvOk P E) {t : Nat} {i : TypeInfo} (h : E.info t = some i) : (typeInfo t).run P w = .ok i w := by
  simp [typeInfo, program, Sem.run, hE.ty t i h]
theorem und_eq (hE : EnvOk P E) {t : Nat} {d : TypeDesc} (h : E.und t = some d) : P.underlying t = some d := by
  unfold Env.und at h
  obtain ⟨i, h1, h2⟩ := opt_eq_some h
  unfold Program.underlying
  rw [hE.ty t i h1]
  unfold undD at h2
  split at h2
  · rename_i u hd
    obtain ⟨j, h3, h4⟩ := opt_eq_some h2
    cases h4
    cases i
    simp at hd
    subst hd
    simp [hE.ty _ j h3]
  · rename_i hd
    cases h2
    cases i
    simp at hd
    split
    · rename_i e
      simp at e
      exact absurd e.1 (hd _ _)
    · rename_i e; simp at e; subst e; rfl
    · rename_i e; cases e
theorem und_run (hE : EnvOk P E) {t : Nat} {d : TypeDesc} (h : E.und t = some d) : (underlying t).run P w = .ok d w := by
  simp [underlying, program, Sem.run, und_eq hE h]
theorem size_eq (hE : EnvOk P E) {t n : Nat} (h : E.size t = some n) : ∃ i, P.info? t = some i ∧ i.size = n := by
  unfold Env.size at h
  obtain ⟨i, h1, h2⟩ := opt_eq_some h
  cases h2
  exact ⟨i, hE.ty t i h1, rfl⟩
theorem size_run (hE : EnvOk P E) {t n : Nat} (h : E.size t = some n) : (sizeOf t).run P w = .ok n w := by
  unfold Env.size at h
  obtain ⟨i, h1, h2⟩ := opt_eq_some h
  cases h2
  simp [sizeOf, info_run hE h1]
theorem isAgg_run (hE : EnvOk P E) {t : Nat} {g : Bool} (h : E.isAgg t = some g) : (isAgg t).run P w = .ok g w := by
  unfold Env.isAgg at h
  obtain ⟨d, h1, h2⟩ := opt_eq_some h
  cases h2
  simp only [isAgg, Sem.run_bind, und_run hE h1, Result.andThen_ok]
  cases d <;> rfl

/-! ### constants -/
theorem ofV_sound : ∀ (d : Nat) (v : Value) (x : AV), ofV d v = some x → VRel ι x v
  | 0, _, _, h => by cases h
  | d + 1, v, x, h => by
    have lst : ∀ (l : List Value) (r : List AV), mapO (ofV d) l = some r → LRel ι r l := by
      intro l
      induction l with
      | nil => intro r h; cases h; exact .nil
      | cons v l ih =>
        intro r h
        obtain ⟨y, ys, h1, h2, rfl⟩ := mapO_cons h
        exact .cons _ _ _ _ (ofV_sound d v y h1) (ih ys h2)
    cases v with
    | bool b => cases h; exact .bool b
    | int k n => cases h; exact .int k n
    | string s => cases h; exact .str s _ rfl
    | pointer a => cases a with
      | none => cases h; exact .pnil
      | some a => cases h
    | slice a n c =>
      cases a with
      | some a => cases h
      | none =>
        cases n with
        | succ n => cases h
        | zero => cases c with
          | succ c => cases h
          | zero => cases h; exact .snil
    | map r => cases r with
      | none => cases h; exact .mnil
      | some a => cases h
    | nilFunc => cases h; exact .fnil
    | nilIface => cases h; exact .inil
    | iface t y =>
      replace h : opt (ofV d y) none (fun z => some (.ifc t z)) = some x := h
      obtain ⟨z, h1, h2⟩ := opt_eq_some h
      cases h2
      exact .ifc t z y (ofV_sound d y z h1)
    | func f first cap =>
      replace h : opt (mapO (ofV d) first.toList) none (fun a => opt (mapO (ofV d) cap.toList) none fun b => some (.fn f a b)) = some x := h
      obtain ⟨a, h1, h2⟩ := opt_eq_some h
      obtain ⟨b, h3, h4⟩ := opt_eq_some h2
      cases h4
      have := VRel.fn f a b first.toList cap.toList (lst _ _ h1) (lst _ _ h3)
      simpa using this
    | agg cs =>
      replace h : opt (mapO (ofV d) cs.toList) none (fun l => some (.agg l)) = some x := h
      obtain ⟨l, h1, h2⟩ := opt_eq_some h
      cases h2
      simpa using VRel.agg l cs.toList (lst _ _ h1)
    | tuple cs =>
      replace h : opt (mapO (ofV d) cs.toList) none (fun l => some (.tup l)) = some x := h
      obtain ⟨l, h1, h2⟩ := opt_eq_some h
      cases h2
      simpa using VRel.tup l cs.toList (lst _ _ h1)
    | float k b => cases h
    | complex k a b => cases h
    | chan r => cases r with
      | none => cases h; exact .cnil
      | some r => cases h

theorem zero_run (hE : EnvOk P E) {t : Nat} {x : AV} (h : E.zero t = some x) : ∃ z, (zeroValue t).run P w = .ok z w ∧ VRel ι x z := by
  unfold Env.zero at h
  obtain ⟨i, h1, h2⟩ := opt_eq_some h
  obtain ⟨z, h3, h4⟩ := opt_eq_some h2
  exact ⟨z, by simp [zeroValue, info_run hE h1, h3], ofV_sound 8 z x h4⟩
theorem zcells_run (hE : EnvOk P E) {t : Nat} {l : List AV} (h : E.zcells t = some l) : ∃ z : Value, (zeroValue t).run P w = .ok z w ∧ LRel ι l z.cells.toList := by
  unfold Env.zcells at h
  obtain ⟨x, h1, h2⟩ := opt_eq_some h
  obtain ⟨z, h3, h4⟩ := zero_run (ι := ι) (w := w) hE h1
  exact ⟨z, h3, h4.cells h2⟩

/-! ### operands -/
/-- What the places of the evaluator hold, the slots hold. -/
def LkOk (ι : Inj) (T : PT AV) (L : List AV) (lk : Look) (a : Act) : Prop := ∀ t x, lk t = some x → VRel ι (x.ev T L) (a.eval (.tmp t))
variable {T : PT AV} {L : List AV} {lk : Look} {a : Act}

theorem opd_sound (hg : ∀ g b, E.gl g = some b → ∃ z, ι b = some (g, 0, z)) (hl : LkOk ι T L lk a) {x : Operand} {y : Opd} (h : E.opd lk x = some y) : VRel ι (y.ev T L) (a.eval x) := by
  cases x with
  | tmp t => exact hl t y h
  | const v =>
    obtain ⟨z, h1, h2⟩ := opt_eq_some h
    cases h2
    exact ofV_sound 8 v z h1
  | func f =>
    cases h
    exact .fn (.func f) [] [] [] [] .nil .nil
  | global g =>
    obtain ⟨b, h1, h2⟩ := opt_eq_some h
    cases h2
    obtain ⟨z, hz⟩ := hg g b h1
    have := VRel.ptr b 0 g 0 z hz
    rw [Nat.zero_add] at this
    exact this
theorem evs_cons (x : Opd) (xs : List Opd) : evs T L (x :: xs) = x.ev T L :: evs T L xs := rfl
theorem opds_sound (hg : ∀ g b, E.gl g = some b → ∃ z, ι b = some (g, 0, z)) (hl : LkOk ι T L lk a) : ∀ {xs : List Operand} {ys : List Opd}, E.opds lk xs = some ys → LRel ι (evs T L ys) (xs.map a.eval)
  | [], ys, h => by cases h; exact .nil
  | x :: xs, ys, h => by
    obtain ⟨y, zs, h1, h2, rfl⟩ := mapO_cons h
    rw [evs_cons]
    exact .cons _ _ _ _ (opd_sound hg hl h1) (opds_sound hg hl h2)

/-- A computation of the model gives what is said, and turns nothing. -/
def Gives (P : Program) (ι : Inj) (w : World) (s : Sem Value) (v : AV) : Prop := ∃ c, s.run P w = .ok c w ∧ VRel ι v c

theorem avId_eq (x : AV) : avId x = some x := by cases x <;> rfl
theorem bI_eq (b : Bool) : bI b = some (.bool b) := by cases b <;> rfl
theorem vI_eq (k : IntKind) (n : Int) : vI k n = some (.int k n) := by unfold vI; rw [fInt_eq]

theorem int2_inv {f : IntKind → Int → Int → Option AV} {x y v : AV} (h : int2 f x y = some v) : ∃ k a b, x = .int k a ∧ y = .int k b ∧ f k a b = some v := by
  unfold int2 at h
  split at h
  · rename_i k a k' b
    rw [cnd_eq] at h
    split at h
    · rename_i hk; have := kbeq_eq hk; subst this; exact ⟨k, a, b, rfl, rfl, h⟩
    · cases h
  · cases h

theorem str_rel {l : List Nat} {v : Value} (h : VRel ι (.str l) v) : ∃ s : ByteArray, v = .string s ∧ s.data.toList.map (·.toNat) = l := by
  cases h with
  | str s l h => exact ⟨s, rfl, h⟩
theorem int_rel {k : IntKind} {n : Int} {v : Value} (h : VRel ι (.int k n) v) : v = .int k n := by cases h; rfl

/-! ### atoms -/
theorem obeq_eq {a b : BinOp} (h : obeq a b = true) : a = b := by
  have := Nat.eq_of_beq_eq_true h
  cases a <;> cases b <;> first | rfl | (exact absurd this (by decide))
theorem aoEq_eq {a b : AtO} (h : aoEq a b = true) : a = b := by
  cases a with
  | cv k => cases b with
    | cv l => rw [kbeq_eq (a := k) (b := l) h]
    | _ => cases h
  | bc o k c => cases b with
    | bc p l d =>
      replace h : iand (obeq o p) (iand (kbeq k l) (ieq c d)) = true := h
      simp only [iand_eq, Bool.and_eq_true, ieq_eq] at h
      rw [obeq_eq h.1, kbeq_eq h.2.1, eq_of_beq h.2.2]
    | _ => cases h
  | cb o k c => cases b with
    | cb p l d =>
      replace h : iand (obeq o p) (iand (kbeq k l) (ieq c d)) = true := h
      simp only [iand_eq, Bool.and_eq_true, ieq_eq] at h
      rw [obeq_eq h.1, kbeq_eq h.2.1, eq_of_beq h.2.2]
    | _ => cases h
  | aa o i => cases b with
    | aa p j =>
      replace h : iand (obeq o p) (Nat.beq i j) = true := h
      simp only [iand_eq, Bool.and_eq_true] at h
      rw [obeq_eq h.1, Nat.eq_of_beq_eq_true h.2]
    | _ => cases h
  | ec k c => cases b with
    | ec l d =>
      replace h : iand (kbeq k l) (ieq c d) = true := h
      simp only [iand_eq, Bool.and_eq_true, ieq_eq] at h
      rw [kbeq_eq h.1, eq_of_beq h.2]
    | _ => cases h
  | ea i => cases b with
    | ea j => rw [Nat.eq_of_beq_eq_true (show Nat.beq i j = true from h)]
    | _ => cases h
  | ng => cases b with
    | ng => rfl
    | _ => cases h
  | w32 => cases b with
    | w32 => rfl
    | _ => cases h
theorem atG_some {i : Nat} {o : AtO} {v : AtV} : ∀ {tb : List (Nat × AtO × AtV)}, atG i o tb = some v → (i, o, v) ∈ tb
  | [], h => by cases h
  | (j, p, u) :: tb, h => by
    replace h : cnd (Nat.beq j i) (cnd (aoEq p o) (some u) (atG i o tb)) (atG i o tb) = some v := h
    rw [cnd_eq] at h
    split at h
    · rename_i h1
      rw [cnd_eq] at h
      split at h
      · rename_i h2
        cases h
        rw [Nat.eq_of_beq_eq_true h1, aoEq_eq h2]
        exact .head _
      · exact .tail _ (atG_some h)
    · exact .tail _ (atG_some h)
theorem at_rel {i : Nat} {tb : List (Nat × AtO × AtV)} {c : Value} (hx : VRel ι (.at i tb) c) : AtOk ι.s tb ∧ c = .int (ι.s i).1 (ι.s i).2 := by
  cases hx with
  | «at» _ _ k n h hi => exact ⟨h, by rw [hi]⟩
theorem num_rel (i : Nat) : VRel ι (num ι.s i) (.int (ι.s i).1 (ι.s i).2) := .int _ _
theorem at_lift {tb : List (Nat × AtO × AtV)} (h : AtOk ι.s tb) {r : AtV} {v : AV} (hv : AtV.tv tb r = some v) {c : Value} (hc : VRel ι (AtV.av ι.s r) c) : VRel ι v c := by
  cases r with
  | «at» j =>
    cases hv
    cases int_rel (show VRel ι (.int (ι.s j).1 (ι.s j).2) c from hc)
    exact .at j tb _ _ h rfl
  | bool b => cases hv; exact hc
  | int k n => cases hv; exact hc
theorem atL_some {σ : Nat → IntKind × Int} {i : Nat} {o : AtO} {tb : List (Nat × AtO × AtV)} (h : AtOk σ tb) {v : AV} (hv : atL i o tb = some v) : ∃ r, AtO.den σ i o = some (AtV.av σ r) ∧ AtV.tv tb r = some v := by
  obtain ⟨r, h1, h2⟩ := opt_eq_some hv
  exact ⟨r, h i o r (atG_some h1), h2⟩
theorem atB_some {σ : Nat → IntKind × Int} {i : Nat} {o : AtO} {tb : List (Nat × AtO × AtV)} (h : AtOk σ tb) {b : Bool} (hv : atB i o tb = some b) : AtO.den σ i o = some (.bool b) := by
  obtain ⟨r, h1, h2⟩ := opt_eq_some hv
  cases r with
  | bool b' => cases h2; exact h i o _ (atG_some h1)
  | _ => cases h2
theorem bool_rel {b : Bool} {v : Value} (h : VRel ι (.bool b) v) : v = .bool b := by cases h; rfl
theorem size_str {s : ByteArray} {l : List Nat} (h : s.data.toList.map (·.toNat) = l) : s.size = l.length := by
  show s.data.size = _
  rw [← h, List.length_map, Array.length_toList]
theorem toNat_inj {a b : List UInt8} (h : a.map (·.toNat) = b.map (·.toNat)) : a = b := by
  induction a generalizing b with
  | nil => cases b with
    | nil => rfl
    | cons => simp at h
  | cons x a ih => cases b with
    | nil => simp at h
    | cons y b =>
      simp at h
      rw [ih h.2, UInt8.toNat_inj.1 h.1]
end Go.Ev
