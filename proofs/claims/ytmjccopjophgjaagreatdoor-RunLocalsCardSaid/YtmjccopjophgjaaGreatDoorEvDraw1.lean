/- What the compiling of a region that draws its order says. -/
import Derived.Test.YtmjccopjophgjaaGreatDoorEvText
namespace Go.Ev
variable {P : Program} {E : Env} {T : PT AV} {L : List AV} {lk : Look} {a : Act}

theorem tb_eq (m i : Nat) : tb m i = m.testBit i := by
  show Nat.beq (Nat.mod (Nat.shiftRight m i) 2) 1 = m.testBit i
  rw [Nat.testBit_eq_decide_div_mod_eq]
  show Nat.beq (m >>> i % 2) 1 = _
  rw [Nat.shiftRight_eq_div_pow]
  cases h : decide (m / 2 ^ i % 2 = 1) with
  | true => rw [of_decide_eq_true h]; rfl
  | false =>
    have := of_decide_eq_false h
    cases hb : Nat.beq (m / 2 ^ i % 2) 1 with
    | false => rfl
    | true => exact absurd (Nat.eq_of_beq_eq_true hb) this
theorem subM_eq {a d : Nat} : subM a d = true ↔ ∀ j, a.testBit j = true → d.testBit j = true := by
  unfold subM
  constructor
  · intro h j hj
    have e : Nat.land a d = a := Nat.eq_of_beq_eq_true h
    have : (a &&& d).testBit j = true := by show (Nat.land a d).testBit j = true; rw [e]; exact hj
    rw [Nat.testBit_and, Bool.and_eq_true] at this
    exact this.2
  · intro h
    have e : a &&& d = a := Nat.eq_of_testBit_eq fun j => by
      rw [Nat.testBit_and]
      cases hj : a.testBit j with
      | false => rfl
      | true => rw [h j hj]; rfl
    show Nat.beq (a &&& d) a = true
    rw [e]; exact Nat.beq_refl a
theorem lor_bit (d i j : Nat) : (Nat.lor d (Nat.pow 2 i)).testBit j = (d.testBit j || decide (i = j)) := by
  show (d ||| 2 ^ i).testBit j = _
  rw [Nat.testBit_or, Nat.testBit_two_pow]

/-! ### whom each one waits for -/
noncomputable def maskOf (o : Oper) (acc : List Nat) : Nat := o.after.toList.foldl (fun s e => cnd (Region.binds .any e) (Nat.lor s (Nat.lor (Nat.pow 2 e.on) (opt (nth e.on acc) 0 id))) s) 0
theorem mask_fold (acc : List Nat) : ∀ (l : List Edge) (s j : Nat),
    (l.foldl (fun s e => cnd (Region.binds .any e) (Nat.lor s (Nat.lor (Nat.pow 2 e.on) (opt (nth e.on acc) 0 id))) s) s).testBit j = true ↔
      s.testBit j = true ∨ ∃ e ∈ l, Region.binds .any e = true ∧ (e.on = j ∨ ∃ m, acc[e.on]? = some m ∧ m.testBit j = true)
  | [], s, j => by simp
  | e :: l, s, j => by
    rw [List.foldl_cons, mask_fold acc l]
    have key : (cnd (Region.binds .any e) (Nat.lor s (Nat.lor (Nat.pow 2 e.on) (opt (nth e.on acc) 0 id))) s).testBit j = true ↔ s.testBit j = true ∨ (Region.binds .any e = true ∧ (e.on = j ∨ ∃ m, acc[e.on]? = some m ∧ m.testBit j = true)) := by
      rw [cnd_eq]
      split
      · rename_i hb
        show (s ||| (2 ^ e.on ||| opt (nth e.on acc) 0 id)).testBit j = true ↔ _
        rw [Nat.testBit_or, Nat.testBit_or, Nat.testBit_two_pow, nth_eq]
        simp only [Bool.or_eq_true, decide_eq_true_eq, hb, true_and]
        cases hm : acc[e.on]? with
        | none =>
          have : (opt (none : Option Nat) 0 id).testBit j = false := Nat.zero_testBit j
          rw [this]; simp
        | some m =>
          have : (opt (some m) 0 id) = m := rfl
          rw [this]; simp
      · rename_i hb
        simp [hb]
    rw [key]
    constructor
    · rintro ((h | h) | ⟨e', he', h⟩)
      · exact .inl h
      · exact .inr ⟨e, by simp, h⟩
      · exact .inr ⟨e', by simp [he'], h⟩
    · rintro (h | ⟨e', he', h⟩)
      · exact .inl (.inl h)
      · cases he' with
        | head => exact .inl (.inr h)
        | tail _ hm => exact .inr ⟨e', hm, h⟩
noncomputable def masksFrom (ops : List Oper) : List Nat → List Nat :=
  List.rec (motive := fun _ => List Nat → List Nat) (fun acc => acc)
    (fun o _ ih acc => ih (app acc [o.after.toList.foldl (fun s e => cnd (Region.binds .any e) (Nat.lor s (Nat.lor (Nat.pow 2 e.on) (opt (nth e.on acc) 0 id))) s) 0])) ops
theorem masksFrom_cons (o : Oper) (ops : List Oper) (acc : List Nat) : masksFrom (o :: ops) acc = masksFrom ops (acc ++ [maskOf o acc]) := by
  show masksFrom ops (app acc [maskOf o acc]) = _
  rw [app_eq]
theorem masksFrom_pre : ∀ (ops : List Oper) (acc : List Nat), (masksFrom ops acc).length = acc.length + ops.length ∧ (∀ i, i < acc.length → (masksFrom ops acc)[i]? = acc[i]?) ∧
    (∀ i (o : Oper), ops[i]? = some o → (masksFrom ops acc)[acc.length + i]? = some (maskOf o ((masksFrom ops acc).take (acc.length + i))))
  | [], acc => ⟨by show acc.length = _; simp, fun _ _ => rfl, fun i o h => by simp at h⟩
  | o :: ops, acc => by
    rw [masksFrom_cons]
    obtain ⟨h1, h2, h3⟩ := masksFrom_pre ops (acc ++ [maskOf o acc])
    refine ⟨by rw [h1]; simp; omega, fun i hi => ?_, fun i o' ho => ?_⟩
    · rw [h2 i (by simp; omega), List.getElem?_append_left hi]
    · cases i with
      | zero =>
        have : o = o' := by simpa using ho
        subst this
        rw [Nat.add_zero, h2 acc.length (by simp)]
        have ht : (masksFrom ops (acc ++ [maskOf o acc])).take acc.length = acc := by
          apply List.ext_getElem?
          intro j
          rcases Nat.lt_or_ge j acc.length with hj | hj
          · rw [List.getElem?_take_of_lt hj, h2 j (by simp; omega), List.getElem?_append_left hj]
          · rw [List.getElem?_eq_none hj, List.getElem?_eq_none (by simp; omega)]
        rw [ht]
        simp
      | succ i =>
        have := h3 i o' (by simpa using ho)
        rw [show (acc ++ [maskOf o acc]).length + i = acc.length + (i + 1) by simp; omega] at this
        exact this
/-- The masks, as they are looked at. -/
theorem masks_spec {ops : List Oper} {i : Nat} {o : Oper} {m : Nat} (ho : ops[i]? = some o) (hm : (masks ops)[i]? = some m) (j : Nat) :
    m.testBit j = true ↔ ∃ e ∈ o.after.toList, Region.binds .any e = true ∧ (e.on = j ∨ ∃ m', e.on < i ∧ (masks ops)[e.on]? = some m' ∧ m'.testBit j = true) := by
  have h := (masksFrom_pre ops []).2.2 i o ho
  have e0 : masksFrom ops [] = masks ops := rfl
  rw [e0] at h
  simp only [List.length_nil, Nat.zero_add] at h
  rw [h] at hm
  cases hm
  unfold maskOf
  rw [mask_fold]
  constructor
  · rintro (h | ⟨e, he, hb, h⟩)
    · rw [Nat.zero_testBit] at h; cases h
    · refine ⟨e, he, hb, ?_⟩
      rcases h with h | ⟨m', h1, h2⟩
      · exact .inl h
      · rcases Nat.lt_or_ge e.on i with hlt | hge
        · rw [List.getElem?_take_of_lt hlt] at h1
          exact .inr ⟨m', hlt, h1, h2⟩
        · rw [List.getElem?_eq_none (by simp; omega)] at h1; cases h1
  · rintro ⟨e, he, hb, h⟩
    refine .inr ⟨e, he, hb, ?_⟩
    rcases h with h | ⟨m', h0, h1, h2⟩
    · exact .inl h
    · exact .inr ⟨m', by rw [List.getElem?_take_of_lt h0]; exact h1, h2⟩
theorem masks_some {ops : List Oper} {i : Nat} {o : Oper} (ho : ops[i]? = some o) : ∃ m, (masks ops)[i]? = some m := by
  have h := (masksFrom_pre ops []).2.2 i o ho
  simp only [List.length_nil, Nat.zero_add] at h
  exact ⟨_, h⟩

/-! ### which one comes next -/
theorem bool_pick (l b : Bool) : Bool.rec (motive := fun _ => Bool) (inot l) l b = decide (b = l) := by cases l <;> cases b <;> rfl
theorem pickQ_spec {E : Env} (dm : Nat) (loud : Bool) : ∀ (ops : List Oper) (ms : List Nat) (n : Nat),
    (∀ i, (List.rec (motive := fun _ => List Nat → Nat → Option Nat) (fun _ _ => none)
    (fun o _ ih ms i => List.rec (motive := fun _ => Option Nat) none
      (fun m ms' _ => cnd (iand (inot (tb dm i)) (iand (subM m dm) (Bool.rec (inot loud) loud (loudOp E o.op)))) (some i) (ih ms' (Nat.succ i))) ms) ops ms n : Option Nat) = some i →
        ∃ j o m, i = n + j ∧ ops[j]? = some o ∧ ms[j]? = some m ∧ tb dm i = false ∧ subM m dm = true ∧ loudOp E o.op = loud) ∧
    ((List.rec (motive := fun _ => List Nat → Nat → Option Nat) (fun _ _ => none)
    (fun o _ ih ms i => List.rec (motive := fun _ => Option Nat) none
      (fun m ms' _ => cnd (iand (inot (tb dm i)) (iand (subM m dm) (Bool.rec (inot loud) loud (loudOp E o.op)))) (some i) (ih ms' (Nat.succ i))) ms) ops ms n : Option Nat) = none →
        ∀ j (o : Oper) m, ops[j]? = some o → ms[j]? = some m → tb dm (n + j) = false → subM m dm = true → loudOp E o.op ≠ loud)
  | [], ms, n => ⟨fun i h => (by cases h), fun _ j o m h => (by simp at h)⟩
  | o :: ops, [], n => ⟨fun i h => (by cases h), fun _ j o m _ h => (by simp at h)⟩
  | o :: ops, m :: ms, n => by
    obtain ⟨h1, h2⟩ := pickQ_spec dm loud ops ms (n + 1)
    refine ⟨fun i h => ?_, fun h => ?_⟩
    · replace h : cnd (iand (inot (tb dm n)) (iand (subM m dm) (Bool.rec (inot loud) loud (loudOp E o.op)))) (some n) _ = some i := h
      rw [cnd_eq] at h
      split at h
      · rename_i hb
        cases h
        rw [bool_pick] at hb
        simp only [iand_eq, inot_eq, Bool.and_eq_true, Bool.not_eq_true', decide_eq_true_eq] at hb
        exact ⟨0, o, m, rfl, rfl, rfl, hb.1, hb.2.1, hb.2.2⟩
      · obtain ⟨j, o', m', e1, e2, e3, e4⟩ := h1 i h
        exact ⟨j + 1, o', m', by omega, by simpa using e2, by simpa using e3, e4⟩
    · replace h : cnd (iand (inot (tb dm n)) (iand (subM m dm) (Bool.rec (inot loud) loud (loudOp E o.op)))) (some n) _ = none := h
      rw [cnd_eq] at h
      split at h
      · cases h
      · rename_i hb
        intro j o' m' e1 e2 e3 e4 e5
        cases j with
        | zero =>
          have : o = o' := by simpa using e1
          subst this
          have : m = m' := by simpa using e2
          subst this
          apply hb
          rw [bool_pick]
          simp only [iand_eq, inot_eq, Bool.and_eq_true, Bool.not_eq_true', decide_eq_true_eq]
          exact ⟨e3, e4, e5⟩
        | succ j => exact h2 h j o' m' (by simpa using e1) (by simpa using e2) (by rw [← e3]; congr 1; omega) e4 e5
theorem pickQ_some {ops : List Oper} {ms : List Nat} {dm i : Nat} {loud : Bool} (h : pickQ E ops ms dm loud = some i) : ∃ o m, ops[i]? = some o ∧ ms[i]? = some m ∧ dm.testBit i = false ∧ (∀ j, m.testBit j = true → dm.testBit j = true) ∧ loudOp E o.op = loud := by
  obtain ⟨j, o, m, e1, e2, e3, e4, e5, e6⟩ := (pickQ_spec dm loud ops ms 0).1 i h
  have : i = j := by omega
  subst this
  rw [tb_eq] at e4
  exact ⟨o, m, e2, e3, e4, subM_eq.1 e5, e6⟩
theorem pickQ_none {ops : List Oper} {ms : List Nat} {dm : Nat} {loud : Bool} (h : pickQ E ops ms dm loud = none) {i : Nat} {o : Oper} {m : Nat} (ho : ops[i]? = some o) (hm : ms[i]? = some m) (h1 : dm.testBit i = false) (h2 : ∀ j, m.testBit j = true → dm.testBit j = true) : loudOp E o.op ≠ loud :=
  (pickQ_spec dm loud ops ms 0).2 h i o m ho hm (by rw [Nat.zero_add, tb_eq]; exact h1) (subM_eq.2 h2)

/-! ### one and the same value -/
theorem pbeq_eq : ∀ {a b : Pos}, pbeq a b = true → a = b
  | .h, .h, _ => rfl
  | .h, .o _, h => by cases h
  | .h, .i _, h => by cases h
  | .o _, .h, h => by cases h
  | .o a, .o b, h => by rw [pbeq_eq (a := a) (b := b) h]
  | .o _, .i _, h => by cases h
  | .i _, .h, h => by cases h
  | .i _, .o _, h => by cases h
  | .i a, .i b, h => by rw [pbeq_eq (a := a) (b := b) h]
theorem cbeq_eq {a b : Cap} (h : cbeq a b = true) : a = b := by
  cases a with
  | ex x => cases b with
    | ex y => rw [Nat.eq_of_beq_eq_true (n := x) (m := y) h]
    | op y => cases h
  | op x => cases b with
    | ex y => cases h
    | op y => rw [Nat.eq_of_beq_eq_true (n := x) (m := y) h]
theorem fbeq_eq {a b : Fn} (h : fbeq a b = true) : a = b := by
  unfold fbeq at h
  split at h
  · rw [Nat.eq_of_beq_eq_true h]
  · cases h
theorem abeq_eq : ∀ (d : Nat) (x y : AV), abeq d x y = true → x = y
  | 0, _, _, h => by cases h
  | d + 1, x, y, h => by
    have ih := abeq_eq d
    cases x <;> cases y <;> try (cases h; done)
    case bool.bool a b => cases a <;> cases b <;> first | rfl | cases h
    case int.int k n k' n' =>
      replace h : iand (kbeq k k') (ieq n n') = true := h
      rw [iand_eq, Bool.and_eq_true] at h
      rw [ieq_eq] at h
      rw [kbeq_eq h.1, eq_of_beq h.2]
    case str.str a b =>
      replace h : strEq a b = true := h
      rw [strEq_eq] at h
      have h := eq_of_beq h
      rw [h]
    case pnil.pnil => rfl
    case ptr.ptr a o b p =>
      replace h : iand (pbeq a b) (Nat.beq o p) = true := h
      rw [iand_eq, Bool.and_eq_true] at h
      rw [pbeq_eq h.1, Nat.eq_of_beq_eq_true h.2]
    case snil.snil => rfl
    case sl.sl a o n c b p m e =>
      replace h : iand (pbeq a b) (iand (Nat.beq o p) (iand (Nat.beq n m) (cbeq c e))) = true := h
      simp only [iand_eq, Bool.and_eq_true] at h
      rw [pbeq_eq h.1, Nat.eq_of_beq_eq_true h.2.1, Nat.eq_of_beq_eq_true h.2.2.1, cbeq_eq h.2.2.2]
    case mnil.mnil => rfl
    case map.map a b => rw [pbeq_eq (a := a) (b := b) h]
    case fn.fn f a b g c e =>
      replace h : iand (fbeq f g) (iand (lbeq (abeq d) a c) (lbeq (abeq d) b e)) = true := h
      simp only [iand_eq, Bool.and_eq_true] at h
      rw [fbeq_eq h.1, lbeq_eq ih h.2.1, lbeq_eq ih h.2.2]
    case fnil.fnil => rfl
    case ifc.ifc t v u w =>
      replace h : iand (Nat.beq t u) (abeq d v w) = true := h
      rw [iand_eq, Bool.and_eq_true] at h
      rw [Nat.eq_of_beq_eq_true h.1, ih _ _ h.2]
    case inil.inil => rfl
    case agg.agg a b => rw [lbeq_eq ih (a := a) (b := b) h]
    case tup.tup a b => rw [lbeq_eq ih (a := a) (b := b) h]
    case at.at i a j b =>
      replace h : iand (Nat.beq i j) (lbeq ateEq a b) = true := h
      rw [iand_eq, Bool.and_eq_true] at h
      rw [Nat.eq_of_beq_eq_true h.1, lbeq_eq ateEq_eq h.2]
    case strq.strq n m => rw [Nat.eq_of_beq_eq_true (n := n) (m := m) h]
    case slq.slq a n b m =>
      replace h : iand (pbeq a b) (Nat.beq n m) = true := h
      rw [iand_eq, Bool.and_eq_true] at h
      rw [pbeq_eq h.1, Nat.eq_of_beq_eq_true h.2]
    case nle.nle n m => rw [Nat.eq_of_beq_eq_true (n := n) (m := m) h]
    case stk.stk a b => rw [tksEq_eq (a := a) (b := b) h]
    case pos.pos a k b j =>
      replace h : iand (Nat.beq k j) (lbeq tkEq a b) = true := h
      rw [iand_eq, Bool.and_eq_true] at h
      rw [Nat.eq_of_beq_eq_true h.1, tksEq_eq h.2]
    case nge.nge n m => rw [Nat.eq_of_beq_eq_true (n := n) (m := m) h]
    case chn.chn a b => rw [pbeq_eq (a := a) (b := b) h]
    case cnil.cnil => rfl

/-! ### rechecks -/
theorem rechecks_spec {E : Env} {ops : List Oper} {m : Nat} : ∀ (done : List Nat) (n k j : Nat) (o : Oper) (f : AV → Hp → Option AV) (x : Opd), done[k]? = some j → tb m j = false → ops[j]? = some o → cK E (lookR ops (done.drop (k + 1))) o.op = some (.r1 f x) →
    (n + k, f, x) ∈ (List.rec (motive := fun _ => Nat → List (Nat × (AV → Hp → Option AV) × Opd)) (fun _ => [])
    (fun j js ih k => cnd (tb m j) (ih (Nat.succ k))
      (opt (nth j ops) (ih (Nat.succ k)) fun o => opt (cK E (lookR ops js) o.op) (ih (Nat.succ k)) fun q => opt (readK q) (ih (Nat.succ k)) fun r => (k, r) :: ih (Nat.succ k))) done n : List (Nat × (AV → Hp → Option AV) × Opd))
  | [], n, k, j, o, f, x, h, _, _, _ => by simp at h
  | i :: done, n, 0, j, o, f, x, h, hm, ho, hk => by
    have : i = j := by simpa using h
    subst this
    show _ ∈ cnd (tb m i) _ (opt (nth i ops) _ _)
    rw [hm, nth_eq, ho]
    show _ ∈ opt (cK E (lookR ops done) o.op) _ _
    have hk' : cK E (lookR ops done) o.op = some (.r1 f x) := by simpa using hk
    rw [hk']
    exact .head _
  | i :: done, n, k + 1, j, o, f, x, h, hm, ho, hk => by
    have ih := rechecks_spec (E := E) (ops := ops) (m := m) done (n + 1) k j o f x (by simpa using h) hm ho (by simpa using hk)
    rw [show n + (k + 1) = n + 1 + k by omega]
    show _ ∈ cnd (tb m i) _ (opt (nth i ops) _ _)
    rw [cnd_eq]
    split
    · exact ih
    · cases nth i ops with
      | none => exact ih
      | some o' =>
        show _ ∈ opt (cK E (lookR ops done) o'.op) _ _
        cases cK E (lookR ops done) o'.op with
        | none => exact ih
        | some q' =>
          show _ ∈ opt (readK q') _ _
          cases readK q' with
          | none => exact ih
          | some r => exact .tail _ ih
theorem reB_spec {H : Hp} : ∀ {rc : List (Nat × (AV → Hp → Option AV) × Opd)}, reB T L H rc = true → ∀ k f x, (k, f, x) ∈ rc → ∃ u, L[k]? = some u ∧ f (x.ev T (L.drop (k + 1))) H = some u
  | [], _, k, f, x, h => by cases h
  | p :: rc, hb, k, f, x, h => by
    replace hb : (opt (drop (Nat.succ p.1) L) false fun L0 => opt (p.2.1 (p.2.2.ev T L0) H) false fun v => opt (nth p.1 L) false fun u => cnd (abeq 8 v u) (reB T L H rc) false) = true := hb
    rw [drop_eq] at hb
    split at hb
    · replace hb : (opt (p.2.1 (p.2.2.ev T (L.drop (p.1 + 1))) H) false fun v => opt (nth p.1 L) false fun u => cnd (abeq 8 v u) (reB T L H rc) false) = true := hb
      cases h1 : p.2.1 (p.2.2.ev T (L.drop (p.1 + 1))) H with
      | none => rw [h1] at hb; cases hb
      | some v =>
        rw [h1] at hb
        replace hb : (opt (nth p.1 L) false fun u => cnd (abeq 8 v u) (reB T L H rc) false) = true := hb
        rw [nth_eq] at hb
        cases h2 : L[p.1]? with
        | none => rw [h2] at hb; cases hb
        | some u =>
          rw [h2] at hb
          replace hb : cnd (abeq 8 v u) (reB T L H rc) false = true := hb
          rw [cnd_eq] at hb
          split at hb
          · rename_i h3
            cases h with
            | head => exact ⟨u, h2, by rw [← abeq_eq 8 v u h3]; exact h1⟩
            | tail _ hm => exact reB_spec hb k f x hm
          · cases hb
    · cases hb

/-! ### the row -/
theorem cDraw_zero {ops : List Oper} {ms : List Nat} {full : Nat} {done : List Nat} {dm : Nat} {last : Option Nat} {r : List CO × List Nat} (h : cDraw E ops ms full 0 done dm last = some r) : dm = full ∧ r = ([], done) := by
  replace h : cnd (Nat.beq dm full) (some ([], done)) none = some r := h
  obtain ⟨h1, h2⟩ := cnd_some h
  cases h2
  exact ⟨Nat.eq_of_beq_eq_true h1, rfl⟩
/-- a step of the row -/
structure RStep (E : Env) (ops : List Oper) (ms : List Nat) (full n : Nat) (done : List Nat) (dm i : Nat) (last : Option Nat) (p : Option (Nat × Bool) × K) (rc : List (Nat × (AV → Hp → Option AV) × Opd)) (r : List CO × List Nat) : Prop where
  one : cOne E ops done i = some p
  rest : ∃ cs, cDraw E ops ms full n (i :: done) (Nat.lor dm (Nat.pow 2 i)) last = some (cs, r.2) ∧ r.1 = mkCO p.1 p.2 rc :: cs
theorem cDraw_succ {ops : List Oper} {ms : List Nat} {full n : Nat} {done : List Nat} {dm : Nat} {last : Option Nat} {r : List CO × List Nat} (h : cDraw E ops ms full (n + 1) done dm last = some r) :
    (∃ i p, pickQ E ops ms dm false = some i ∧ RStep E ops ms full n done dm i last p [] r) ∨
    (pickQ E ops ms dm false = none ∧ ∃ i m p, pickQ E ops ms dm true = some i ∧ ms[i]? = some m ∧ (∀ l, last = some l → m.testBit l = true) ∧ RStep E ops ms full n done dm i (some i) p (rechecks E ops m (i :: done)) r) := by
  replace h : (opt (pickQ E ops ms dm false)
        (opt (pickQ E ops ms dm true) none fun i => opt (nth i ms) none fun m =>
          cnd (opt last true fun l => tb m l)
            (opt (cOne E ops done i) none fun p => opt (cDraw E ops ms full n (i :: done) (Nat.lor dm (Nat.pow 2 i)) (some i)) none fun r =>
              some (mkCO p.1 p.2 (rechecks E ops m (i :: done)) :: r.1, r.2)) none)
        fun i => opt (cOne E ops done i) none fun p => opt (cDraw E ops ms full n (i :: done) (Nat.lor dm (Nat.pow 2 i)) last) none fun r => some (mkCO p.1 p.2 [] :: r.1, r.2)) = some r := h
  cases hq : pickQ E ops ms dm false with
  | some i =>
    rw [hq] at h
    left
    obtain ⟨p, h1, h⟩ := opt_eq_some h
    obtain ⟨r', h2, h⟩ := opt_eq_some h
    cases h
    exact ⟨i, p, rfl, h1, r'.1, h2, rfl⟩
  | none =>
    rw [hq] at h
    right
    obtain ⟨i, h1, h⟩ := opt_eq_some (x := pickQ E ops ms dm true) h
    obtain ⟨m, h2, h⟩ := opt_eq_some h
    obtain ⟨h3, h⟩ := cnd_some h
    obtain ⟨p, h4, h⟩ := opt_eq_some h
    obtain ⟨r', h5, h⟩ := opt_eq_some h
    cases h
    rw [nth_eq] at h2
    refine ⟨rfl, i, m, p, h1, h2, fun l hl => ?_, h4, r'.1, h5, rfl⟩
    rw [hl] at h3
    rw [← tb_eq]; exact h3
end Go.Ev
