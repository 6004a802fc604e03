/- The evaluator's numbers. -/
import Derived.Test.YtmjccopjophgjaaGreatDoorEvPure
namespace Go.Ev
variable {P : Program} {E : Env} {ι : Inj} {w : World}

theorem inK_iff (k : IntKind) (a : Int) (h : inK k a = true) : (k.signed = true → -(2 ^ (k.bits - 1) : Int) ≤ a ∧ a < 2 ^ (k.bits - 1)) ∧ (k.signed = false → 0 ≤ a ∧ a < 2 ^ k.bits) := by
  cases a with
  | ofNat m =>
    have h' : m ≤ kmax k := Nat.le_of_ble_eq_true h
    cases k <;> simp [kmax] at h' <;> simp [IntKind.signed, IntKind.bits] <;> omega
  | negSucc m =>
    replace h : iand (ksgn k) (Nat.ble m (kmax k)) = true := h
    simp only [iand_eq, Bool.and_eq_true] at h
    obtain ⟨h1, h2⟩ := h
    have h' := Nat.le_of_ble_eq_true h2
    rw [Int.negSucc_eq]
    generalize hx : (-(↑m + 1) : Int) = x
    cases k <;> first | (exact absurd h1 (by decide)) | (simp [kmax] at h'; simp [IntKind.signed, IntKind.bits]; omega)
theorem toB_eq (k : IntKind) (a : Int) (h : inK k a = true) : (BitVec.ofInt k.bits a).toNat = toB k a := by
  rw [BitVec.toNat_ofInt]
  cases a with
  | ofNat m =>
    have h' : m ≤ kmax k := Nat.le_of_ble_eq_true h
    show ((Int.ofNat m) % ((2 ^ k.bits : Nat) : Int)).toNat = m
    cases k <;> simp [kmax] at h' <;> simp [IntKind.bits] <;> omega
  | negSucc m =>
    replace h : iand (ksgn k) (Nat.ble m (kmax k)) = true := h
    simp only [iand_eq, Bool.and_eq_true] at h
    obtain ⟨h1, h2⟩ := h
    have h' := Nat.le_of_ble_eq_true h2
    show ((Int.negSucc m) % ((2 ^ k.bits : Nat) : Int)).toNat = 2 ^ k.bits - 1 - m
    rw [Int.negSucc_eq]
    generalize hx : (-(↑m + 1) : Int) = x
    cases k <;> first | (exact absurd h1 (by decide)) | (simp [kmax] at h'; simp [IntKind.bits]; omega)
theorem ofB_eq (k : IntKind) (n : Nat) (h : n < 2 ^ k.bits) : k.wrap (n : Int) = ofB k n := by
  show _ = cnd (Nat.ble n (kmax k)) (Int.ofNat n) (Int.negSucc (2 ^ k.bits - 1 - n))
  rw [cnd_eq]
  split
  · rename_i h1
    have h' := Nat.le_of_ble_eq_true h1
    cases k <;> simp [kmax] at h' <;> simp [IntKind.wrap, IntKind.bits, IntKind.signed] <;> omega
  · rename_i h1
    have h' : ¬ n ≤ kmax k := fun h => h1 (Nat.ble_eq_true_of_le h)
    rw [Int.negSucc_eq]
    generalize hx : (-(↑(2 ^ k.bits - 1 - n) + 1) : Int) = x
    cases k <;> simp [kmax] at h' <;> simp [IntKind.bits] at h hx <;> simp [IntKind.wrap, IntKind.bits, IntKind.signed] <;> omega
theorem toB_lt (k : IntKind) (a : Int) (h : inK k a = true) : toB k a < 2 ^ k.bits := by
  rw [← toB_eq k a h]; exact BitVec.isLt _
theorem kind_beq (k : IntKind) : (k ≠ k) = False := by simp

theorem bit2_run {op : BinOp} {f : Nat → Nat → Nat} (hf : (op = .and ∧ f = Nat.land) ∨ (op = .or ∧ f = Nat.lor) ∨ (op = .xor ∧ f = Nat.xor)) {k : IntKind} {a b : Int} {v : AV}
    (h : bit2 f k a b = some v) : ∃ c, (Op.intBits op k a b).run P w = .ok (.int k c) w ∧ v = .int k c := by
  unfold bit2 at h
  rw [cnd_eq] at h
  split at h
  · rename_i hk
    simp only [iand_eq, Bool.and_eq_true] at hk
    obtain ⟨ha, hb⟩ := hk
    rw [vI_eq] at h
    cases h
    have e1 := toB_eq k a ha
    have e2 := toB_eq k b hb
    have l1 := toB_lt k a ha
    have l2 := toB_lt k b hb
    rcases hf with ⟨rfl, rfl⟩ | ⟨rfl, rfl⟩ | ⟨rfl, rfl⟩
    · refine ⟨_, rfl, ?_⟩
      have := ofB_eq k (toB k a &&& toB k b) (Nat.lt_of_le_of_lt Nat.and_le_left l1)
      rw [BitVec.toNat_and, e1, e2, this]; rfl
    · refine ⟨_, rfl, ?_⟩
      have := ofB_eq k (toB k a ||| toB k b) (Nat.or_lt_two_pow l1 l2)
      rw [BitVec.toNat_or, e1, e2, this]; rfl
    · refine ⟨_, rfl, ?_⟩
      have := ofB_eq k (toB k a ^^^ toB k b) (Nat.xor_lt_two_pow l1 l2)
      rw [BitVec.toNat_xor, e1, e2, this]; rfl
  · cases h

theorem avCom_run {k : IntKind} {a : Int} (hs : ksgn k = true) (h : inK k a = true) : (Op.unary .xor (.int k a)).run P w = .ok (.int k (-1 - a)) w := by
  have hs' : k.signed = true := by cases k <;> first | rfl | (exact absurd hs (by decide))
  show (Op.intBits .xor k (if k.signed then -1 else k.max) a).run P w = _
  rw [if_pos hs']
  show Result.ok (Value.int k (k.wrap (BitVec.ofInt k.bits (-1) ^^^ BitVec.ofInt k.bits a).toNat)) w = _
  have e : BitVec.ofInt k.bits (-1) = BitVec.allOnes k.bits := by
    apply BitVec.eq_of_toNat_eq
    rw [toB_eq k (-1) (by cases k <;> first | rfl | (exact absurd hs (by decide)))]
    simp [toB, BitVec.toNat_allOnes]
    rfl
  have e2 : (BitVec.allOnes k.bits ^^^ BitVec.ofInt k.bits a).toNat = 2 ^ k.bits - 1 - toB k a := by
    rw [BitVec.allOnes_xor, BitVec.toNat_not, toB_eq k a h]
  rw [e, e2, ofB_eq k _ (by have := toB_lt k a h; omega)]
  congr 2
  show cnd (Nat.ble (2 ^ k.bits - 1 - toB k a) (kmax k)) (Int.ofNat (2 ^ k.bits - 1 - toB k a)) (Int.negSucc (2 ^ k.bits - 1 - (2 ^ k.bits - 1 - toB k a))) = _
  have lt := toB_lt k a h
  cases a with
  | ofNat m =>
    have h' : m ≤ kmax k := Nat.le_of_ble_eq_true h
    show cnd (Nat.ble (2 ^ k.bits - 1 - m) (kmax k)) _ (Int.negSucc (2 ^ k.bits - 1 - (2 ^ k.bits - 1 - m))) = _
    have hb : Nat.ble (2 ^ k.bits - 1 - m) (kmax k) = false := by
      rw [Bool.eq_false_iff]
      intro hb
      have := Nat.le_of_ble_eq_true hb
      cases k <;> first | (exact absurd hs (by decide)) | (simp [kmax, IntKind.bits] at this h'; omega)
    rw [hb, cnd_false, Int.negSucc_eq]
    have lt' : m < 2 ^ k.bits := lt
    simp only [Int.ofNat_eq_natCast]
    omega
  | negSucc m =>
    replace h : iand (ksgn k) (Nat.ble m (kmax k)) = true := h
    simp only [iand_eq, Bool.and_eq_true] at h
    have h' := Nat.le_of_ble_eq_true h.2
    have hp : m < 2 ^ k.bits := by
      cases k <;> simp [kmax] at h' <;> simp [IntKind.bits] <;> omega
    show cnd (Nat.ble (2 ^ k.bits - 1 - (2 ^ k.bits - 1 - m)) (kmax k)) (Int.ofNat (2 ^ k.bits - 1 - (2 ^ k.bits - 1 - m))) _ = _
    have e3 : 2 ^ k.bits - 1 - (2 ^ k.bits - 1 - m) = m := by omega
    rw [e3, h.2, cnd_true, Int.negSucc_eq]
    simp only [Int.ofNat_eq_natCast]
    omega

theorem shift_n (n : Nat) (k : IntKind) : cnd (Nat.ble n k.bits) n k.bits = min n k.bits := by
  rw [cnd_eq]
  split
  · rename_i h; have := Nat.le_of_ble_eq_true h; omega
  · rename_i h; have : ¬ n ≤ k.bits := fun h' => h (Nat.ble_eq_true_of_le h'); omega

/-- the operations but '==' and '!=' -/
theorem bin_run {op : BinOp} {f : AV → AV → Option AV} (hf : avBin op = some f) {x y v : AV} {cx cy : Value} (hx : VRel ι x cx) (hy : VRel ι y cy) (h : f x y = some v) (t : Nat) (ox oy : Operand) :
    Gives P ι w (do eqGuard op t ox oy cx cy; binOp op t cx cy) v := by
  have hg : op ≠ .eql → op ≠ .neq → eqGuard op t ox oy cx cy = pure () := by
    intro h1 h2
    unfold eqGuard
    cases op <;> first | rfl | (exact absurd rfl h1) | (exact absurd rfl h2)
  have num : ∀ (g : IntKind → Int → Int → Option AV), f = int2 g → op ≠ .shl → op ≠ .shr → (op ≠ .eql) → op ≠ .neq →
      (∀ k a b, g k a b = some v → ∃ c, (binOp op t (.int k a) (.int k b)).run P w = .ok c w ∧ VRel ι v c) → Gives P ι w (do eqGuard op t ox oy cx cy; binOp op t cx cy) v := by
    intro g e n1 n2 n3 n4 hh
    subst e
    obtain ⟨k, a, b, rfl, rfl, h2⟩ := int2_inv h
    have e1 := int_rel hx; have e2 := int_rel hy
    subst e1; subst e2
    obtain ⟨c, h3, h4⟩ := hh k a b h2
    rw [hg n3 n4]
    exact ⟨c, by simpa using h3, h4⟩
  cases op with
  | add =>
    cases hf
    unfold strApp at h
    rw [hg (by simp) (by simp)]
    split at h
    · rename_i l m
      rw [cnd_eq] at h
      split at h
      · rename_i hb
        have hb' := Nat.le_of_ble_eq_true hb
        cases h
        obtain ⟨s, rfl, hs⟩ := str_rel hx
        obtain ⟨u, rfl, hu⟩ := str_rel hy
        have l1 := size_str hs; have l2 := size_str hu
        rw [len_eq, len_eq] at hb'
        refine ⟨.string (s ++ u), ?_, ?_⟩
        · have hc : ¬ ((s.size + u.size : Nat) : Int) > IntKind.i64.max := by
            show ¬ ((s.size + u.size : Nat) : Int) > 9223372036854775807
            rw [l1, l2]
            have : l.length + m.length ≤ 1000000 := hb'
            omega
          simp only [binOp, Op.stringOp, Sem.run_bind, Sem.run_pure, Result.andThen_ok]
          rw [if_neg hc]; rfl
        · rw [app_eq]
          refine .str _ _ ?_
          rw [← hs, ← hu, ByteArray.data_append, Array.toList_append, List.map_append]
      · cases h
    · rename_i k a k' b
      rw [cnd_eq] at h
      split at h
      · rename_i hk
        have := kbeq_eq hk; subst this
        rw [vI_eq] at h
        cases h
        have e1 := int_rel hx; have e2 := int_rel hy
        subst e1; subst e2
        rw [wr_eq, iadd_eq]
        exact ⟨_, by simp [binOp, Op.intArith], .int _ _⟩
      · cases h
    · cases h
  | sub =>
    cases hf
    refine num _ rfl (by simp) (by simp) (by simp) (by simp) fun k a b h2 => ?_
    rw [vI_eq] at h2; cases h2
    rw [wr_eq, isub_eq]
    exact ⟨_, by simp [binOp, Op.intArith], .int _ _⟩
  | mul =>
    cases hf
    refine num _ rfl (by simp) (by simp) (by simp) (by simp) fun k a b h2 => ?_
    rw [vI_eq] at h2; cases h2
    rw [wr_eq]
    exact ⟨.int k (k.wrap (a * b)), by simp [binOp, Op.intArith], .int _ _⟩
  | quo =>
    cases hf
    refine num _ rfl (by simp) (by simp) (by simp) (by simp) fun k a b h2 => ?_
    rw [cnd_eq] at h2
    split at h2
    · cases h2
    · rename_i hz
      rw [vI_eq] at h2; cases h2
      rw [ieq_eq] at hz
      have hz' : b ≠ 0 := by simpa using hz
      rw [wr_eq]
      exact ⟨_, by simp [binOp, Op.intDiv, hz'], .int _ _⟩
  | rem =>
    cases hf
    refine num _ rfl (by simp) (by simp) (by simp) (by simp) fun k a b h2 => ?_
    rw [cnd_eq] at h2
    split at h2
    · cases h2
    · rename_i hz
      rw [vI_eq] at h2; cases h2
      rw [ieq_eq] at hz
      have hz' : b ≠ 0 := by simpa using hz
      exact ⟨_, by simp [binOp, Op.intDiv, hz'], .int _ _⟩
  | lss =>
    cases hf
    refine num _ rfl (by simp) (by simp) (by simp) (by simp) fun k a b h2 => ?_
    rw [bI_eq] at h2; cases h2
    rw [inot_eq, ile_eq]
    refine ⟨.bool (decide (a < b)), by simp [binOp, Op.intCmp], ?_⟩
    rw [show (!decide (b ≤ a)) = decide (a < b) by rw [Bool.eq_iff_iff]; simp]
    exact .bool _
  | leq =>
    cases hf
    refine num _ rfl (by simp) (by simp) (by simp) (by simp) fun k a b h2 => ?_
    rw [bI_eq] at h2; cases h2
    rw [ile_eq]
    exact ⟨.bool (decide (a ≤ b)), by simp [binOp, Op.intCmp], .bool _⟩
  | gtr =>
    cases hf
    refine num _ rfl (by simp) (by simp) (by simp) (by simp) fun k a b h2 => ?_
    rw [bI_eq] at h2; cases h2
    rw [inot_eq, ile_eq]
    refine ⟨.bool (decide (a > b)), by simp [binOp, Op.intCmp], ?_⟩
    rw [show (!decide (a ≤ b)) = decide (a > b) by rw [Bool.eq_iff_iff]; simp]
    exact .bool _
  | geq =>
    cases hf
    refine num _ rfl (by simp) (by simp) (by simp) (by simp) fun k a b h2 => ?_
    rw [bI_eq] at h2; cases h2
    rw [ile_eq]
    exact ⟨.bool (decide (a ≥ b)), by simp [binOp, Op.intCmp], .bool _⟩
  | and =>
    cases hf
    refine num _ rfl (by simp) (by simp) (by simp) (by simp) fun k a b h2 => ?_
    obtain ⟨c, h3, rfl⟩ := bit2_run (P := P) (w := w) (op := .and) (.inl ⟨rfl, rfl⟩) h2
    exact ⟨_, by simpa [binOp] using h3, .int _ _⟩
  | or =>
    cases hf
    refine num _ rfl (by simp) (by simp) (by simp) (by simp) fun k a b h2 => ?_
    obtain ⟨c, h3, rfl⟩ := bit2_run (P := P) (w := w) (op := .or) (.inr (.inl ⟨rfl, rfl⟩)) h2
    exact ⟨_, by simpa [binOp] using h3, .int _ _⟩
  | xor =>
    cases hf
    refine num _ rfl (by simp) (by simp) (by simp) (by simp) fun k a b h2 => ?_
    obtain ⟨c, h3, rfl⟩ := bit2_run (P := P) (w := w) (op := .xor) (.inr (.inr ⟨rfl, rfl⟩)) h2
    exact ⟨_, by simpa [binOp] using h3, .int _ _⟩
  | shl =>
    cases hf
    rw [hg (by simp) (by simp)]
    unfold shl2 at h
    split at h
    · rename_i k a k' n
      rw [vI_eq] at h; cases h
      have e1 := int_rel hx; have e2 := int_rel hy
      subst e1; subst e2
      refine ⟨.int k (k.wrap (a * 2 ^ min n k.bits)), ?_, ?_⟩
      · have : ¬ (Int.ofNat n < 0) := by simp only [Int.ofNat_eq_natCast]; omega
        show (Op.shift .shl k a k' (Int.ofNat n)).run P w = _
        unfold Op.shift
        rw [if_neg this]; rfl
      · rw [shift_n]
        have : (Int.mul a (.ofNat (Nat.pow 2 (min n k.bits)))) = a * 2 ^ min n k.bits := by
          show a * ((2 ^ min n k.bits : Nat) : Int) = _
          rw [Int.natCast_pow]; rfl
        rw [this]
        exact .int _ _
    · cases h
  | shr =>
    cases hf
    rw [hg (by simp) (by simp)]
    unfold shr2 at h
    split at h
    · rename_i k a k' n
      rw [vI_eq] at h; cases h
      have e1 := int_rel hx; have e2 := int_rel hy
      subst e1; subst e2
      refine ⟨.int k (a.fdiv (2 ^ min n k.bits)), ?_, ?_⟩
      · have : ¬ (Int.ofNat n < 0) := by simp only [Int.ofNat_eq_natCast]; omega
        show (Op.shift .shr k a k' (Int.ofNat n)).run P w = _
        unfold Op.shift
        rw [if_neg this]; rfl
      · rw [shift_n]
        have : (Int.ofNat (Nat.pow 2 (min n k.bits))) = (2 : Int) ^ min n k.bits := by
          show ((2 ^ min n k.bits : Nat) : Int) = _
          rw [Int.natCast_pow]; rfl
        rw [this]
        exact .int _ _
    · cases h
  | _ => cases hf

/-! ### numbers that are not known -/
theorem syEq_eq {a b : SyOp} (h : syEq a b = true) : a = b := by
  cases a with
  | cv k => cases b with
    | cv l => rw [kbeq_eq (a := k) (b := l) h]
    | bin o l c => cases h
  | bin o k c => cases b with
    | cv l => cases h
    | bin p l d =>
      replace h : iand (Nat.beq o.ctorIdx p.ctorIdx) (iand (kbeq k l) (ieq c d)) = true := h
      simp only [iand_eq, Bool.and_eq_true] at h
      have h1 : o = p := by
        have := Nat.eq_of_beq_eq_true h.1
        cases o <;> cases p <;> first | rfl | (exact absurd this (by decide))
      rw [h1, kbeq_eq h.2.1]
      have h3 := h.2.2
      rw [ieq_eq] at h3
      rw [eq_of_beq h3]
theorem syGet_some {o : SyOp} : ∀ {ops : List SyOp} {vs : List AV} {v : AV}, syGet o ops vs = some v → ∃ i : Nat, ops[i]? = some o ∧ vs[i]? = some v
  | [], vs, v, h => by cases h
  | p :: ops, [], v, h => by cases h
  | p :: ops, x :: vs, v, h => by
    replace h : cnd (syEq p o) (avId x) (syGet o ops vs) = some v := h
    rw [cnd_eq] at h
    split at h
    · rename_i he
      rw [avId_eq] at h
      cases h
      exact ⟨0, by rw [syEq_eq he]; rfl, rfl⟩
    · obtain ⟨i, h1, h2⟩ := syGet_some h
      exact ⟨i + 1, by simpa using h1, by simpa using h2⟩
theorem sy_rel {o : SyOp} {ops : List SyOp} {vs : List AV} {v : AV} {c : Value} (hx : VRel ι (.sy ops vs) c) (h : syGet o ops vs = some v) : ∃ k n y, c = .int k n ∧ VRel ι v y ∧ o.gives k n y := by
  cases hx with
  | sy _ _ k n ys hl hs =>
    obtain ⟨i, h1, h2⟩ := syGet_some h
    obtain ⟨y, h3, h4⟩ := hl.get h2
    exact ⟨k, n, y, rfl, h4, hs i o y h1 h3⟩
theorem val_rel {z : AV} {y c : Value} (h : z.val? = some y) (hz : VRel ι z c) : c = y := by
  cases hz <;> first | (cases h; rfl) | cases h
theorem lbeq_eq {α : Type} {f : α → α → Bool} (hf : ∀ x y, f x y = true → x = y) : ∀ {a b : List α}, lbeq f a b = true → a = b
  | [], [], _ => rfl
  | [], _ :: _, h => by cases h
  | _ :: _, [], h => by cases h
  | x :: a, y :: b, h => by
    replace h : iand (f x y) (lbeq f a b) = true := h
    rw [iand_eq, Bool.and_eq_true] at h
    rw [hf x y h.1, lbeq_eq hf h.2]
theorem avvEq_eq {a b : AtV} (h : avvEq a b = true) : a = b := by
  cases a with
  | «at» i => cases b with
    | «at» j => rw [Nat.eq_of_beq_eq_true (n := i) (m := j) h]
    | _ => cases h
  | bool x => cases b with
    | bool y => cases x <;> cases y <;> first | rfl | cases h
    | _ => cases h
  | int k n => cases b with
    | int l m =>
      replace h : iand (kbeq k l) (ieq n m) = true := h
      rw [iand_eq, Bool.and_eq_true, ieq_eq] at h
      rw [kbeq_eq h.1, eq_of_beq h.2]
    | _ => cases h
theorem ateEq_eq (a b : Nat × AtO × AtV) (h : ateEq a b = true) : a = b := by
  obtain ⟨i, o, v⟩ := a
  obtain ⟨j, p, u⟩ := b
  replace h : iand (Nat.beq i j) (iand (aoEq o p) (avvEq v u)) = true := h
  simp only [iand_eq, Bool.and_eq_true] at h
  rw [Nat.eq_of_beq_eq_true h.1, aoEq_eq h.2.1, avvEq_eq h.2.2]
/-! ### pieces of texts of bytes -/
theorem tksB_app (σ : Nat → IntKind × Int) (a b : List Tk) : tksB σ (a ++ b) = tksB σ a ++ tksB σ b := by simp [tksB]
theorem tksB_one (σ : Nat → IntKind × Int) : ∀ {r : List Tk}, allB Tk.one r = true → (tksB σ r).length = r.length
  | [], _ => rfl
  | t :: r, h => by
    replace h : iand t.one (allB Tk.one r) = true := h
    rw [iand_eq, Bool.and_eq_true] at h
    have ih := tksB_one σ h.2
    have e : tksB σ (t :: r) = t.bs σ ++ tksB σ r := by simp [tksB]
    rw [e, List.length_append, ih, List.length_cons]
    have : (t.bs σ).length = 1 := by
      have h1 := h.1
      cases t <;> first | rfl | cases h1
    omega
theorem putU_pos : ∀ (f u : Nat), 1 ≤ (putU f u).length
  | 0, u => by simp [putU]
  | f + 1, u => by unfold putU; split <;> simp
theorem tksB_cnt (σ : Nat → IntKind × Int) : ∀ (r : List Tk), cntP r ≤ (tksB σ r).length
  | [] => Nat.le_refl _
  | t :: r => by
    have ih := tksB_cnt σ r
    have e : tksB σ (t :: r) = t.bs σ ++ tksB σ r := by simp [tksB]
    rw [e, List.length_append]
    show cnd t.pos (Nat.succ (cntP r)) (cntP r) ≤ _
    cases t with
    | b n => show Nat.succ (cntP r) ≤ 1 + _; omega
    | a i tb => show Nat.succ (cntP r) ≤ 1 + _; omega
    | q i tb =>
      have := putU_pos 9 (if 0 ≤ (σ i).2 then (2 * (σ i).2).toNat else (-2 * (σ i).2 - 1).toNat)
      show Nat.succ (cntP r) ≤ (putN (σ i).2).length + _
      unfold putN
      omega
    | o i => show cntP r ≤ _ + _; omega
theorem putU_le : ∀ (n f u : Nat), u < 128 ^ (n + 1) → (putU f u).length ≤ n + 1
  | _, 0, u, _ => by simp [putU]
  | n, f + 1, u, h => by
    unfold putU
    split
    · simp
    · cases n with
      | zero => rename_i h1; simp at h; omega
      | succ n =>
        have := putU_le n f (u / 128) (by rw [Nat.pow_succ] at h; omega)
        simp only [List.length_cons]; omega
theorem putN_le {x : Int} (h1 : -2147483648 ≤ x) (h2 : x ≤ 2147483647) : (putN x).length ≤ 5 := by
  unfold putN
  refine putU_le 4 9 _ ?_
  have : (128 : Nat) ^ (4 + 1) = 34359738368 := by decide
  rw [this]
  split <;> omega
theorem tksHi_le {σ : Nat → IntKind × Int} : ∀ {r : List Tk} {m : Nat}, tksHi r = some m → (∀ t ∈ r, t.ok σ) → (tksB σ r).length ≤ m
  | [], m, h, _ => by cases h; exact Nat.le_refl _
  | t :: r, m, h, hk => by
    replace h : (opt (tksHi r) none fun n => opt t.hi none fun m => fNat (Nat.add n m) fun k => some k) = some m := h
    obtain ⟨n, h1, h⟩ := opt_eq_some h
    obtain ⟨c, h2, h⟩ := opt_eq_some h
    rw [fNat_eq] at h
    cases h
    have ih := tksHi_le h1 fun t ht => hk t (by simp [ht])
    have e : tksB σ (t :: r) = t.bs σ ++ tksB σ r := by simp [tksB]
    rw [e, List.length_append]
    have hc : (t.bs σ).length ≤ c := by
      cases t with
      | b n => cases h2; exact Nat.le_refl _
      | a i tb => cases h2; exact Nat.le_refl _
      | q i tb =>
        cases h2
        obtain ⟨_, _, k1, k2⟩ : (Tk.q i tb).ok σ := hk _ (by simp)
        exact putN_le k1 k2
      | o i => cases h2
    show _ ≤ n + c
    omega
theorem sub_tk {α : Type} {k n : Nat} {l r : List α} (h : sub k n l = some r) : k + n ≤ l.length ∧ l.take (k + n) = l.take k ++ r := by
  obtain ⟨h1, h2⟩ := sub_eq h
  refine ⟨h1, ?_⟩
  rw [h2, List.take_add]
theorem take_tk {α : Type} {k : Nat} {l r : List α} (h : take k l = some r) : k ≤ l.length ∧ r = l.take k := by
  rw [take_eq] at h
  split at h
  · rename_i h1; cases h; exact ⟨h1, rfl⟩
  · cases h
theorem tks_take {σ : Nat → IntKind × Int} {l : List Tk} (k : Nat) : (tksB σ (l.take k)).length ≤ (tksB σ l).length := by
  conv => rhs; rw [← List.take_append_drop k l, tksB_app, List.length_append]
  omega
theorem tks_take_le {σ : Nat → IntKind × Int} {l : List Tk} {k j : Nat} (h : k ≤ j) : (tksB σ (l.take k)).length ≤ (tksB σ (l.take j)).length := by
  have : l.take k = (l.take j).take k := by rw [List.take_take, Nat.min_eq_left h]
  rw [this]
  exact tks_take k
theorem tkEq_eq (a b : Tk) (h : tkEq a b = true) : a = b := by
  unfold tkEq at h
  split at h
  · rw [Nat.eq_of_beq_eq_true h]
  · simp only [iand_eq, Bool.and_eq_true] at h
    rw [Nat.eq_of_beq_eq_true h.1, lbeq_eq ateEq_eq h.2]
  · simp only [iand_eq, Bool.and_eq_true] at h
    rw [Nat.eq_of_beq_eq_true h.1, lbeq_eq ateEq_eq h.2]
  · rw [Nat.eq_of_beq_eq_true h]
  · cases h
theorem tksEq_eq {a b : List Tk} (h : lbeq tkEq a b = true) : a = b := lbeq_eq tkEq_eq h
theorem wr_small {n : Int} (h0 : 0 ≤ n) (h : n ≤ 1000000) : wr .i64 n = n := by
  obtain ⟨m, rfl⟩ := Int.eq_ofNat_of_zero_le h0
  show cnd (Nat.ble m 9223372036854775807) (Int.ofNat m) _ = _
  rw [Nat.ble_eq_true_of_le (by omega)]; rfl
theorem cndN_some {β : Type} {c : Bool} {x : Option β} {b : β} (h : cnd c x none = some b) : c = true ∧ x = some b := by
  cases c with
  | true => exact ⟨rfl, h⟩
  | false => cases h
theorem cntP_all : ∀ {l : List Tk}, allB Tk.pos l = true → cntP l = l.length
  | [], _ => rfl
  | t :: l, h => by
    replace h : iand t.pos (allB Tk.pos l) = true := h
    rw [iand_eq, Bool.and_eq_true] at h
    show cnd t.pos (Nat.succ (cntP l)) (cntP l) = _
    rw [h.1, cntP_all h.2]; rfl
theorem posB_run {op : BinOp} {f : AV → AV → Option AV} (hf : avBin op = some f) {l : List Tk} {k : Nat} {y v : AV} {cx cy : Value} (hx : VRel ι (.pos l k) cx) (hy : VRel ι y cy) (h : posB op l k y = some v) (t : Nat) (ox oy : Operand) :
    Gives P ι w (do eqGuard op t ox oy cx cy; binOp op t cx cy) v := by
  cases hx with
  | pos _ _ m hm hl hk =>
    have hm2 : m ≤ 1000000 := by rw [hm]; exact Nat.le_trans (tks_take k) hk.2
    unfold posB at h
    split at h
    · rename_i n
      cases hf
      cases int_rel hy
      obtain ⟨r, h1, h⟩ := opt_eq_some h
      obtain ⟨h2, h⟩ := cndN_some h
      rw [fNat_eq] at h
      cases h
      obtain ⟨h3, h4⟩ := sub_tk h1
      have h5 := tksB_one ι.s h2
      have h6 : (tksB ι.s (l.take (k + n))).length = m + n := by
        rw [h4, tksB_app, List.length_append, h5, ← hm]
        have := (sub_eq h1).2
        have : r.length = n := by rw [this, List.length_take, List.length_drop]; omega
        omega
      have h7 : m + n ≤ 1000000 := by rw [← h6]; exact Nat.le_trans (tks_take _) hk.2
      obtain ⟨c, g1, g2⟩ := bin_run (P := P) (ι := ι) (w := w) (op := .add) rfl (VRel.int .i64 m) (VRel.int .i64 (.ofNat n)) (show strApp (.int .i64 m) (.int .i64 (.ofNat n)) = some (.int .i64 (wr .i64 (iadd m (.ofNat n)))) by show cnd (kbeq .i64 .i64) (vI _ _) none = _; rw [vI_eq]; rfl) t ox oy
      have h8 : wr .i64 (iadd m (.ofNat n)) = ((m + n : Nat) : Int) := by
        rw [iadd_eq]
        have e : ((m : Int) + Int.ofNat n) = ((m + n : Nat) : Int) := rfl
        rw [e]; exact wr_small (by omega) (by omega)
      rw [h8] at g2
      cases int_rel g2
      exact ⟨_, g1, .pos l (k + n) (m + n) h6.symm h3 hk⟩
    · rename_i l' j
      cases hf
      replace h := cndN_some h
      obtain ⟨h0, h⟩ := h
      simp only [iand_eq, Bool.and_eq_true] at h0
      obtain rfl := tksEq_eq h0.2
      have h1 := Nat.le_of_ble_eq_true h0.1
      obtain ⟨r, h2, h⟩ := opt_eq_some h
      rw [fNat_eq] at h
      cases h
      cases hy with
      | pos _ _ m' hm' hl' _ =>
        obtain ⟨h3, h4⟩ := sub_tk h2
        have h5 : (tksB ι.s (l.take k)).length = m' + (tksB ι.s r).length := by
          rw [show k = j + Nat.sub k j by show k = j + (k - j); omega, h4, tksB_app, List.length_append, ← hm']
        have h6 := tksB_cnt ι.s r
        obtain ⟨c, g1, g2⟩ := bin_run (P := P) (ι := ι) (w := w) (op := .sub) rfl (VRel.int .i64 m) (VRel.int .i64 m') (show int2 (fun k a b => vI k (wr k (isub a b))) (.int .i64 m) (.int .i64 m') = some (.int .i64 (wr .i64 (isub m m'))) by show cnd (kbeq .i64 .i64) (vI _ _) none = _; rw [vI_eq]; rfl) t ox oy
        have h7 : wr .i64 (isub m m') = ((m - m' : Nat) : Int) := by
          rw [isub_eq]
          rw [show (m : Int) - (m' : Int) = ((m - m' : Nat) : Int) by omega]; exact wr_small (by omega) (by omega)
        rw [h7] at g2
        cases int_rel g2
        exact ⟨_, g1, .nge _ _ (by omega) (by omega)⟩
    · rename_i c
      cases hf
      cases int_rel hy
      obtain ⟨r, h1, h⟩ := opt_eq_some h
      obtain ⟨q, h2, h⟩ := opt_eq_some h
      obtain ⟨h3, h⟩ := cndN_some h
      cases h
      obtain ⟨h4, rfl⟩ := take_tk h1
      have h5 := tksHi_le (σ := ι.s) h2 fun t ht => hk.1 t (List.mem_of_mem_take ht)
      have h6 := Nat.le_of_ble_eq_true h3
      refine bin_run (P := P) (w := w) (op := .gtr) rfl (VRel.int .i64 m) (VRel.int .i64 (.ofNat c)) ?_ t ox oy
      show bI (inot (ile m (.ofNat c))) = some (.bool false)
      rw [bI_eq, inot_eq, ile_eq, decide_eq_true (show (m : Int) ≤ Int.ofNat c by have : Int.ofNat c = (c : Int) := rfl; omega)]; rfl
    · rename_i l' j
      cases hf
      replace h := cndN_some h
      obtain ⟨h0, h⟩ := h
      simp only [iand_eq, Bool.and_eq_true] at h0
      obtain rfl := tksEq_eq h0.2
      have h1 := Nat.le_of_ble_eq_true h0.1
      cases h
      cases hy with
      | pos _ _ m' hm' hl' _ =>
        refine bin_run (P := P) (w := w) (op := .gtr) rfl (VRel.int .i64 m) (VRel.int .i64 m') ?_ t ox oy
        show bI (inot (ile m m')) = some (.bool false)
        have h2 := tks_take_le (σ := ι.s) (l := l) h1
        rw [bI_eq, inot_eq, ile_eq, decide_eq_true (show (m : Int) ≤ m' by omega)]; rfl
    · cases hf
      cases h
      cases int_rel hy
      refine bin_run (P := P) (w := w) (op := .lss) rfl (VRel.int .i64 m) (VRel.int .i64 (.ofNat 0)) ?_ t ox oy
      show bI (inot (ile (.ofNat 0) m)) = some (.bool false)
      rw [bI_eq, inot_eq, ile_eq, decide_eq_true (show (Int.ofNat 0 : Int) ≤ m by have : Int.ofNat 0 = 0 := rfl; omega)]; rfl
    · rename_i c _
      cases hf
      cases int_rel hy
      obtain ⟨r, h1, h⟩ := opt_eq_some h
      obtain ⟨h3, h⟩ := cndN_some h
      cases h
      simp only [iand_eq, Bool.and_eq_true] at h3
      obtain ⟨h4, rfl⟩ := take_tk h1
      have h5 := Nat.le_of_ble_eq_true h3.1
      have h6 : c ≤ m := by
        have h7 := tksB_cnt ι.s (l.take c)
        have h8 := cntP_all h3.2
        have h9 := tks_take_le (σ := ι.s) (l := l) h5
        rw [List.length_take, Nat.min_eq_left h4] at h8
        omega
      refine bin_run (P := P) (w := w) (op := .lss) rfl (VRel.int .i64 m) (VRel.int .i64 (.ofNat c)) ?_ t ox oy
      show bI (inot (ile (.ofNat c) m)) = some (.bool false)
      rw [bI_eq, inot_eq, ile_eq, decide_eq_true (show (Int.ofNat c : Int) ≤ m by have : Int.ofNat c = (c : Int) := rfl; omega)]; rfl
    · rename_i l' j
      cases hf
      replace h := cndN_some h
      obtain ⟨h0, h⟩ := h
      simp only [iand_eq, Bool.and_eq_true] at h0
      obtain rfl := tksEq_eq h0.2
      obtain rfl := Nat.eq_of_beq_eq_true h0.1
      cases h
      cases hy with
      | pos _ _ m' hm' hl' _ =>
        refine bin_run (P := P) (w := w) (op := .lss) rfl (VRel.int .i64 m) (VRel.int .i64 m') ?_ t ox oy
        show bI (inot (ile m' m)) = some (.bool false)
        rw [bI_eq, inot_eq, ile_eq, decide_eq_true (show (m' : Int) ≤ m by omega)]; rfl
    · cases h
theorem ngeC_run {op : BinOp} {f : AV → AV → Option AV} (hf : avBin op = some f) {x v : AV} {m : Nat} {cx cy : Value} (hx : VRel ι x cx) (hy : VRel ι (.nge m) cy) (h : ngeC op x m = some v) (t : Nat) (ox oy : Operand) :
    Gives P ι w (do eqGuard op t ox oy cx cy; binOp op t cx cy) v := by
  cases hy with
  | nge _ n h1 h2 =>
    unfold ngeC at h
    split at h
    · rename_i c
      cases hf
      cases int_rel hx
      obtain ⟨h3, h⟩ := cndN_some h
      cases h
      rw [ile_eq] at h3
      have h4 : c ≤ (m : Int) := of_decide_eq_true h3
      refine bin_run (P := P) (w := w) (op := .gtr) rfl (VRel.int .i64 c) (VRel.int .i64 n) ?_ t ox oy
      show bI (inot (ile c n)) = some (.bool false)
      rw [bI_eq, inot_eq, ile_eq, decide_eq_true (show c ≤ n by omega)]; rfl
    · cases h
theorem syBin_run {op : BinOp} {f : AV → AV → Option AV} (hf : avBin op = some f) {x y v : AV} {cx cy : Value} (hx : VRel ι x cx) (hy : VRel ι y cy) (h : syBin op f x y = some v) (t : Nat) (ox oy : Operand) :
    Gives P ι w (do eqGuard op t ox oy cx cy; binOp op t cx cy) v := by
  unfold syBin at h
  cases hfx : f x y with
  | some u =>
    rw [hfx] at h
    replace h : some u = some v := h
    cases h
    exact bin_run hf hx hy hfx t ox oy
  | none =>
  rw [hfx] at h
  replace h : syS op x y = some v := h
  unfold syS at h
  split at h
  · rename_i ops vs
    unfold syB2 at h
    split at h
    · rename_i l c
      obtain ⟨k, n, u, rfl, h1, h2⟩ := sy_rel hx h
      obtain ⟨f', z, e1, e2, e3⟩ := h2
      rw [hf] at e1; cases e1
      obtain ⟨c0, g1, g2⟩ := bin_run (P := P) (w := w) hf (.int k n) hy e2 t ox oy
      have := val_rel e3 g2
      subst this
      exact ⟨_, g1, h1⟩
    · cases h
  · rename_i i tb
    obtain ⟨ho, rfl⟩ := at_rel hx
    unfold atB2 at h
    split at h
    · rename_i k c
      obtain ⟨r, h1, h2⟩ := atL_some ho h
      replace h1 : (opt (avBin op) none fun f => f (num ι.s i) (.int k c)) = some (AtV.av ι.s r) := h1
      rw [hf] at h1
      obtain ⟨c0, g1, g2⟩ := bin_run (P := P) (w := w) hf (num_rel i) hy h1 t ox oy
      exact ⟨c0, g1, at_lift ho h2 g2⟩
    · rename_i j tb'
      obtain ⟨_, rfl⟩ := at_rel hy
      obtain ⟨r, h1, h2⟩ := atL_some ho h
      replace h1 : (opt (avBin op) none fun f => f (num ι.s i) (num ι.s j)) = some (AtV.av ι.s r) := h1
      rw [hf] at h1
      obtain ⟨c0, g1, g2⟩ := bin_run (P := P) (w := w) hf (num_rel i) (num_rel j) h1 t ox oy
      exact ⟨c0, g1, at_lift ho h2 g2⟩
    · cases h
  · rename_i n
    unfold nleB at h
    split at h
    · rename_i c
      rw [cnd_eq] at h
      split at h
      case isFalse => cases h
      rename_i h1
      cases h
      cases int_rel hy
      cases hx with
      | nle _ m h0 hm =>
        cases hf
        refine bin_run (P := P) (w := w) (op := .gtr) rfl (.int .i64 m) (.int .i64 c) ?_ t ox oy
        show bI (inot (ile m c)) = some (.bool false)
        rw [ile_eq] at h1
        have h3 : (n : Int) ≤ c := of_decide_eq_true h1
        rw [bI_eq, inot_eq, ile_eq, decide_eq_true (show m ≤ c by omega)]; rfl
    · cases h
  · exact posB_run hf hx hy h t ox oy
  · exact ngeC_run hf hx hy h t ox oy
  · rename_i i tb _ _ _ _
    obtain ⟨ho, rfl⟩ := at_rel hy
    unfold atC2 at h
    split at h
    · rename_i k c _ _ _ _
      obtain ⟨r, h1, h2⟩ := atL_some ho h
      replace h1 : (opt (avBin op) none fun f => f (.int k c) (num ι.s i)) = some (AtV.av ι.s r) := h1
      rw [hf] at h1
      obtain ⟨c0, g1, g2⟩ := bin_run (P := P) (w := w) hf hx (num_rel i) h1 t ox oy
      exact ⟨c0, g1, at_lift ho h2 g2⟩
    · cases h
  · cases h
end Go.Ev
