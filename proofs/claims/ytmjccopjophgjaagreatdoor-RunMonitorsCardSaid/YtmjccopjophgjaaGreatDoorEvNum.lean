/- The evaluator's numbers. -/
import Derived.Test.YtmjccopjophgjaaGreatDoorEvPure
namespace Go.Ev
variable {P : Program} {E : Env} {ι : Inj} {w : World}

theorem inK_iff (k : IntKind) (a : Int) (h : inK k a = true) : (k.signed = true → -(2 ^ (k.bits - 1) : Int) ≤ a ∧ a < 2 ^ (k.bits - 1)) ∧ (k.signed = false → 0 ≤ a ∧ a < 2 ^ k.bits) := by
  cases a with
  | ofNat m =>
    have h' : m ≤ kmax k := Nat.le_of_ble_eq_true h
    cases k <;> simp [kmax] at h' <;> simp [IntKind.signed, IntKind.bits] <;> omega
  | negSucc m =>
    replace h : iand (ksgn k) (Nat.ble m (kmax k)) = true := h
    simp only [iand_eq, Bool.and_eq_true] at h
    obtain ⟨h1, h2⟩ := h
    have h' := Nat.le_of_ble_eq_true h2
    rw [Int.negSucc_eq]
    generalize hx : (-(↑m + 1) : Int) = x
    cases k <;> first | (exact absurd h1 (by decide)) | (simp [kmax] at h'; simp [IntKind.signed, IntKind.bits]; omega)
theorem toB_eq (k : IntKind) (a : Int) (h : inK k a = true) : (BitVec.ofInt k.bits a).toNat = toB k a := by
  rw [BitVec.toNat_ofInt]
  cases a with
  | ofNat m =>
    have h' : m ≤ kmax k := Nat.le_of_ble_eq_true h
    show ((Int.ofNat m) % ((2 ^ k.bits : Nat) : Int)).toNat = m
    cases k <;> simp [kmax] at h' <;> simp [IntKind.bits] <;> omega
  | negSucc m =>
    replace h : iand (ksgn k) (Nat.ble m (kmax k)) = true := h
    simp only [iand_eq, Bool.and_eq_true] at h
    obtain ⟨h1, h2⟩ := h
    have h' := Nat.le_of_ble_eq_true h2
    show ((Int.negSucc m) % ((2 ^ k.bits : Nat) : Int)).toNat = 2 ^ k.bits - 1 - m
    rw [Int.negSucc_eq]
    generalize hx : (-(↑m + 1) : Int) = x
    cases k <;> first | (exact absurd h1 (by decide)) | (simp [kmax] at h'; simp [IntKind.bits]; omega)
theorem ofB_eq (k : IntKind) (n : Nat) (h : n < 2 ^ k.bits) : k.wrap (n : Int) = ofB k n := by
  show _ = cnd (Nat.ble n (kmax k)) (Int.ofNat n) (Int.negSucc (2 ^ k.bits - 1 - n))
  rw [cnd_eq]
  split
  · rename_i h1
    have h' := Nat.le_of_ble_eq_true h1
    cases k <;> simp [kmax] at h' <;> simp [IntKind.wrap, IntKind.bits, IntKind.signed] <;> omega
  · rename_i h1
    have h' : ¬ n ≤ kmax k := fun h => h1 (Nat.ble_eq_true_of_le h)
    rw [Int.negSucc_eq]
    generalize hx : (-(↑(2 ^ k.bits - 1 - n) + 1) : Int) = x
    cases k <;> simp [kmax] at h' <;> simp [IntKind.bits] at h hx <;> simp [IntKind.wrap, IntKind.bits, IntKind.signed] <;> omega
theorem toB_lt (k : IntKind) (a : Int) (h : inK k a = true) : toB k a < 2 ^ k.bits := by
  rw [← toB_eq k a h]; exact BitVec.isLt _
theorem kind_beq (k : IntKind) : (k ≠ k) = False := by simp

theorem bit2_run {op : BinOp} {f : Nat → Nat → Nat} (hf : (op = .and ∧ f = Nat.land) ∨ (op = .or ∧ f = Nat.lor) ∨ (op = .xor ∧ f = Nat.xor)) {k : IntKind} {a b : Int} {v : AV}
    (h : bit2 f k a b = some v) : ∃ c, (Op.intBits op k a b).run P w = .ok (.int k c) w ∧ v = .int k c := by
  unfold bit2 at h
  rw [cnd_eq] at h
  split at h
  · rename_i hk
    simp only [iand_eq, Bool.and_eq_true] at hk
    obtain ⟨ha, hb⟩ := hk
    rw [vI_eq] at h
    cases h
    have e1 := toB_eq k a ha
    have e2 := toB_eq k b hb
    have l1 := toB_lt k a ha
    have l2 := toB_lt k b hb
    rcases hf with ⟨rfl, rfl⟩ | ⟨rfl, rfl⟩ | ⟨rfl, rfl⟩
    · refine ⟨_, rfl, ?_⟩
      have := ofB_eq k (toB k a &&& toB k b) (Nat.lt_of_le_of_lt Nat.and_le_left l1)
      rw [BitVec.toNat_and, e1, e2, this]; rfl
    · refine ⟨_, rfl, ?_⟩
      have := ofB_eq k (toB k a ||| toB k b) (Nat.or_lt_two_pow l1 l2)
      rw [BitVec.toNat_or, e1, e2, this]; rfl
    · refine ⟨_, rfl, ?_⟩
      have := ofB_eq k (toB k a ^^^ toB k b) (Nat.xor_lt_two_pow l1 l2)
      rw [BitVec.toNat_xor, e1, e2, this]; rfl
  · cases h

theorem avCom_run {k : IntKind} {a : Int} (hs : ksgn k = true) (h : inK k a = true) : (Op.unary .xor (.int k a)).run P w = .ok (.int k (-1 - a)) w := by
  have hs' : k.signed = true := by cases k <;> first | rfl | (exact absurd hs (by decide))
  show (Op.intBits .xor k (if k.signed then -1 else k.max) a).run P w = _
  rw [if_pos hs']
  show Result.ok (Value.int k (k.wrap (BitVec.ofInt k.bits (-1) ^^^ BitVec.ofInt k.bits a).toNat)) w = _
  have e : BitVec.ofInt k.bits (-1) = BitVec.allOnes k.bits := by
    apply BitVec.eq_of_toNat_eq
    rw [toB_eq k (-1) (by cases k <;> first | rfl | (exact absurd hs (by decide)))]
    simp [toB, BitVec.toNat_allOnes]
    rfl
  have e2 : (BitVec.allOnes k.bits ^^^ BitVec.ofInt k.bits a).toNat = 2 ^ k.bits - 1 - toB k a := by
    rw [BitVec.allOnes_xor, BitVec.toNat_not, toB_eq k a h]
  rw [e, e2, ofB_eq k _ (by have := toB_lt k a h; omega)]
  congr 2
  show cnd (Nat.ble (2 ^ k.bits - 1 - toB k a) (kmax k)) (Int.ofNat (2 ^ k.bits - 1 - toB k a)) (Int.negSucc (2 ^ k.bits - 1 - (2 ^ k.bits - 1 - toB k a))) = _
  have lt := toB_lt k a h
  cases a with
  | ofNat m =>
    have h' : m ≤ kmax k := Nat.le_of_ble_eq_true h
    show cnd (Nat.ble (2 ^ k.bits - 1 - m) (kmax k)) _ (Int.negSucc (2 ^ k.bits - 1 - (2 ^ k.bits - 1 - m))) = _
    have hb : Nat.ble (2 ^ k.bits - 1 - m) (kmax k) = false := by
      rw [Bool.eq_false_iff]
      intro hb
      have := Nat.le_of_ble_eq_true hb
      cases k <;> first | (exact absurd hs (by decide)) | (simp [kmax, IntKind.bits] at this h'; omega)
    rw [hb, cnd_false, Int.negSucc_eq]
    have lt' : m < 2 ^ k.bits := lt
    simp only [Int.ofNat_eq_natCast]
    omega
  | negSucc m =>
    replace h : iand (ksgn k) (Nat.ble m (kmax k)) = true := h
    simp only [iand_eq, Bool.and_eq_true] at h
    have h' := Nat.le_of_ble_eq_true h.2
    have hp : m < 2 ^ k.bits := by
      cases k <;> simp [kmax] at h' <;> simp [IntKind.bits] <;> omega
    show cnd (Nat.ble (2 ^ k.bits - 1 - (2 ^ k.bits - 1 - m)) (kmax k)) (Int.ofNat (2 ^ k.bits - 1 - (2 ^ k.bits - 1 - m))) _ = _
    have e3 : 2 ^ k.bits - 1 - (2 ^ k.bits - 1 - m) = m := by omega
    rw [e3, h.2, cnd_true, Int.negSucc_eq]
    simp only [Int.ofNat_eq_natCast]
    omega

theorem shift_n (n : Nat) (k : IntKind) : cnd (Nat.ble n k.bits) n k.bits = min n k.bits := by
  rw [cnd_eq]
  split
  · rename_i h; have := Nat.le_of_ble_eq_true h; omega
  · rename_i h; have : ¬ n ≤ k.bits := fun h' => h (Nat.ble_eq_true_of_le h'); omega

/-- the operations but '==' and '!=' -/
theorem bin_run {op : BinOp} {f : AV → AV → Option AV} (hf : avBin op = some f) {x y v : AV} {cx cy : Value} (hx : VRel ι x cx) (hy : VRel ι y cy) (h : f x y = some v) (t : Nat) (ox oy : Operand) :
    Gives P ι w (do eqGuard op t ox oy cx cy; binOp op t cx cy) v := by
  have hg : op ≠ .eql → op ≠ .neq → eqGuard op t ox oy cx cy = pure () := by
    intro h1 h2
    unfold eqGuard
    cases op <;> first | rfl | (exact absurd rfl h1) | (exact absurd rfl h2)
  have num : ∀ (g : IntKind → Int → Int → Option AV), f = int2 g → op ≠ .shl → op ≠ .shr → (op ≠ .eql) → op ≠ .neq →
      (∀ k a b, g k a b = some v → ∃ c, (binOp op t (.int k a) (.int k b)).run P w = .ok c w ∧ VRel ι v c) → Gives P ι w (do eqGuard op t ox oy cx cy; binOp op t cx cy) v := by
    intro g e n1 n2 n3 n4 hh
    subst e
    obtain ⟨k, a, b, rfl, rfl, h2⟩ := int2_inv h
    have e1 := int_rel hx; have e2 := int_rel hy
    subst e1; subst e2
    obtain ⟨c, h3, h4⟩ := hh k a b h2
    rw [hg n3 n4]
    exact ⟨c, by simpa using h3, h4⟩
  cases op with
  | add =>
    cases hf
    unfold strApp at h
    rw [hg (by simp) (by simp)]
    split at h
    · rename_i l m
      rw [cnd_eq] at h
      split at h
      · rename_i hb
        have hb' := Nat.le_of_ble_eq_true hb
        cases h
        obtain ⟨s, rfl, hs⟩ := str_rel hx
        obtain ⟨u, rfl, hu⟩ := str_rel hy
        have l1 := size_str hs; have l2 := size_str hu
        rw [len_eq, len_eq] at hb'
        refine ⟨.string (s ++ u), ?_, ?_⟩
        · have hc : ¬ ((s.size + u.size : Nat) : Int) > IntKind.i64.max := by
            show ¬ ((s.size + u.size : Nat) : Int) > 9223372036854775807
            rw [l1, l2]
            have : l.length + m.length ≤ 1000000 := hb'
            omega
          simp only [binOp, Op.stringOp, Sem.run_bind, Sem.run_pure, Result.andThen_ok]
          rw [if_neg hc]; rfl
        · rw [app_eq]
          refine .str _ _ ?_
          rw [← hs, ← hu, ByteArray.data_append, Array.toList_append, List.map_append]
      · cases h
    · rename_i k a k' b
      rw [cnd_eq] at h
      split at h
      · rename_i hk
        have := kbeq_eq hk; subst this
        rw [vI_eq] at h
        cases h
        have e1 := int_rel hx; have e2 := int_rel hy
        subst e1; subst e2
        rw [wr_eq, iadd_eq]
        exact ⟨_, by simp [binOp, Op.intArith], .int _ _⟩
      · cases h
    · cases h
  | sub =>
    cases hf
    refine num _ rfl (by simp) (by simp) (by simp) (by simp) fun k a b h2 => ?_
    rw [vI_eq] at h2; cases h2
    rw [wr_eq, isub_eq]
    exact ⟨_, by simp [binOp, Op.intArith], .int _ _⟩
  | mul =>
    cases hf
    refine num _ rfl (by simp) (by simp) (by simp) (by simp) fun k a b h2 => ?_
    rw [vI_eq] at h2; cases h2
    rw [wr_eq]
    exact ⟨.int k (k.wrap (a * b)), by simp [binOp, Op.intArith], .int _ _⟩
  | quo =>
    cases hf
    refine num _ rfl (by simp) (by simp) (by simp) (by simp) fun k a b h2 => ?_
    rw [cnd_eq] at h2
    split at h2
    · cases h2
    · rename_i hz
      rw [vI_eq] at h2; cases h2
      rw [ieq_eq] at hz
      have hz' : b ≠ 0 := by simpa using hz
      rw [wr_eq]
      exact ⟨_, by simp [binOp, Op.intDiv, hz'], .int _ _⟩
  | rem =>
    cases hf
    refine num _ rfl (by simp) (by simp) (by simp) (by simp) fun k a b h2 => ?_
    rw [cnd_eq] at h2
    split at h2
    · cases h2
    · rename_i hz
      rw [vI_eq] at h2; cases h2
      rw [ieq_eq] at hz
      have hz' : b ≠ 0 := by simpa using hz
      exact ⟨_, by simp [binOp, Op.intDiv, hz'], .int _ _⟩
  | lss =>
    cases hf
    refine num _ rfl (by simp) (by simp) (by simp) (by simp) fun k a b h2 => ?_
    rw [bI_eq] at h2; cases h2
    rw [inot_eq, ile_eq]
    refine ⟨.bool (decide (a < b)), by simp [binOp, Op.intCmp], ?_⟩
    rw [show (!decide (b ≤ a)) = decide (a < b) by rw [Bool.eq_iff_iff]; simp]
    exact .bool _
  | leq =>
    cases hf
    refine num _ rfl (by simp) (by simp) (by simp) (by simp) fun k a b h2 => ?_
    rw [bI_eq] at h2; cases h2
    rw [ile_eq]
    exact ⟨.bool (decide (a ≤ b)), by simp [binOp, Op.intCmp], .bool _⟩
  | gtr =>
    cases hf
    refine num _ rfl (by simp) (by simp) (by simp) (by simp) fun k a b h2 => ?_
    rw [bI_eq] at h2; cases h2
    rw [inot_eq, ile_eq]
    refine ⟨.bool (decide (a > b)), by simp [binOp, Op.intCmp], ?_⟩
    rw [show (!decide (a ≤ b)) = decide (a > b) by rw [Bool.eq_iff_iff]; simp]
    exact .bool _
  | geq =>
    cases hf
    refine num _ rfl (by simp) (by simp) (by simp) (by simp) fun k a b h2 => ?_
    rw [bI_eq] at h2; cases h2
    rw [ile_eq]
    exact ⟨.bool (decide (a ≥ b)), by simp [binOp, Op.intCmp], .bool _⟩
  | and =>
    cases hf
    refine num _ rfl (by simp) (by simp) (by simp) (by simp) fun k a b h2 => ?_
    obtain ⟨c, h3, rfl⟩ := bit2_run (P := P) (w := w) (op := .and) (.inl ⟨rfl, rfl⟩) h2
    exact ⟨_, by simpa [binOp] using h3, .int _ _⟩
  | or =>
    cases hf
    refine num _ rfl (by simp) (by simp) (by simp) (by simp) fun k a b h2 => ?_
    obtain ⟨c, h3, rfl⟩ := bit2_run (P := P) (w := w) (op := .or) (.inr (.inl ⟨rfl, rfl⟩)) h2
    exact ⟨_, by simpa [binOp] using h3, .int _ _⟩
  | xor =>
    cases hf
    refine num _ rfl (by simp) (by simp) (by simp) (by simp) fun k a b h2 => ?_
    obtain ⟨c, h3, rfl⟩ := bit2_run (P := P) (w := w) (op := .xor) (.inr (.inr ⟨rfl, rfl⟩)) h2
    exact ⟨_, by simpa [binOp] using h3, .int _ _⟩
  | shl =>
    cases hf
    rw [hg (by simp) (by simp)]
    unfold shl2 at h
    split at h
    · rename_i k a k' n
      rw [vI_eq] at h; cases h
      have e1 := int_rel hx; have e2 := int_rel hy
      subst e1; subst e2
      refine ⟨.int k (k.wrap (a * 2 ^ min n k.bits)), ?_, ?_⟩
      · have : ¬ (Int.ofNat n < 0) := by simp only [Int.ofNat_eq_natCast]; omega
        show (Op.shift .shl k a k' (Int.ofNat n)).run P w = _
        unfold Op.shift
        rw [if_neg this]; rfl
      · rw [shift_n]
        have : (Int.mul a (.ofNat (Nat.pow 2 (min n k.bits)))) = a * 2 ^ min n k.bits := by
          show a * ((2 ^ min n k.bits : Nat) : Int) = _
          rw [Int.natCast_pow]; rfl
        rw [this]
        exact .int _ _
    · cases h
  | shr =>
    cases hf
    rw [hg (by simp) (by simp)]
    unfold shr2 at h
    split at h
    · rename_i k a k' n
      rw [vI_eq] at h; cases h
      have e1 := int_rel hx; have e2 := int_rel hy
      subst e1; subst e2
      refine ⟨.int k (a.fdiv (2 ^ min n k.bits)), ?_, ?_⟩
      · have : ¬ (Int.ofNat n < 0) := by simp only [Int.ofNat_eq_natCast]; omega
        show (Op.shift .shr k a k' (Int.ofNat n)).run P w = _
        unfold Op.shift
        rw [if_neg this]; rfl
      · rw [shift_n]
        have : (Int.ofNat (Nat.pow 2 (min n k.bits))) = (2 : Int) ^ min n k.bits := by
          show ((2 ^ min n k.bits : Nat) : Int) = _
          rw [Int.natCast_pow]; rfl
        rw [this]
        exact .int _ _
    · cases h
  | _ => cases hf

/-! ### numbers that are not known -/
theorem syEq_eq {a b : SyOp} (h : syEq a b = true) : a = b := by
  cases a with
  | cv k => cases b with
    | cv l => rw [kbeq_eq (a := k) (b := l) h]
    | bin o l c => cases h
  | bin o k c => cases b with
    | cv l => cases h
    | bin p l d =>
      replace h : iand (Nat.beq o.ctorIdx p.ctorIdx) (iand (kbeq k l) (ieq c d)) = true := h
      simp only [iand_eq, Bool.and_eq_true] at h
      have h1 : o = p := by
        have := Nat.eq_of_beq_eq_true h.1
        cases o <;> cases p <;> first | rfl | (exact absurd this (by decide))
      rw [h1, kbeq_eq h.2.1]
      have h3 := h.2.2
      rw [ieq_eq] at h3
      rw [eq_of_beq h3]
theorem syGet_some {o : SyOp} : ∀ {ops : List SyOp} {vs : List AV} {v : AV}, syGet o ops vs = some v → ∃ i : Nat, ops[i]? = some o ∧ vs[i]? = some v
  | [], vs, v, h => by cases h
  | p :: ops, [], v, h => by cases h
  | p :: ops, x :: vs, v, h => by
    replace h : cnd (syEq p o) (avId x) (syGet o ops vs) = some v := h
    rw [cnd_eq] at h
    split at h
    · rename_i he
      rw [avId_eq] at h
      cases h
      exact ⟨0, by rw [syEq_eq he]; rfl, rfl⟩
    · obtain ⟨i, h1, h2⟩ := syGet_some h
      exact ⟨i + 1, by simpa using h1, by simpa using h2⟩
theorem sy_rel {o : SyOp} {ops : List SyOp} {vs : List AV} {v : AV} {c : Value} (hx : VRel ι (.sy ops vs) c) (h : syGet o ops vs = some v) : ∃ k n y, c = .int k n ∧ VRel ι v y ∧ o.gives k n y := by
  cases hx with
  | sy _ _ k n ys hl hs =>
    obtain ⟨i, h1, h2⟩ := syGet_some h
    obtain ⟨y, h3, h4⟩ := hl.get h2
    exact ⟨k, n, y, rfl, h4, hs i o y h1 h3⟩
theorem val_rel {z : AV} {y c : Value} (h : z.val? = some y) (hz : VRel ι z c) : c = y := by
  cases hz <;> first | (cases h; rfl) | cases h
theorem syBin_run {op : BinOp} {f : AV → AV → Option AV} (hf : avBin op = some f) {x y v : AV} {cx cy : Value} (hx : VRel ι x cx) (hy : VRel ι y cy) (h : syBin op f x y = some v) (t : Nat) (ox oy : Operand) :
    Gives P ι w (do eqGuard op t ox oy cx cy; binOp op t cx cy) v := by
  unfold syBin at h
  cases hfx : f x y with
  | some u =>
    rw [hfx] at h
    replace h : some u = some v := h
    cases h
    exact bin_run hf hx hy hfx t ox oy
  | none =>
  rw [hfx] at h
  replace h : syS op x y = some v := h
  unfold syS at h
  split at h
  · rename_i ops vs
    unfold syB2 at h
    split at h
    · rename_i l c
      obtain ⟨k, n, u, rfl, h1, h2⟩ := sy_rel hx h
      obtain ⟨f', z, e1, e2, e3⟩ := h2
      rw [hf] at e1; cases e1
      obtain ⟨c0, g1, g2⟩ := bin_run (P := P) (w := w) hf (.int k n) hy e2 t ox oy
      have := val_rel e3 g2
      subst this
      exact ⟨_, g1, h1⟩
    · cases h
  · rename_i i tb
    obtain ⟨ho, rfl⟩ := at_rel hx
    unfold atB2 at h
    split at h
    · rename_i k c
      obtain ⟨r, h1, h2⟩ := atL_some ho h
      replace h1 : (opt (avBin op) none fun f => f (num ι.s i) (.int k c)) = some (AtV.av ι.s r) := h1
      rw [hf] at h1
      obtain ⟨c0, g1, g2⟩ := bin_run (P := P) (w := w) hf (num_rel i) hy h1 t ox oy
      exact ⟨c0, g1, at_lift ho h2 g2⟩
    · rename_i j tb'
      obtain ⟨_, rfl⟩ := at_rel hy
      obtain ⟨r, h1, h2⟩ := atL_some ho h
      replace h1 : (opt (avBin op) none fun f => f (num ι.s i) (num ι.s j)) = some (AtV.av ι.s r) := h1
      rw [hf] at h1
      obtain ⟨c0, g1, g2⟩ := bin_run (P := P) (w := w) hf (num_rel i) (num_rel j) h1 t ox oy
      exact ⟨c0, g1, at_lift ho h2 g2⟩
    · cases h
  · rename_i n
    unfold nleB at h
    split at h
    · rename_i c
      rw [cnd_eq] at h
      split at h
      case isFalse => cases h
      rename_i h1
      cases h
      cases int_rel hy
      cases hx with
      | nle _ m h0 hm =>
        cases hf
        refine bin_run (P := P) (w := w) (op := .gtr) rfl (.int .i64 m) (.int .i64 c) ?_ t ox oy
        show bI (inot (ile m c)) = some (.bool false)
        rw [ile_eq] at h1
        have h3 : (n : Int) ≤ c := of_decide_eq_true h1
        rw [bI_eq, inot_eq, ile_eq, decide_eq_true (show m ≤ c by omega)]; rfl
    · cases h
  · rename_i i tb _ _ _
    obtain ⟨ho, rfl⟩ := at_rel hy
    unfold atC2 at h
    split at h
    · rename_i k c _ _ _
      obtain ⟨r, h1, h2⟩ := atL_some ho h
      replace h1 : (opt (avBin op) none fun f => f (.int k c) (num ι.s i)) = some (AtV.av ι.s r) := h1
      rw [hf] at h1
      obtain ⟨c0, g1, g2⟩ := bin_run (P := P) (w := w) hf hx (num_rel i) h1 t ox oy
      exact ⟨c0, g1, at_lift ho h2 g2⟩
    · cases h
  · cases h
end Go.Ev
