/- 'PutNum' and 'GetNum' by the bytes of a number that is not known; the words for both. -/
import Derived.Test.YtbehlkbeofoahaaGreatDoorEvVl
namespace Go.Ev
set_option maxRecDepth 100000
set_option linter.unusedVariables false
open Go.Proofs Go.Proofs.YtbehlkbeofoahaaGreatDoor Go.RowKit
variable {σ : Nat → IntKind × Int}
theorem nw64 {n : Nat} (h : n < 18446744073709551616) : wr .u64 (.ofNat n) = .ofNat n := by
  show cnd (Nat.ble n 18446744073709551615) (Int.ofNat n) _ = _
  rw [Nat.ble_eq_true_of_le (by omega)]; rfl
theorem nwi64 {n : Nat} (h : n < 9223372036854775808) : wr .i64 (.ofNat n) = .ofNat n := by
  show cnd (Nat.ble n 9223372036854775807) (Int.ofNat n) _ = _
  rw [Nat.ble_eq_true_of_le (by omega)]; rfl
theorem nw8 (n : Nat) : wr .u8 (.ofNat n) = .ofNat (n % 256) := by
  rw [wr_eq]
  simp only [IntKind.wrap, IntKind.bits, IntKind.signed]
  simp
theorem nw8s {n : Nat} (h : n < 256) : wr .u8 (.ofNat n) = .ofNat n := by rw [nw8, Nat.mod_eq_of_lt h]
theorem bit2n {f : Nat → Nat → Nat} {k : IntKind} {a b : Nat} (ha : a ≤ kmax k) (hb : b ≤ kmax k) (hf : f a b ≤ kmax k) : bit2 f k (.ofNat a) (.ofNat b) = some (.int k (.ofNat (f a b))) := by
  show cnd (iand (Nat.ble a (kmax k)) (Nat.ble b (kmax k))) (vI k (cnd (Nat.ble (f a b) (kmax k)) (Int.ofNat (f a b)) _)) none = _
  rw [Nat.ble_eq_true_of_le ha, Nat.ble_eq_true_of_le hb, Nat.ble_eq_true_of_le hf, vI_eq]; rfl
theorem or128v : ∀ m, m < 256 → Nat.lor m 128 = m % 128 + 128 := by decide +kernel
theorem and127v : ∀ m, m < 256 → Nat.land m 127 = m % 128 := by decide +kernel
theorem e_or {n : Nat} (h : n < 256) : int2 (bit2 Nat.lor) (.int .u8 (.ofNat n)) (.int .u8 128) = some (.int .u8 (.ofNat (n % 128 + 128))) := by
  rw [← or128v n h]
  show bit2 Nat.lor .u8 (.ofNat n) (.ofNat 128) = _
  exact bit2n (show n ≤ 255 by omega) (show 128 ≤ 255 by omega) (by rw [or128v n h]; show _ ≤ 255; omega)
theorem e_and {n : Nat} (h : n < 256) : int2 (bit2 Nat.land) (.int .u8 (.ofNat n)) (.int .u8 127) = some (.int .u8 (.ofNat (n % 128))) := by
  rw [← and127v n h]
  show bit2 Nat.land .u8 (.ofNat n) (.ofNat 127) = _
  exact bit2n (show n ≤ 255 by omega) (show 127 ≤ 255 by omega) (by rw [and127v n h]; show _ ≤ 255; omega)
theorem e_and1 {n : Nat} (h : n < 4294967296) : int2 (bit2 Nat.land) (.int .u64 (.ofNat n)) (.int .u64 1) = some (.int .u64 (.ofNat (n % 2))) := by
  have e : Nat.land n 1 = n % 2 := Nat.and_two_pow_sub_one_eq_mod n 1
  rw [← e]
  show bit2 Nat.land .u64 (.ofNat n) (.ofNat 1) = _
  exact bit2n (show n ≤ 18446744073709551615 by omega) (show 1 ≤ 18446744073709551615 by omega) (by rw [e]; show _ ≤ 18446744073709551615; omega)
theorem e_or0 {n : Nat} (h : n < 18446744073709551616) {m : Nat} (hm : n = m) : int2 (bit2 Nat.lor) (.int .u64 0) (.int .u64 (.ofNat n)) = some (.int .u64 (.ofNat m)) := by
  subst hm
  have e : Nat.lor 0 n = n := Nat.zero_or n
  conv => rhs; rw [← e]
  show bit2 Nat.lor .u64 (.ofNat 0) (.ofNat n) = _
  exact bit2n (show 0 ≤ 18446744073709551615 by omega) (show n ≤ 18446744073709551615 by omega) (by rw [e]; show _ ≤ 18446744073709551615; omega)
theorem e_ora (s : Nat) {a b m : Nat} (ha : a < 2 ^ s) (hm : a + 2 ^ s * b = m) (h : m < 18446744073709551616) : int2 (bit2 Nat.lor) (.int .u64 (.ofNat a)) (.int .u64 (.ofNat (2 ^ s * b))) = some (.int .u64 (.ofNat m)) := by
  have e : Nat.lor a (2 ^ s * b) = m := by
    have := Nat.two_pow_add_eq_or_of_lt ha b
    rw [← hm, Nat.add_comm, this]
    exact Nat.or_comm _ _
  rw [← e]
  show bit2 Nat.lor .u64 (.ofNat a) (.ofNat (2 ^ s * b)) = _
  exact bit2n (show a ≤ 18446744073709551615 by omega) (show 2 ^ s * b ≤ 18446744073709551615 by omega) (by rw [e]; show _ ≤ 18446744073709551615; omega)
theorem e_shl {n s m : Nat} (hs : s ≤ 64) (hm : n * 2 ^ s = m) (h : m < 18446744073709551616) : shl2 (.int .u64 (.ofNat n)) (.int .i64 (.ofNat s)) = some (.int .u64 (.ofNat m)) := by
  show vI .u64 (IntKind.u64.wrap (Int.mul (.ofNat n) (.ofNat (Nat.pow 2 (cnd (Nat.ble s 64) s 64))))) = _
  rw [Nat.ble_eq_true_of_le hs, vI_eq]
  have e : Int.mul (.ofNat n) (.ofNat (Nat.pow 2 (cnd true s 64))) = .ofNat m := by rw [← hm]; rfl
  rw [e, ← wr_eq, nw64 h]
theorem e_shr {n s : Nat} (hs : s ≤ 64) : shr2 (.int .u64 (.ofNat n)) (.int .u64 (.ofNat s)) = some (.int .u64 (.ofNat (n / 2 ^ s))) := by
  show vI .u64 (Int.fdiv (.ofNat n) (.ofNat (Nat.pow 2 (cnd (Nat.ble s 64) s 64)))) = _
  rw [Nat.ble_eq_true_of_le hs, vI_eq]
  show some (AV.int .u64 (Int.fdiv (n : Int) ((2 ^ s : Nat) : Int))) = _
  rw [Int.fdiv_eq_ediv_of_nonneg _ (Int.natCast_nonneg _)]; rfl
theorem e_mul {c x : Int} : int2 (fun k a b => vI k (wr k (Int.mul a b))) (.int .i64 c) (.int .i64 x) = some (.int .i64 (wr .i64 (c * x))) := by
  show cnd (kbeq .i64 .i64) (vI .i64 (wr .i64 (Int.mul c x))) none = _
  rw [vI_eq]; rfl
theorem e_geq {n c : Nat} {t : Bool} (h : decide (c ≤ n) = t) : decide ((Int.ofNat n : Int) ≥ Int.ofNat c) = t := by
  rw [← h, Bool.eq_iff_iff]; simp only [decide_eq_true_eq, Int.ofNat_eq_natCast]; omega
theorem e_lss {n c : Nat} {t : Bool} (h : decide (n < c) = t) : decide ((Int.ofNat n : Int) < Int.ofNat c) = t := by
  rw [← h, Bool.eq_iff_iff]; simp only [decide_eq_true_eq, Int.ofNat_eq_natCast]; omega
theorem e_beq {n c : Nat} {t : Bool} (h : decide (n = c) = t) : ((Int.ofNat n : Int) == Int.ofNat c) = t := by
  rw [← h, Bool.eq_iff_iff]; simp only [beq_iff_eq, decide_eq_true_eq, Int.ofNat_eq_natCast]; omega

noncomputable def sgG (x : Int) (u : Nat) (p q : Int) : Nat → IntKind × Int := sg [(.i64, x), (.i32, x), (.i64, 2 * x), (.i64, -2 * x), (.i64, -2 * x - 1), (.u64, wr .u64 (2 * x)), (.u64, .ofNat (u)), (.u64, .ofNat (u / 128)), (.u64, .ofNat (u / 16384)), (.u64, .ofNat (u / 2097152)), (.u64, .ofNat (u / 268435456)), (.u8, .ofNat (u % 256)), (.u8, .ofNat (u / 128 % 256)), (.u8, .ofNat (u / 16384 % 256)), (.u8, .ofNat (u / 2097152 % 256)), (.u8, .ofNat (u / 268435456 % 256)), (.u8, .ofNat (u % 128 + 128)), (.u8, .ofNat (u / 128 % 128 + 128)), (.u8, .ofNat (u / 16384 % 128 + 128)), (.u8, .ofNat (u / 2097152 % 128 + 128)), (.u8, .ofNat (u % 128)), (.u8, .ofNat (u / 128 % 128)), (.u8, .ofNat (u / 16384 % 128)), (.u8, .ofNat (u / 2097152 % 128)), (.u8, .ofNat (u / 268435456 % 128)), (.u64, .ofNat (u % 128)), (.u64, .ofNat (u / 128 % 128)), (.u64, .ofNat (u / 16384 % 128)), (.u64, .ofNat (u / 2097152 % 128)), (.u64, .ofNat (u / 268435456 % 128)), (.u64, .ofNat (u % 128 * 1)), (.u64, .ofNat (u / 128 % 128 * 128)), (.u64, .ofNat (u / 16384 % 128 * 16384)), (.u64, .ofNat (u / 2097152 % 128 * 2097152)), (.u64, .ofNat (u / 268435456 % 128 * 268435456)), (.u64, .ofNat (u % 128)), (.u64, .ofNat (u % 16384)), (.u64, .ofNat (u % 2097152)), (.u64, .ofNat (u % 268435456)), (.u64, .ofNat (u % 34359738368)), (.u64, .ofNat (u / 2)), (.i64, .ofNat (u / 2)), (.u64, .ofNat (u % 2)), (.i64, -(.ofNat (u / 2))), (.i64, p), (.i64, q)]
noncomputable def tkIs (i : Nat) (t : Tk) : Bool :=
  match t with
  | .a j _ => Nat.beq i j
  | _ => false
noncomputable def avTk (is : List Nat) (v : AV) : Bool :=
  match v with
  | .stk l => List.rec (motive := fun _ => List Tk → Bool) (fun l => List.rec (motive := fun _ => Bool) true (fun _ _ _ => false) l) (fun i _ ih l => List.rec (motive := fun _ => Bool) false (fun t r _ => iand (tkIs i t) (ih r)) l) is l
  | _ => false
noncomputable def isTk (is : List Nat) (r : CR) : Bool := CR.rec (motive := fun _ => Bool) (fun v _ => avTk is v) (fun _ _ => false) false r
theorem tks_is {is : List Nat} : ∀ {l : List Tk}, (List.rec (motive := fun _ => List Tk → Bool) (fun l => List.rec (motive := fun _ => Bool) true (fun _ _ _ => false) l) (fun i _ ih l => List.rec (motive := fun _ => Bool) false (fun t r _ => iand (tkIs i t) (ih r)) l) is l : Bool) = true →
    tksB σ l = is.map fun i => (σ i).2.toNat := by
  induction is with
  | nil =>
    intro l h
    cases l with
    | nil => rfl
    | cons t l => cases h
  | cons i is ih =>
    intro l h
    cases l with
    | nil => cases h
    | cons t l =>
      replace h : iand (tkIs i t) _ = true := h
      rw [iand_eq, Bool.and_eq_true] at h
      have e : tksB σ (t :: l) = t.bs σ ++ tksB σ l := by simp [tksB]
      rw [e, ih h.2]
      have h1 := h.1
      unfold tkIs at h1
      split at h1
      · rename_i j tb
        rw [Nat.eq_of_beq_eq_true h1]; rfl
      · cases h1
theorem isTk_inv {is : List Nat} {r : CR} (h : isTk is r = true) : ∃ l H, r = .ret (.stk l) H ∧ ∀ σ : Nat → IntKind × Int, tksB σ l = is.map fun i => (σ i).2.toNat := by
  cases r with
  | no => cases h
  | pan v H => cases h
  | ret v H =>
    replace h : avTk is v = true := h
    unfold avTk at h
    split at h
    · exact ⟨_, H, rfl, fun σ => tks_is h⟩
    · cases h
def PutB (W : World) (x : Int) (bs : List Nat) : Prop := Calls Tryz.prog 40 #[.int .i64 x] W fun e W' => (∃ s : ByteArray, e = .returned (.string s) ∧ s.data.toList.map (·.toNat) = bs) ∧ Below W.heap.size W W'
theorem put_of {nl n : Nat} {is : List Nat} {tb : List (Nat × AtO × AtV)} (h : isTk is (evC envL nl n 40 [.at 0 tb] H0) = true) {W : World} (hW : AsciiOk W) {x : Int} (hs : σ 0 = (.i64, x)) (ho : AtOk σ tb) : Entered Tryz.prog 40 ∧ PutB W x (is.map fun i => (σ i).2.toNat) := by
  obtain ⟨l, H', hr, hv⟩ := isTk_inv h
  obtain ⟨h1, hc⟩ := envL_call (base := W.heap.size) (w0 := W) nl n 40 [.at 0 tb] H0 _ rfl (by rw [hr]; intro e; cases e) (injS σ) W [.int .i64 x] (start envL_gl hW) (.cons _ _ _ _ (.at 0 tb .i64 x ho hs) .nil)
  refine ⟨h1, Calls.mono hc fun e W' he => ?_⟩
  rw [hr] at he
  cases e with
  | returned c =>
    obtain ⟨v', H2, ι', e1, e2, e3, e4⟩ := he
    cases e1
    have hs' : ι'.s = σ := e4.le.s
    cases e2 with
    | stk _ s h1 h2 =>
      rw [hv, hs'] at h1
      exact ⟨⟨s, rfl, h1⟩, e3.below⟩
  | panicked ch =>
    obtain ⟨v', H2, ι', c, e1, _⟩ := he
    cases e1
  | outgrown => exact he.elim
noncomputable def avG (l : List Tk) (q : Nat) (z : Bool) (v : AV) : Bool :=
  match v with
  | .tup [.at 0 _, .pos l' q', .int .i64 (.ofNat 0)] => iand (inot z) (iand (Nat.beq q q') (lbeq tkEq l l'))
  | .tup [.int .i64 (.ofNat 0), .pos l' q', .int .i64 (.ofNat 0)] => iand z (iand (Nat.beq q q') (lbeq tkEq l l'))
  | _ => false
noncomputable def isG (l : List Tk) (q : Nat) (z : Bool) (r : CR) : Bool := CR.rec (motive := fun _ => Bool) (fun v _ => avG l q z v) (fun _ _ => false) false r
def GetB (W : World) (s : ByteArray) (a : Nat) (x : Int) (b : Nat) : Prop := Calls Tryz.prog 125 #[.string s, .int .i64 a] W fun e W' => e = .returned (.tuple #[.int .i64 x, .int .i64 b, .int .i64 0]) ∧ Below W.heap.size W W'
theorem get_of {nl n q : Nat} {z : Bool} {l : List Tk} (h : isG l q z (evC envL nl n 125 [.stk l, .pos l 1] H0) = true) {W : World} (hW : AsciiOk W) {x : Int} (hs : cnd z (.i64, 0) (σ 0) = (.i64, x)) {s : ByteArray} (hl : s.data.toList.map (·.toNat) = tksB σ l) (hk : TksOk σ l) (h1 : 1 ≤ l.length) :
    Entered Tryz.prog 125 ∧ GetB W s (tksB σ (l.take 1)).length x (tksB σ (l.take q)).length := by
  generalize hr : evC envL nl n 125 [.stk l, .pos l 1] H0 = r at h
  have hne : r ≠ .no := by intro e; subst e; cases h
  obtain ⟨k1, hc⟩ := envL_call (base := W.heap.size) (w0 := W) nl n 125 [.stk l, .pos l 1] H0 r hr hne (injS σ) W [.string s, .int .i64 (tksB σ (l.take 1)).length] (start envL_gl hW) (.cons _ _ _ _ (.stk l s hl hk) (.cons _ _ _ _ (.pos l 1 _ rfl h1 hk) .nil))
  refine ⟨k1, Calls.mono hc fun e W' he => ?_⟩
  cases r with
  | no => cases h
  | pan v H => cases h
  | ret v H =>
    replace h : avG l q z v = true := h
    cases e with
    | returned c =>
      obtain ⟨v', H2, ι', e1, e2, e3, e4⟩ := he
      cases e1
      have hs' : ι'.s = σ := e4.le.s
      refine ⟨?_, e3.below⟩
      unfold avG at h
      split at h
      · rename_i tb l' q'
        simp only [iand_eq, Bool.and_eq_true, inot_eq, Bool.not_eq_true'] at h
        obtain ⟨rfl, h2, h3⟩ := h
        obtain rfl := tksEq_eq h3
        obtain rfl := Nat.eq_of_beq_eq_true h2
        replace hs : σ 0 = (.i64, x) := hs
        cases e2 with
        | tup _ L hL =>
          cases hL with
          | cons _ v1 _ L g1 hL =>
            cases hL with
            | cons _ v2 _ L g2 hL =>
              cases hL with
              | cons _ v3 _ L g3 hL =>
                cases hL
                obtain ⟨_, rfl⟩ := at_rel g1
                cases g3
                cases g2 with
                | pos _ _ m hm _ _ => rw [hs', hs, hm, hs']; rfl
      · rename_i l' q'
        simp only [iand_eq, Bool.and_eq_true] at h
        obtain ⟨rfl, h2, h3⟩ := h
        obtain rfl := tksEq_eq h3
        obtain rfl := Nat.eq_of_beq_eq_true h2
        obtain rfl : x = 0 := ((Prod.mk.inj hs).2).symm
        cases e2 with
        | tup _ L hL =>
          cases hL with
          | cons _ v1 _ L g1 hL =>
            cases hL with
            | cons _ v2 _ L g2 hL =>
              cases hL with
              | cons _ v3 _ L g3 hL =>
                cases hL
                cases g1
                cases g3
                cases g2 with
                | pos _ _ m hm _ _ => rw [hm, hs']; rfl
      · cases h
    | panicked ch =>
      obtain ⟨v', H2, ι', c, e1, _⟩ := he
      cases e1
    | outgrown => exact he.elim

theorem atOk_app {a b : List (Nat × AtO × AtV)} (ha : AtOk σ a) (hb : AtOk σ b) : AtOk σ (a ++ b) := fun i o v h => (List.mem_append.1 h).elim (ha i o v) (hb i o v)
noncomputable def tbS : List (Nat × AtO × AtV) := [(6, .cv .u8, .at 11), (11, .cv .u8, .at 11), (11, .bc .and .u8 127, .at 20), (20, .cv .u64, .at 25), (25, .bc .shl .i64 0, .at 30), (35, .bc .geq .u64 4294967296, .bool false), (11, .bc .or .u8 128, .at 16), (16, .cv .u8, .at 16), (6, .bc .shr .u64 7, .at 7), (16, .bc .and .u8 127, .at 20), (30, .cb .or .u64 0, .at 35), (7, .cv .u8, .at 12), (12, .cv .u8, .at 12), (12, .bc .and .u8 127, .at 21), (21, .cv .u64, .at 26), (26, .bc .shl .i64 7, .at 31), (36, .bc .geq .u64 4294967296, .bool false), (12, .bc .or .u8 128, .at 17), (17, .cv .u8, .at 17), (7, .bc .shr .u64 7, .at 8), (17, .bc .and .u8 127, .at 21), (35, .aa .or 31, .at 36), (8, .cv .u8, .at 13), (13, .cv .u8, .at 13), (13, .bc .and .u8 127, .at 22), (22, .cv .u64, .at 27), (27, .bc .shl .i64 14, .at 32), (37, .bc .geq .u64 4294967296, .bool false), (13, .bc .or .u8 128, .at 18), (18, .cv .u8, .at 18), (8, .bc .shr .u64 7, .at 9), (18, .bc .and .u8 127, .at 22), (36, .aa .or 32, .at 37), (9, .cv .u8, .at 14), (14, .cv .u8, .at 14), (14, .bc .and .u8 127, .at 23), (23, .cv .u64, .at 28), (28, .bc .shl .i64 21, .at 33), (38, .bc .geq .u64 4294967296, .bool false), (14, .bc .or .u8 128, .at 19), (19, .cv .u8, .at 19), (9, .bc .shr .u64 7, .at 10), (19, .bc .and .u8 127, .at 23), (37, .aa .or 33, .at 38), (10, .cv .u8, .at 15), (15, .cv .u8, .at 15), (15, .bc .and .u8 127, .at 24), (24, .cv .u64, .at 29), (29, .bc .shl .i64 28, .at 34), (39, .bc .geq .u64 4294967296, .bool false), (38, .aa .or 34, .at 39)]
theorem tbS_ok {x : Int} {u : Nat} {p q : Int} (h3 : u < 4294967296) : AtOk (sgG x u p q) tbS :=
  atOk_cons (den_cv rfl rfl (nw8 _)) <|
    atOk_cons (den_cv rfl rfl (nw8s (by omega))) <|
    atOk_cons (den_bc rfl rfl rfl (by rw [e_and (by omega)]; congr 3 <;> omega)) <|
    atOk_cons (den_cv rfl rfl (nw64 (by omega))) <|
    atOk_cons (den_bc rfl rfl rfl (e_shl (s := 0) (by omega) (by rw [show 2 ^ 0 = 1 from rfl]) (by omega))) <|
    atOk_cons (den_geq rfl (e_geq (c := 4294967296) (decide_eq_false (by omega)))) <|
    atOk_cons (den_bc rfl rfl rfl (by rw [e_or (by omega)]; congr 3 <;> omega)) <|
    atOk_cons (den_cv rfl rfl (nw8s (by omega))) <|
    atOk_cons (den_bc rfl rfl rfl ((e_shr (s := 7) (by omega)).trans (by congr 3 <;> omega))) <|
    atOk_cons (den_bc rfl rfl rfl (by rw [e_and (by omega)]; congr 3 <;> omega)) <|
    atOk_cons (den_cb rfl rfl rfl (e_or0 (by omega) (by omega))) <|
    atOk_cons (den_cv rfl rfl (nw8 _)) <|
    atOk_cons (den_cv rfl rfl (nw8s (by omega))) <|
    atOk_cons (den_bc rfl rfl rfl (by rw [e_and (by omega)]; congr 3 <;> omega)) <|
    atOk_cons (den_cv rfl rfl (nw64 (by omega))) <|
    atOk_cons (den_bc rfl rfl rfl (e_shl (s := 7) (by omega) (by rw [show 2 ^ 7 = 128 from rfl]) (by omega))) <|
    atOk_cons (den_geq rfl (e_geq (c := 4294967296) (decide_eq_false (by omega)))) <|
    atOk_cons (den_bc rfl rfl rfl (by rw [e_or (by omega)]; congr 3 <;> omega)) <|
    atOk_cons (den_cv rfl rfl (nw8s (by omega))) <|
    atOk_cons (den_bc rfl rfl rfl ((e_shr (s := 7) (by omega)).trans (by congr 3 <;> omega))) <|
    atOk_cons (den_bc rfl rfl rfl (by rw [e_and (by omega)]; congr 3 <;> omega)) <|
    atOk_cons (den_aa rfl rfl rfl rfl ((by rw [show u / 128 % 128 * 128 = 2 ^ 7 * (u / 128 % 128) by rw [show 2 ^ 7 = 128 from rfl]; omega]; exact e_ora 7 (by rw [show 2 ^ 7 = 128 from rfl]; omega) (by rw [show 2 ^ 7 = 128 from rfl]; omega) (by omega)))) <|
    atOk_cons (den_cv rfl rfl (nw8 _)) <|
    atOk_cons (den_cv rfl rfl (nw8s (by omega))) <|
    atOk_cons (den_bc rfl rfl rfl (by rw [e_and (by omega)]; congr 3 <;> omega)) <|
    atOk_cons (den_cv rfl rfl (nw64 (by omega))) <|
    atOk_cons (den_bc rfl rfl rfl (e_shl (s := 14) (by omega) (by rw [show 2 ^ 14 = 16384 from rfl]) (by omega))) <|
    atOk_cons (den_geq rfl (e_geq (c := 4294967296) (decide_eq_false (by omega)))) <|
    atOk_cons (den_bc rfl rfl rfl (by rw [e_or (by omega)]; congr 3 <;> omega)) <|
    atOk_cons (den_cv rfl rfl (nw8s (by omega))) <|
    atOk_cons (den_bc rfl rfl rfl ((e_shr (s := 7) (by omega)).trans (by congr 3 <;> omega))) <|
    atOk_cons (den_bc rfl rfl rfl (by rw [e_and (by omega)]; congr 3 <;> omega)) <|
    atOk_cons (den_aa rfl rfl rfl rfl ((by rw [show u / 16384 % 128 * 16384 = 2 ^ 14 * (u / 16384 % 128) by rw [show 2 ^ 14 = 16384 from rfl]; omega]; exact e_ora 14 (by rw [show 2 ^ 14 = 16384 from rfl]; omega) (by rw [show 2 ^ 14 = 16384 from rfl]; omega) (by omega)))) <|
    atOk_cons (den_cv rfl rfl (nw8 _)) <|
    atOk_cons (den_cv rfl rfl (nw8s (by omega))) <|
    atOk_cons (den_bc rfl rfl rfl (by rw [e_and (by omega)]; congr 3 <;> omega)) <|
    atOk_cons (den_cv rfl rfl (nw64 (by omega))) <|
    atOk_cons (den_bc rfl rfl rfl (e_shl (s := 21) (by omega) (by rw [show 2 ^ 21 = 2097152 from rfl]) (by omega))) <|
    atOk_cons (den_geq rfl (e_geq (c := 4294967296) (decide_eq_false (by omega)))) <|
    atOk_cons (den_bc rfl rfl rfl (by rw [e_or (by omega)]; congr 3 <;> omega)) <|
    atOk_cons (den_cv rfl rfl (nw8s (by omega))) <|
    atOk_cons (den_bc rfl rfl rfl ((e_shr (s := 7) (by omega)).trans (by congr 3 <;> omega))) <|
    atOk_cons (den_bc rfl rfl rfl (by rw [e_and (by omega)]; congr 3 <;> omega)) <|
    atOk_cons (den_aa rfl rfl rfl rfl ((by rw [show u / 2097152 % 128 * 2097152 = 2 ^ 21 * (u / 2097152 % 128) by rw [show 2 ^ 21 = 2097152 from rfl]; omega]; exact e_ora 21 (by rw [show 2 ^ 21 = 2097152 from rfl]; omega) (by rw [show 2 ^ 21 = 2097152 from rfl]; omega) (by omega)))) <|
    atOk_cons (den_cv rfl rfl (nw8 _)) <|
    atOk_cons (den_cv rfl rfl (nw8s (by omega))) <|
    atOk_cons (den_bc rfl rfl rfl (by rw [e_and (by omega)]; congr 3 <;> omega)) <|
    atOk_cons (den_cv rfl rfl (nw64 (by omega))) <|
    atOk_cons (den_bc rfl rfl rfl (e_shl (s := 28) (by omega) (by rw [show 2 ^ 28 = 268435456 from rfl]) (by omega))) <|
    atOk_cons (den_geq rfl (e_geq (c := 4294967296) (decide_eq_false (by omega)))) <|
    atOk_cons (den_aa rfl rfl rfl rfl ((by rw [show u / 268435456 % 128 * 268435456 = 2 ^ 28 * (u / 268435456 % 128) by rw [show 2 ^ 28 = 268435456 from rfl]; omega]; exact e_ora 28 (by rw [show 2 ^ 28 = 268435456 from rfl]; omega) (by rw [show 2 ^ 28 = 268435456 from rfl]; omega) (by omega)))) <| atOk_nil
noncomputable def tbZ0 : List (Nat × AtO × AtV) := [(0, .cv .i32, .at 1), (1, .cv .i64, .at 0), (0, .bc .lss .i64 0, .bool false), (0, .cb .mul .i64 2, .at 2), (2, .cv .u64, .at 6), (40, .cv .i64, .at 0), (42, .ec .u64 1, .bool false)]
theorem tbZ0_ok {x : Int} {u : Nat} {p q : Int} (hx : (u : Int) = 2 * x) (h3 : u < 4294967296) : AtOk (sgG x u p q) tbZ0 :=
  atOk_cons (den_cv rfl rfl (wr32_id (by omega) (by omega))) <|
    atOk_cons (den_cv rfl rfl (wr64_id (by omega) (by omega))) <|
    atOk_cons (den_lss rfl (decide_eq_false (by omega))) <|
    atOk_cons (den_cb rfl rfl rfl (by rw [e_mul, wr64_id (by omega) (by omega)])) <|
    atOk_cons (den_cv rfl rfl (by rw [show 2 * x = Int.ofNat u by simp only [Int.ofNat_eq_natCast]; omega]; exact nw64 (by omega))) <|
    atOk_cons (den_cv rfl rfl ((nwi64 (by omega)).trans (by simp only [Int.ofNat_eq_natCast]; omega))) <|
    atOk_cons (den_ec rfl (e_beq (c := 1) (decide_eq_false (by omega)))) <| atOk_nil
noncomputable def tbZ1 : List (Nat × AtO × AtV) := [(0, .cv .i32, .at 1), (1, .cv .i64, .at 0), (0, .bc .lss .i64 0, .bool true), (0, .cb .mul .i64 2, .at 2), (2, .cv .u64, .at 5), (0, .cb .mul .i64 (-2), .at 3), (3, .bc .sub .i64 1, .at 4), (4, .cv .u64, .at 6), (40, .cv .i64, .at 41), (41, .ng, .at 43), (43, .bc .sub .i64 1, .at 0), (42, .ec .u64 1, .bool true)]
theorem tbZ1_ok {x : Int} {u : Nat} {p q : Int} (hx : (u : Int) = -2 * x - 1) (h3 : u < 4294967296) : AtOk (sgG x u p q) tbZ1 :=
  atOk_cons (den_cv rfl rfl (wr32_id (by omega) (by omega))) <|
    atOk_cons (den_cv rfl rfl (wr64_id (by omega) (by omega))) <|
    atOk_cons (den_lss rfl (decide_eq_true (by omega))) <|
    atOk_cons (den_cb rfl rfl rfl (by rw [e_mul, wr64_id (by omega) (by omega)])) <|
    atOk_cons (den_cv rfl rfl rfl) <|
    atOk_cons (den_cb rfl rfl rfl (by rw [e_mul, wr64_id (by omega) (by omega)])) <|
    atOk_cons (den_sub rfl rfl (wr64_id (by omega) (by omega))) <|
    atOk_cons (den_cv rfl rfl (by rw [show -2 * x - 1 = Int.ofNat u by simp only [Int.ofNat_eq_natCast]; omega]; exact nw64 (by omega))) <|
    atOk_cons (den_cv rfl rfl (nwi64 (by omega))) <|
    atOk_cons (den_ng rfl rfl (by rw [ineg_eq, wr64_id (by simp only [Int.ofNat_eq_natCast]; omega) (by simp only [Int.ofNat_eq_natCast]; omega)])) <|
    atOk_cons (den_sub rfl rfl ((wr64_id (by simp only [Int.ofNat_eq_natCast]; omega) (by simp only [Int.ofNat_eq_natCast]; omega)).trans (by simp only [Int.ofNat_eq_natCast]; omega))) <|
    atOk_cons (den_ec rfl (e_beq (c := 1) (decide_eq_true (by omega)))) <| atOk_nil
noncomputable def tbK0 : List (Nat × AtO × AtV) := [(6, .bc .geq .u64 128, .bool false), (11, .ec .u8 0, .bool false), (11, .bc .geq .u8 128, .bool false), (11, .bc .lss .u8 128, .bool true), (35, .bc .shr .u64 1, .at 40), (35, .bc .and .u64 1, .at 42)]
theorem tbK0_ok {x : Int} {u : Nat} {p q : Int} (h1 : 1 ≤ u) (h2 : u < 128) (h3 : u < 4294967296) : AtOk (sgG x u p q) tbK0 :=
  atOk_cons (den_geq rfl (e_geq (c := 128) (decide_eq_false (by omega)))) <|
    atOk_cons (den_ec rfl (e_beq (c := 0) (decide_eq_false (by omega)))) <|
    atOk_cons (den_geq rfl (e_geq (c := 128) (decide_eq_false (by omega)))) <|
    atOk_cons (den_lss rfl (e_lss (c := 128) (decide_eq_true (by omega)))) <|
    atOk_cons (den_bc rfl rfl rfl ((e_shr (s := 1) (by omega)).trans (by congr 3 <;> omega))) <|
    atOk_cons (den_bc rfl rfl rfl ((e_and1 (by omega)).trans (by congr 3 <;> omega))) <| atOk_nil
noncomputable def tbK1 : List (Nat × AtO × AtV) := [(6, .bc .geq .u64 128, .bool true), (16, .ec .u8 0, .bool false), (16, .bc .geq .u8 128, .bool true), (16, .bc .lss .u8 128, .bool false), (7, .bc .geq .u64 128, .bool false), (12, .ec .u8 0, .bool false), (12, .bc .geq .u8 128, .bool false), (12, .bc .lss .u8 128, .bool true), (36, .bc .shr .u64 1, .at 40), (36, .bc .and .u64 1, .at 42)]
theorem tbK1_ok {x : Int} {u : Nat} {p q : Int} (h1 : 128 ≤ u) (h2 : u < 16384) (h3 : u < 4294967296) : AtOk (sgG x u p q) tbK1 :=
  atOk_cons (den_geq rfl (e_geq (c := 128) (decide_eq_true (by omega)))) <|
    atOk_cons (den_ec rfl (e_beq (c := 0) (decide_eq_false (by omega)))) <|
    atOk_cons (den_geq rfl (e_geq (c := 128) (decide_eq_true (by omega)))) <|
    atOk_cons (den_lss rfl (e_lss (c := 128) (decide_eq_false (by omega)))) <|
    atOk_cons (den_geq rfl (e_geq (c := 128) (decide_eq_false (by omega)))) <|
    atOk_cons (den_ec rfl (e_beq (c := 0) (decide_eq_false (by omega)))) <|
    atOk_cons (den_geq rfl (e_geq (c := 128) (decide_eq_false (by omega)))) <|
    atOk_cons (den_lss rfl (e_lss (c := 128) (decide_eq_true (by omega)))) <|
    atOk_cons (den_bc rfl rfl rfl ((e_shr (s := 1) (by omega)).trans (by congr 3 <;> omega))) <|
    atOk_cons (den_bc rfl rfl rfl ((e_and1 (by omega)).trans (by congr 3 <;> omega))) <| atOk_nil
noncomputable def tbK2 : List (Nat × AtO × AtV) := [(6, .bc .geq .u64 128, .bool true), (16, .ec .u8 0, .bool false), (16, .bc .geq .u8 128, .bool true), (16, .bc .lss .u8 128, .bool false), (7, .bc .geq .u64 128, .bool true), (17, .ec .u8 0, .bool false), (17, .bc .geq .u8 128, .bool true), (17, .bc .lss .u8 128, .bool false), (8, .bc .geq .u64 128, .bool false), (13, .ec .u8 0, .bool false), (13, .bc .geq .u8 128, .bool false), (13, .bc .lss .u8 128, .bool true), (37, .bc .shr .u64 1, .at 40), (37, .bc .and .u64 1, .at 42)]
theorem tbK2_ok {x : Int} {u : Nat} {p q : Int} (h1 : 16384 ≤ u) (h2 : u < 2097152) (h3 : u < 4294967296) : AtOk (sgG x u p q) tbK2 :=
  atOk_cons (den_geq rfl (e_geq (c := 128) (decide_eq_true (by omega)))) <|
    atOk_cons (den_ec rfl (e_beq (c := 0) (decide_eq_false (by omega)))) <|
    atOk_cons (den_geq rfl (e_geq (c := 128) (decide_eq_true (by omega)))) <|
    atOk_cons (den_lss rfl (e_lss (c := 128) (decide_eq_false (by omega)))) <|
    atOk_cons (den_geq rfl (e_geq (c := 128) (decide_eq_true (by omega)))) <|
    atOk_cons (den_ec rfl (e_beq (c := 0) (decide_eq_false (by omega)))) <|
    atOk_cons (den_geq rfl (e_geq (c := 128) (decide_eq_true (by omega)))) <|
    atOk_cons (den_lss rfl (e_lss (c := 128) (decide_eq_false (by omega)))) <|
    atOk_cons (den_geq rfl (e_geq (c := 128) (decide_eq_false (by omega)))) <|
    atOk_cons (den_ec rfl (e_beq (c := 0) (decide_eq_false (by omega)))) <|
    atOk_cons (den_geq rfl (e_geq (c := 128) (decide_eq_false (by omega)))) <|
    atOk_cons (den_lss rfl (e_lss (c := 128) (decide_eq_true (by omega)))) <|
    atOk_cons (den_bc rfl rfl rfl ((e_shr (s := 1) (by omega)).trans (by congr 3 <;> omega))) <|
    atOk_cons (den_bc rfl rfl rfl ((e_and1 (by omega)).trans (by congr 3 <;> omega))) <| atOk_nil
noncomputable def tbK3 : List (Nat × AtO × AtV) := [(6, .bc .geq .u64 128, .bool true), (16, .ec .u8 0, .bool false), (16, .bc .geq .u8 128, .bool true), (16, .bc .lss .u8 128, .bool false), (7, .bc .geq .u64 128, .bool true), (17, .ec .u8 0, .bool false), (17, .bc .geq .u8 128, .bool true), (17, .bc .lss .u8 128, .bool false), (8, .bc .geq .u64 128, .bool true), (18, .ec .u8 0, .bool false), (18, .bc .geq .u8 128, .bool true), (18, .bc .lss .u8 128, .bool false), (9, .bc .geq .u64 128, .bool false), (14, .ec .u8 0, .bool false), (14, .bc .geq .u8 128, .bool false), (14, .bc .lss .u8 128, .bool true), (38, .bc .shr .u64 1, .at 40), (38, .bc .and .u64 1, .at 42)]
theorem tbK3_ok {x : Int} {u : Nat} {p q : Int} (h1 : 2097152 ≤ u) (h2 : u < 268435456) (h3 : u < 4294967296) : AtOk (sgG x u p q) tbK3 :=
  atOk_cons (den_geq rfl (e_geq (c := 128) (decide_eq_true (by omega)))) <|
    atOk_cons (den_ec rfl (e_beq (c := 0) (decide_eq_false (by omega)))) <|
    atOk_cons (den_geq rfl (e_geq (c := 128) (decide_eq_true (by omega)))) <|
    atOk_cons (den_lss rfl (e_lss (c := 128) (decide_eq_false (by omega)))) <|
    atOk_cons (den_geq rfl (e_geq (c := 128) (decide_eq_true (by omega)))) <|
    atOk_cons (den_ec rfl (e_beq (c := 0) (decide_eq_false (by omega)))) <|
    atOk_cons (den_geq rfl (e_geq (c := 128) (decide_eq_true (by omega)))) <|
    atOk_cons (den_lss rfl (e_lss (c := 128) (decide_eq_false (by omega)))) <|
    atOk_cons (den_geq rfl (e_geq (c := 128) (decide_eq_true (by omega)))) <|
    atOk_cons (den_ec rfl (e_beq (c := 0) (decide_eq_false (by omega)))) <|
    atOk_cons (den_geq rfl (e_geq (c := 128) (decide_eq_true (by omega)))) <|
    atOk_cons (den_lss rfl (e_lss (c := 128) (decide_eq_false (by omega)))) <|
    atOk_cons (den_geq rfl (e_geq (c := 128) (decide_eq_false (by omega)))) <|
    atOk_cons (den_ec rfl (e_beq (c := 0) (decide_eq_false (by omega)))) <|
    atOk_cons (den_geq rfl (e_geq (c := 128) (decide_eq_false (by omega)))) <|
    atOk_cons (den_lss rfl (e_lss (c := 128) (decide_eq_true (by omega)))) <|
    atOk_cons (den_bc rfl rfl rfl ((e_shr (s := 1) (by omega)).trans (by congr 3 <;> omega))) <|
    atOk_cons (den_bc rfl rfl rfl ((e_and1 (by omega)).trans (by congr 3 <;> omega))) <| atOk_nil
noncomputable def tbK4 : List (Nat × AtO × AtV) := [(6, .bc .geq .u64 128, .bool true), (16, .ec .u8 0, .bool false), (16, .bc .geq .u8 128, .bool true), (16, .bc .lss .u8 128, .bool false), (7, .bc .geq .u64 128, .bool true), (17, .ec .u8 0, .bool false), (17, .bc .geq .u8 128, .bool true), (17, .bc .lss .u8 128, .bool false), (8, .bc .geq .u64 128, .bool true), (18, .ec .u8 0, .bool false), (18, .bc .geq .u8 128, .bool true), (18, .bc .lss .u8 128, .bool false), (9, .bc .geq .u64 128, .bool true), (19, .ec .u8 0, .bool false), (19, .bc .geq .u8 128, .bool true), (19, .bc .lss .u8 128, .bool false), (10, .bc .geq .u64 128, .bool false), (15, .ec .u8 0, .bool false), (15, .bc .geq .u8 128, .bool false), (15, .bc .lss .u8 128, .bool true), (39, .bc .shr .u64 1, .at 40), (39, .bc .and .u64 1, .at 42)]
theorem tbK4_ok {x : Int} {u : Nat} {p q : Int} (h1 : 268435456 ≤ u) (h2 : u < 34359738368) (h3 : u < 4294967296) : AtOk (sgG x u p q) tbK4 :=
  atOk_cons (den_geq rfl (e_geq (c := 128) (decide_eq_true (by omega)))) <|
    atOk_cons (den_ec rfl (e_beq (c := 0) (decide_eq_false (by omega)))) <|
    atOk_cons (den_geq rfl (e_geq (c := 128) (decide_eq_true (by omega)))) <|
    atOk_cons (den_lss rfl (e_lss (c := 128) (decide_eq_false (by omega)))) <|
    atOk_cons (den_geq rfl (e_geq (c := 128) (decide_eq_true (by omega)))) <|
    atOk_cons (den_ec rfl (e_beq (c := 0) (decide_eq_false (by omega)))) <|
    atOk_cons (den_geq rfl (e_geq (c := 128) (decide_eq_true (by omega)))) <|
    atOk_cons (den_lss rfl (e_lss (c := 128) (decide_eq_false (by omega)))) <|
    atOk_cons (den_geq rfl (e_geq (c := 128) (decide_eq_true (by omega)))) <|
    atOk_cons (den_ec rfl (e_beq (c := 0) (decide_eq_false (by omega)))) <|
    atOk_cons (den_geq rfl (e_geq (c := 128) (decide_eq_true (by omega)))) <|
    atOk_cons (den_lss rfl (e_lss (c := 128) (decide_eq_false (by omega)))) <|
    atOk_cons (den_geq rfl (e_geq (c := 128) (decide_eq_true (by omega)))) <|
    atOk_cons (den_ec rfl (e_beq (c := 0) (decide_eq_false (by omega)))) <|
    atOk_cons (den_geq rfl (e_geq (c := 128) (decide_eq_true (by omega)))) <|
    atOk_cons (den_lss rfl (e_lss (c := 128) (decide_eq_false (by omega)))) <|
    atOk_cons (den_geq rfl (e_geq (c := 128) (decide_eq_false (by omega)))) <|
    atOk_cons (den_ec rfl (e_beq (c := 0) (decide_eq_false (by omega)))) <|
    atOk_cons (den_geq rfl (e_geq (c := 128) (decide_eq_false (by omega)))) <|
    atOk_cons (den_lss rfl (e_lss (c := 128) (decide_eq_true (by omega)))) <|
    atOk_cons (den_bc rfl rfl rfl ((e_shr (s := 1) (by omega)).trans (by congr 3 <;> omega))) <|
    atOk_cons (den_bc rfl rfl rfl ((e_and1 (by omega)).trans (by congr 3 <;> omega))) <| atOk_nil
noncomputable def tbG00 : List (Nat × AtO × AtV) := tbK0 ++ (tbZ0 ++ tbS)
theorem tbG00_ok {x : Int} {u : Nat} {p q : Int} (hx : (u : Int) = 2 * x) (h1 : 1 ≤ u) (h2 : u < 128) (h3 : u < 4294967296) : AtOk (sgG x u p q) tbG00 := atOk_app (tbK0_ok h1 h2 h3) (atOk_app (tbZ0_ok hx h3) (tbS_ok h3))
theorem put_run00 : isTk [11] (evC envL 1000 100 40 [.at 0 tbG00] H0) = true := by kernel_rfl
noncomputable def lG00 : List Tk := [.o 44, .a 11 tbG00, .o 45]
theorem get_run00 : isG lG00 2 false (evC envL 1000 100 125 [.stk lG00, .pos lG00 1] H0) = true := by kernel_rfl
noncomputable def tbG01 : List (Nat × AtO × AtV) := tbK1 ++ (tbZ0 ++ tbS)
theorem tbG01_ok {x : Int} {u : Nat} {p q : Int} (hx : (u : Int) = 2 * x) (h1 : 128 ≤ u) (h2 : u < 16384) (h3 : u < 4294967296) : AtOk (sgG x u p q) tbG01 := atOk_app (tbK1_ok h1 h2 h3) (atOk_app (tbZ0_ok hx h3) (tbS_ok h3))
theorem put_run01 : isTk [16, 12] (evC envL 1000 100 40 [.at 0 tbG01] H0) = true := by kernel_rfl
noncomputable def lG01 : List Tk := [.o 44, .a 16 tbG01, .a 12 tbG01, .o 45]
theorem get_run01 : isG lG01 3 false (evC envL 1000 100 125 [.stk lG01, .pos lG01 1] H0) = true := by kernel_rfl
noncomputable def tbG02 : List (Nat × AtO × AtV) := tbK2 ++ (tbZ0 ++ tbS)
theorem tbG02_ok {x : Int} {u : Nat} {p q : Int} (hx : (u : Int) = 2 * x) (h1 : 16384 ≤ u) (h2 : u < 2097152) (h3 : u < 4294967296) : AtOk (sgG x u p q) tbG02 := atOk_app (tbK2_ok h1 h2 h3) (atOk_app (tbZ0_ok hx h3) (tbS_ok h3))
theorem put_run02 : isTk [16, 17, 13] (evC envL 1000 100 40 [.at 0 tbG02] H0) = true := by kernel_rfl
noncomputable def lG02 : List Tk := [.o 44, .a 16 tbG02, .a 17 tbG02, .a 13 tbG02, .o 45]
theorem get_run02 : isG lG02 4 false (evC envL 1000 100 125 [.stk lG02, .pos lG02 1] H0) = true := by kernel_rfl
noncomputable def tbG03 : List (Nat × AtO × AtV) := tbK3 ++ (tbZ0 ++ tbS)
theorem tbG03_ok {x : Int} {u : Nat} {p q : Int} (hx : (u : Int) = 2 * x) (h1 : 2097152 ≤ u) (h2 : u < 268435456) (h3 : u < 4294967296) : AtOk (sgG x u p q) tbG03 := atOk_app (tbK3_ok h1 h2 h3) (atOk_app (tbZ0_ok hx h3) (tbS_ok h3))
theorem put_run03 : isTk [16, 17, 18, 14] (evC envL 1000 100 40 [.at 0 tbG03] H0) = true := by kernel_rfl
noncomputable def lG03 : List Tk := [.o 44, .a 16 tbG03, .a 17 tbG03, .a 18 tbG03, .a 14 tbG03, .o 45]
theorem get_run03 : isG lG03 5 false (evC envL 1000 100 125 [.stk lG03, .pos lG03 1] H0) = true := by kernel_rfl
noncomputable def tbG04 : List (Nat × AtO × AtV) := tbK4 ++ (tbZ0 ++ tbS)
theorem tbG04_ok {x : Int} {u : Nat} {p q : Int} (hx : (u : Int) = 2 * x) (h1 : 268435456 ≤ u) (h2 : u < 34359738368) (h3 : u < 4294967296) : AtOk (sgG x u p q) tbG04 := atOk_app (tbK4_ok h1 h2 h3) (atOk_app (tbZ0_ok hx h3) (tbS_ok h3))
theorem put_run04 : isTk [16, 17, 18, 19, 15] (evC envL 1000 100 40 [.at 0 tbG04] H0) = true := by kernel_rfl
noncomputable def lG04 : List Tk := [.o 44, .a 16 tbG04, .a 17 tbG04, .a 18 tbG04, .a 19 tbG04, .a 15 tbG04, .o 45]
theorem get_run04 : isG lG04 6 false (evC envL 1000 100 125 [.stk lG04, .pos lG04 1] H0) = true := by kernel_rfl
noncomputable def tbG10 : List (Nat × AtO × AtV) := tbK0 ++ (tbZ1 ++ tbS)
theorem tbG10_ok {x : Int} {u : Nat} {p q : Int} (hx : (u : Int) = -2 * x - 1) (h1 : 1 ≤ u) (h2 : u < 128) (h3 : u < 4294967296) : AtOk (sgG x u p q) tbG10 := atOk_app (tbK0_ok h1 h2 h3) (atOk_app (tbZ1_ok hx h3) (tbS_ok h3))
theorem put_run10 : isTk [11] (evC envL 1000 100 40 [.at 0 tbG10] H0) = true := by kernel_rfl
noncomputable def lG10 : List Tk := [.o 44, .a 11 tbG10, .o 45]
theorem get_run10 : isG lG10 2 false (evC envL 1000 100 125 [.stk lG10, .pos lG10 1] H0) = true := by kernel_rfl
noncomputable def tbG11 : List (Nat × AtO × AtV) := tbK1 ++ (tbZ1 ++ tbS)
theorem tbG11_ok {x : Int} {u : Nat} {p q : Int} (hx : (u : Int) = -2 * x - 1) (h1 : 128 ≤ u) (h2 : u < 16384) (h3 : u < 4294967296) : AtOk (sgG x u p q) tbG11 := atOk_app (tbK1_ok h1 h2 h3) (atOk_app (tbZ1_ok hx h3) (tbS_ok h3))
theorem put_run11 : isTk [16, 12] (evC envL 1000 100 40 [.at 0 tbG11] H0) = true := by kernel_rfl
noncomputable def lG11 : List Tk := [.o 44, .a 16 tbG11, .a 12 tbG11, .o 45]
theorem get_run11 : isG lG11 3 false (evC envL 1000 100 125 [.stk lG11, .pos lG11 1] H0) = true := by kernel_rfl
noncomputable def tbG12 : List (Nat × AtO × AtV) := tbK2 ++ (tbZ1 ++ tbS)
theorem tbG12_ok {x : Int} {u : Nat} {p q : Int} (hx : (u : Int) = -2 * x - 1) (h1 : 16384 ≤ u) (h2 : u < 2097152) (h3 : u < 4294967296) : AtOk (sgG x u p q) tbG12 := atOk_app (tbK2_ok h1 h2 h3) (atOk_app (tbZ1_ok hx h3) (tbS_ok h3))
theorem put_run12 : isTk [16, 17, 13] (evC envL 1000 100 40 [.at 0 tbG12] H0) = true := by kernel_rfl
noncomputable def lG12 : List Tk := [.o 44, .a 16 tbG12, .a 17 tbG12, .a 13 tbG12, .o 45]
theorem get_run12 : isG lG12 4 false (evC envL 1000 100 125 [.stk lG12, .pos lG12 1] H0) = true := by kernel_rfl
noncomputable def tbG13 : List (Nat × AtO × AtV) := tbK3 ++ (tbZ1 ++ tbS)
theorem tbG13_ok {x : Int} {u : Nat} {p q : Int} (hx : (u : Int) = -2 * x - 1) (h1 : 2097152 ≤ u) (h2 : u < 268435456) (h3 : u < 4294967296) : AtOk (sgG x u p q) tbG13 := atOk_app (tbK3_ok h1 h2 h3) (atOk_app (tbZ1_ok hx h3) (tbS_ok h3))
theorem put_run13 : isTk [16, 17, 18, 14] (evC envL 1000 100 40 [.at 0 tbG13] H0) = true := by kernel_rfl
noncomputable def lG13 : List Tk := [.o 44, .a 16 tbG13, .a 17 tbG13, .a 18 tbG13, .a 14 tbG13, .o 45]
theorem get_run13 : isG lG13 5 false (evC envL 1000 100 125 [.stk lG13, .pos lG13 1] H0) = true := by kernel_rfl
noncomputable def tbG14 : List (Nat × AtO × AtV) := tbK4 ++ (tbZ1 ++ tbS)
theorem tbG14_ok {x : Int} {u : Nat} {p q : Int} (hx : (u : Int) = -2 * x - 1) (h1 : 268435456 ≤ u) (h2 : u < 34359738368) (h3 : u < 4294967296) : AtOk (sgG x u p q) tbG14 := atOk_app (tbK4_ok h1 h2 h3) (atOk_app (tbZ1_ok hx h3) (tbS_ok h3))
theorem put_run14 : isTk [16, 17, 18, 19, 15] (evC envL 1000 100 40 [.at 0 tbG14] H0) = true := by kernel_rfl
noncomputable def lG14 : List Tk := [.o 44, .a 16 tbG14, .a 17 tbG14, .a 18 tbG14, .a 19 tbG14, .a 15 tbG14, .o 45]
theorem get_run14 : isG lG14 6 false (evC envL 1000 100 125 [.stk lG14, .pos lG14 1] H0) = true := by kernel_rfl
noncomputable def lGz : List Tk := [.o 44, .b 0, .o 45]
theorem get_runz : isG lGz 2 true (evC envL 1000 100 125 [.stk lGz, .pos lGz 1] H0) = true := by kernel_rfl
theorem put_runz : (CR.rec (motive := fun _ => Bool) (fun v _ => match v with | .str [0] => true | _ => false) (fun _ _ => false) false (evC envL 1000 100 40 [.int .i64 0] H0)) = true := by kernel_rfl
theorem putz {W : World} (hW : AsciiOk W) : Entered Tryz.prog 40 ∧ PutB W 0 (putN 0) := by
  have h := put_runz
  generalize hr : evC envL 1000 100 40 [.int .i64 0] H0 = r at h
  cases r with
  | no => cases h
  | pan v H => cases h
  | ret v H =>
    obtain ⟨k1, hc⟩ := envL_call (base := W.heap.size) (w0 := W) 1000 100 40 [.int .i64 0] H0 _ hr (by intro e; cases e) (injS fun _ => (.i64, 0)) W [.int .i64 0] (start envL_gl hW) (.cons _ _ _ _ (.int _ _) .nil)
    refine ⟨k1, Calls.mono hc fun e W' he => ?_⟩
    dsimp only at h
    split at h
    · cases e with
      | returned c =>
        obtain ⟨v', H2, ι', e1, e2, e3, e4⟩ := he
        cases e1
        obtain ⟨s, rfl, hs⟩ := str_rel e2
        exact ⟨⟨s, rfl, hs⟩, e3.below⟩
      | panicked ch =>
        obtain ⟨v', H2, ι', c, e1, _⟩ := he
        cases e1
      | outgrown => exact he.elim
    · cases h
theorem tks_o (σ : Nat → IntKind × Int) (i : Nat) (l : List Tk) : tksB σ (.o i :: l) = decB (σ i).2.toNat (σ i).2.toNat ++ tksB σ l := by simp [tksB, Tk.bs]
theorem tks_a (σ : Nat → IntKind × Int) (i : Nat) (tb : List (Nat × AtO × AtV)) (l : List Tk) : tksB σ (.a i tb :: l) = (σ i).2.toNat :: tksB σ l := by simp [tksB, Tk.bs]
theorem tks_b (σ : Nat → IntKind × Int) (n : Nat) (l : List Tk) : tksB σ (.b n :: l) = n :: tksB σ l := by simp [tksB, Tk.bs]
theorem tks_n (σ : Nat → IntKind × Int) : tksB σ [] = [] := rfl
theorem enc_o (pre : List Nat) (h : ∀ b ∈ pre, b < 256) : decB ((encB pre : Int)).toNat ((encB pre : Int)).toNat = pre := by
  rw [Int.toNat_natCast]; exact dec_enc pre _ h (Nat.le_refl _)
theorem bytes_lt {s : ByteArray} {l : List Nat} (h : s.data.toList.map (·.toNat) = l) : ∀ b ∈ l, b < 256 := by
  intro b hb
  rw [← h] at hb
  obtain ⟨u, _, rfl⟩ := List.mem_map.1 hb
  exact u.toNat_lt
theorem get_gen {W : World} (hW : AsciiOk W) {mid : List Tk} {x : Int} (h0 : σ 0 = (.i64, x)) (h : isG (.o 44 :: (mid ++ [.o 45])) (mid.length + 1) false (evC envL 1000 100 125 [.stk (.o 44 :: (mid ++ [.o 45])), .pos (.o 44 :: (mid ++ [.o 45])) 1] H0) = true)
    {s : ByteArray} {pre post : List Nat} (hs : s.data.toList.map (·.toNat) = pre ++ (putN x ++ post)) (hsz : s.size ≤ 1000000) (e4 : (σ 44).2 = (encB pre : Int)) (e5 : (σ 45).2 = (encB post : Int)) (hm : tksB σ mid = putN x) (hk : ∀ t ∈ mid, t.ok σ) :
    Entered Tryz.prog 125 ∧ GetB W s pre.length x (pre.length + (putN x).length) := by
  have hb := bytes_lt hs
  have hpre : ∀ b ∈ pre, b < 256 := fun b h => hb b (by simp [h])
  have hpost : ∀ b ∈ post, b < 256 := fun b h => hb b (by simp [h])
  have e1 : tksB σ (.o 44 :: (mid ++ [.o 45])) = pre ++ (putN x ++ post) := by
    rw [tks_o, e4, enc_o pre hpre, tksB_app, hm, tks_o, e5, enc_o post hpost, tks_n, List.append_nil]
  have hk' : TksOk σ (.o 44 :: (mid ++ [.o 45])) := by
    refine ⟨fun t ht => ?_, ?_⟩
    · simp only [List.mem_cons, List.mem_append, List.not_mem_nil, or_false] at ht
      rcases ht with rfl | ht | rfl
      · trivial
      · exact hk t ht
      · trivial
    · rw [e1, ← hs, List.length_map, Array.length_toList]; exact hsz
  have := get_of h hW (σ := σ) (x := x) h0 (hs.trans e1.symm) hk' (by simp)
  have e2 : tksB σ ((Tk.o 44 :: (mid ++ [.o 45])).take 1) = pre := by
    show tksB _ [.o 44] = _
    rw [tks_o, tks_n, List.append_nil, e4, enc_o pre hpre]
  have e3 : (tksB σ ((Tk.o 44 :: (mid ++ [.o 45])).take (mid.length + 1))).length = pre.length + (putN x).length := by
    rw [List.take_succ_cons, List.take_left, tks_o, e4, enc_o pre hpre, hm, List.length_append]
  rw [e2, e3] at this
  exact this
theorem putN_neg {x : Int} {u : Nat} (hx : (u : Int) = -2 * x - 1) : putN x = putU 9 u := by
  unfold putN
  rw [if_neg (by omega)]
  congr 1
  omega
theorem putN_pos {x : Int} {u : Nat} (hx : (u : Int) = 2 * x) : putN x = putU 9 u := by
  unfold putN
  rw [if_pos (by omega)]
  congr 1
  omega
theorem putU_0 {u : Nat} (h1 : 0 ≤ u) (h2 : u < 128) : putU 9 u = [u] := by
  have g0 : ∀ f v, v = u → putU (f + 1) v = [u] := by
    intro f v e
    unfold putU
    rw [if_pos (by omega), e]
  rw [g0 8 _ rfl]
theorem putU_1 {u : Nat} (h1 : 128 ≤ u) (h2 : u < 16384) : putU 9 u = [u % 128 + 128, u / 128] := by
  have g0 : ∀ f v, v = u → putU (f + 1) v = (u % 128 + 128) :: putU f (u / 128) := by
    intro f v e
    subst e
    unfold putU
    rw [if_neg (by omega)]
    cases f <;> rfl
  have g1 : ∀ f v, v = u / 128 → putU (f + 1) v = [u / 128] := by
    intro f v e
    unfold putU
    rw [if_pos (by omega), e]
  rw [g0 8 _ rfl, g1 7 _ rfl]
theorem putU_2 {u : Nat} (h1 : 16384 ≤ u) (h2 : u < 2097152) : putU 9 u = [u % 128 + 128, u / 128 % 128 + 128, u / 16384] := by
  have g0 : ∀ f v, v = u → putU (f + 1) v = (u % 128 + 128) :: putU f (u / 128) := by
    intro f v e
    subst e
    unfold putU
    rw [if_neg (by omega)]
    cases f <;> rfl
  have g1 : ∀ f v, v = u / 128 → putU (f + 1) v = (u / 128 % 128 + 128) :: putU f (u / 16384) := by
    intro f v e
    subst e
    unfold putU
    rw [if_neg (by omega), show u / 128 / 128 = u / 16384 by omega]
    cases f <;> rfl
  have g2 : ∀ f v, v = u / 16384 → putU (f + 1) v = [u / 16384] := by
    intro f v e
    unfold putU
    rw [if_pos (by omega), e]
  rw [g0 8 _ rfl, g1 7 _ rfl, g2 6 _ rfl]
theorem putU_3 {u : Nat} (h1 : 2097152 ≤ u) (h2 : u < 268435456) : putU 9 u = [u % 128 + 128, u / 128 % 128 + 128, u / 16384 % 128 + 128, u / 2097152] := by
  have g0 : ∀ f v, v = u → putU (f + 1) v = (u % 128 + 128) :: putU f (u / 128) := by
    intro f v e
    subst e
    unfold putU
    rw [if_neg (by omega)]
    cases f <;> rfl
  have g1 : ∀ f v, v = u / 128 → putU (f + 1) v = (u / 128 % 128 + 128) :: putU f (u / 16384) := by
    intro f v e
    subst e
    unfold putU
    rw [if_neg (by omega), show u / 128 / 128 = u / 16384 by omega]
    cases f <;> rfl
  have g2 : ∀ f v, v = u / 16384 → putU (f + 1) v = (u / 16384 % 128 + 128) :: putU f (u / 2097152) := by
    intro f v e
    subst e
    unfold putU
    rw [if_neg (by omega), show u / 16384 / 128 = u / 2097152 by omega]
    cases f <;> rfl
  have g3 : ∀ f v, v = u / 2097152 → putU (f + 1) v = [u / 2097152] := by
    intro f v e
    unfold putU
    rw [if_pos (by omega), e]
  rw [g0 8 _ rfl, g1 7 _ rfl, g2 6 _ rfl, g3 5 _ rfl]
theorem putU_4 {u : Nat} (h1 : 268435456 ≤ u) (h2 : u < 34359738368) : putU 9 u = [u % 128 + 128, u / 128 % 128 + 128, u / 16384 % 128 + 128, u / 2097152 % 128 + 128, u / 268435456] := by
  have g0 : ∀ f v, v = u → putU (f + 1) v = (u % 128 + 128) :: putU f (u / 128) := by
    intro f v e
    subst e
    unfold putU
    rw [if_neg (by omega)]
    cases f <;> rfl
  have g1 : ∀ f v, v = u / 128 → putU (f + 1) v = (u / 128 % 128 + 128) :: putU f (u / 16384) := by
    intro f v e
    subst e
    unfold putU
    rw [if_neg (by omega), show u / 128 / 128 = u / 16384 by omega]
    cases f <;> rfl
  have g2 : ∀ f v, v = u / 16384 → putU (f + 1) v = (u / 16384 % 128 + 128) :: putU f (u / 2097152) := by
    intro f v e
    subst e
    unfold putU
    rw [if_neg (by omega), show u / 16384 / 128 = u / 2097152 by omega]
    cases f <;> rfl
  have g3 : ∀ f v, v = u / 2097152 → putU (f + 1) v = (u / 2097152 % 128 + 128) :: putU f (u / 268435456) := by
    intro f v e
    subst e
    unfold putU
    rw [if_neg (by omega), show u / 2097152 / 128 = u / 268435456 by omega]
    cases f <;> rfl
  have g4 : ∀ f v, v = u / 268435456 → putU (f + 1) v = [u / 268435456] := by
    intro f v e
    unfold putU
    rw [if_pos (by omega), e]
  rw [g0 8 _ rfl, g1 7 _ rfl, g2 6 _ rfl, g3 5 _ rfl, g4 4 _ rfl]
theorem pg00 {W : World} (hW : AsciiOk W) {x : Int} {u : Nat} (hx : (u : Int) = 2 * x) (h1 : 1 ≤ u) (h2 : u < 128) (h3 : u < 4294967296) : (Entered Tryz.prog 40 ∧ PutB W x (putN x)) ∧
    ∀ (s : ByteArray) (pre post : List Nat), s.data.toList.map (·.toNat) = pre ++ (putN x ++ post) → s.size ≤ 1000000 → Entered Tryz.prog 125 ∧ GetB W s pre.length x (pre.length + (putN x).length) := by
  have hp : putN x = [u] := by rw [putN_pos hx, putU_0 (by omega) h2]
  refine ⟨?_, fun s pre post hs hsz => ?_⟩
  · have := put_of (σ := sgG x u 0 0) put_run00 hW rfl (tbG00_ok hx h1 h2 h3)
    have e : ([11].map fun i => (sgG x u 0 0 i).2.toNat) = [u] := by
      show [u % 256] = _
      rw [Nat.mod_eq_of_lt (show u < 256 by omega)]
    rw [e] at this
    rw [hp]; exact this
  · have ho := tbG00_ok (p := (encB pre : Int)) (q := (encB post : Int)) hx h1 h2 h3
    refine get_gen (σ := sgG x u (encB pre) (encB post)) (mid := [.a 11 tbG00]) hW rfl get_run00 hs hsz rfl rfl ?_ fun t ht => ?_
    · simp only [tks_a, tks_n]
      show [u % 256] = _
      rw [hp, Nat.mod_eq_of_lt (show u < 256 by omega)]
    · simp only [List.mem_cons, List.not_mem_nil, or_false] at ht
      rcases ht with rfl
      exact ⟨ho, rfl, Int.natCast_nonneg (u % 256), Int.ofNat_lt.2 (show u % 256 < 256 by omega)⟩
theorem pg01 {W : World} (hW : AsciiOk W) {x : Int} {u : Nat} (hx : (u : Int) = 2 * x) (h1 : 128 ≤ u) (h2 : u < 16384) (h3 : u < 4294967296) : (Entered Tryz.prog 40 ∧ PutB W x (putN x)) ∧
    ∀ (s : ByteArray) (pre post : List Nat), s.data.toList.map (·.toNat) = pre ++ (putN x ++ post) → s.size ≤ 1000000 → Entered Tryz.prog 125 ∧ GetB W s pre.length x (pre.length + (putN x).length) := by
  have hp : putN x = [u % 128 + 128, u / 128] := by rw [putN_pos hx, putU_1 (by omega) h2]
  refine ⟨?_, fun s pre post hs hsz => ?_⟩
  · have := put_of (σ := sgG x u 0 0) put_run01 hW rfl (tbG01_ok hx h1 h2 h3)
    have e : ([16, 12].map fun i => (sgG x u 0 0 i).2.toNat) = [u % 128 + 128, u / 128] := by
      show [u % 128 + 128, u / 128 % 256] = _
      rw [Nat.mod_eq_of_lt (show u / 128 < 256 by omega)]
    rw [e] at this
    rw [hp]; exact this
  · have ho := tbG01_ok (p := (encB pre : Int)) (q := (encB post : Int)) hx h1 h2 h3
    refine get_gen (σ := sgG x u (encB pre) (encB post)) (mid := [.a 16 tbG01, .a 12 tbG01]) hW rfl get_run01 hs hsz rfl rfl ?_ fun t ht => ?_
    · simp only [tks_a, tks_n]
      show [u % 128 + 128, u / 128 % 256] = _
      rw [hp, Nat.mod_eq_of_lt (show u / 128 < 256 by omega)]
    · simp only [List.mem_cons, List.not_mem_nil, or_false] at ht
      rcases ht with rfl | rfl
      · exact ⟨ho, rfl, Int.natCast_nonneg (u % 128 + 128), Int.ofNat_lt.2 (show u % 128 + 128 < 256 by omega)⟩
      · exact ⟨ho, rfl, Int.natCast_nonneg (u / 128 % 256), Int.ofNat_lt.2 (show u / 128 % 256 < 256 by omega)⟩
theorem pg02 {W : World} (hW : AsciiOk W) {x : Int} {u : Nat} (hx : (u : Int) = 2 * x) (h1 : 16384 ≤ u) (h2 : u < 2097152) (h3 : u < 4294967296) : (Entered Tryz.prog 40 ∧ PutB W x (putN x)) ∧
    ∀ (s : ByteArray) (pre post : List Nat), s.data.toList.map (·.toNat) = pre ++ (putN x ++ post) → s.size ≤ 1000000 → Entered Tryz.prog 125 ∧ GetB W s pre.length x (pre.length + (putN x).length) := by
  have hp : putN x = [u % 128 + 128, u / 128 % 128 + 128, u / 16384] := by rw [putN_pos hx, putU_2 (by omega) h2]
  refine ⟨?_, fun s pre post hs hsz => ?_⟩
  · have := put_of (σ := sgG x u 0 0) put_run02 hW rfl (tbG02_ok hx h1 h2 h3)
    have e : ([16, 17, 13].map fun i => (sgG x u 0 0 i).2.toNat) = [u % 128 + 128, u / 128 % 128 + 128, u / 16384] := by
      show [u % 128 + 128, u / 128 % 128 + 128, u / 16384 % 256] = _
      rw [Nat.mod_eq_of_lt (show u / 16384 < 256 by omega)]
    rw [e] at this
    rw [hp]; exact this
  · have ho := tbG02_ok (p := (encB pre : Int)) (q := (encB post : Int)) hx h1 h2 h3
    refine get_gen (σ := sgG x u (encB pre) (encB post)) (mid := [.a 16 tbG02, .a 17 tbG02, .a 13 tbG02]) hW rfl get_run02 hs hsz rfl rfl ?_ fun t ht => ?_
    · simp only [tks_a, tks_n]
      show [u % 128 + 128, u / 128 % 128 + 128, u / 16384 % 256] = _
      rw [hp, Nat.mod_eq_of_lt (show u / 16384 < 256 by omega)]
    · simp only [List.mem_cons, List.not_mem_nil, or_false] at ht
      rcases ht with rfl | rfl | rfl
      · exact ⟨ho, rfl, Int.natCast_nonneg (u % 128 + 128), Int.ofNat_lt.2 (show u % 128 + 128 < 256 by omega)⟩
      · exact ⟨ho, rfl, Int.natCast_nonneg (u / 128 % 128 + 128), Int.ofNat_lt.2 (show u / 128 % 128 + 128 < 256 by omega)⟩
      · exact ⟨ho, rfl, Int.natCast_nonneg (u / 16384 % 256), Int.ofNat_lt.2 (show u / 16384 % 256 < 256 by omega)⟩
theorem pg03 {W : World} (hW : AsciiOk W) {x : Int} {u : Nat} (hx : (u : Int) = 2 * x) (h1 : 2097152 ≤ u) (h2 : u < 268435456) (h3 : u < 4294967296) : (Entered Tryz.prog 40 ∧ PutB W x (putN x)) ∧
    ∀ (s : ByteArray) (pre post : List Nat), s.data.toList.map (·.toNat) = pre ++ (putN x ++ post) → s.size ≤ 1000000 → Entered Tryz.prog 125 ∧ GetB W s pre.length x (pre.length + (putN x).length) := by
  have hp : putN x = [u % 128 + 128, u / 128 % 128 + 128, u / 16384 % 128 + 128, u / 2097152] := by rw [putN_pos hx, putU_3 (by omega) h2]
  refine ⟨?_, fun s pre post hs hsz => ?_⟩
  · have := put_of (σ := sgG x u 0 0) put_run03 hW rfl (tbG03_ok hx h1 h2 h3)
    have e : ([16, 17, 18, 14].map fun i => (sgG x u 0 0 i).2.toNat) = [u % 128 + 128, u / 128 % 128 + 128, u / 16384 % 128 + 128, u / 2097152] := by
      show [u % 128 + 128, u / 128 % 128 + 128, u / 16384 % 128 + 128, u / 2097152 % 256] = _
      rw [Nat.mod_eq_of_lt (show u / 2097152 < 256 by omega)]
    rw [e] at this
    rw [hp]; exact this
  · have ho := tbG03_ok (p := (encB pre : Int)) (q := (encB post : Int)) hx h1 h2 h3
    refine get_gen (σ := sgG x u (encB pre) (encB post)) (mid := [.a 16 tbG03, .a 17 tbG03, .a 18 tbG03, .a 14 tbG03]) hW rfl get_run03 hs hsz rfl rfl ?_ fun t ht => ?_
    · simp only [tks_a, tks_n]
      show [u % 128 + 128, u / 128 % 128 + 128, u / 16384 % 128 + 128, u / 2097152 % 256] = _
      rw [hp, Nat.mod_eq_of_lt (show u / 2097152 < 256 by omega)]
    · simp only [List.mem_cons, List.not_mem_nil, or_false] at ht
      rcases ht with rfl | rfl | rfl | rfl
      · exact ⟨ho, rfl, Int.natCast_nonneg (u % 128 + 128), Int.ofNat_lt.2 (show u % 128 + 128 < 256 by omega)⟩
      · exact ⟨ho, rfl, Int.natCast_nonneg (u / 128 % 128 + 128), Int.ofNat_lt.2 (show u / 128 % 128 + 128 < 256 by omega)⟩
      · exact ⟨ho, rfl, Int.natCast_nonneg (u / 16384 % 128 + 128), Int.ofNat_lt.2 (show u / 16384 % 128 + 128 < 256 by omega)⟩
      · exact ⟨ho, rfl, Int.natCast_nonneg (u / 2097152 % 256), Int.ofNat_lt.2 (show u / 2097152 % 256 < 256 by omega)⟩
theorem pg04 {W : World} (hW : AsciiOk W) {x : Int} {u : Nat} (hx : (u : Int) = 2 * x) (h1 : 268435456 ≤ u) (h2 : u < 34359738368) (h3 : u < 4294967296) : (Entered Tryz.prog 40 ∧ PutB W x (putN x)) ∧
    ∀ (s : ByteArray) (pre post : List Nat), s.data.toList.map (·.toNat) = pre ++ (putN x ++ post) → s.size ≤ 1000000 → Entered Tryz.prog 125 ∧ GetB W s pre.length x (pre.length + (putN x).length) := by
  have hp : putN x = [u % 128 + 128, u / 128 % 128 + 128, u / 16384 % 128 + 128, u / 2097152 % 128 + 128, u / 268435456] := by rw [putN_pos hx, putU_4 (by omega) h2]
  refine ⟨?_, fun s pre post hs hsz => ?_⟩
  · have := put_of (σ := sgG x u 0 0) put_run04 hW rfl (tbG04_ok hx h1 h2 h3)
    have e : ([16, 17, 18, 19, 15].map fun i => (sgG x u 0 0 i).2.toNat) = [u % 128 + 128, u / 128 % 128 + 128, u / 16384 % 128 + 128, u / 2097152 % 128 + 128, u / 268435456] := by
      show [u % 128 + 128, u / 128 % 128 + 128, u / 16384 % 128 + 128, u / 2097152 % 128 + 128, u / 268435456 % 256] = _
      rw [Nat.mod_eq_of_lt (show u / 268435456 < 256 by omega)]
    rw [e] at this
    rw [hp]; exact this
  · have ho := tbG04_ok (p := (encB pre : Int)) (q := (encB post : Int)) hx h1 h2 h3
    refine get_gen (σ := sgG x u (encB pre) (encB post)) (mid := [.a 16 tbG04, .a 17 tbG04, .a 18 tbG04, .a 19 tbG04, .a 15 tbG04]) hW rfl get_run04 hs hsz rfl rfl ?_ fun t ht => ?_
    · simp only [tks_a, tks_n]
      show [u % 128 + 128, u / 128 % 128 + 128, u / 16384 % 128 + 128, u / 2097152 % 128 + 128, u / 268435456 % 256] = _
      rw [hp, Nat.mod_eq_of_lt (show u / 268435456 < 256 by omega)]
    · simp only [List.mem_cons, List.not_mem_nil, or_false] at ht
      rcases ht with rfl | rfl | rfl | rfl | rfl
      · exact ⟨ho, rfl, Int.natCast_nonneg (u % 128 + 128), Int.ofNat_lt.2 (show u % 128 + 128 < 256 by omega)⟩
      · exact ⟨ho, rfl, Int.natCast_nonneg (u / 128 % 128 + 128), Int.ofNat_lt.2 (show u / 128 % 128 + 128 < 256 by omega)⟩
      · exact ⟨ho, rfl, Int.natCast_nonneg (u / 16384 % 128 + 128), Int.ofNat_lt.2 (show u / 16384 % 128 + 128 < 256 by omega)⟩
      · exact ⟨ho, rfl, Int.natCast_nonneg (u / 2097152 % 128 + 128), Int.ofNat_lt.2 (show u / 2097152 % 128 + 128 < 256 by omega)⟩
      · exact ⟨ho, rfl, Int.natCast_nonneg (u / 268435456 % 256), Int.ofNat_lt.2 (show u / 268435456 % 256 < 256 by omega)⟩
theorem pg10 {W : World} (hW : AsciiOk W) {x : Int} {u : Nat} (hx : (u : Int) = -2 * x - 1) (h1 : 1 ≤ u) (h2 : u < 128) (h3 : u < 4294967296) : (Entered Tryz.prog 40 ∧ PutB W x (putN x)) ∧
    ∀ (s : ByteArray) (pre post : List Nat), s.data.toList.map (·.toNat) = pre ++ (putN x ++ post) → s.size ≤ 1000000 → Entered Tryz.prog 125 ∧ GetB W s pre.length x (pre.length + (putN x).length) := by
  have hp : putN x = [u] := by rw [putN_neg hx, putU_0 (by omega) h2]
  refine ⟨?_, fun s pre post hs hsz => ?_⟩
  · have := put_of (σ := sgG x u 0 0) put_run10 hW rfl (tbG10_ok hx h1 h2 h3)
    have e : ([11].map fun i => (sgG x u 0 0 i).2.toNat) = [u] := by
      show [u % 256] = _
      rw [Nat.mod_eq_of_lt (show u < 256 by omega)]
    rw [e] at this
    rw [hp]; exact this
  · have ho := tbG10_ok (p := (encB pre : Int)) (q := (encB post : Int)) hx h1 h2 h3
    refine get_gen (σ := sgG x u (encB pre) (encB post)) (mid := [.a 11 tbG10]) hW rfl get_run10 hs hsz rfl rfl ?_ fun t ht => ?_
    · simp only [tks_a, tks_n]
      show [u % 256] = _
      rw [hp, Nat.mod_eq_of_lt (show u < 256 by omega)]
    · simp only [List.mem_cons, List.not_mem_nil, or_false] at ht
      rcases ht with rfl
      exact ⟨ho, rfl, Int.natCast_nonneg (u % 256), Int.ofNat_lt.2 (show u % 256 < 256 by omega)⟩
theorem pg11 {W : World} (hW : AsciiOk W) {x : Int} {u : Nat} (hx : (u : Int) = -2 * x - 1) (h1 : 128 ≤ u) (h2 : u < 16384) (h3 : u < 4294967296) : (Entered Tryz.prog 40 ∧ PutB W x (putN x)) ∧
    ∀ (s : ByteArray) (pre post : List Nat), s.data.toList.map (·.toNat) = pre ++ (putN x ++ post) → s.size ≤ 1000000 → Entered Tryz.prog 125 ∧ GetB W s pre.length x (pre.length + (putN x).length) := by
  have hp : putN x = [u % 128 + 128, u / 128] := by rw [putN_neg hx, putU_1 (by omega) h2]
  refine ⟨?_, fun s pre post hs hsz => ?_⟩
  · have := put_of (σ := sgG x u 0 0) put_run11 hW rfl (tbG11_ok hx h1 h2 h3)
    have e : ([16, 12].map fun i => (sgG x u 0 0 i).2.toNat) = [u % 128 + 128, u / 128] := by
      show [u % 128 + 128, u / 128 % 256] = _
      rw [Nat.mod_eq_of_lt (show u / 128 < 256 by omega)]
    rw [e] at this
    rw [hp]; exact this
  · have ho := tbG11_ok (p := (encB pre : Int)) (q := (encB post : Int)) hx h1 h2 h3
    refine get_gen (σ := sgG x u (encB pre) (encB post)) (mid := [.a 16 tbG11, .a 12 tbG11]) hW rfl get_run11 hs hsz rfl rfl ?_ fun t ht => ?_
    · simp only [tks_a, tks_n]
      show [u % 128 + 128, u / 128 % 256] = _
      rw [hp, Nat.mod_eq_of_lt (show u / 128 < 256 by omega)]
    · simp only [List.mem_cons, List.not_mem_nil, or_false] at ht
      rcases ht with rfl | rfl
      · exact ⟨ho, rfl, Int.natCast_nonneg (u % 128 + 128), Int.ofNat_lt.2 (show u % 128 + 128 < 256 by omega)⟩
      · exact ⟨ho, rfl, Int.natCast_nonneg (u / 128 % 256), Int.ofNat_lt.2 (show u / 128 % 256 < 256 by omega)⟩
theorem pg12 {W : World} (hW : AsciiOk W) {x : Int} {u : Nat} (hx : (u : Int) = -2 * x - 1) (h1 : 16384 ≤ u) (h2 : u < 2097152) (h3 : u < 4294967296) : (Entered Tryz.prog 40 ∧ PutB W x (putN x)) ∧
    ∀ (s : ByteArray) (pre post : List Nat), s.data.toList.map (·.toNat) = pre ++ (putN x ++ post) → s.size ≤ 1000000 → Entered Tryz.prog 125 ∧ GetB W s pre.length x (pre.length + (putN x).length) := by
  have hp : putN x = [u % 128 + 128, u / 128 % 128 + 128, u / 16384] := by rw [putN_neg hx, putU_2 (by omega) h2]
  refine ⟨?_, fun s pre post hs hsz => ?_⟩
  · have := put_of (σ := sgG x u 0 0) put_run12 hW rfl (tbG12_ok hx h1 h2 h3)
    have e : ([16, 17, 13].map fun i => (sgG x u 0 0 i).2.toNat) = [u % 128 + 128, u / 128 % 128 + 128, u / 16384] := by
      show [u % 128 + 128, u / 128 % 128 + 128, u / 16384 % 256] = _
      rw [Nat.mod_eq_of_lt (show u / 16384 < 256 by omega)]
    rw [e] at this
    rw [hp]; exact this
  · have ho := tbG12_ok (p := (encB pre : Int)) (q := (encB post : Int)) hx h1 h2 h3
    refine get_gen (σ := sgG x u (encB pre) (encB post)) (mid := [.a 16 tbG12, .a 17 tbG12, .a 13 tbG12]) hW rfl get_run12 hs hsz rfl rfl ?_ fun t ht => ?_
    · simp only [tks_a, tks_n]
      show [u % 128 + 128, u / 128 % 128 + 128, u / 16384 % 256] = _
      rw [hp, Nat.mod_eq_of_lt (show u / 16384 < 256 by omega)]
    · simp only [List.mem_cons, List.not_mem_nil, or_false] at ht
      rcases ht with rfl | rfl | rfl
      · exact ⟨ho, rfl, Int.natCast_nonneg (u % 128 + 128), Int.ofNat_lt.2 (show u % 128 + 128 < 256 by omega)⟩
      · exact ⟨ho, rfl, Int.natCast_nonneg (u / 128 % 128 + 128), Int.ofNat_lt.2 (show u / 128 % 128 + 128 < 256 by omega)⟩
      · exact ⟨ho, rfl, Int.natCast_nonneg (u / 16384 % 256), Int.ofNat_lt.2 (show u / 16384 % 256 < 256 by omega)⟩
theorem pg13 {W : World} (hW : AsciiOk W) {x : Int} {u : Nat} (hx : (u : Int) = -2 * x - 1) (h1 : 2097152 ≤ u) (h2 : u < 268435456) (h3 : u < 4294967296) : (Entered Tryz.prog 40 ∧ PutB W x (putN x)) ∧
    ∀ (s : ByteArray) (pre post : List Nat), s.data.toList.map (·.toNat) = pre ++ (putN x ++ post) → s.size ≤ 1000000 → Entered Tryz.prog 125 ∧ GetB W s pre.length x (pre.length + (putN x).length) := by
  have hp : putN x = [u % 128 + 128, u / 128 % 128 + 128, u / 16384 % 128 + 128, u / 2097152] := by rw [putN_neg hx, putU_3 (by omega) h2]
  refine ⟨?_, fun s pre post hs hsz => ?_⟩
  · have := put_of (σ := sgG x u 0 0) put_run13 hW rfl (tbG13_ok hx h1 h2 h3)
    have e : ([16, 17, 18, 14].map fun i => (sgG x u 0 0 i).2.toNat) = [u % 128 + 128, u / 128 % 128 + 128, u / 16384 % 128 + 128, u / 2097152] := by
      show [u % 128 + 128, u / 128 % 128 + 128, u / 16384 % 128 + 128, u / 2097152 % 256] = _
      rw [Nat.mod_eq_of_lt (show u / 2097152 < 256 by omega)]
    rw [e] at this
    rw [hp]; exact this
  · have ho := tbG13_ok (p := (encB pre : Int)) (q := (encB post : Int)) hx h1 h2 h3
    refine get_gen (σ := sgG x u (encB pre) (encB post)) (mid := [.a 16 tbG13, .a 17 tbG13, .a 18 tbG13, .a 14 tbG13]) hW rfl get_run13 hs hsz rfl rfl ?_ fun t ht => ?_
    · simp only [tks_a, tks_n]
      show [u % 128 + 128, u / 128 % 128 + 128, u / 16384 % 128 + 128, u / 2097152 % 256] = _
      rw [hp, Nat.mod_eq_of_lt (show u / 2097152 < 256 by omega)]
    · simp only [List.mem_cons, List.not_mem_nil, or_false] at ht
      rcases ht with rfl | rfl | rfl | rfl
      · exact ⟨ho, rfl, Int.natCast_nonneg (u % 128 + 128), Int.ofNat_lt.2 (show u % 128 + 128 < 256 by omega)⟩
      · exact ⟨ho, rfl, Int.natCast_nonneg (u / 128 % 128 + 128), Int.ofNat_lt.2 (show u / 128 % 128 + 128 < 256 by omega)⟩
      · exact ⟨ho, rfl, Int.natCast_nonneg (u / 16384 % 128 + 128), Int.ofNat_lt.2 (show u / 16384 % 128 + 128 < 256 by omega)⟩
      · exact ⟨ho, rfl, Int.natCast_nonneg (u / 2097152 % 256), Int.ofNat_lt.2 (show u / 2097152 % 256 < 256 by omega)⟩
theorem pg14 {W : World} (hW : AsciiOk W) {x : Int} {u : Nat} (hx : (u : Int) = -2 * x - 1) (h1 : 268435456 ≤ u) (h2 : u < 34359738368) (h3 : u < 4294967296) : (Entered Tryz.prog 40 ∧ PutB W x (putN x)) ∧
    ∀ (s : ByteArray) (pre post : List Nat), s.data.toList.map (·.toNat) = pre ++ (putN x ++ post) → s.size ≤ 1000000 → Entered Tryz.prog 125 ∧ GetB W s pre.length x (pre.length + (putN x).length) := by
  have hp : putN x = [u % 128 + 128, u / 128 % 128 + 128, u / 16384 % 128 + 128, u / 2097152 % 128 + 128, u / 268435456] := by rw [putN_neg hx, putU_4 (by omega) h2]
  refine ⟨?_, fun s pre post hs hsz => ?_⟩
  · have := put_of (σ := sgG x u 0 0) put_run14 hW rfl (tbG14_ok hx h1 h2 h3)
    have e : ([16, 17, 18, 19, 15].map fun i => (sgG x u 0 0 i).2.toNat) = [u % 128 + 128, u / 128 % 128 + 128, u / 16384 % 128 + 128, u / 2097152 % 128 + 128, u / 268435456] := by
      show [u % 128 + 128, u / 128 % 128 + 128, u / 16384 % 128 + 128, u / 2097152 % 128 + 128, u / 268435456 % 256] = _
      rw [Nat.mod_eq_of_lt (show u / 268435456 < 256 by omega)]
    rw [e] at this
    rw [hp]; exact this
  · have ho := tbG14_ok (p := (encB pre : Int)) (q := (encB post : Int)) hx h1 h2 h3
    refine get_gen (σ := sgG x u (encB pre) (encB post)) (mid := [.a 16 tbG14, .a 17 tbG14, .a 18 tbG14, .a 19 tbG14, .a 15 tbG14]) hW rfl get_run14 hs hsz rfl rfl ?_ fun t ht => ?_
    · simp only [tks_a, tks_n]
      show [u % 128 + 128, u / 128 % 128 + 128, u / 16384 % 128 + 128, u / 2097152 % 128 + 128, u / 268435456 % 256] = _
      rw [hp, Nat.mod_eq_of_lt (show u / 268435456 < 256 by omega)]
    · simp only [List.mem_cons, List.not_mem_nil, or_false] at ht
      rcases ht with rfl | rfl | rfl | rfl | rfl
      · exact ⟨ho, rfl, Int.natCast_nonneg (u % 128 + 128), Int.ofNat_lt.2 (show u % 128 + 128 < 256 by omega)⟩
      · exact ⟨ho, rfl, Int.natCast_nonneg (u / 128 % 128 + 128), Int.ofNat_lt.2 (show u / 128 % 128 + 128 < 256 by omega)⟩
      · exact ⟨ho, rfl, Int.natCast_nonneg (u / 16384 % 128 + 128), Int.ofNat_lt.2 (show u / 16384 % 128 + 128 < 256 by omega)⟩
      · exact ⟨ho, rfl, Int.natCast_nonneg (u / 2097152 % 128 + 128), Int.ofNat_lt.2 (show u / 2097152 % 128 + 128 < 256 by omega)⟩
      · exact ⟨ho, rfl, Int.natCast_nonneg (u / 268435456 % 256), Int.ofNat_lt.2 (show u / 268435456 % 256 < 256 by omega)⟩
theorem pgz {W : World} (hW : AsciiOk W) : (Entered Tryz.prog 40 ∧ PutB W 0 (putN 0)) ∧
    ∀ (s : ByteArray) (pre post : List Nat), s.data.toList.map (·.toNat) = pre ++ (putN 0 ++ post) → s.size ≤ 1000000 → Entered Tryz.prog 125 ∧ GetB W s pre.length 0 (pre.length + (putN 0).length) := by
  refine ⟨putz hW, fun s pre post hs hsz => ?_⟩
  have hb := bytes_lt hs
  have hpre : ∀ b ∈ pre, b < 256 := fun b h => hb b (by simp [h])
  have hpost : ∀ b ∈ post, b < 256 := fun b h => hb b (by simp [h])
  have e1 : tksB (sgG 0 0 (encB pre) (encB post)) lGz = pre ++ (putN 0 ++ post) := by
    unfold lGz
    simp only [tks_o, tks_b, tks_n, List.append_nil]
    rw [show (sgG 0 0 (encB pre) (encB post) 44).2 = (encB pre : Int) from rfl, show (sgG 0 0 (encB pre) (encB post) 45).2 = (encB post : Int) from rfl, enc_o pre hpre, enc_o post hpost]; rfl
  have hk : TksOk (sgG 0 0 (encB pre) (encB post)) lGz := by
    refine ⟨fun t ht => ?_, ?_⟩
    · simp only [lGz, List.mem_cons, List.not_mem_nil, or_false] at ht
      rcases ht with rfl | rfl | rfl
      · trivial
      · exact show 0 < 256 by omega
      · trivial
    · rw [e1, ← hs, List.length_map, Array.length_toList]; exact hsz
  have := get_of get_runz hW (σ := sgG 0 0 (encB pre) (encB post)) (x := 0) rfl (hs.trans e1.symm) hk (by decide)
  have e2 : tksB (sgG 0 0 (encB pre) (encB post)) (lGz.take 1) = pre := by
    show tksB _ [.o 44] = _
    rw [tks_o, tks_n, List.append_nil, show (sgG 0 0 (encB pre) (encB post) 44).2 = (encB pre : Int) from rfl, enc_o pre hpre]
  have e3 : (tksB (sgG 0 0 (encB pre) (encB post)) (lGz.take 2)).length = pre.length + (putN 0).length := by
    show (tksB _ [.o 44, .b 0]).length = _
    simp only [tks_o, tks_b, tks_n]
    rw [show (sgG 0 0 (encB pre) (encB post) 44).2 = (encB pre : Int) from rfl, enc_o pre hpre, List.length_append]; rfl
  rw [e2, e3] at this
  exact this
theorem pg {W : World} (hW : AsciiOk W) {x : Int} (l1 : -2147483648 ≤ x) (l2 : x ≤ 2147483647) : (Entered Tryz.prog 40 ∧ PutB W x (putN x)) ∧
    ∀ (s : ByteArray) (pre post : List Nat), s.data.toList.map (·.toNat) = pre ++ (putN x ++ post) → s.size ≤ 1000000 → Entered Tryz.prog 125 ∧ GetB W s pre.length x (pre.length + (putN x).length) := by
  by_cases hn : x < 0
  · obtain ⟨u, hu⟩ : ∃ u : Nat, (u : Int) = -2 * x - 1 := ⟨(-2 * x - 1).toNat, by omega⟩
    have h3 : u < 4294967296 := by omega
    by_cases b0 : u < 128
    · exact pg10 hW hu (by omega) b0 h3
    by_cases b1 : u < 16384
    · exact pg11 hW hu (by omega) b1 h3
    by_cases b2 : u < 2097152
    · exact pg12 hW hu (by omega) b2 h3
    by_cases b3 : u < 268435456
    · exact pg13 hW hu (by omega) b3 h3
    exact pg14 hW hu (by omega) (by omega) h3
  · by_cases hz : x = 0
    · subst hz; exact pgz hW
    obtain ⟨u, hu⟩ : ∃ u : Nat, (u : Int) = 2 * x := ⟨(2 * x).toNat, by omega⟩
    have h3 : u < 4294967296 := by omega
    by_cases b0 : u < 128
    · exact pg00 hW hu (by omega) b0 h3
    by_cases b1 : u < 16384
    · exact pg01 hW hu (by omega) b1 h3
    by_cases b2 : u < 2097152
    · exact pg02 hW hu (by omega) b2 h3
    by_cases b3 : u < 268435456
    · exact pg03 hW hu (by omega) b3 h3
    exact pg04 hW hu (by omega) (by omega) h3

noncomputable def crO (r : CR) : Option (AV × Hp) := CR.rec (motive := fun _ => Option (AV × Hp)) (fun v H => some (v, H)) (fun _ _ => none) none r
noncomputable def isAtI (i : Nat) (v : AV) : Bool :=
  match v with
  | .at j _ => Nat.beq j i
  | _ => false
noncomputable def putnumS (args : List AV) (H : Hp) : Option (AV × Hp) :=
  match args with
  | [.at i tb] => opt (atL i .w32 tb) none fun v => cnd (isAtI i v) (some (.stk [.q i tb], H)) none
  | args => crO (evC envL 1000 100 40 args H)
noncomputable def getU1 (l : List Tk) (k : List Tk → Option (Nat × Nat)) : Option (Nat × Nat) :=
  match l with
  | .b n :: r => cnd (Nat.ble n 127) (some (n, 1)) (opt (k r) none fun p => some (Nat.add (Nat.mod n 128) (Nat.mul 128 p.1), Nat.succ p.2))
  | _ => none
noncomputable def getU (f : Nat) : List Tk → Option (Nat × Nat) := Nat.rec (motive := fun _ => List Tk → Option (Nat × Nat)) (fun _ => none) (fun _ ih l => getU1 l ih) f
noncomputable def unzig (u : Nat) : Int := cnd (Nat.beq (Nat.mod u 2) 0) (.ofNat (Nat.div u 2)) (.negSucc (Nat.div u 2))
noncomputable def getT (l : List Tk) (k : Nat) (r : List Tk) (H : Hp) : Option (AV × Hp) :=
  match r with
  | .q i tb :: _ => some (.tup [.at i tb, .pos l (Nat.succ k), .int .i64 (.ofNat 0)], H)
  | r => opt (getU 5 r) none fun p => cnd (Nat.ble p.1 4294967295) (opt (take p.2 r) none fun b => opt (mapO tkByte b) none fun b => cnd (strEq (putN (unzig p.1)) b) (fInt (unzig p.1) fun x => fNat (Nat.add k p.2) fun q => some (.tup [.int .i64 x, .pos l q, .int .i64 (.ofNat 0)], H)) none) none
noncomputable def getnumS (args : List AV) (H : Hp) : Option (AV × Hp) :=
  match args with
  | [.stk l, p] => opt (tkPl l p) none fun k => opt (drop k l) none fun r => getT l k r H
  | args => crO (evC envL 1000 100 125 args H)
noncomputable def word3 (i : Nat) : Option (List AV → Hp → Option (AV × Hp)) := cnd (Nat.beq i 40) (some putnumS) (cnd (Nat.beq i 125) (some getnumS) (word2 i))
theorem plain_ok {E : Env} (hgl : E.gl = env.gl) {base : Nat} {w0 : World} {f : Nat} {args : List AV} {H : Hp} {p : AV × Hp} (hp : crO (evC envL 1000 100 f args H) = some p) {ι : Inj} {w : World} {cargs : List Value} (hR : Rl E base w0 ι H w) (ha : LRel ι args cargs) {r : CR} (h2 : CR.ret p.1 p.2 = r) :
    Entered Tryz.prog f ∧ Calls Tryz.prog f cargs.toArray w (CPost E base w0 ι H r) := by
  generalize hx : evC envL 1000 100 f args H = q at hp
  cases q with
  | no => cases hp
  | pan v H' => cases hp
  | ret v H' =>
    cases hp
    obtain ⟨k1, k2⟩ := envL_call (base := base) (w0 := w0) 1000 100 f args H _ hx (by intro e; cases e) ι w cargs (hR.env (envL_gl.trans hgl.symm)) ha
    refine ⟨k1, Calls.mono k2 fun e W' h3 => ?_⟩
    cases e with
    | returned c =>
      obtain ⟨v', H2, ι', e1, e2, e3, e4⟩ := h3
      cases e1
      exact ⟨v, H', ι', h2.symm, e2, e3.env (hgl.trans envL_gl.symm), e4⟩
    | panicked ch =>
      obtain ⟨v', H2, ι', c, e1, _⟩ := h3
      cases e1
    | outgrown => exact h3.elim
theorem ascii_at {E : Env} {W : World} (hW : AsciiOk W) {ι : Inj} {H : Hp} {w : World} (hR : Rl E W.heap.size W ι H w) : AsciiOk w := fun k hk => by
  rw [hR.below.cell (p := ⟨0, k, none⟩) hW.pos]
  exact hW k hk
theorem putnum_ok {E : Env} (hgl : E.gl = env.gl) {W : World} (hW : AsciiOk W) : CallOk Tryz.prog E W.heap.size W fun f' args H => if f' = 40 then sumK (putnumS args H) else .no := by
  intro f' args H r he hr ι w cargs hR ha
  replace he : (if f' = 40 then sumK (putnumS args H) else CR.no) = r := he
  have hf : f' = 40 := Classical.byContradiction fun hne => by
    rw [if_neg hne] at he
    exact hr he.symm
  subst hf
  rw [if_pos rfl] at he
  unfold sumK at he
  obtain ⟨p, h1, h2⟩ := optC_ne he hr
  unfold putnumS at h1
  split at h1
  · rename_i i tb
    obtain ⟨v, k1, h1⟩ := opt_eq_some h1
    obtain ⟨k2, h1⟩ := cnd_some h1
    cases h1
    cases ha with
    | cons _ c _ L hc ha =>
      cases ha
      obtain ⟨ho, rfl⟩ := at_rel hc
      obtain ⟨q, g1, g2⟩ := atL_some ho k1
      have hq : q = .at i := by
        cases q with
        | «at» j =>
          cases g2
          rw [Nat.eq_of_beq_eq_true (show Nat.beq j i = true from k2)]
        | bool b => cases g2; cases k2
        | int k n => cases g2; cases k2
      subst hq
      have hk : (ι.s i).1 = .i64 ∧ wr .i32 (ι.s i).2 = (ι.s i).2 := by
        replace g1 : (match (ι.s i).1 with | .i64 => some (AV.int .i64 (wr .i32 (ι.s i).2)) | _ => none) = some (num ι.s i) := g1
        unfold num at g1
        cases hh : (ι.s i).1 <;> rw [hh] at g1 <;> first | (cases g1; done) | skip
        have := Option.some.inj g1
        injection this with _ e
        exact ⟨rfl, e⟩
      have hr32 := wr32_range (ι.s i).2
      rw [hk.2] at hr32
      obtain ⟨⟨h3, h4⟩, _⟩ := pg (ascii_at hW hR) hr32.1 hr32.2
      rw [hk.1]
      refine ⟨h3, Calls.mono h4 fun e W' h5 => ?_⟩
      obtain ⟨⟨s, rfl, hs⟩, h6⟩ := h5
      have e1 : tksB ι.s [.q i tb] = putN (ι.s i).2 := by simp [tksB, Tk.bs]
      refine ⟨.stk [.q i tb], H, ι, h2.symm, .stk _ s (hs.trans e1.symm) ⟨fun t ht => ?_, ?_⟩, hR.of_below h6, .refl ι H⟩
      · simp only [List.mem_singleton] at ht
        subst ht
        exact ⟨ho, hk.1, hr32.1, hr32.2⟩
      · rw [e1]
        have := putN_le hr32.1 hr32.2
        omega
  · exact plain_ok hgl h1 hR ha h2
theorem getU_len : ∀ (f : Nat) (l : List Tk) (p : Nat × Nat), getU f l = some p → p.2 ≤ l.length
  | 0, _, _, h => by cases h
  | f + 1, l, p, h => by
    replace h : getU1 l (getU f) = some p := h
    unfold getU1 at h
    split at h
    · rename_i n r
      rw [cnd_eq] at h
      split at h
      · cases h; simp
      · obtain ⟨q, h1, h2⟩ := opt_eq_some h
        cases h2
        have := getU_len f r q h1
        show Nat.succ q.2 ≤ _
        simp only [List.length_cons]; omega
    · cases h
theorem unzig_rng {u : Nat} (h : u ≤ 4294967295) : -2147483648 ≤ unzig u ∧ unzig u ≤ 2147483647 := by
  unfold unzig
  rw [cnd_eq]
  have h1 : Nat.div u 2 = u / 2 := rfl
  rw [h1]
  have h2 : (Int.ofNat (u / 2) : Int) = ((u / 2 : Nat) : Int) := rfl
  have h3 : (Int.negSucc (u / 2) : Int) = -((u / 2 : Nat) : Int) - 1 := by rw [Int.negSucc_eq]; omega
  split
  · rw [h2]; omega
  · rw [h3]; omega
theorem drop_some {α : Type} : ∀ {k : Nat} {l r : List α}, drop k l = some r → k ≤ l.length ∧ r = l.drop k
  | 0, l, r, h => by cases h; exact ⟨Nat.zero_le _, rfl⟩
  | k + 1, [], r, h => by cases h
  | k + 1, x :: l, r, h => by
    obtain ⟨h1, h2⟩ := drop_some (k := k) (l := l) h
    exact ⟨by simp; omega, h2⟩
theorem getnum_ok {E : Env} (hgl : E.gl = env.gl) {W : World} (hW : AsciiOk W) : CallOk Tryz.prog E W.heap.size W fun f' args H => if f' = 125 then sumK (getnumS args H) else .no := by
  intro f' args H r he hr ι w cargs hR ha
  replace he : (if f' = 125 then sumK (getnumS args H) else CR.no) = r := he
  have hf : f' = 125 := Classical.byContradiction fun hne => by
    rw [if_neg hne] at he
    exact hr he.symm
  subst hf
  rw [if_pos rfl] at he
  unfold sumK at he
  obtain ⟨p, h1, h2⟩ := optC_ne he hr
  unfold getnumS at h1
  split at h1
  · rename_i l a
    obtain ⟨k, k1, h1⟩ := opt_eq_some h1
    obtain ⟨rr, k2, h1⟩ := opt_eq_some h1
    obtain ⟨k3, rfl⟩ := drop_some k2
    cases ha with
    | cons _ c0 _ L hc0 ha =>
      cases ha with
      | cons _ c1 _ L hc1 ha =>
        cases ha
        obtain ⟨rfl, _⟩ := tkPl_rel hc1 k1
        cases hc0 with
        | stk _ s hs hk =>
          have hsz : s.size ≤ 1000000 := by
            have : s.size = (tksB ι.s l).length := by rw [← hs, List.length_map, Array.length_toList]; rfl
            rw [this]; exact hk.2
          have e1 : tksB ι.s l = tksB ι.s (l.take k) ++ tksB ι.s (l.drop k) := by rw [← tksB_app, List.take_append_drop]
          have fin : ∀ (x : Int) (v : AV) (b : List Tk) (q : Nat), -2147483648 ≤ x → x ≤ 2147483647 → l.take q = l.take k ++ b → q ≤ l.length → tksB ι.s b = putN x → VRel ι v (.int .i64 x) → p = (.tup [v, .pos l q, .int .i64 (.ofNat 0)], H) →
              Entered Tryz.prog 125 ∧ Calls Tryz.prog 125 #[.string s, .int .i64 (tksB ι.s (l.take k)).length] w (CPost E W.heap.size W ι H r) := by
            intro x v b q l1 l2 hb hq hbx hv hp
            subst hp
            have e2 : s.data.toList.map (·.toNat) = tksB ι.s (l.take k) ++ (putN x ++ tksB ι.s (l.drop q)) := by
              rw [hs, ← hbx, ← tksB_app, ← tksB_app, ← List.append_assoc, ← hb, List.take_append_drop]
            obtain ⟨_, h3⟩ := pg (ascii_at hW hR) l1 l2
            obtain ⟨h4, h5⟩ := h3 s _ _ e2 hsz
            refine ⟨h4, Calls.mono h5 fun e W' h6 => ?_⟩
            obtain ⟨rfl, h7⟩ := h6
            have e3 : (tksB ι.s (l.take k)).length + (putN x).length = (tksB ι.s (l.take q)).length := by rw [hb, tksB_app, List.length_append, hbx]
            rw [e3]
            exact ⟨_, H, ι, h2.symm, .tup _ [_, _, _] (.cons _ _ _ _ hv (.cons _ _ _ _ (.pos l q _ rfl hq hk) (.cons _ _ _ _ (.int _ _) .nil))), hR.of_below h7, .refl ι H⟩
          unfold getT at h1
          split at h1
          · rename_i i tb rest hd
            have hlt : k < l.length := by
              rcases Nat.lt_or_ge k l.length with h | h
              · exact h
              · rw [List.drop_eq_nil_of_le h] at hd; cases hd
            have hget : l[k]? = some (.q i tb) := by
              have := congrArg (fun z => z[0]?) hd
              simpa using this
            obtain ⟨o1, o2, o3, o4⟩ : (Tk.q i tb).ok ι.s := hk.1 _ (List.mem_of_getElem? hget)
            refine fin (ι.s i).2 (.at i tb) [.q i tb] (k + 1) o3 o4 ?_ hlt (by simp [tksB, Tk.bs]) (.at i tb _ _ o1 (by rw [← o2])) (Option.some.inj h1).symm
            rw [List.take_add_one, hget]; rfl
          · obtain ⟨u, g1, h1⟩ := opt_eq_some h1
            obtain ⟨g2, h1⟩ := cnd_some h1
            obtain ⟨b, g3, h1⟩ := opt_eq_some h1
            obtain ⟨y, g4, h1⟩ := opt_eq_some h1
            obtain ⟨g5, h1⟩ := cnd_some h1
            rw [fInt_eq, fNat_eq] at h1
            obtain ⟨g6, g6'⟩ := take_tk g3
            rw [List.length_drop] at g6
            obtain ⟨l1, l2⟩ := unzig_rng (Nat.le_of_ble_eq_true g2)
            have g7 : tksB ι.s b = putN (unzig u.1) := by
              rw [tkByte_bs g4]
              rw [strEq_eq] at g5
              exact (eq_of_beq g5).symm
            exact fin (unzig u.1) _ b (k + u.2) l1 l2 (by rw [g6']; exact List.take_add ..) (by omega) g7 (.int _ _) (Option.some.inj h1).symm
  · exact plain_ok hgl h1 hR ha h2
theorem word3_ok {E : Env} (hgl : E.gl = env.gl) {W : World} (hW : AsciiOk W) {f : Nat} {g : List AV → Hp → Option (AV × Hp)} (h1 : word3 f = some g) : CallOk Tryz.prog E W.heap.size W fun f' args H => if f' = f then sumK (g args H) else .no := by
  unfold word3 at h1
  rw [cnd_eq] at h1
  split at h1
  · rename_i e
    obtain rfl := Nat.eq_of_beq_eq_true e
    cases h1
    exact putnum_ok hgl hW
  · rw [cnd_eq] at h1
    split at h1
    · rename_i e
      obtain rfl := Nat.eq_of_beq_eq_true e
      cases h1
      exact getnum_ok hgl hW
    · exact word2_ok hgl hW h1

end Go.Ev
