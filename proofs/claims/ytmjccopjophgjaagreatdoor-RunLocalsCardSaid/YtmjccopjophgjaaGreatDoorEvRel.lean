/- What the evaluator's values and heap say of the model's. -/
import Derived.Test.YtmjccopjophgjaaGreatDoorEvBase
namespace Go.Ev
open Go.RowKit (Below)

/-- Where a block lies: the model's block, the first cell, how many cells there are from there on. -/
structure Inj where
  f : Pos → Option (Nat × Nat × Nat)
  /-- the atoms' numbers -/
  s : Nat → IntKind × Int
instance : CoeFun Inj (fun _ => Pos → Option (Nat × Nat × Nat)) := ⟨Inj.f⟩
structure Inj.le (ι κ : Inj) : Prop where
  app : ∀ b x, ι b = some x → κ b = some x
  s : κ.s = ι.s
theorem Inj.le_refl (ι : Inj) : ι.le ι := ⟨fun _ _ h => h, rfl⟩
theorem Inj.le_trans {a b c : Inj} (h : a.le b) (k : b.le c) : a.le c := ⟨fun p x e => k.app p x (h.app p x e), k.s.trans h.s⟩

/-- a value's form in the model: of numbers and truth values -/
def AV.val? : AV → Option Value
  | .int k n => some (.int k n)
  | .bool b => some (.bool b)
  | _ => none
/-- What is told of a number is right. -/
def SyOp.gives (o : SyOp) (k : IntKind) (n : Int) (y : Value) : Prop :=
  match o with
  | .cv l => y = .int l (wr l n)
  | .bin op l c => ∃ f z, avBin op = some f ∧ f (.int k n) (.int l c) = some z ∧ z.val? = some y

/-- an atom's number -/
def num (σ : Nat → IntKind × Int) (i : Nat) : AV := .int (σ i).1 (σ i).2
def AtV.av (σ : Nat → IntKind × Int) : AtV → AV
  | .at j => num σ j
  | .bool b => .bool b
  | .int k n => .int k n
noncomputable def AtO.den (σ : Nat → IntKind × Int) (i : Nat) : AtO → Option AV
  | .cv k => some (.int k (wr k (σ i).2))
  | .bc op k c => opt (avBin op) none fun f => f (num σ i) (.int k c)
  | .cb op k c => opt (avBin op) none fun f => f (.int k c) (num σ i)
  | .aa op j => opt (avBin op) none fun f => f (num σ i) (num σ j)
  | .ec k c => opt (avEqN (num σ i) (.int k c)) none fun b => some (.bool b)
  | .ea j => opt (avEqN (num σ i) (num σ j)) none fun b => some (.bool b)
  | .ng => avNeg (num σ i)
  | .w32 => match (σ i).1 with
    | .i64 => some (.int .i64 (wr .i32 (σ i).2))
    | _ => none
/-- two numbers as one -/
def code (n Z : Nat) : Nat := (n + Z) * (n + Z) + n
theorem code_inj {n Z n' Z' : Nat} (h : code n Z = code n' Z') : n = n' ∧ Z = Z' := by
  unfold code at h
  have key : ∀ a b x y : Nat, x ≤ a → a < b → a * a + x = b * b + y → False := by
    intro a b x y hx hab he
    have h1 : (a + 1) * (a + 1) ≤ b * b := Nat.mul_le_mul hab hab
    have h2 : (a + 1) * (a + 1) = a * a + 2 * a + 1 := by
      rw [Nat.add_mul, Nat.mul_add]; omega
    omega
  have hs : n + Z = n' + Z' := by
    rcases Nat.lt_trichotomy (n + Z) (n' + Z') with h1 | h1 | h1
    · exact (key _ _ _ _ (by omega) h1 h).elim
    · exact h1
    · exact (key _ _ _ _ (by omega) h1 h.symm).elim
  rw [hs] at h
  omega
/-- What is told of the atoms is right. -/
def AtOk (σ : Nat → IntKind × Int) (tb : List (Nat × AtO × AtV)) : Prop := ∀ i o v, (i, o, v) ∈ tb → AtO.den σ i o = some (AtV.av σ v)

/-- a number's bytes, as 'wire' writes them -/
def putU : Nat → Nat → List Nat
  | 0, u => [u]
  | f + 1, u => if u < 128 then [u] else (u % 128 + 128) :: putU f (u / 128)
def putN (x : Int) : List Nat := putU 9 (if 0 ≤ x then (2 * x).toNat else (-2 * x - 1).toNat)
/-- some bytes, as a number tells them -/
def decB : Nat → Nat → List Nat
  | 0, _ => []
  | f + 1, n => if n = 0 then [] else ((n - 1) % 256) :: decB f ((n - 1) / 256)
def encB : List Nat → Nat
  | [] => 0
  | b :: l => encB l * 256 + b + 1
theorem dec_enc : ∀ (l : List Nat) (f : Nat), (∀ b ∈ l, b < 256) → encB l ≤ f → decB f (encB l) = l
  | [], f, _, _ => by cases f <;> rfl
  | b :: l, 0, _, h => by simp [encB] at h
  | b :: l, f + 1, hb, h => by
    have h1 : b < 256 := hb b (by simp)
    have h2 : encB l * 256 + b + 1 ≤ f + 1 := h
    show (if encB l * 256 + b + 1 = 0 then [] else ((encB l * 256 + b + 1 - 1) % 256) :: decB f ((encB l * 256 + b + 1 - 1) / 256)) = b :: l
    rw [if_neg (by omega), show encB l * 256 + b + 1 - 1 = encB l * 256 + b by omega, show (encB l * 256 + b) % 256 = b by omega, show (encB l * 256 + b) / 256 = encB l by omega,
      dec_enc l f (fun c hc => hb c (by simp [hc])) (by omega)]
/-- a piece's bytes -/
def Tk.bs (σ : Nat → IntKind × Int) : Tk → List Nat
  | .b n => [n]
  | .a i _ => [(σ i).2.toNat]
  | .q i _ => putN (σ i).2
  | .o i => decB (σ i).2.toNat (σ i).2.toNat
def tksB (σ : Nat → IntKind × Int) (l : List Tk) : List Nat := l.flatMap (Tk.bs σ)
/-- What is told of a piece is right. -/
def Tk.ok (σ : Nat → IntKind × Int) : Tk → Prop
  | .b n => n < 256
  | .a i tb => AtOk σ tb ∧ (σ i).1 = .u8 ∧ 0 ≤ (σ i).2 ∧ (σ i).2 < 256
  | .q i tb => AtOk σ tb ∧ (σ i).1 = .i64 ∧ -2147483648 ≤ (σ i).2 ∧ (σ i).2 ≤ 2147483647
  | .o _ => True
def TksOk (σ : Nat → IntKind × Int) (l : List Tk) : Prop := (∀ t ∈ l, t.ok σ) ∧ (tksB σ l).length ≤ 1000000

mutual
inductive VRel (ι : Inj) : AV → Value → Prop
  | any (v : Value) : VRel ι .any v
  | bool (b : Bool) : VRel ι (.bool b) (.bool b)
  | int (k : IntKind) (n : Int) : VRel ι (.int k n) (.int k n)
  | str (s : ByteArray) (l : List Nat) (h : s.data.toList.map (·.toNat) = l) : VRel ι (.str l) (.string s)
  | pnil : VRel ι .pnil (.pointer none)
  | ptr (b : Pos) (o r d z : Nat) (h : ι b = some (r, d, z)) : VRel ι (.ptr b o) (.pointer (some ⟨r, d + o, none⟩))
  | snil : VRel ι .snil (.slice none 0 0)
  | sl (b : Pos) (o n c r d z : Nat) (h : ι b = some (r, d, z)) : VRel ι (.sl b o n (.ex c)) (.slice (some ⟨r, d + o, none⟩) n c)
  | slu (b : Pos) (o n c r d z e : Nat) (h : ι b = some (r, d, z)) (hc : n ≤ c) (hz : o + c * e ≤ z) : VRel ι (.sl b o n (.op e)) (.slice (some ⟨r, d + o, none⟩) n c)
  | slv (b : Pos) (o r d z : Nat) (a : Addr) (c : Cap) (h : ι b = some (r, d, z)) (hc : c.n 0 = 0) : VRel ι (.sl b o 0 c) (.slice (some a) 0 0)
  | mnil : VRel ι .mnil (.map none)
  | map (b : Pos) (r z : Nat) (h : ι b = some (r, 0, z)) : VRel ι (.map b) (.map (some r))
  | fn (f : Fn) (a c : List AV) (A C : List Value) (ha : LRel ι a A) (hc : LRel ι c C) : VRel ι (.fn f a c) (.func f A.toArray C.toArray)
  | fnil : VRel ι .fnil .nilFunc
  | ifc (t : Nat) (v : AV) (x : Value) (h : VRel ι v x) : VRel ι (.ifc t v) (.iface t x)
  | inil : VRel ι .inil .nilIface
  | agg (l : List AV) (L : List Value) (h : LRel ι l L) : VRel ι (.agg l) (.agg L.toArray)
  | tup (l : List AV) (L : List Value) (h : LRel ι l L) : VRel ι (.tup l) (.tuple L.toArray)
  | sy (ops : List SyOp) (vs : List AV) (k : IntKind) (n : Int) (ys : List Value) (h : LRel ι vs ys) (hs : ∀ (i : Nat) (o : SyOp) (y : Value), ops[i]? = some o → ys[i]? = some y → o.gives k n y) : VRel ι (.sy ops vs) (.int k n)
  | at (i : Nat) (tb : List (Nat × AtO × AtV)) (k : IntKind) (n : Int) (h : AtOk ι.s tb) (hi : ι.s i = (k, n)) : VRel ι (.at i tb) (.int k n)
  | strq (n : Nat) (s : ByteArray) (h : s.size ≤ n) : VRel ι (.strq n) (.string s)
  | slq (b : Pos) (m n c r d Z : Nat) (h : ι b = some (r, d, code n Z)) (hm : n ≤ m) (hc : n ≤ c) (hz : c ≤ Z) : VRel ι (.slq b m) (.slice (some ⟨r, d, none⟩) n c)
  | nle (m : Nat) (n : Int) (h0 : 0 ≤ n) (h : n ≤ m) : VRel ι (.nle m) (.int .i64 n)
  | chn (b : Pos) (r z : Nat) (h : ι b = some (r, 0, z)) : VRel ι (.chn b) (.chan (some r))
  | cnil : VRel ι .cnil (.chan none)
  | stk (l : List Tk) (s : ByteArray) (h : s.data.toList.map (·.toNat) = tksB ι.s l) (hk : TksOk ι.s l) : VRel ι (.stk l) (.string s)
  | pos (l : List Tk) (k n : Nat) (hn : n = (tksB ι.s (l.take k)).length) (hl : k ≤ l.length) (hk : TksOk ι.s l) : VRel ι (.pos l k) (.int .i64 n)
  | nge (m : Nat) (n : Int) (h : m ≤ n) (h2 : n ≤ 1000000) : VRel ι (.nge m) (.int .i64 n)
inductive LRel (ι : Inj) : List AV → List Value → Prop
  | nil : LRel ι [] []
  | cons (x : AV) (v : Value) (l : List AV) (L : List Value) (h : VRel ι x v) (t : LRel ι l L) : LRel ι (x :: l) (v :: L)
end

mutual
theorem VRel.mono {ι κ : Inj} (hi : ι.le κ) : ∀ {x : AV} {v : Value}, VRel ι x v → VRel κ x v
  | _, _, .any v => .any v
  | _, _, .bool b => .bool b
  | _, _, .int k n => .int k n
  | _, _, .str s l h => .str s l h
  | _, _, .pnil => .pnil
  | _, _, .ptr b o r d z h => .ptr b o r d z (hi.app _ _ h)
  | _, _, .snil => .snil
  | _, _, .sl b o n c r d z h => .sl b o n c r d z (hi.app _ _ h)
  | _, _, .slu b o n c r d z e h hc hz => .slu b o n c r d z e (hi.app _ _ h) hc hz
  | _, _, .slv b o r d z a c h hc => .slv b o r d z a c (hi.app _ _ h) hc
  | _, _, .mnil => .mnil
  | _, _, .map b r z h => .map b r z (hi.app _ _ h)
  | _, _, .fn f a c A C ha hc => .fn f a c A C (ha.mono hi) (hc.mono hi)
  | _, _, .fnil => .fnil
  | _, _, .ifc t v x h => .ifc t v x (h.mono hi)
  | _, _, .inil => .inil
  | _, _, .agg l L h => .agg l L (h.mono hi)
  | _, _, .tup l L h => .tup l L (h.mono hi)
  | _, _, .sy ops vs k n ys h hs => .sy ops vs k n ys (h.mono hi) hs
  | _, _, .at i tb k n h hx => .at i tb k n (by rw [hi.s]; exact h) (by rw [hi.s]; exact hx)
  | _, _, .strq n s h => .strq n s h
  | _, _, .slq b m n c r d Z h hm hc hz => .slq b m n c r d Z (hi.app _ _ h) hm hc hz
  | _, _, .nle m n h0 h => .nle m n h0 h
  | _, _, .chn b r z h => .chn b r z (hi.app _ _ h)
  | _, _, .cnil => .cnil
  | _, _, .stk l s h hk => .stk l s (by rw [hi.s]; exact h) (by rw [hi.s]; exact hk)
  | _, _, .pos l k n hn hl hk => .pos l k n (by rw [hi.s]; exact hn) hl (by rw [hi.s]; exact hk)
  | _, _, .nge m n h h2 => .nge m n h h2
theorem LRel.mono {ι κ : Inj} (hi : ι.le κ) : ∀ {l : List AV} {L : List Value}, LRel ι l L → LRel κ l L
  | _, _, .nil => .nil
  | _, _, .cons x v l L h t => .cons x v l L (h.mono hi) (t.mono hi)
end

theorem LRel.length {ι : Inj} : ∀ {l : List AV} {L : List Value}, LRel ι l L → l.length = L.length
  | _, _, .nil => rfl
  | _, _, .cons _ _ _ _ _ t => by simp [t.length]
theorem LRel.get {ι : Inj} : ∀ {l : List AV} {L : List Value}, LRel ι l L → ∀ {i : Nat} {x : AV}, l[i]? = some x → ∃ v, L[i]? = some v ∧ VRel ι x v
  | _, _, .nil, i, x, e => by simp at e
  | _, _, .cons x v _ _ h t, 0, y, e => by simp at e; subst e; exact ⟨v, rfl, h⟩
  | _, _, .cons _ _ _ _ _ t, i + 1, y, e => by simpa using t.get (i := i) (by simpa using e)
theorem LRel.of_get {ι : Inj} : ∀ {l : List AV} {L : List Value}, l.length = L.length → (∀ (i : Nat) (x : AV) (v : Value), l[i]? = some x → L[i]? = some v → VRel ι x v) → LRel ι l L
  | [], [], _, _ => .nil
  | [], _ :: _, e, _ => by simp at e
  | _ :: _, [], e, _ => by simp at e
  | x :: l, v :: L, e, h => .cons x v l L (h 0 x v rfl rfl) (LRel.of_get (by simpa using e) fun i y u hy hu => h (i + 1) y u (by simpa using hy) (by simpa using hu))
theorem LRel.append {ι : Inj} : ∀ {a : List AV} {A : List Value} {b : List AV} {B : List Value}, LRel ι a A → LRel ι b B → LRel ι (a ++ b) (A ++ B)
  | _, _, _, _, .nil, k => k
  | _, _, _, _, .cons x v l L h t, k => .cons x v _ _ h (t.append k)
theorem LRel.take {ι : Inj} : ∀ {a : List AV} {A : List Value} (n : Nat), LRel ι a A → LRel ι (a.take n) (A.take n)
  | _, _, 0, _ => by simpa using LRel.nil
  | _, _, n + 1, .nil => by simpa using LRel.nil
  | _, _, n + 1, .cons x v l L h t => by simpa using LRel.cons x v _ _ h (t.take n)
theorem LRel.drop {ι : Inj} : ∀ {a : List AV} {A : List Value} (n : Nat), LRel ι a A → LRel ι (a.drop n) (A.drop n)
  | _, _, 0, k => by simpa using k
  | _, _, n + 1, .nil => by simpa using LRel.nil
  | _, _, n + 1, .cons x v l L h t => by simpa using t.drop n

/-- A value of one cell. -/
theorem VRel.one {ι : Inj} {x : AV} {v : Value} (h : VRel ι x v) (e : x.one = true) : v.oneCell' = true := by
  cases h <;> first | rfl | (cases e; done)
/-- A value's cells. -/
theorem VRel.cells {ι : Inj} {x : AV} {v : Value} {l : List AV} (h : VRel ι x v) (e : x.cells = some l) : LRel ι l v.cells.toList := by
  cases h with
  | agg l' L h => cases e; simpa [Value.cells] using h
  | tup l' L h => cases e
  | any v => cases e
  | _ => cases e; exact .cons _ _ _ _ (by constructor <;> assumption) .nil

/-! ### the heap -/
def Blk.live : Blk → Bool
  | .dead => false
  | _ => true
def Blk.ro : Blk → Bool
  | .cells r _ => r
  | .map _ _ => false
  | .dead => true
  | .iter _ _ _ _ => false
  | .u8s _ => false
  | .chan _ => false
  | .arr _ _ _ => false
inductive ERel (ι : Inj) : List (AV × AV × Nat) → List MapEntry → Prop
  | nil : ERel ι [] []
  | cons (k x : AV) (n : Nat) (K X : Value) (l : List (AV × AV × Nat)) (L : List MapEntry) (hk : VRel ι k K) (hx : VRel ι x X) (t : ERel ι l L) :
      ERel ι ((k, x, n) :: l) (⟨K, X, n⟩ :: L)
theorem ERel.mono {ι κ : Inj} (hi : ι.le κ) : ∀ {l : List (AV × AV × Nat)} {L : List MapEntry}, ERel ι l L → ERel κ l L
  | _, _, .nil => .nil
  | _, _, .cons k x n K X l L hk hx t => .cons k x n K X l L (hk.mono hi) (hx.mono hi) (t.mono hi)

/-- the map that a walk goes over -/
def IRel (ι : Inj) (m : Option Pos) (R : Option Nat) : Prop :=
  match m, R with
  | none, none => True
  | some b, some r => ∃ z, ι b = some (r, 0, z)
  | _, _ => False
theorem IRel.mono {ι κ : Inj} (hi : ι.le κ) {m : Option Pos} {R : Option Nat} (h : IRel ι m R) : IRel κ m R := by
  cases m with
  | none => cases R with
    | none => trivial
    | some r => exact h.elim
  | some b => cases R with
    | none => exact h.elim
    | some r => obtain ⟨z, hz⟩ := h; exact ⟨z, hi.app _ _ hz⟩
def BRel (ι : Inj) (w : World) (r d z : Nat) : Blk → Prop
  | .cells ro l => l.length ≤ z ∧ (∀ j x, l[j]? = some x → ∃ v, w.cell? ⟨r, d + j, none⟩ = some v ∧ VRel ι x v) ∧
      (ro = false → ∀ j, j < z → (w.cell? ⟨r, d + j, none⟩).isSome = true ∧ w.frozen? ⟨r, d + j, none⟩ = false)
  | .map es clk => d = 0 ∧ ∃ ES : Array MapEntry, w.heap[r]? = some (.map ES clk) ∧ ERel ι es ES.toList
  | .dead => True
  | .iter m since seen last => d = 0 ∧ ∃ (R : Option Nat) (S : Array Nat), w.heap[r]? = some (.mapIter R since S last) ∧ S.toList = seen.reverse ∧ IRel ι m R
  | .u8s t => ∃ n Z, z = code n Z ∧ (∀ j, j < n → ∃ x : Int, w.cell? ⟨r, d + j, none⟩ = some (.int .u8 x)) ∧ (∀ j, j < Z → (w.cell? ⟨r, d + j, none⟩).isSome = true ∧ w.frozen? ⟨r, d + j, none⟩ = false) ∧
      ∀ l, t = some l → TksOk ι.s l ∧ (tksB ι.s l).length = n ∧ ∀ (j x : Nat), (tksB ι.s l)[j]? = some x → w.cell? ⟨r, d + j, none⟩ = some (.int .u8 x)
  | .chan cl => d = 0 ∧ ∃ cap s q tm, w.heap[r]? = some (.chan cap #[] cl s q tm)
  | .arr u t n => n ≤ z ∧ (∀ j, j < n → ∃ v, w.cell? ⟨r, d + j, none⟩ = some v ∧ VRel ι (arrG u t j) v) ∧ ∀ j, j < z → (w.cell? ⟨r, d + j, none⟩).isSome = true ∧ w.frozen? ⟨r, d + j, none⟩ = false
theorem BRel.mono {ι κ : Inj} (hi : ι.le κ) {w : World} {r d z : Nat} : ∀ {x : Blk}, BRel ι w r d z x → BRel κ w r d z x
  | .cells _ _, ⟨hl, h, hf⟩ => ⟨hl, fun j x e => let ⟨v, a, b⟩ := h j x e; ⟨v, a, b.mono hi⟩, hf⟩
  | .map _ _, ⟨h0, ES, h1, h2⟩ => ⟨h0, ES, h1, h2.mono hi⟩
  | .dead, _ => trivial
  | .iter _ _ _ _, ⟨h0, R, S, h1, h2, h3⟩ => ⟨h0, R, S, h1, h2, h3.mono hi⟩
  | .u8s _, ⟨n, Z, h1, h2, h3, h4⟩ => ⟨n, Z, h1, h2, h3, by rw [hi.s]; exact h4⟩
  | .chan _, h => h
  | .arr _ _ _, ⟨hl, h, hf⟩ => ⟨hl, fun j hj => let ⟨v, a, b⟩ := h j hj; ⟨v, a, b.mono hi⟩, hf⟩
/-- The block as it was: of a world in which it is the same. -/
theorem BRel.same {ι : Inj} {w w' : World} {r d z : Nat} (hb : w'.heap[r]? = w.heap[r]?) : ∀ {x : Blk}, BRel ι w r d z x → BRel ι w' r d z x
  | .cells _ _, ⟨hl, h, hf⟩ => ⟨hl, fun j x e => let ⟨v, a, b⟩ := h j x e; ⟨v, (by rw [World.cell?_of_block (w := w) hb]; exact a), b⟩,
      fun hr j hj => by
        obtain ⟨a, b⟩ := hf hr j hj
        exact ⟨by rw [World.cell?_of_block (w := w) hb]; exact a, by rw [World.frozen?_of_block (w := w) hb]; exact b⟩⟩
  | .map _ _, ⟨h0, ES, h1, h2⟩ => ⟨h0, ES, by rw [hb]; exact h1, h2⟩
  | .dead, _ => trivial
  | .iter _ _ _ _, ⟨h0, R, S, h1, h2, h3⟩ => ⟨h0, R, S, by rw [hb]; exact h1, h2, h3⟩
  | .u8s _, ⟨n, Z, hz, h, hf, ht⟩ => ⟨n, Z, hz, fun j hj => let ⟨x, hx⟩ := h j hj; ⟨x, (by rw [World.cell?_of_block (w := w) hb]; exact hx)⟩,
      fun j hj => by
        obtain ⟨a, b⟩ := hf j hj
        exact ⟨by rw [World.cell?_of_block (w := w) hb]; exact a, by rw [World.frozen?_of_block (w := w) hb]; exact b⟩,
      fun l e => by
        obtain ⟨a, b, c⟩ := ht l e
        exact ⟨a, b, fun j x hx => by rw [World.cell?_of_block (w := w) hb]; exact c j x hx⟩⟩
  | .chan _, ⟨h0, cap, s, q, tm, h⟩ => ⟨h0, cap, s, q, tm, by rw [hb]; exact h⟩
  | .arr _ _ _, ⟨hl, h, hf⟩ => ⟨hl, fun j hj => let ⟨v, a, b⟩ := h j hj; ⟨v, (by rw [World.cell?_of_block (w := w) hb]; exact a), b⟩,
      fun j hj => by
        obtain ⟨a, b⟩ := hf j hj
        exact ⟨by rw [World.cell?_of_block (w := w) hb]; exact a, by rw [World.frozen?_of_block (w := w) hb]; exact b⟩⟩

structure Rl (E : Env) (base : Nat) (w0 : World) (ι : Inj) (H : Hp) (w : World) : Prop where
  blk : ∀ b r d z x, ι b = some (r, d, z) → H.m.get b = some x → BRel ι w r d z x
  inj : ∀ b b' r d d' z z' x x', ι b = some (r, d, z) → ι b' = some (r, d', z') → H.m.get b = some x → H.m.get b' = some x' → x.live = true → x'.live = true → b = b'
  fresh : ∀ b : Pos, H.nx.nat ≤ b.nat → ι b = none ∧ H.m.get b = none
  size : ∀ b r d z, ι b = some (r, d, z) → r < w.heap.size
  own : ∀ b r d z x, ι b = some (r, d, z) → H.m.get b = some x → x.ro = false → base ≤ r
  below : Below base w0 w
  base_le : base ≤ w.heap.size
  glob : ∀ g b, E.gl g = some b → ∃ z, ι b = some (g, 0, z)

/-- From one heap to a later one: what has no image stays as it is. -/
structure Stp (ι ι' : Inj) (H H' : Hp) : Prop where
  le : ι.le ι'
  keep : ∀ b : Pos, b.nat < H.nx.nat → ι b = none → ι' b = none ∧ H'.m.get b = H.m.get b
  nx : H.nx.nat ≤ H'.nx.nat
theorem Stp.refl (ι : Inj) (H : Hp) : Stp ι ι H H := ⟨Inj.le_refl _, fun _ _ h => ⟨h, rfl⟩, Nat.le_refl _⟩
theorem Stp.trans {a b c : Inj} {H1 H2 H3 : Hp} (h : Stp a b H1 H2) (k : Stp b c H2 H3) : Stp a c H1 H3 :=
  ⟨Inj.le_trans h.le k.le, fun p hp e => by
    obtain ⟨e1, e2⟩ := h.keep p hp e
    obtain ⟨e3, e4⟩ := k.keep p (Nat.lt_of_lt_of_le hp h.nx) e1
    exact ⟨e3, e4.trans e2⟩, Nat.le_trans h.nx k.nx⟩

variable {E : Env} {base : Nat} {w0 : World} {ι : Inj} {H : Hp} {w : World}

/-- A world whose heap is the same. -/
theorem Rl.of_heap (h : Rl E base w0 ι H w) {w' : World} (hh : w'.heap = w.heap) (ho : w'.os = w.os) (ht : w'.tape = w.tape) (hp : w'.output = w.output) : Rl E base w0 ι H w' where
  blk b r d z x e g := (h.blk b r d z x e g).same (by rw [hh])
  inj := h.inj
  fresh := h.fresh
  size b r d z e := by rw [hh]; exact h.size b r d z e
  own := h.own
  below := ⟨by rw [ho, h.below.os], by rw [ht, h.below.tape], by rw [hp, h.below.output], by rw [hh]; exact h.below.size, fun k hk => by rw [hh]; exact h.below.block k hk⟩
  base_le := by rw [hh]; exact h.base_le
  glob := h.glob
theorem Rl.drew (h : Rl E base w0 ι H w) : Rl E base w0 ι H w.drew := h.of_heap rfl rfl rfl rfl

noncomputable def upd (ι : Inj) (b : Pos) (x : Nat × Nat × Nat) : Inj := ⟨fun p => if p.nat = b.nat then some x else ι p, ι.s⟩
theorem upd_same (ι : Inj) (b : Pos) (x : Nat × Nat × Nat) : upd ι b x b = some x := by simp [upd]
theorem upd_ne (ι : Inj) {b p : Pos} (x : Nat × Nat × Nat) (h : p ≠ b) : upd ι b x p = ι p := by
  show (if p.nat = b.nat then some x else ι p) = _
  rw [if_neg fun e => h (Pos.nat_inj e)]
theorem upd_le {ι : Inj} {b : Pos} {x : Nat × Nat × Nat} (h : ι b = none) : ι.le (upd ι b x) := by
  refine ⟨fun p y e => ?_, rfl⟩
  rw [upd_ne]; exact e
  intro e'; rw [e', h] at e; cases e

@[simp] theorem new_eq {β : Type} (H : Hp) (x : Blk) (k : Pos → Hp → β) : H.new x k = k H.nx ⟨H.m.set H.nx x, H.nx.succ⟩ := by unfold Hp.new; rw [frc_eq]
@[simp] theorem put_eq (H : Hp) (b : Pos) (x : Blk) : H.put b x = ⟨H.m.set b x, H.nx⟩ := by unfold Hp.put; rw [frc_eq]

/-- A new abstract block, that lies in a block of the model's which no live one lies in. -/
theorem Rl.add (h : Rl E base w0 ι H w) {w' : World} (r d z : Nat) (x : Blk) (hx : ∀ κ : Inj, ι.le κ → BRel κ w' r d z x)
    (hold : ∀ b r' d' z' y, ι b = some (r', d', z') → H.m.get b = some y → BRel ι w' r' d' z' y) (hs : w.heap.size ≤ w'.heap.size) (hr : r < w'.heap.size) (hbr : base ≤ r) (hb : Below base w0 w')
    (hfree : ∀ b d' z' y, ι b = some (r, d', z') → H.m.get b = some y → y.live = false) :
    Rl E base w0 (upd ι H.nx (r, d, z)) ⟨H.m.set H.nx x, H.nx.succ⟩ w' ∧ Stp ι (upd ι H.nx (r, d, z)) H ⟨H.m.set H.nx x, H.nx.succ⟩ := by
  have hn := (h.fresh H.nx (Nat.le_refl _)).1
  have hle : ι.le (upd ι H.nx (r, d, z)) := upd_le hn
  have old : ∀ b y, upd ι H.nx (r, d, z) b = some y → b ≠ H.nx → ι b = some y := fun b y e ne => by rw [upd_ne _ _ ne] at e; exact e
  refine ⟨⟨?_, ?_, ?_, ?_, ?_, hb, by have := h.base_le; omega, ?_⟩, ⟨hle, ?_, by simp⟩⟩
  · intro b r' d' z' y e g
    by_cases hb : b = H.nx
    · subst hb
      rw [upd_same] at e; cases e
      rw [get_set_same] at g; cases g
      exact hx _ hle
    · rw [get_set_ne _ _ _ _ hb] at g
      exact (hold b r' d' z' y (old b _ e hb) g).mono hle
  · intro b b' r1 d1 d2 z1 z2 y y' e e' g g' hl hl'
    by_cases hb : b = H.nx
    · by_cases hb' : b' = H.nx
      · rw [hb, hb']
      · subst hb
        rw [upd_same] at e; cases e
        rw [get_set_ne _ _ _ _ hb'] at g'
        have := hfree b' _ _ y' (old b' _ e' hb') g'
        rw [hl'] at this; cases this
    · by_cases hb' : b' = H.nx
      · subst hb'
        rw [upd_same] at e'; cases e'
        rw [get_set_ne _ _ _ _ hb] at g
        have := hfree b _ _ y (old b _ e hb) g
        rw [hl] at this; cases this
      · rw [get_set_ne _ _ _ _ hb] at g
        rw [get_set_ne _ _ _ _ hb'] at g'
        exact h.inj b b' r1 d1 d2 z1 z2 y y' (old b _ e hb) (old b' _ e' hb') g g' hl hl'
  · intro b hb
    have hb' : H.nx.nat + 1 ≤ b.nat := by simpa using hb
    have hne : b ≠ H.nx := by intro e; rw [e] at hb'; omega
    obtain ⟨f1, f2⟩ := h.fresh b (by omega)
    exact ⟨by rw [upd_ne _ _ hne]; exact f1, by rw [get_set_ne _ _ _ _ hne]; exact f2⟩
  · intro b r' d' z' e
    by_cases hb : b = H.nx
    · subst hb; rw [upd_same] at e; cases e; exact hr
    · have := h.size b r' d' z' (old b _ e hb); omega
  · intro b r' d' z' y e g hro
    by_cases hb : b = H.nx
    · subst hb; rw [upd_same] at e; cases e; exact hbr
    · rw [get_set_ne _ _ _ _ hb] at g
      exact h.own b r' d' z' y (old b _ e hb) g hro
  · intro g b e
    obtain ⟨z', hz'⟩ := h.glob g b e
    exact ⟨z', hle.app _ _ hz'⟩
  · intro b hb e
    have hne : b ≠ H.nx := by intro e'; rw [e'] at hb; omega
    exact ⟨by rw [upd_ne _ _ hne]; exact e, by rw [get_set_ne _ _ _ _ hne]⟩

/-- A new block, here and there. -/
theorem Rl.alloc (h : Rl E base w0 ι H w) (o : Obj) (z : Nat) (x : Blk) (hx : ∀ κ : Inj, ι.le κ → BRel κ (w.alloc o) w.heap.size 0 z x) :
    Rl E base w0 (upd ι H.nx (w.heap.size, 0, z)) ⟨H.m.set H.nx x, H.nx.succ⟩ (w.alloc o) ∧ Stp ι (upd ι H.nx (w.heap.size, 0, z)) H ⟨H.m.set H.nx x, H.nx.succ⟩ :=
  h.add w.heap.size 0 z x hx (fun b r' d' z' y e g => (h.blk b r' d' z' y e g).same (Below.heap_alloc w o r' (h.size b r' d' z' e))) (by simp) (by simp) h.base_le (h.below.alloc h.base_le o)
    (fun b d' z' y e _ => by have := h.size b _ d' z' e; omega)

/-- A block is written, here and there: a world in which no other block has turned. -/
theorem Rl.write (h : Rl E base w0 ι H w) {b : Pos} {r d z : Nat} {x y : Blk} (e : ι b = some (r, d, z)) (g : H.m.get b = some x) (hl : x.live = true) (hro : x.ro = false)
    {w' : World} (hoth : ∀ k, k ≠ r → w'.heap[k]? = w.heap[k]?) (hs : w'.heap.size = w.heap.size) (ho : w'.os = w.os) (ht : w'.tape = w.tape) (hp : w'.output = w.output)
    (hy : BRel ι w' r d z y) : Rl E base w0 ι ⟨H.m.set b y, H.nx⟩ w' ∧ Stp ι ι H ⟨H.m.set b y, H.nx⟩ := by
  have hbase := h.own b r d z x e g hro
  refine ⟨⟨?_, ?_, ?_, ?_, ?_, ?_, ?_, h.glob⟩, ⟨Inj.le_refl _, ?_, Nat.le_refl _⟩⟩
  · intro b' r' d' z' u e' g'
    by_cases hb : b' = b
    · subst hb; rw [e] at e'; cases e'; rw [get_set_same] at g'; cases g'; exact hy
    · rw [get_set_ne _ _ _ _ hb] at g'
      have old := h.blk b' r' d' z' u e' g'
      by_cases hr : r' = r
      · cases u with
        | iter m s q l => subst hr; exact absurd (h.inj b' b r' d' d z' z _ x e' e g' g rfl hl) hb
        | dead => trivial
        | cells ro l => subst hr; exact absurd (h.inj b' b r' d' d z' z _ x e' e g' g rfl hl) hb
        | map es c => subst hr; exact absurd (h.inj b' b r' d' d z' z _ x e' e g' g rfl hl) hb
        | u8s t => subst hr; exact absurd (h.inj b' b r' d' d z' z _ x e' e g' g rfl hl) hb
        | chan cl => subst hr; exact absurd (h.inj b' b r' d' d z' z _ x e' e g' g rfl hl) hb
        | arr u t n => subst hr; exact absurd (h.inj b' b r' d' d z' z _ x e' e g' g rfl hl) hb
      · exact old.same (hoth r' hr)
  · intro b1 b2 r1 d1 d2 z1 z2 x1 x2 e1 e2 g1 g2 l1 l2
    have look : ∀ {p : Pos} {u : Blk}, (PT.set b y H.m).get p = some u → u.live = true → ∃ u', H.m.get p = some u' ∧ u'.live = true := by
      intro p u gp lp
      by_cases hp' : p = b
      · subst hp'; exact ⟨x, g, hl⟩
      · rw [get_set_ne _ _ _ _ hp'] at gp; exact ⟨u, gp, lp⟩
    obtain ⟨u1, g1', l1'⟩ := look g1 l1
    obtain ⟨u2, g2', l2'⟩ := look g2 l2
    exact h.inj b1 b2 r1 d1 d2 z1 z2 u1 u2 e1 e2 g1' g2' l1' l2'
  · intro p hp'
    obtain ⟨f1, f2⟩ := h.fresh p hp'
    have hne : p ≠ b := by intro e'; rw [e', e] at f1; cases f1
    exact ⟨f1, by rw [get_set_ne _ _ _ _ hne]; exact f2⟩
  · intro p r' d' z' e'; rw [hs]; exact h.size p r' d' z' e'
  · intro p r' d' z' u e' g' hz
    by_cases hb : p = b
    · subst hb; rw [e] at e'; cases e'; exact hbase
    · rw [get_set_ne _ _ _ _ hb] at g'; exact h.own p r' d' z' u e' g' hz
  · exact ⟨by rw [ho, h.below.os], by rw [ht, h.below.tape], by rw [hp, h.below.output], by rw [hs]; exact h.below.size, fun k hk => by rw [hoth k (by omega)]; exact h.below.block k hk⟩
  · rw [hs]; exact h.base_le
  · intro p _ e'
    have hne : p ≠ b := by intro e''; rw [e'', e] at e'; cases e'
    exact ⟨e', by rw [get_set_ne _ _ _ _ hne]⟩

/-! ### to know less -/
/-- Of a block less is said. -/
def BLe (y x : Blk) : Prop := x = y ∨ x = .dead ∨ (∃ u u' t t' n, y = .arr u t n ∧ x = .arr u' t' n ∧ ∀ j, j < n → arrG u' t' j = arrG u t j) ∨ ∃ (ro : Bool) (l l' : List AV), y = .cells ro l ∧ x = .cells ro l' ∧ l'.length = l.length ∧ ∀ j : Nat, l'[j]? = l[j]? ∨ l'[j]? = some AV.any
theorem BLe.live {y x : Blk} (h : BLe y x) (hl : x.live = true) : y.live = true := by
  rcases h with rfl | rfl | ⟨u, u', t, t', n, rfl, rfl, _⟩ | ⟨ro, l, l', rfl, rfl, _⟩
  · exact hl
  · cases hl
  · rfl
  · rfl
theorem BLe.ro {y x : Blk} (h : BLe y x) (hl : x.ro = false) : y.ro = false := by
  rcases h with rfl | rfl | ⟨u, u', t, t', n, rfl, rfl, _⟩ | ⟨ro, l, l', rfl, rfl, _⟩
  · exact hl
  · cases hl
  · rfl
  · exact hl
theorem BLe.rel {y x : Blk} (h : BLe y x) {r d z : Nat} (hb : BRel ι w r d z y) : BRel ι w r d z x := by
  rcases h with rfl | rfl | ⟨u, u', t, t', n, rfl, rfl, hj⟩ | ⟨ro, l, l', rfl, rfl, hl, hj⟩
  · exact hb
  · trivial
  · exact ⟨hb.1, fun j h => by obtain ⟨v, h1, h2⟩ := hb.2.1 j h; exact ⟨v, h1, by rw [hj j h]; exact h2⟩, hb.2.2⟩
  · refine ⟨by rw [hl]; exact hb.1, fun j x hx => ?_, hb.2.2⟩
    rcases hj j with h1 | h1
    · exact hb.2.1 j x (h1 ▸ hx)
    · have hlt : j < l.length := by rw [← hl]; exact (List.getElem?_eq_some_iff.1 hx).1
      obtain ⟨v, h2, _⟩ := hb.2.1 j l[j] (List.getElem?_eq_getElem hlt)
      rw [h1] at hx
      cases hx
      exact ⟨v, h2, .any v⟩
/-- Of a heap less is said. -/
structure Wk (ι : Inj) (H H' : Hp) : Prop where
  nx : H'.nx = H.nx
  same : ∀ b, ι b = none → H'.m.get b = H.m.get b
  blk : ∀ b x, H'.m.get b = some x → ∃ y, H.m.get b = some y ∧ BLe y x
theorem Rl.weaken {H' : Hp} (h : Rl E base w0 ι H w) (k : Wk ι H H') : Rl E base w0 ι H' w where
  blk b r d z x e g := by
    obtain ⟨y, hy, hle⟩ := k.blk b x g
    exact hle.rel (h.blk b r d z y e hy)
  inj b b' r d d' z z' x x' e e' g g' l l' := by
    obtain ⟨y, hy, hle⟩ := k.blk b x g
    obtain ⟨y', hy', hle'⟩ := k.blk b' x' g'
    exact h.inj b b' r d d' z z' y y' e e' hy hy' (hle.live l) (hle'.live l')
  fresh b hb := by
    rw [k.nx] at hb
    obtain ⟨f1, f2⟩ := h.fresh b hb
    exact ⟨f1, (k.same b f1).trans f2⟩
  size := h.size
  own b r d z x e g hro := by
    obtain ⟨y, hy, hle⟩ := k.blk b x g
    exact h.own b r d z y e hy (hle.ro hro)
  below := h.below
  base_le := h.base_le
  glob := h.glob
/-- Less may be said of a heap, what has no image left aside. -/
theorem Rl.weaken0 {H' : Hp} (h : Rl E base w0 ι H w) (hn : H'.nx = H.nx) (k : ∀ b x, H'.m.get b = some x → ∃ y, H.m.get b = some y ∧ BLe y x) : Rl E base w0 ι H' w where
  blk b r d z x e g := by
    obtain ⟨y, hy, hle⟩ := k b x g
    exact hle.rel (h.blk b r d z y e hy)
  inj b b' r d d' z z' x x' e e' g g' l l' := by
    obtain ⟨y, hy, hle⟩ := k b x g
    obtain ⟨y', hy', hle'⟩ := k b' x' g'
    exact h.inj b b' r d d' z z' y y' e e' hy hy' (hle.live l) (hle'.live l')
  fresh b hb := by
    rw [hn] at hb
    obtain ⟨f1, f2⟩ := h.fresh b hb
    refine ⟨f1, ?_⟩
    cases hx : H'.m.get b with
    | none => rfl
    | some x =>
      obtain ⟨y, hy, _⟩ := k b x hx
      rw [f2] at hy; cases hy
  size := h.size
  own b r d z x e g hro := by
    obtain ⟨y, hy, hle⟩ := k b x g
    exact h.own b r d z y e hy (hle.ro hro)
  below := h.below
  base_le := h.base_le
  glob := h.glob
end Go.Ev
