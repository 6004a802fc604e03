/- Calls that were run beforehand over a heap of a few blocks, with what they leave: told wherever such blocks stand. -/
import Derived.Test.YtjpjiognghcojaaGreatDoorEvRow
import Derived.Test.YtjpjiognghcojaaGreatDoorEvLd
namespace Go.Ev
set_option maxRecDepth 100000
open Go.Proofs
open Go.RowKit (Below)
structure Memo where
  f : Nat
  ins : List (List AV)
  args : List AV
  v : AV
  outs : List (Pos × List AV)
noncomputable def memoH (M : Memo) : Hp := ⟨mkPT (Blk.cells true asciiSp :: M.ins.map (Blk.cells true)), Pos.of (1 + M.ins.length)⟩
noncomputable def awk (d : Nat) : AV → AV → Bool :=
  Nat.rec (motive := fun _ => AV → AV → Bool) (fun _ _ => false) (fun _ ih x y => match y, x with
    | .any, _ => true
    | .agg b, .agg a => lbeq ih a b
    | .tup b, .tup a => lbeq ih a b
    | y, x => abeq 8 x y) d
noncomputable def pwk (a : List AV) : List AV → Bool :=
  List.rec (motive := fun _ => List AV → Bool) (fun b => List.rec (motive := fun _ => Bool) true (fun _ _ _ => false) b)
    (fun x _ ih b => List.rec (motive := fun _ => Bool) true (fun y ys _ => iand (awk 8 x y) (ih ys)) b) a
noncomputable def outB (H : Hp) (outs : List (Pos × List AV)) : Bool := allB (fun p => H.cells p.1 false fun ro l => iand (inot ro) (pwk l p.2)) outs
noncomputable def memoR (M : Memo) (r : CR) : Bool := CR.rec (motive := fun _ => Bool) (fun v H => iand (awk 8 v M.v) (outB H M.outs)) (fun _ _ => false) false r
theorem lbeq_rel {ι : Inj} {f : AV → AV → Bool} (hf : ∀ x y c, f x y = true → VRel ι x c → VRel ι y c) : ∀ {a b : List AV} {L : List Value}, lbeq f a b = true → LRel ι a L → LRel ι b L
  | [], [], _, _, h => h
  | [], _ :: _, _, h, _ => by cases h
  | _ :: _, [], _, h, _ => by cases h
  | x :: a, y :: b, L, h, hl => by
    replace h : iand (f x y) (lbeq f a b) = true := h
    rw [iand_eq, Bool.and_eq_true] at h
    cases hl with
    | cons _ v _ L hx t => exact .cons y v b L (hf x y v h.1 hx) (lbeq_rel hf h.2 t)
theorem awk_rel {ι : Inj} : ∀ (d : Nat) (x y : AV) (c : Value), awk d x y = true → VRel ι x c → VRel ι y c
  | 0, _, _, _, h, _ => by cases h
  | d + 1, x, y, c, h, hx => by
    have key : (∃ a b, x = .agg a ∧ y = .agg b ∧ lbeq (awk d) a b = true) ∨ (∃ a b, x = .tup a ∧ y = .tup b ∧ lbeq (awk d) a b = true) ∨ y = .any ∨ abeq 8 x y = true := by
      cases y with
      | any => exact .inr (.inr (.inl rfl))
      | agg b => cases x with
        | agg a => exact .inl ⟨a, b, rfl, rfl, h⟩
        | _ => exact .inr (.inr (.inr h))
      | tup b => cases x with
        | tup a => exact .inr (.inl ⟨a, b, rfl, rfl, h⟩)
        | _ => exact .inr (.inr (.inr h))
      | _ => cases x <;> exact .inr (.inr (.inr h))
    rcases key with ⟨a, b, rfl, rfl, k⟩ | ⟨a, b, rfl, rfl, k⟩ | rfl | k
    · cases hx with | agg _ L hl => exact .agg b L (lbeq_rel (fun x y c h hv => awk_rel d x y c h hv) k hl)
    · cases hx with | tup _ L hl => exact .tup b L (lbeq_rel (fun x y c h hv => awk_rel d x y c h hv) k hl)
    · exact .any _
    · rw [← abeq_eq 8 _ _ k]; exact hx
theorem pwk_get : ∀ {a b : List AV} {i : Nat} {y : AV}, pwk a b = true → b[i]? = some y → ∃ x, a[i]? = some x ∧ awk 8 x y = true
  | _, [], _, _, _, h => by cases h
  | [], _ :: _, _, _, h, _ => by cases h
  | x :: a, y' :: b, i, y, h, hi => by
    replace h : iand (awk 8 x y') (pwk a b) = true := h
    rw [iand_eq, Bool.and_eq_true] at h
    cases i with
    | zero => cases hi; exact ⟨x, rfl, h.1⟩
    | succ i => exact pwk_get (i := i) h.2 hi
theorem pwk_len : ∀ {a b : List AV}, pwk a b = true → b.length ≤ a.length
  | a, [], _ => Nat.zero_le _
  | [], _ :: _, h => by cases h
  | x :: a, y :: b, h => by
    replace h : iand (awk 8 x y) (pwk a b) = true := h
    rw [iand_eq, Bool.and_eq_true] at h
    exact Nat.succ_le_succ (pwk_len h.2)
noncomputable def seqP (n : Nat) : Pos → List Pos := Nat.rec (motive := fun _ => Pos → List Pos) (fun _ => []) (fun _ ih b => b :: ih b.succ) n
noncomputable def zipP (l k : List Pos) (t : PT Pos) : PT Pos := List.rec (motive := fun _ => List Pos → PT Pos) (fun _ => t) (fun x _ ih k => List.rec (motive := fun _ => PT Pos) t (fun y ys _ => (ih ys).set x y) k) l k
noncomputable def insM (M : Memo) (b : Pos) : PT Pos := zipP (seqP M.ins.length (Pos.of 1)) (seqP M.ins.length b) .l
noncomputable def outsP (l : List (Pos × List AV)) : List Pos := l.map (·.1)
noncomputable def outM (M : Memo) (nx : Pos) (φ : PT Pos) : PT Pos := zipP (outsP M.outs) (seqP M.outs.length nx) φ
noncomputable def insOk (φ : PT Pos) (ins : List (List AV)) (H : Hp) : Pos → Bool :=
  List.rec (motive := fun _ => Pos → Bool) (fun _ => true) (fun x _ ih b => iand (H.cells b false fun ro l => iand (inot ro) (opt (mapO (rnV φ 8) x) false fun l' => lbeq (abeq 8) l' l)) (ih b.succ)) ins
noncomputable def newB (χ : PT Pos) (outs : List (Pos × List AV)) : Hp → Option Hp :=
  List.rec (motive := fun _ => Hp → Option Hp) some (fun p _ ih H => opt (mapO (rnV χ 8) p.2) none fun l => H.new (.cells false l) fun _ H' => ih H') outs
noncomputable def memoS (M : Memo) (fb : List AV → Option Pos) (args : List AV) (H : Hp) : Option (AV × Hp) :=
  opt (fb args) none fun b => opt (mapO (rnV (insM M b) 8) M.args) none fun ax => cnd (iand (lbeq (abeq 8) ax args) (insOk (insM M b) M.ins H b))
    (opt (rnV (outM M H.nx (insM M b)) 8 M.v) none fun v => opt (newB (outM M H.nx (insM M b)) M.outs H) none fun H' => some (v, H')) none

theorem seqP_len : ∀ (n : Nat) (b : Pos), (seqP n b).length = n
  | 0, _ => rfl
  | n + 1, b => by show (b :: seqP n b.succ).length = _; rw [List.length_cons, seqP_len n]
theorem seqP_get : ∀ (n : Nat) (b : Pos) (j : Nat) (p : Pos), (seqP n b)[j]? = some p → j < n ∧ p.nat = b.nat + j
  | 0, _, _, _, h => by cases h
  | n + 1, b, 0, p, h => by cases h; exact ⟨by omega, rfl⟩
  | n + 1, b, j + 1, p, h => by
    obtain ⟨h1, h2⟩ := seqP_get n b.succ j p h
    have : b.succ.nat = b.nat + 1 := by simp
    exact ⟨by omega, by omega⟩
theorem seqP_at {n : Nat} {b : Pos} {j : Nat} (h : j < n) : ∃ p, (seqP n b)[j]? = some p ∧ p.nat = b.nat + j := by
  have hl : j < (seqP n b).length := by rw [seqP_len]; exact h
  exact ⟨_, List.getElem?_eq_getElem hl, (seqP_get n b j _ (List.getElem?_eq_getElem hl)).2⟩
theorem zipP_get : ∀ (l k : List Pos) (t : PT Pos) (b b' : Pos), (zipP l k t).get b = some b' → (∃ j : Nat, l[j]? = some b ∧ k[j]? = some b') ∨ t.get b = some b'
  | [], _, _, _, _, h => .inr h
  | _ :: _, [], _, _, _, h => .inr h
  | x :: l, y :: k, t, b, b', h => by
    replace h : ((zipP l k t).set x y).get b = some b' := h
    by_cases e : b = x
    · subst e
      rw [get_set_same] at h
      cases h
      exact .inl ⟨0, rfl, rfl⟩
    · rw [get_set_ne _ _ _ _ e] at h
      rcases zipP_get l k t b b' h with ⟨j, h1, h2⟩ | h1
      · exact .inl ⟨j + 1, h1, h2⟩
      · exact .inr h1
theorem insM_get {M : Memo} {b p q : Pos} (h : (insM M b).get p = some q) : ∃ i, i < M.ins.length ∧ p.nat = 2 + i ∧ q.nat = b.nat + i := by
  rcases zipP_get _ _ _ _ _ h with ⟨j, h1, h2⟩ | h1
  · obtain ⟨a1, a2⟩ := seqP_get _ _ _ _ h1
    obtain ⟨b1, b2⟩ := seqP_get _ _ _ _ h2
    exact ⟨j, a1, by rw [a2]; simp, b2⟩
  · rw [get_leaf] at h1; cases h1
theorem outM_get {M : Memo} {nx p q : Pos} {φ : PT Pos} (h : (outM M nx φ).get p = some q) : (∃ j l, M.outs[j]? = some (p, l) ∧ q.nat = nx.nat + j) ∨ φ.get p = some q := by
  rcases zipP_get _ _ _ _ _ h with ⟨j, h1, h2⟩ | h1
  · obtain ⟨_, b2⟩ := seqP_get _ _ _ _ h2
    unfold outsP at h1
    rw [List.getElem?_map] at h1
    cases ho : M.outs[j]? with
    | none => rw [ho] at h1; cases h1
    | some x =>
      rw [ho] at h1
      obtain ⟨p', l⟩ := x
      cases h1
      exact .inl ⟨j, l, ho, b2⟩
  · exact .inr h1
theorem insOk_get {φ : PT Pos} {H : Hp} : ∀ {ins : List (List AV)} {b : Pos} {i : Nat} {x : List AV}, insOk φ ins H b = true → ins[i]? = some x → ∃ p l, p.nat = b.nat + i ∧ H.m.get p = some (.cells false l) ∧ mapO (rnV φ 8) x = some l
  | [], _, _, _, _, h => by cases h
  | y :: ins, b, i, x, h, hi => by
    replace h : iand (H.cells b false fun ro l => iand (inot ro) (opt (mapO (rnV φ 8) y) false fun l' => lbeq (abeq 8) l' l)) (insOk φ ins H b.succ) = true := h
    rw [iand_eq, Bool.and_eq_true] at h
    cases i with
    | zero =>
      cases hi
      obtain ⟨h1, _⟩ := h
      unfold Hp.cells at h1
      cases hg : H.m.get b with
      | none => rw [hg] at h1; cases h1
      | some z =>
        rw [hg] at h1
        cases z with
        | cells ro l =>
          replace h1 : iand (inot ro) (opt (mapO (rnV φ 8) y) false fun l' => lbeq (abeq 8) l' l) = true := h1
          rw [iand_eq, Bool.and_eq_true] at h1
          cases ro with
          | true => cases h1.1
          | false =>
            cases hm : mapO (rnV φ 8) y with
            | none => rw [hm] at h1; cases h1.2
            | some l' =>
              rw [hm] at h1
              have := lbeq_eq (abeq_eq 8) h1.2
              subst this
              exact ⟨b, _, rfl, hg, rfl⟩
        | _ => cases h1
    | succ i =>
      obtain ⟨p, l, e1, e2, e3⟩ := insOk_get (b := b.succ) (i := i) h.2 hi
      exact ⟨p, l, by rw [e1]; simp; omega, e2, e3⟩
theorem newB_get {χ : PT Pos} : ∀ {outs : List (Pos × List AV)} {H H' : Hp}, newB χ outs H = some H' → H'.nx.nat = H.nx.nat + outs.length ∧ (∀ p, p.nat < H.nx.nat → H'.m.get p = H.m.get p) ∧ (∀ p, H.nx.nat + outs.length ≤ p.nat → H'.m.get p = H.m.get p) ∧
    ∀ j x, outs[j]? = some x → ∃ l, mapO (rnV χ 8) x.2 = some l ∧ ∀ p : Pos, p.nat = H.nx.nat + j → H'.m.get p = some (.cells false l)
  | [], H, H', h => by cases h; exact ⟨rfl, fun _ _ => rfl, fun _ _ => rfl, fun _ _ h => by cases h⟩
  | x :: outs, H, H', h => by
    replace h : opt (mapO (rnV χ 8) x.2) none (fun l => H.new (.cells false l) fun _ H' => newB χ outs H') = some H' := h
    obtain ⟨l, h1, h2⟩ := opt_eq_some h
    rw [new_eq] at h2
    obtain ⟨e1, e2, e3, e4⟩ := newB_get h2
    have hs : (⟨H.m.set H.nx (.cells false l), H.nx.succ⟩ : Hp).nx.nat = H.nx.nat + 1 := by simp
    rw [hs] at e1 e2 e3 e4
    refine ⟨by rw [e1, List.length_cons]; omega, fun p hp => ?_, fun p hp => ?_, fun j y hy => ?_⟩
    · rw [e2 p (by omega)]
      exact get_set_ne _ _ _ _ (fun e => by rw [e] at hp; omega)
    · rw [List.length_cons] at hp
      rw [e3 p (by omega)]
      exact get_set_ne _ _ _ _ (fun e => by rw [e] at hp; omega)
    · cases j with
      | zero =>
        cases hy
        refine ⟨l, h1, fun p hp => ?_⟩
        have : p = H.nx := Pos.nat_inj (by omega)
        subst this
        rw [e2 _ (by omega)]
        exact get_set_same _ _ _
      | succ j =>
        obtain ⟨l', k1, k2⟩ := e4 j y hy
        exact ⟨l', k1, fun p hp => k2 p (by omega)⟩
theorem rnL_rev {ι κ : Inj} {f : AV → Option AV} (hf : ∀ x y c, f x = some y → VRel ι y c → VRel κ x c) : ∀ {l l' : List AV} {L : List Value}, mapO f l = some l' → LRel ι l' L → LRel κ l L
  | [], l', L, h, hl => by cases h; cases hl; exact .nil
  | x :: l, l', L, h, hl => by
    obtain ⟨y, ys, h1, h2, rfl⟩ := mapO_cons h
    cases hl with
    | cons _ v _ L hx t => exact .cons x v l L (hf x y v h1 hx) (rnL_rev hf h2 t)
theorem rnV_rev {ι κ : Inj} {φ : PT Pos} (hφ : ∀ b b' q, φ.get b = some b' → ι b' = some q → κ b = some q) : ∀ (d : Nat) (x y : AV) (c : Value), rnV φ d x = some y → VRel ι y c → VRel κ x c
  | 0, _, _, _, h, _ => by cases h
  | d + 1, x, y, c, h, hy => by
    cases x with
    | any => cases h; cases hy; exact .any _
    | stn l => cases h; cases hy with | stn _ s hs => exact .stn l s hs
    | bool b => cases h; cases hy; exact .bool _
    | int k n => cases h; cases hy; exact .int _ _
    | str l => cases h; cases hy with | str s _ hs => exact .str s _ hs
    | pnil => cases h; cases hy; exact .pnil
    | snil => cases h; cases hy; exact .snil
    | mnil => cases h; cases hy; exact .mnil
    | fnil => cases h; cases hy; exact .fnil
    | inil => cases h; cases hy; exact .inil
    | ptr b o =>
      replace h : opt (φ.get b) none (fun b' => some (AV.ptr b' o)) = some y := h
      obtain ⟨b', h1, h2⟩ := opt_eq_some h
      cases h2
      cases hy with | ptr _ _ r dd z hb => exact .ptr b o r dd z (hφ _ _ _ h1 hb)
    | sl b o n k =>
      replace h : opt (φ.get b) none (fun b' => some (AV.sl b' o n k)) = some y := h
      obtain ⟨b', h1, h2⟩ := opt_eq_some h
      cases h2
      cases hy with
      | sl _ _ _ k r dd z hb => exact .sl b o n k r dd z (hφ _ _ _ h1 hb)
      | slu _ _ _ k r dd z e hb hc hz => exact .slu b o n k r dd z e (hφ _ _ _ h1 hb) hc hz
      | slv _ _ r dd z a _ hb hc => exact .slv b o r dd z a k (hφ _ _ _ h1 hb) hc
    | agg l =>
      replace h : opt (mapO (rnV φ d) l) none (fun l' => some (AV.agg l')) = some y := h
      obtain ⟨l', h1, h2⟩ := opt_eq_some h
      cases h2
      cases hy with | agg _ L hl => exact .agg l L (rnL_rev (fun x y c hx hv => rnV_rev hφ d x y c hx hv) h1 hl)
    | tup l =>
      replace h : opt (mapO (rnV φ d) l) none (fun l' => some (AV.tup l')) = some y := h
      obtain ⟨l', h1, h2⟩ := opt_eq_some h
      cases h2
      cases hy with | tup _ L hl => exact .tup l L (rnL_rev (fun x y c hx hv => rnV_rev hφ d x y c hx hv) h1 hl)
    | _ => cases h
variable {E E1 : Env} {base : Nat} {w0 : World}
noncomputable def memoI (M : Memo) (b : Pos) (ι : Inj) : Inj := ⟨fun p => if p.nat = 1 then some (1, 0, 256) else if 2 ≤ p.nat then ((seqP M.ins.length b)[p.nat - 2]?).bind ι.f else none, ι.s⟩
theorem memoI_inv {M : Memo} {b p : Pos} {ι : Inj} {q : Nat × Nat × Nat} (h : memoI M b ι p = some q) : (p = Pos.of 0 ∧ q = (1, 0, 256)) ∨ ∃ i p', i < M.ins.length ∧ p.nat = 2 + i ∧ p'.nat = b.nat + i ∧ ι p' = some q := by
  replace h : (if p.nat = 1 then some (1, 0, 256) else if 2 ≤ p.nat then ((seqP M.ins.length b)[p.nat - 2]?).bind ι.f else none) = some q := h
  split at h
  · rename_i e
    cases h
    exact .inl ⟨Pos.nat_inj (by rw [e]; rfl), rfl⟩
  · split at h
    · rename_i e1 e2
      cases hs : (seqP M.ins.length b)[p.nat - 2]? with
      | none => rw [hs] at h; cases h
      | some p' =>
        rw [hs] at h
        obtain ⟨a1, a2⟩ := seqP_get _ _ _ _ hs
        exact .inr ⟨p.nat - 2, p', a1, by omega, a2, h⟩
    · cases h
theorem memoI_at {M : Memo} {b p p' : Pos} {ι : Inj} {i : Nat} (hi : i < M.ins.length) (hp : p.nat = 2 + i) (hp' : p'.nat = b.nat + i) : memoI M b ι p = ι p' := by
  obtain ⟨x, h1, h2⟩ := seqP_at (n := M.ins.length) (b := b) hi
  have : x = p' := Pos.nat_inj (by omega)
  subst this
  show (if p.nat = 1 then some (1, 0, 256) else if 2 ≤ p.nat then ((seqP M.ins.length b)[p.nat - 2]?).bind ι.f else none) = _
  rw [if_neg (by omega), if_pos (by omega), show p.nat - 2 = i by omega, h1]
  rfl
theorem memoH_inv {M : Memo} {p : Pos} {x : Blk} (h : (memoH M).m.get p = some x) : (p = Pos.of 0 ∧ x = .cells true asciiSp) ∨ ∃ i l, p.nat = 2 + i ∧ M.ins[i]? = some l ∧ x = .cells true l := by
  have hp : Pos.of (p.nat - 1) = p := Pos.nat_inj (by have := Pos.nat_pos p; simp; omega)
  rw [← hp] at h
  have h1 := mkPT_some (l := Blk.cells true asciiSp :: M.ins.map (Blk.cells true)) h
  cases hk : p.nat - 1 with
  | zero =>
    rw [hk] at h1
    cases h1
    exact .inl ⟨by rw [← hp, hk], rfl⟩
  | succ k =>
    rw [hk, List.getElem?_cons_succ, List.getElem?_map] at h1
    cases hl : M.ins[k]? with
    | none => rw [hl] at h1; cases h1
    | some l => rw [hl] at h1; cases h1; exact .inr ⟨k, l, by omega, hl, rfl⟩
theorem memo_start (hgl : E1.gl = env.gl) {M : Memo} {b : Pos} {ι : Inj} {H : Hp} {w : World} (hR : Rl E base w0 ι H w) (hbase : 1 < base) (hA : AsciiOk w) (hi : insOk (insM M b) M.ins H b = true) : Rl E1 w.heap.size w (memoI M b ι) (memoH M) w := by
  have img : ∀ {p : Pos} {r d z : Nat} {i : Nat} {p' : Pos}, i < M.ins.length → p'.nat = b.nat + i → ι p' = some (r, d, z) → base ≤ r ∧ ∃ l x, H.m.get p' = some (.cells false l) ∧ M.ins[i]? = some x ∧ mapO (rnV (insM M b) 8) x = some l := by
    intro p r d z i p' h1 h2 h3
    obtain ⟨p2, l, e1, e2, e3⟩ := insOk_get hi (List.getElem?_eq_getElem h1)
    have : p2 = p' := Pos.nat_inj (by omega)
    subst this
    exact ⟨hR.own _ _ _ _ _ h3 e2 rfl, l, _, e2, List.getElem?_eq_getElem h1, e3⟩
  refine ⟨fun p r d z x hp hg => ?_, fun p p' r d d' z z' x x' hp hp' hg hg' _ _ => ?_, fun p hp => ?_, fun p r d z hp => ?_, fun p r d z x hp hg hro => ?_, Below.refl _ _, Nat.le_refl _, fun g p hg => ?_⟩
  · rcases memoI_inv hp with ⟨rfl, e⟩ | ⟨i, p', h1, h2, h3, h4⟩
    · cases e
      rcases memoH_inv hg with ⟨_, rfl⟩ | ⟨i, l, h2, _, _⟩
      · refine ⟨by unfold asciiSp; rw [List.length_map, asciiZ_len]; exact Nat.le_refl _, fun j x hx => ?_, fun h => by cases h⟩
        unfold asciiSp at hx
        rw [List.getElem?_map] at hx
        cases hz : asciiZ[j]? with
        | none => rw [hz] at hx; cases hx
        | some n =>
          rw [hz] at hx; cases hx
          have hj : j < 256 := by rw [← asciiZ_len]; exact (List.getElem?_eq_some_iff.1 hz).1
          refine ⟨_, by rw [Nat.zero_add]; exact hA.at j hj, ?_⟩
          rw [List.getD, hz]
          exact .int _ _
      · have : (Pos.of 0).nat = 1 := rfl
        omega
    · rcases memoH_inv hg with ⟨rfl, _⟩ | ⟨i', l, h5, h6, rfl⟩
      · have : (Pos.of 0).nat = 1 := rfl
        omega
      · have : i' = i := by omega
        subst this
        obtain ⟨_, l', x, e1, e2, e3⟩ := img (p := p) h1 h3 h4
        rw [h6] at e2
        cases e2
        have hB := hR.blk p' r d z _ h4 e1
        have hlen := mapO_length e3
        refine ⟨by rw [← hlen]; exact hB.1, fun j y hy => ?_, fun h => by cases h⟩
        have hg := mapO_get e3 j
        rw [hy] at hg
        replace hg : l'[j]? = rnV (insM M b) 8 y := hg
        cases hy' : rnV (insM M b) 8 y with
        | none =>
          rw [hy'] at hg
          have h7 : j < l.length := (List.getElem?_eq_some_iff.1 hy).1
          rw [List.getElem?_eq_getElem (by omega)] at hg
          cases hg
        | some y' =>
          rw [hy'] at hg
          obtain ⟨v, k1, k2⟩ := hB.2.1 j y' hg
          exact ⟨v, k1, rnV_rev (fun q q' u hq hu => by
            obtain ⟨i, a1, a2, a3⟩ := insM_get hq
            rw [memoI_at a1 a2 a3]; exact hu) 8 y y' v hy' k2⟩
  · rcases memoI_inv hp with ⟨rfl, e⟩ | ⟨i, q, h1, h2, h3, h4⟩ <;> rcases memoI_inv hp' with ⟨rfl, e'⟩ | ⟨i', q', h1', h2', h3', h4'⟩
    · rfl
    · cases e
      have := (img (p := p') h1' h3' h4').1
      omega
    · cases e'
      have := (img (p := p) h1 h3 h4).1
      omega
    · obtain ⟨_, l, x, e1, _, _⟩ := img (p := p) h1 h3 h4
      obtain ⟨_, l', x', e1', _, _⟩ := img (p := p') h1' h3' h4'
      have := hR.inj q q' r d d' z z' _ _ h4 h4' e1 e1' rfl rfl
      subst this
      exact Pos.nat_inj (by omega)
  · have hb' : 2 + M.ins.length ≤ p.nat := by have h := hp; unfold memoH at h; simp at h; omega
    refine ⟨?_, ?_⟩
    · cases hx : memoI M b ι p with
      | none => rfl
      | some q =>
        rcases memoI_inv hx with ⟨rfl, _⟩ | ⟨i, _, h1, h2, _⟩
        · have : (Pos.of 0).nat = 1 := rfl
          omega
        · omega
    · cases hx : (memoH M).m.get p with
      | none => rfl
      | some x =>
        rcases memoH_inv hx with ⟨rfl, _⟩ | ⟨i, l, h1, h2, _⟩
        · have : (Pos.of 0).nat = 1 := rfl
          omega
        · have := (List.getElem?_eq_some_iff.1 h2).1
          omega
  · rcases memoI_inv hp with ⟨_, e⟩ | ⟨i, p', h1, h2, h3, h4⟩
    · cases e; exact hA.pos
    · exact hR.size _ _ _ _ h4
  · rcases memoH_inv hg with ⟨_, rfl⟩ | ⟨_, _, _, _, rfl⟩ <;> cases hro
  · rw [hgl] at hg
    replace hg : cnd (Nat.beq g 1) (some (Pos.of 0)) none = some p := hg
    rw [cnd_eq] at hg
    split at hg
    · rename_i e
      obtain rfl := Nat.eq_of_beq_eq_true e
      cases hg
      exact ⟨256, rfl⟩
    · cases hg
theorem allB_at {α : Type} {f : α → Bool} {l : List α} (h : allB f l = true) : ∀ x, x ∈ l → f x = true := by
  induction l with
  | nil => intro x hx; cases hx
  | cons y l ih =>
    intro x hx
    replace h : iand (f y) (allB f l) = true := h
    rw [iand_eq, Bool.and_eq_true] at h
    cases hx with
    | head => exact h.1
    | tail _ hx => exact ih h.2 x hx
theorem outB_get {H : Hp} : ∀ {outs : List (Pos × List AV)} {j : Nat} {p : Pos} {l : List AV}, outB H outs = true → outs[j]? = some (p, l) → ∃ l0, H.m.get p = some (.cells false l0) ∧ pwk l0 l = true := by
  intro outs j p l h hj
  have h1 := allB_at h (p, l) (List.mem_of_getElem? hj)
  replace h1 : (H.cells p false fun ro l' => iand (inot ro) (pwk l' l)) = true := h1
  unfold Hp.cells at h1
  cases hg : H.m.get p with
  | none => rw [hg] at h1; cases h1
  | some z =>
    rw [hg] at h1
    cases z with
    | cells ro l' =>
      replace h1 : iand (inot ro) (pwk l' l) = true := h1
      rw [iand_eq, Bool.and_eq_true] at h1
      cases ro with
      | true => cases h1.1
      | false => exact ⟨l', rfl, h1.2⟩
    | _ => cases h1
noncomputable def ndB (l : List Pos) : Bool := List.rec (motive := fun _ => Bool) true (fun x xs ih => iand (allB (fun y => inot (pbeq x y)) xs) ih) l
theorem pbeq_self : ∀ p : Pos, pbeq p p = true
  | .h => rfl
  | .o p => pbeq_self p
  | .i p => pbeq_self p
theorem ndB_inj : ∀ {l : List Pos} {i j : Nat} {p : Pos}, ndB l = true → l[i]? = some p → l[j]? = some p → i = j
  | [], _, _, _, _, h, _ => by cases h
  | x :: l, i, j, p, h, hi, hj => by
    replace h : iand (allB (fun y => inot (pbeq x y)) l) (ndB l) = true := h
    rw [iand_eq, Bool.and_eq_true] at h
    have no : ∀ {k : Nat}, l[k]? = some x → False := fun hk => by
      have := allB_at h.1 x (List.mem_of_getElem? hk)
      rw [pbeq_self] at this
      cases this
    cases i with
    | zero =>
      cases j with
      | zero => rfl
      | succ j => cases hi; exact (no hj).elim
    | succ i =>
      cases j with
      | zero => cases hj; exact (no hi).elim
      | succ j => exact congrArg Nat.succ (ndB_inj h.2 hi hj)
theorem memo_ok (hgl : E1.gl = env.gl) {nl n : Nat} {M : Memo} {fb : List AV → Option Pos} (hC : ∀ W, AsciiOk W → CallOk Tryz.prog E1 W.heap.size W (evC E1 nl n)) (hrun : memoR M (evC E1 nl n M.f M.args (memoH M)) = true) (hnd : ndB (outsP M.outs) = true) {W : World} (hW : AsciiOk W) :
    CallOk Tryz.prog E W.heap.size W fun f' args H => if f' = M.f then sumK (memoS M fb args H) else .no := by
  intro f' args H r he hr ι w cargs hR ha
  replace he : (if f' = M.f then sumK (memoS M fb args H) else CR.no) = r := he
  have hf : f' = M.f := Classical.byContradiction fun hne => by
    rw [if_neg hne] at he
    exact hr he.symm
  subst hf
  rw [if_pos rfl] at he
  cases hm : memoS M fb args H with
  | none => rw [hm] at he; exact absurd he.symm hr
  | some p =>
    rw [hm] at he
    replace he : CR.ret p.1 p.2 = r := he
    unfold memoS at hm
    obtain ⟨b, _, hm⟩ := opt_eq_some hm
    obtain ⟨ax, has, hm⟩ := opt_eq_some hm
    have hm3 := cnd_some hm
    obtain ⟨hc, hm4⟩ := hm3
    · rw [iand_eq, Bool.and_eq_true] at hc
      obtain ⟨hc1, hi⟩ := hc
      have hax := lbeq_eq (abeq_eq 8) hc1
      subst hax
      obtain ⟨v, hv, hm5⟩ := opt_eq_some hm4
      obtain ⟨H', hH, hm6⟩ := opt_eq_some hm5
      cases hm6
      subst he
      have hA : AsciiOk w := hW.stays hR.below
      have hS := memo_start (E1 := E1) hgl hR hW.pos hA hi
      have hargs : LRel (memoI M b ι) M.args cargs := rnL_rev (fun x y c hx hy => rnV_rev (fun q q' u hq hu => by
        obtain ⟨i, a1, a2, a3⟩ := insM_get hq
        rw [memoI_at a1 a2 a3]; exact hu) 8 x y c hx hy) has ha
      cases h0 : evC E1 nl n M.f M.args (memoH M) with
      | no => rw [h0] at hrun; cases hrun
      | pan v H => rw [h0] at hrun; cases hrun
      | ret v0 H1 =>
        rw [h0] at hrun
        replace hrun : iand (awk 8 v0 M.v) (outB H1 M.outs) = true := hrun
        rw [iand_eq, Bool.and_eq_true] at hrun
        obtain ⟨hr1, hout⟩ := hrun
        obtain ⟨h1, h2⟩ := hC w hA M.f M.args (memoH M) _ h0 (by intro e; cases e) (memoI M b ι) w cargs hS hargs
        refine ⟨h1, Calls.mono h2 fun e w' h3 => ?_⟩
        cases e with
        | returned c =>
          obtain ⟨v1, H1', ι', e1, e2', hR1, hSt⟩ := h3
          cases e1
          have e2 := awk_rel 8 _ _ _ hr1 e2'
          obtain ⟨n1, n2, n3, n4⟩ := newB_get hH
          have hlt : ∀ p q, ι p = some q → p.nat < H.nx.nat := fun p q h => by
            rcases Nat.lt_or_ge p.nat H.nx.nat with h1 | h1
            · exact h1
            · rw [(hR.fresh p h1).1] at h; cases h
          let κ : Inj := ⟨fun p => if p.nat < H.nx.nat then ι p else (M.outs[p.nat - H.nx.nat]?).bind fun x => ι' x.1, ι.s⟩
          have kold : ∀ p, p.nat < H.nx.nat → κ p = ι p := fun p hp => if_pos hp
          have knew : ∀ (p : Pos) (j : Nat) (x : Pos × List AV), p.nat = H.nx.nat + j → M.outs[j]? = some x → κ p = ι' x.1 := fun p j x hp hx => by
            show (if p.nat < H.nx.nat then ι p else (M.outs[p.nat - H.nx.nat]?).bind fun x => ι' x.1) = _
            rw [if_neg (by omega), show p.nat - H.nx.nat = j by omega, hx]; rfl
          have kinv : ∀ p q, κ p = some q → (p.nat < H.nx.nat ∧ ι p = some q) ∨ ∃ j x, p.nat = H.nx.nat + j ∧ M.outs[j]? = some x ∧ ι' x.1 = some q := fun p q h => by
            by_cases hp : p.nat < H.nx.nat
            · exact .inl ⟨hp, (kold p hp).symm.trans h⟩
            · replace h : (if p.nat < H.nx.nat then ι p else (M.outs[p.nat - H.nx.nat]?).bind fun x => ι' x.1) = some q := h
              rw [if_neg hp] at h
              cases ho : M.outs[p.nat - H.nx.nat]? with
              | none => rw [ho] at h; cases h
              | some x => rw [ho] at h; exact .inr ⟨p.nat - H.nx.nat, x, by omega, ho, h⟩
          have hle : ι.le κ := ⟨fun p q h => (kold p (hlt p q h)).trans h, rfl⟩
          have hχ : ∀ b1 b2 q, (outM M H.nx (insM M b)).get b1 = some b2 → ι' b1 = some q → κ b2 = some q := fun b1 b2 q hg hq => by
            rcases outM_get hg with ⟨j, l, h4, h5⟩ | h4
            · rw [knew b2 j _ h5 h4]; exact hq
            · obtain ⟨i, a1, a2, a3⟩ := insM_get h4
              have h6 := memoI_at (ι := ι) a1 a2 a3
              cases h7 : memoI M b ι b1 with
              | none =>
                have := (hSt.keep b1 (by unfold memoH; simp; omega) h7).1
                rw [this] at hq; cases hq
              | some q' =>
                have := hSt.le.app b1 q' h7
                rw [hq] at this
                cases this
                rw [h7] at h6
                exact hle.app b2 q h6.symm
          have hRw : Rl E W.heap.size W ι H w' := hR.of_below hR1.below
          have hnew : ∀ (p : Pos) (j : Nat) (x : Pos × List AV), p.nat = H.nx.nat + j → M.outs[j]? = some x → ∃ l, mapO (rnV (outM M H.nx (insM M b)) 8) x.2 = some l ∧ H'.m.get p = some (.cells false l) := fun p j x hp hx => by
            obtain ⟨l, k1, k2⟩ := n4 j x hx
            exact ⟨l, k1, k2 p hp⟩
          have hblk0 : ∀ (j : Nat) (x : Pos × List AV), M.outs[j]? = some x → ∃ l0, H1.m.get x.1 = some (.cells false l0) ∧ pwk l0 x.2 = true := fun j x hx => outB_get (p := x.1) (l := x.2) hout hx
          refine ⟨v, H', κ, rfl, rnV_rel hχ 8 _ _ _ hv e2, ⟨fun p r d z x hp hg => ?_, fun p p' r d d' z z' x x' hp hp' hg hg' hl hl' => ?_, fun p hp => ?_, fun p r d z hp => ?_, fun p r d z x hp hg hro => ?_, hRw.below, hRw.base_le, fun g p hg => ?_⟩, hle, fun p hp hn => ⟨(kold p hp).trans hn, n2 p hp⟩, by omega⟩
          · rcases kinv p _ hp with ⟨h4, h5⟩ | ⟨j, y, h4, h5, h6⟩
            · rw [n2 p h4] at hg
              exact (hRw.blk p r d z x h5 hg).mono hle
            · obtain ⟨l, k1, k2⟩ := hnew p j y h4 h5
              rw [k2] at hg
              cases hg
              obtain ⟨l0, q1, q2⟩ := hblk0 j y h5
              have hB := hR1.blk y.1 r d z _ h6 q1
              have hlen := mapO_length k1
              refine ⟨by rw [hlen]; exact Nat.le_trans (pwk_len q2) hB.1, fun i u hu => ?_, hB.2.2⟩
              have hg := mapO_get k1 i
              rw [hu] at hg
              have hi' : i < y.2.length := by have := (List.getElem?_eq_some_iff.1 hu).1; omega
              rw [List.getElem?_eq_getElem hi'] at hg
              obtain ⟨u0, q3, q4⟩ := pwk_get q2 (List.getElem?_eq_getElem hi')
              obtain ⟨c, k3, k4⟩ := hB.2.1 i _ q3
              exact ⟨c, k3, rnV_rel hχ 8 _ _ _ hg.symm (awk_rel 8 _ _ _ q4 k4)⟩
          · rcases kinv p _ hp with ⟨h4, h5⟩ | ⟨j, y, h4, h5, h6⟩ <;> rcases kinv p' _ hp' with ⟨h4', h5'⟩ | ⟨j', y', h4', h5', h6'⟩
            · rw [n2 p h4] at hg
              rw [n2 p' h4'] at hg'
              exact hRw.inj p p' r d d' z z' x x' h5 h5' hg hg' hl hl'
            · obtain ⟨l0, q1, _⟩ := hblk0 j' y' h5'
              have := hR1.own y'.1 _ _ _ _ h6' q1 rfl
              have := hR.size p _ _ _ h5
              omega
            · obtain ⟨l0, q1, _⟩ := hblk0 j y h5
              have := hR1.own y.1 _ _ _ _ h6 q1 rfl
              have := hR.size p' _ _ _ h5'
              omega
            · obtain ⟨l0, q1, _⟩ := hblk0 j y h5
              obtain ⟨l0', q1', _⟩ := hblk0 j' y' h5'
              have h7 := hR1.inj y.1 y'.1 r d d' z z' _ _ h6 h6' q1 q1' rfl rfl
              have h8 : (outsP M.outs)[j]? = some y.1 := by unfold outsP; rw [List.getElem?_map, h5]; rfl
              have h9 : (outsP M.outs)[j']? = some y.1 := by unfold outsP; rw [List.getElem?_map, h5', h7]; rfl
              have := ndB_inj hnd h8 h9
              exact Pos.nat_inj (by omega)
          · refine ⟨?_, (n3 p (by omega)).trans (hR.fresh p (by omega)).2⟩
            cases hx : κ p with
            | none => rfl
            | some q =>
              rcases kinv p q hx with ⟨h4, _⟩ | ⟨j, y, h4, h5, _⟩
              · omega
              · have := (List.getElem?_eq_some_iff.1 h5).1
                omega
          · rcases kinv p _ hp with ⟨_, h5⟩ | ⟨j, y, _, _, h6⟩
            · exact hRw.size _ _ _ _ h5
            · exact hR1.size _ _ _ _ h6
          · rcases kinv p _ hp with ⟨h4, h5⟩ | ⟨j, y, h4, h5, h6⟩
            · rw [n2 p h4] at hg
              exact hRw.own p r d z x h5 hg hro
            · obtain ⟨l0, q1, _⟩ := hblk0 j y h5
              have := hR1.own y.1 _ _ _ _ h6 q1 rfl
              have := hR.base_le
              omega
          · obtain ⟨z, hz⟩ := hRw.glob g p hg
            exact ⟨z, hle.app _ _ hz⟩
        | panicked ch => obtain ⟨v1, H1', ι', c, e1, _⟩ := h3; cases e1
        | outgrown => exact h3.elim
end Go.Ev
