/- Words for three of the library's functions, by the shelf's contracts: the first place of a byte, how often a byte stands in a string, strings joined. -/
import Derived.Test.YtjpjiognghcojaaGreatDoorEvMt
import Derived.Shelf.Lay
import Derived.Shelf.Strings.Search1
import Derived.Shelf.Strings.Count
import Derived.Shelf.Strings.OnBuilder
import Derived.Shelf.Strconv.Itoa3
import Derived.Lib.AppendIntMem
namespace Go.Proofs
open Go.Shelf
shelf_lay Lays.n217 Nm 217 at Tryz as Tryz.layIB
shelf_lay Lays.n138 Nm 138 at Tryz as Tryz.layCN
shelf_lay Lays.n156 Nm 156 at Tryz as Tryz.layJN
shelf_lay LaysM.n171 Nm 171 at Tryz as Tryz.layIT
theorem Tryz.extraJN : Builder.Extra Tryz.prog Tryz.layJN_ren where
  sizeBuilder := by kernel_rfl
  liesBuilder := by kernel_rfl
  t5 := Tryz.underlying5
  a5 := Tryz.isAgg5
  z5 := Tryz.sizeOf5
  v5 := Tryz.zeroValue5
  infoByte := by kernel_rfl
  cellsByte := by kernel_rfl
  sizeByte := by kernel_rfl
  neB5 := by decide
end Go.Proofs
namespace Go.Ev
set_option maxRecDepth 100000
open Go.Proofs
open Go.RowKit (Below)
noncomputable def ixN (c : Nat) (l : List Nat) : Nat → Int := List.rec (motive := fun _ => Nat → Int) (fun _ => .negSucc 0) (fun x _ ih n => cnd (Nat.beq x c) (.ofNat n) (fNat (Nat.succ n) ih)) l
noncomputable def ibS (args : List AV) (H : Hp) : Option (AV × Hp) :=
  match args with
  | [.str l, .int .u8 (.ofNat c)] => cnd (Nat.ble c 255) (fInt (ixN c l 0) fun n => some (.int .i64 n, H)) none
  | _ => none
theorem u8_beq (x : UInt8) {c : Nat} (hc : c ≤ 255) : Nat.beq x.toNat c = (x == ((c : Int).toNat.toUInt8)) := by
  have h : ((c : Int).toNat.toUInt8).toNat = c := by
    simp only [Int.toNat_natCast]
    show c % 256 = c
    omega
  rw [Bool.eq_iff_iff]
  simp only [beq_iff_eq]
  constructor
  · intro e; exact UInt8.toNat_inj.1 (by rw [h]; exact Nat.eq_of_beq_eq_true e)
  · intro e; rw [e, h]; exact Nat.beq_refl _
theorem ixN_eq {c : Nat} (hc : c ≤ 255) : ∀ (l : List UInt8) (n : Nat), ixN c (l.map (·.toNat)) n = if Lib.indexByte l (c : Int).toNat.toUInt8 = -1 then -1 else Lib.indexByte l (c : Int).toNat.toUInt8 + n
  | [], n => rfl
  | x :: l, n => by
    show cnd (Nat.beq x.toNat c) (Int.ofNat n) (fNat (Nat.succ n) (ixN c (l.map (·.toNat)))) = _
    rw [u8_beq x hc, cnd_eq, fNat_eq, ixN_eq hc l]
    have hge := Lib.indexByte_ge l (c : Int).toNat.toUInt8
    show (if _ then _ else _) = if Lib.indexByte (x :: l) _ = -1 then -1 else Lib.indexByte (x :: l) _ + n
    have hu : Lib.indexByte (x :: l) (c : Int).toNat.toUInt8 = if x == (c : Int).toNat.toUInt8 then 0 else if Lib.indexByte l (c : Int).toNat.toUInt8 == -1 then -1 else Lib.indexByte l (c : Int).toNat.toUInt8 + 1 := rfl
    rw [hu]
    by_cases h : (x == (c : Int).toNat.toUInt8) = true
    · rw [if_pos h, if_pos h, if_neg (by decide)]
      show (n : Int) = 0 + n
      omega
    · rw [if_neg h, if_neg h]
      by_cases h2 : Lib.indexByte l (c : Int).toNat.toUInt8 = -1
      · rw [if_pos h2, h2]
        rfl
      · have h3 : (Lib.indexByte l (c : Int).toNat.toUInt8 == -1) = false := by simpa using h2
        rw [if_neg h2, h3]
        simp only [Bool.false_eq_true, if_false]
        rw [if_neg (by omega)]
        push_cast
        omega
theorem sumK_some {r : Option (AV × Hp)} {q : CR} (h : sumK r = q) (hq : q ≠ .no) : ∃ p, r = some p ∧ q = .ret p.1 p.2 := by
  cases r with
  | none => exact absurd h.symm hq
  | some p => exact ⟨p, rfl, h.symm⟩
theorem sm_of {f : Nat} {g : SmT} (hf : Entered Tryz.prog f) (h : ∀ {E : Env} {base : Nat} {w0 w : World} {ι : Inj} {H : Hp} {args : List AV} {cargs : List Value} {p : AV × Hp}, g args H = some p → AsciiOk w → Rl E base w0 ι H w → LRel ι args cargs →
    p.2 = H ∧ ∃ c, VRel ι p.1 c ∧ Calls Tryz.prog f cargs.toArray w fun e w' => e = .returned c ∧ Below w.heap.size w w') : SmOk f g := by
  intro E W hW f' args H r he hr ι w cargs hR ha
  replace he : (if f' = f then sumK (g args H) else CR.no) = r := he
  have hf' : f' = f := Classical.byContradiction fun hne => by
    rw [if_neg hne] at he
    exact hr he.symm
  subst hf'
  rw [if_pos rfl] at he
  obtain ⟨p, h1, rfl⟩ := sumK_some he hr
  obtain ⟨e, c, hc, hcall⟩ := h h1 (hW.stays hR.below) hR ha
  refine ⟨hf, Calls.mono hcall fun e' w' hp => ?_⟩
  obtain ⟨rfl, hb⟩ := hp
  obtain ⟨v, H'⟩ := p
  replace e : H' = H := e
  subst e
  exact ⟨v, H', ι, rfl, hc, hR.of_below hb, .refl ι H'⟩
theorem ib_ok : SmOk 141 ibS := sm_of ⟨_, Tryz.func141, by kernel_rfl, by kernel_rfl⟩ fun {E base w0 w ι H args cargs p} h hA hR ha => by
  unfold ibS at h
  split at h
  · rename_i l c
    obtain ⟨hc, h⟩ := cnd_some h
    rw [fInt_eq] at h
    cases h
    refine ⟨rfl, ?_⟩
    cases ha with
    | cons _ _ _ _ h1 ha =>
      cases ha with
      | cons _ _ _ _ h2 ha =>
        cases ha
        cases h1 with
        | str s _ hs =>
          cases h2
          subst hs
          have hcall := Any.stringslite_IndexByte Tryz.layIB s (Int.ofNat c) w
          have e := ixN_eq (Nat.le_of_ble_eq_true hc) s.data.toList 0
          have e2 : ixN c (s.data.toList.map (·.toNat)) 0 = Lib.indexByte s.data.toList (Int.ofNat c).toNat.toUInt8 := by
            rw [e]
            split
            · rename_i h; exact h.symm
            · show _ + ((0 : Nat) : Int) = _; rw [Int.natCast_zero, Int.add_zero]; rfl
          refine ⟨_, .int _ _, ?_⟩
          rw [e2]
          exact Calls.mono hcall fun e' w' ⟨h1, h2⟩ => ⟨h1, h2 ▸ Below.refl _ _⟩
  · cases h
noncomputable def cnN (c : Nat) (l : List Nat) : Nat → Nat := List.rec (motive := fun _ => Nat → Nat) (fun n => n) (fun x _ ih n => cnd (Nat.beq x c) (fNat (Nat.succ n) ih) (ih n)) l
noncomputable def cnS (args : List AV) (H : Hp) : Option (AV × Hp) :=
  match args with
  | [.str l, .str [c]] => fNat (cnN c l 0) fun n => some (.int .i64 (.ofNat n), H)
  | _ => none
theorem cnN_eq (c : UInt8) : ∀ (l : List UInt8) (n : Nat), cnN c.toNat (l.map (·.toNat)) n = n + Lib.countByte l c
  | [], n => rfl
  | x :: l, n => by
    show cnd (Nat.beq x.toNat c.toNat) (fNat (Nat.succ n) (cnN c.toNat (l.map (·.toNat)))) (cnN c.toNat (l.map (·.toNat)) n) = _
    rw [fNat_eq, cnN_eq c l, cnN_eq c l, cnd_eq]
    unfold Lib.countByte
    rw [List.count_cons]
    have : Nat.beq x.toNat c.toNat = (x == c) := by
      rw [Bool.eq_iff_iff]
      simp only [beq_iff_eq]
      exact ⟨fun e => UInt8.toNat_inj.1 (Nat.eq_of_beq_eq_true e), fun e => by rw [e]; exact Nat.beq_refl _⟩
    rw [this]
    by_cases h : (x == c) = true
    · rw [if_pos h, if_pos h]; omega
    · rw [if_neg h, if_neg h]; omega
theorem cn_ok : SmOk 109 cnS := sm_of ⟨_, Tryz.func109, by kernel_rfl, by kernel_rfl⟩ fun {E base w0 w ι H args cargs p} h hA hR ha => by
  unfold cnS at h
  split at h
  · rename_i l c
    rw [fNat_eq] at h
    cases h
    refine ⟨rfl, ?_⟩
    cases ha with
    | cons _ _ _ _ h1 ha =>
      cases ha with
      | cons _ _ _ _ h2 ha =>
        cases ha
        cases h1 with
        | str s _ hs =>
          cases h2 with
          | str s2 _ hs2 =>
            subst hs
            obtain ⟨⟨l2⟩⟩ := s2
            cases l2 with
            | nil => cases hs2
            | cons x r =>
              cases r with
              | cons _ _ => cases hs2
              | nil =>
                have hx : x.toNat = c := by injection hs2
                subst hx
                have hcall := Any.strings_Count_one Tryz.layCN s x w
                have e := cnN_eq x s.data.toList 0
                rw [Nat.zero_add] at e
                refine ⟨_, .int _ _, ?_⟩
                rw [e]
                exact Calls.mono hcall fun e' w' ⟨h1, h2⟩ => ⟨h1, h2 ▸ Below.refl _ _⟩
  · cases h
noncomputable def strL (l : List AV) : Option (List (List Nat)) := mapO (fun v => match v with | .str l => some l | _ => none) l
noncomputable def jnL (sep : List Nat) (xs : List (List Nat)) : List Nat := List.rec (motive := fun _ => List Nat) [] (fun x r ih => List.rec (motive := fun _ => List Nat) x (fun _ _ _ => app x (app sep ih)) r) xs
noncomputable def jnB (b : Pos) (o n : Nat) (sep : List Nat) (H : Hp) : Option (AV × Hp) :=
  H.cells b none fun _ l => opt (sub o n l) none fun r => opt (strL r) none fun xs => cnd (Nat.ble (len (jnL sep xs)) 1000000) (some (.str (jnL sep xs), H)) none
noncomputable def jnS (args : List AV) (H : Hp) : Option (AV × Hp) :=
  match args with
  | [.sl b o n c, .str sep] => cnd (iand (Nat.ble 1 n) (iand (Nat.ble n (c.n n)) (Nat.ble n 1000000))) (jnB b o n sep H) none
  | _ => none
theorem jnL_eq (sep : List Nat) : ∀ (xs : List (List Nat)), jnL sep xs = sep.intercalate xs
  | [] => rfl
  | [x] => by simp [jnL, List.intercalate]
  | x :: y :: r => by
    show app x (app sep (jnL sep (y :: r))) = _
    rw [app_eq, app_eq, jnL_eq sep (y :: r)]
    simp [List.intercalate]
theorem inter_map {α β : Type} (f : α → β) (sep : List α) : ∀ (xs : List (List α)), (sep.map f).intercalate (xs.map (List.map f)) = (sep.intercalate xs).map f
  | [] => rfl
  | [x] => by simp [List.intercalate]
  | x :: y :: r => by
    have ih := inter_map f sep (y :: r)
    have e1 : ∀ {γ : Type} (s a b : List γ) (l : List (List γ)), s.intercalate (a :: b :: l) = a ++ (s ++ s.intercalate (b :: l)) := fun s a b l => by simp [List.intercalate]
    rw [List.map_cons, List.map_cons, e1, e1, ← List.map_cons, ih]
    simp
theorem strL_rel {ι : Inj} : ∀ {l : List AV} {xs : List (List Nat)}, strL l = some xs → ∀ {w : World} {r d : Nat}, (∀ (j : Nat) x, l[j]? = some x → ∃ v, w.cell? ⟨r, d + j, none⟩ = some v ∧ VRel ι x v) →
    ∃ ss : List ByteArray, ss.length = l.length ∧ ss.map (fun s => s.data.toList.map (·.toNat)) = xs ∧ ∀ (j : Nat) s, ss[j]? = some s → w.cell? ⟨r, d + j, none⟩ = some (.string s)
  | [], xs, h, w, r, d, _ => by cases h; exact ⟨[], rfl, rfl, fun _ _ h => by cases h⟩
  | x :: l, xs, h, w, r, d, hc => by
    obtain ⟨y, ys, h1, h2, rfl⟩ := mapO_cons h
    obtain ⟨ss, a1, a2, a3⟩ := strL_rel (l := l) (xs := ys) h2 (w := w) (r := r) (d := d + 1) (fun j x hx => by
      obtain ⟨v, k1, k2⟩ := hc (j + 1) x hx
      exact ⟨v, by rw [← k1]; congr 2; omega, k2⟩)
    obtain ⟨v, k1, k2⟩ := hc 0 x rfl
    cases x with
    | str z =>
      cases h1
      cases k2 with
      | str s _ hs =>
        refine ⟨s :: ss, by simp [a1], by simp [hs, a2], fun j t ht => ?_⟩
        cases j with
        | zero => cases ht; exact k1
        | succ j => rw [← a3 j t ht]; congr 2; omega
    | _ => cases h1
theorem jn_ok : SmOk 154 jnS := sm_of ⟨_, Tryz.func154, by kernel_rfl, by kernel_rfl⟩ fun {E base w0 w ι H args cargs p} h hA hR ha => by
  unfold jnS at h
  split at h
  · rename_i b o n c sep
    obtain ⟨hc, h⟩ := cnd_some h
    simp only [iand_eq, Bool.and_eq_true] at hc
    obtain ⟨hc1, hc2, hc3⟩ := hc
    replace hc1 := Nat.le_of_ble_eq_true hc1
    replace hc2 := Nat.le_of_ble_eq_true hc2
    replace hc3 := Nat.le_of_ble_eq_true hc3
    unfold jnB at h
    obtain ⟨ro, l, e1, h⟩ := cells_inv h
    obtain ⟨r0, e2, h⟩ := opt_eq_some h
    obtain ⟨xs, e3, h⟩ := opt_eq_some h
    obtain ⟨hL, h⟩ := cnd_some h
    cases h
    refine ⟨rfl, ?_⟩
    cases ha with
    | cons _ v1 _ _ h1 ha =>
      cases ha with
      | cons _ _ _ _ h2 ha =>
        cases ha
        cases h2 with
        | str s2 _ hs2 =>
          have key : ∃ r d z k, ι b = some (r, d, z) ∧ v1 = .slice (some ⟨r, d + o, none⟩) n k ∧ n ≤ k := by
            cases h1 with
            | sl _ _ _ k r d z hb => exact ⟨r, d, z, k, hb, rfl, hc2⟩
            | slu _ _ _ k r d z e hb hk hz => exact ⟨r, d, z, k, hb, rfl, hk⟩
            | slv _ _ r d z a _ hb hk => omega
          obtain ⟨r, d, z, k, hb, rfl, hnk⟩ := key
          have hB := hR.blk b r d z _ hb e1
          obtain ⟨f0, f3⟩ := sub_eq e2
          have f1 : r0.length = n := by rw [f3, List.length_take, List.length_drop]; omega
          have f2 : ∀ (j : Nat) x, r0[j]? = some x → l[o + j]? = some x := fun j x hx => by
            rw [f3, List.getElem?_take] at hx
            split at hx
            · rw [List.getElem?_drop] at hx; exact hx
            · cases hx
          obtain ⟨ss, a1, a2, a3⟩ := strL_rel (ι := ι) e3 (w := w) (r := r) (d := d + o) (fun j x hx => by
            obtain ⟨v, k1, k2⟩ := hB.2.1 (o + j) x (f2 j x hx)
            exact ⟨v, by rw [← k1]; congr 2; omega, k2⟩)
          have hlen : ss.length = n := by rw [a1, f1]
          have hj : jnL sep xs = (Lib.join (ss.map (·.data.toList)) s2.data.toList).map (·.toNat) := by
            rw [jnL_eq, ← a2, ← hs2]
            unfold Lib.join
            have := inter_map UInt8.toNat s2.data.toList (ss.map fun s => s.data.toList)
            rw [List.map_map] at this
            exact this
          rw [len_eq, hj, List.length_map] at hL
          have hcall := Any.strings_Join Tryz.layJN Tryz.extraJN r (d + o) k ss s2 w a3 (hR.size b r d z hb) (by omega) (by omega) (by have := Nat.le_of_ble_eq_true hL; omega)
          rw [hlen] at hcall
          refine ⟨_, ?_, hcall⟩
          rw [hj]
          exact .str _ _ (by simp)
  · cases h
noncomputable def dgN (fuel : Nat) : Nat → List Nat → List Nat := Nat.rec (motive := fun _ => Nat → List Nat → List Nat) (fun _ a => a) (fun _ ih u a => cnd (Nat.ble u 9) (fNat (Nat.add 48 u) fun d => d :: a) (fNat (Nat.div u 10) fun q => fNat (Nat.add 48 (Nat.mod u 10)) fun d => ih q (d :: a))) fuel
noncomputable def itS (args : List AV) (H : Hp) : Option (AV × Hp) :=
  match args with
  | [.int .i64 (.ofNat n)] => cnd (Nat.ble n 9223372036854775807) (some (.str (dgN 20 n []), H)) none
  | [.int .i64 (.negSucc n)] => cnd (Nat.ble n 9223372036854775807) (some (.str (45 :: dgN 20 (Nat.succ n) []), H)) none
  | _ => none
theorem u8_of {n : Nat} (h : n < 256) : (UInt8.ofNat n).toNat = n := by
  rw [UInt8.toNat_ofNat']
  omega
theorem dgN_eq : ∀ (fuel u : Nat) (a : List Nat), u < 10 ^ (fuel + 1) → dgN (fuel + 1) u a = (Lib.decDigits u).map (·.toNat) ++ a := by
  intro fuel
  induction fuel with
  | zero =>
    intro u a h
    have h9 : u < 10 := by simpa using h
    show cnd (Nat.ble u 9) (fNat (Nat.add 48 u) fun d => d :: a) _ = _
    rw [cnd_eq, fNat_eq, Lib.decDigits, if_pos (Nat.ble_eq_true_of_le (by omega)), dif_pos h9]
    simp only [List.map_cons, List.map_nil, List.cons_append, List.nil_append, u8_of (show 48 + u < 256 by omega)]
    rfl
  | succ fuel ih =>
    intro u a h
    show cnd (Nat.ble u 9) (fNat (Nat.add 48 u) fun d => d :: a) (fNat (Nat.div u 10) fun q => fNat (Nat.add 48 (Nat.mod u 10)) fun d => dgN (fuel + 1) q (d :: a)) = _
    rw [cnd_eq, fNat_eq, fNat_eq, fNat_eq, Lib.decDigits]
    by_cases h9 : u < 10
    · rw [if_pos (Nat.ble_eq_true_of_le (by omega)), dif_pos h9]
      simp only [List.map_cons, List.map_nil, List.cons_append, List.nil_append, u8_of (show 48 + u < 256 by omega)]
      rfl
    · rw [if_neg (by intro e; have := Nat.le_of_ble_eq_true e; omega), dif_neg h9]
      have hd : u / 10 < 10 ^ (fuel + 1) := by rw [Nat.pow_succ] at h; omega
      show dgN (fuel + 1) (u / 10) _ = _
      rw [ih _ _ hd]
      have : (UInt8.ofNat (48 + u % 10)).toNat = 48 + u % 10 := u8_of (by omega)
      simp only [List.map_append, List.map_cons, List.map_nil, List.append_assoc, List.cons_append, List.nil_append, this]
      rfl
theorem it_ok : SmOk 121 itS := sm_of ⟨_, Tryz.func121, by kernel_rfl, by kernel_rfl⟩ fun {E base w0 w ι H args cargs p} h hA hR ha => by
  have key : ∃ (n : Int), args = [.int .i64 n] ∧ -9223372036854775808 ≤ n ∧ n ≤ 9223372036854775807 ∧ p = (.str ((Lib.itoa n).map (·.toNat)), H) := by
    unfold itS at h
    split at h
    · rename_i n
      obtain ⟨hc, h⟩ := cnd_some h
      have hn := Nat.le_of_ble_eq_true hc
      cases h
      refine ⟨_, rfl, ?_, ?_, ?_⟩
      · show _ ≤ (n : Int); omega
      · show (n : Int) ≤ _; omega
      · have e : Lib.itoa (Int.ofNat n) = Lib.decDigits n := by
          unfold Lib.itoa
          rw [if_neg (by show ¬ ((n : Int) < 0); omega)]
          rfl
        rw [e, dgN_eq 19 n [] (by omega), List.append_nil]
    · rename_i n
      obtain ⟨hc, h⟩ := cnd_some h
      have hn := Nat.le_of_ble_eq_true hc
      cases h
      refine ⟨_, rfl, ?_, ?_, ?_⟩
      · have := Int.negSucc_eq n; omega
      · have := Int.negSucc_eq n; omega
      · have e : Lib.itoa (Int.negSucc n) = 45 :: Lib.decDigits (n + 1) := by
          unfold Lib.itoa
          rw [if_pos (Int.negSucc_lt_zero n)]
          rfl
        rw [e, dgN_eq 19 (n + 1) [] (by omega), List.append_nil]
        rfl
    · cases h
  obtain ⟨n, rfl, h0, h1, rfl⟩ := key
  refine ⟨rfl, ?_⟩
  cases ha with
  | cons _ _ _ _ e ha =>
    cases ha
    cases e
    refine ⟨_, .str ⟨(Lib.itoa n).toArray⟩ _ (by simp), ?_⟩
    exact Calls.mono (Any.strconv_Itoa Tryz.layIT n h0 h1 w hA.2) fun e' w' ⟨h2, k, os, h3⟩ => ⟨h2, h3 ▸ Lib.below_grow _ w (Nat.le_refl _) k os⟩
noncomputable def stL : List (Nat × SmT) := [(141, ibS), (109, cnS), (154, jnS), (121, itS)]
theorem stL_ok : ∀ p, p ∈ stL → SmOk p.1 p.2 := fun p hp => by
  simp only [stL, List.mem_cons, List.mem_nil_iff, or_false] at hp
  rcases hp with rfl | rfl | rfl | rfl
  · exact ib_ok
  · exact cn_ok
  · exact jn_ok
  · exact it_ok
noncomputable def envS : Env := envT stL
theorem good_envS : Good envS := good_envT stL_ok
end Go.Ev
