/- The evaluator's operations that only reckon: the model's. -/
import Derived.Test.YtmjccopjophgjaaGreatDoorEvNum
namespace Go.Ev
variable {P : Program} {E : Env} {ι : Inj} {w : World}

/-! ### aggregates -/
theorem foldl_sets (off : Nat) : ∀ (xs : List Value) (k : Nat) (cs : Array Value), off + k + xs.length ≤ cs.size →
    ((xs.zipIdx k).foldl (fun (cs : Array Value) (p : Value × Nat) => cs.setIfInBounds (off + p.2) p.1) cs).toList = cs.toList.take (off + k) ++ xs ++ cs.toList.drop (off + k + xs.length)
  | [], k, cs, _ => by simp
  | x :: xs, k, cs, h => by
    simp only [List.length_cons] at h
    rw [List.zipIdx_cons, List.foldl_cons, foldl_sets off xs (k + 1) _ (by simp; omega)]
    have hlt : off + k < cs.toList.length := by simp; omega
    rw [Array.toList_setIfInBounds]
    apply List.ext_getElem?
    intro i
    simp only [List.getElem?_append, List.length_append, List.length_take, List.length_set, List.length_cons, List.getElem?_take, List.getElem?_drop, List.getElem?_set, List.getElem?_cons]
    have hl : cs.toList.length = cs.size := by simp
    by_cases h1 : i < off + k
    · simp only [show i < min (off + (k + 1)) cs.toList.length by omega, show i < off + (k + 1) by omega, show i < min (off + k) cs.toList.length by omega, h1, show off + k ≠ i by omega,
        show i < min (off + (k + 1)) cs.toList.length + xs.length by omega, show i < min (off + k) cs.toList.length + (xs.length + 1) by omega, if_true, if_false]
    · by_cases h2 : i = off + k
      · subst h2
        simp only [show off + k < min (off + (k + 1)) cs.toList.length by omega, show ¬ off + k < min (off + k) cs.toList.length by omega,
          show off + k < min (off + k) cs.toList.length + (xs.length + 1) by omega, show off + k < min (off + (k + 1)) cs.toList.length + xs.length by omega,
          show off + k < off + (k + 1) by omega, hlt, show off + k - min (off + k) cs.toList.length = 0 by omega, if_true, if_false]
      · by_cases h3 : i < off + k + 1 + xs.length
        · have e1 : i - min (off + (k + 1)) cs.toList.length = i - (off + k + 1) := by omega
          have e2 : i - min (off + k) cs.toList.length = (i - (off + k + 1)) + 1 := by omega
          simp only [show ¬ i < min (off + (k + 1)) cs.toList.length by omega, show ¬ i < min (off + k) cs.toList.length by omega,
            show i < min (off + (k + 1)) cs.toList.length + xs.length by omega, show i < min (off + k) cs.toList.length + (xs.length + 1) by omega, if_true, if_false, e1, e2]
          simp
        · simp only [show ¬ i < min (off + (k + 1)) cs.toList.length + xs.length by omega, show ¬ i < min (off + k) cs.toList.length + (xs.length + 1) by omega, if_false]
          have e1 : off + (k + 1) + xs.length + (i - (min (off + (k + 1)) cs.toList.length + xs.length)) = i := by omega
          have e2 : off + k + (xs.length + 1) + (i - (min (off + k) cs.toList.length + (xs.length + 1))) = i := by omega
          rw [e1, e2, if_neg (by omega)]

theorem contig_cons {p : Nat × Nat} {pl : List (Nat × Nat)} {n m : Nat} (h : contig (p :: pl) n m = true) : p.1 = n ∧ contig pl (n + p.2) m = true := by
  replace h : iand (Nat.beq p.1 n) (contig pl (n + p.2) m) = true := h
  rw [iand_eq, Bool.and_eq_true] at h
  exact ⟨Nat.eq_of_beq_eq_true h.1, h.2⟩
theorem contig_le : ∀ {pl : List (Nat × Nat)} {n m : Nat}, contig pl n m = true → n ≤ m
  | [], n, m, h => Nat.le_of_eq (Nat.eq_of_beq_eq_true h)
  | p :: pl, n, m, h => by have := contig_le (contig_cons h).2; omega
theorem puts_app {pre cs zs : List AV} (h : cs.length ≤ zs.length) : puts pre.length cs (pre ++ zs) = some ((pre ++ cs) ++ zs.drop cs.length) := by
  have key : ∀ (cs zs : List AV), cs.length ≤ zs.length → puts 0 cs zs = some (cs ++ zs.drop cs.length) := by
    intro cs
    induction cs with
    | nil => intro zs _; rfl
    | cons c cs ih =>
      intro zs h
      cases zs with
      | nil => simp at h
      | cons z zs =>
        show opt (puts 0 cs zs) none (fun r' => some (fcons c r')) = _
        rw [ih zs (by simpa using h), opt_some, fcons_eq]
        rfl
  induction pre with
  | nil => simpa using key cs zs h
  | cons p pre ih =>
    show opt (puts pre.length cs (pre ++ zs)) none (fun r' => some (fcons p r')) = _
    rw [ih, opt_some, fcons_eq]
    rfl
theorem cat_fill : ∀ {pl : List (Nat × Nat)} {xs pre zs l : List AV}, contig pl pre.length (pre ++ zs).length = true → cat pl xs = some l → fill pl xs (pre ++ zs) = some (pre ++ l)
  | [], xs, pre, zs, l, h, hc => by
    have := Nat.eq_of_beq_eq_true h
    have hz : zs = [] := List.eq_nil_of_length_eq_zero (by simpa using this)
    subst hz
    cases hc
    rfl
  | p :: pl, xs, pre, zs, l, h, hc => by
    obtain ⟨h1, h2⟩ := contig_cons h
    cases xs with
    | nil => cases hc
    | cons x xs =>
      replace hc : (opt x.cells none fun cs => cnd (Nat.beq (len cs) p.2) (opt (cat pl xs) none fun r => some (app cs r)) none) = some l := hc
      obtain ⟨cs, h3, hc⟩ := opt_eq_some hc
      rw [cnd_eq] at hc
      split at hc
      · rename_i hb
        obtain ⟨r, h4, h5⟩ := opt_eq_some hc
        rw [app_eq] at h5
        cases h5
        have hl := Nat.eq_of_beq_eq_true hb
        rw [len_eq] at hl
        have hle := contig_le h2
        have hcs : cs.length ≤ zs.length := by
          rw [List.length_append] at hle; omega
        show (opt x.cells none fun cs => cnd (Nat.beq (len cs) p.2) (opt (puts p.1 cs (pre ++ zs)) none fun z' => fill pl xs z') none) = _
        rw [h3, opt_some, hb, h1, puts_app hcs, cnd_true, opt_some]
        have := cat_fill (pl := pl) (xs := xs) (pre := pre ++ cs) (zs := zs.drop cs.length) (l := r) (by
          have e : (pre ++ cs ++ zs.drop cs.length).length = (pre ++ zs).length := by simp; omega
          rw [e, List.length_append, hl]; exact h2) h4
        rw [this, List.append_assoc]
      · cases hc
theorem fillQ_eq {pl : List (Nat × Nat)} {xs z l : List AV} (h : fillQ pl xs z = some l) : fill pl xs z = some l := by
  unfold fillQ at h
  rw [cnd_eq] at h
  split at h
  · rename_i hb
    rw [len_eq] at hb
    simpa using cat_fill (pre := []) (zs := z) (by simpa using hb) h
  · exact h
theorem fill_rel (place : Nat → Option (Nat × Nat)) : ∀ (pl : List (Nat × Nat)) (vs : List AV) (z l : List AV), fill pl vs z = some l → ∀ (ps : List (Nat × Value)) (Z : Array Value),
    ps.map (fun p => place p.1) = pl.map some → LRel ι vs (ps.map (·.2)) → LRel ι z Z.toList → ∃ R, Instr.fill place Z ps = some R ∧ LRel ι l R.toList
  | [], vs, z, l, h, ps, Z, hp, hv, hz => by
    cases h
    cases ps with
    | nil => exact ⟨Z, rfl, hz⟩
    | cons p ps => simp at hp
  | q :: pl, vs, z, l, h, ps, Z, hp, hv, hz => by
    cases vs with
    | nil => cases h
    | cons x vs =>
      replace h : opt x.cells none (fun cs => cnd (Nat.beq (len cs) q.2) (opt (puts q.1 cs z) none fun z' => fill pl vs z') none) = some l := h
      obtain ⟨cs, h1, h2⟩ := opt_eq_some h
      rw [cnd_eq] at h2
      split at h2
      · rename_i hb
        have hb' := Nat.eq_of_beq_eq_true hb
        obtain ⟨z', h3, h4⟩ := opt_eq_some h2
        obtain ⟨h5, h6⟩ := puts_eq h3
        cases ps with
        | nil => cases hv
        | cons p ps =>
          obtain ⟨i, v⟩ := p
          simp only [List.map_cons, List.cons.injEq] at hp
          cases hv with
          | cons _ _ _ _ hx hv =>
            have hc := hx.cells h1
            have hlen := hc.length
            have hzl := hz.length
            rw [len_eq] at hb'
            have hcs : v.cells.size = q.2 := by rw [← hb', hlen]; simp
            have hsz : q.1 + v.cells.size ≤ Z.size := by
              have : Z.toList.length = Z.size := by simp
              rw [hcs, ← hb']; omega
            have hzl' : z.length = Z.size := by rw [hzl]; simp
            have e := foldl_sets q.1 v.cells.toList 0 Z (by simpa using hsz)
            have hstep : Instr.fill place Z ((i, v) :: ps) = Instr.fill place (v.cells.zipIdx.foldl (fun cs (c, j) => cs.setIfInBounds (q.1 + j) c) Z) ps := by
              rw [Instr.fill, hp.1]
              have : (v.cells.size ≠ q.2) = False := by simp [hcs]
              simp only [hcs, Bool.false_or, decide_eq_true_eq, ne_eq, not_true_eq_false, decide_false]
              rw [if_neg (by omega)]
            have e' : (v.cells.zipIdx.foldl (fun (cs : Array Value) (p : Value × Nat) => cs.setIfInBounds (q.1 + p.2) p.1) Z).toList = Z.toList.take q.1 ++ v.cells.toList ++ Z.toList.drop (q.1 + v.cells.toList.length) := by
              rw [← Array.foldl_toList, Array.toList_zipIdx]
              simpa using e
            refine fill_rel place pl vs z' l h4 ps _ hp.2 hv ?_ |>.imp fun R hR => ⟨by rw [hstep]; exact hR.1, hR.2⟩
            rw [h6]
            show LRel ι _ (v.cells.zipIdx.foldl (fun (cs : Array Value) (p : Value × Nat) => cs.setIfInBounds (q.1 + p.2) p.1) Z).toList
            rw [e', ← hlen]
            exact ((hz.take q.1).append hc).append (hz.drop _)
      · cases h2
end Go.Ev
