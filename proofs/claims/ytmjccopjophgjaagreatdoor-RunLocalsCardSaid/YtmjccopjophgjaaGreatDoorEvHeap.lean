/- The evaluator's operations on memory. -/
import Derived.Test.YtmjccopjophgjaaGreatDoorEvInv
import Derived.Conc.SmallLaws
import Derived.MapKept
import Derived.Laws.BytesString
namespace Go.Ev
open Go.RowKit (Below)
variable {P : Program} {E : Env} {base : Nat} {w0 : World} {ι : Inj} {H : Hp} {w : World} {T : PT AV} {L : List AV} {lk : Look} {a : Act}

theorem ar_inv {β : Type} {H : Hp} {b : Pos} {k : AV → PT AV → Nat → Option β} {v : β} (h : H.ar b none k = some v) : ∃ z t n, H.m.get b = some (.arr z t n) ∧ k z t n = some v := by
  unfold Hp.ar at h
  obtain ⟨x, h1, h2⟩ := opt_eq_some h
  cases x with
  | arr z t n => exact ⟨z, t, n, h1, h2⟩
  | _ => cases h2
/-- cells, or a long row -/
theorem cellsA_inv {β : Type} {H : Hp} {b : Pos} {k : Bool → List AV → Option β} {k' : AV → PT AV → Nat → Option β} {v : β} (h : H.cells b (H.ar b none k') k = some v) :
    (∃ ro l, H.m.get b = some (.cells ro l) ∧ k ro l = some v) ∨ ∃ z t n, H.m.get b = some (.arr z t n) ∧ k' z t n = some v := by
  unfold Hp.cells at h
  cases hx : H.m.get b with
  | none =>
    rw [hx] at h
    replace h : H.ar b none k' = some v := h
    obtain ⟨z, t, n, h1, _⟩ := ar_inv h
    rw [hx] at h1; cases h1
  | some x =>
    rw [hx] at h
    cases x with
    | cells ro l => exact .inl ⟨ro, l, rfl, h⟩
    | arr z t n =>
      replace h : H.ar b none k' = some v := h
      obtain ⟨z', t', n', h1, h2⟩ := ar_inv h
      rw [hx] at h1; cases h1
      exact .inr ⟨z, t, n, rfl, h2⟩
    | _ =>
      obtain ⟨z', t', n', h1, _⟩ := ar_inv (show H.ar b none k' = some v from h)
      rw [hx] at h1; cases h1
theorem cells_inv {β : Type} {H : Hp} {b : Pos} {k : Bool → List AV → Option β} {v : β} (h : H.cells b none k = some v) : ∃ ro l, H.m.get b = some (.cells ro l) ∧ k ro l = some v := by
  unfold Hp.cells at h
  obtain ⟨x, h1, h2⟩ := opt_eq_some h
  cases x with
  | cells ro l => exact ⟨ro, l, h1, h2⟩
  | map es c => cases h2
  | dead => cases h2
  | iter m s q l => cases h2
  | u8s => cases h2
  | chan cl => cases h2
  | arr u t n => cases h2
theorem cells_invO {H : Hp} {b : Pos} {k : Bool → List AV → OR} {v : AV} {H' : Hp} (h : H.cells b .no k = .val v H') : ∃ ro l, H.m.get b = some (.cells ro l) ∧ k ro l = .val v H' := by
  unfold Hp.cells at h
  cases hx : H.m.get b with
  | none => rw [hx] at h; cases h
  | some x =>
    rw [hx] at h
    cases x with
    | cells ro l => exact ⟨ro, l, rfl, h⟩
    | map es c => cases h
    | dead => cases h
    | iter m s q l => cases h
    | u8s => cases h
    | chan cl => cases h
    | arr u t n => cases h
theorem opt_invO {α : Type} {x : Option α} {s : α → OR} {v : AV} {H' : Hp} (h : opt x .no s = .val v H') : ∃ y, x = some y ∧ s y = .val v H' := by
  cases x with
  | none => cases h
  | some y => exact ⟨y, rfl, h⟩
theorem cnd_invO {c : Bool} {x : OR} {v : AV} {H' : Hp} (h : cnd c x .no = .val v H') : c = true ∧ x = .val v H' := by
  cases c with
  | true => exact ⟨rfl, h⟩
  | false => cases h
theorem cnd_invO' {c : Bool} {x : OR} {v : AV} {H' : Hp} (h : cnd c .no x = .val v H') : c = false ∧ x = .val v H' := by
  cases c with
  | true => cases h
  | false => exact ⟨rfl, h⟩

/-- The cells behind a place, here and there. -/
theorem brow {r d z o n : Nat} {ro : Bool} {l q : List AV} (hb : BRel ι w r d z (.cells ro l)) (hq : o + n ≤ l.length) (he : q = (l.drop o).take n) :
    ∃ C : List Value, LRel ι q C ∧ C.length = n ∧ (∀ j v, C[j]? = some v → w.cell? ((⟨r, d + o, none⟩ : Addr).add j) = some v) := by
  have key : ∀ j, j < n → ∃ v, w.cell? ⟨r, d + (o + j), none⟩ = some v ∧ (∀ x, l[o + j]? = some x → VRel ι x v) := by
    intro j hj
    have hlt : o + j < l.length := by omega
    obtain ⟨v, h1, h2⟩ := hb.2.1 (o + j) l[o + j] (List.getElem?_eq_getElem hlt)
    exact ⟨v, h1, fun x hx => by rw [List.getElem?_eq_getElem hlt] at hx; cases hx; exact h2⟩
  refine ⟨(List.range n).map fun j => (w.cell? ⟨r, d + (o + j), none⟩).getD undef, ?_, by simp, ?_⟩
  · subst he
    refine .of_get (by simp; omega) fun i x v hx hv => ?_
    have hin : i < n := by
      rcases Nat.lt_or_ge i n with h' | h'
      · exact h'
      · rw [List.getElem?_eq_none (by simp; omega)] at hv; cases hv
    obtain ⟨u, h1, h2⟩ := key i hin
    rw [List.getElem?_map, List.getElem?_range hin] at hv
    simp only [Option.map_some, h1, Option.getD_some, Option.some.injEq] at hv
    subst hv
    refine h2 x ?_
    rw [List.getElem?_take_of_lt hin, List.getElem?_drop] at hx
    exact hx
  · intro j v hv
    have hin : j < n := by
      rcases Nat.lt_or_ge j n with h' | h'
      · exact h'
      · rw [List.getElem?_eq_none (by simp; omega)] at hv; cases hv
    obtain ⟨u, h1, _⟩ := key j hin
    rw [List.getElem?_map, List.getElem?_range hin] at hv
    simp only [Option.map_some, h1, Option.getD_some, Option.some.injEq] at hv
    subst hv
    rw [add_none, Nat.add_assoc]; exact h1

/-! ### loads -/
theorem Rl.row (h : Rl E base w0 ι H w) {b : Pos} {r d z o n : Nat} {ro : Bool} {l q : List AV} (hi : ι b = some (r, d, z)) (hg : H.m.get b = some (.cells ro l)) (hq : o + n ≤ l.length) (he : q = (l.drop o).take n) :
    ∃ C : List Value, LRel ι q C ∧ C.length = n ∧ (∀ j v, C[j]? = some v → w.cell? ((⟨r, d + o, none⟩ : Addr).add j) = some v) := brow (h.blk b r d z _ hi hg) hq he

theorem load_gives (hE : EnvOk P E) (h : Rl E base w0 ι H w) {t n : Nat} {g : Bool} (hg : E.isAgg t = some g) (hn : E.size t = some n) {x : AV} {cx : Value} (hx : VRel ι x cx) {v : AV}
    (hv : (cnd g (ldn n) ld1) x H = some v) : Gives P ι w (Instr.loadAt t cx) v := by
  cases g with
  | true =>
    replace hv : ldn n x H = some v := hv
    unfold ldn at hv
    split at hv
    · rename_i b o
      obtain ⟨ro, l, h1, h2⟩ := cells_inv hv
      obtain ⟨q, h3, h4⟩ := opt_eq_some h2
      cases h4
      obtain ⟨h5, h6⟩ := sub_eq h3
      cases hx with
      | ptr _ _ r d z hi =>
        obtain ⟨C, c1, c2, c3⟩ := h.row hi h1 h5 h6
        refine ⟨.agg C.toArray, ?_, .agg _ _ c1⟩
        have := run_loadCells_list (P := P) w ⟨r, d + o, none⟩ C c3
        rw [c2] at this
        simp [Instr.loadAt, Instr.sureAddr, loadVar, isAgg_run (P := P) (w := w) hE hg, size_run (P := P) (w := w) hE hn, this]
    · cases hv
  | false =>
    replace hv : ld1 x H = some v := hv
    unfold ld1 at hv
    split at hv
    · rename_i b o
      rcases cellsA_inv hv with ⟨ro, l, h1, h2⟩ | ⟨zz, t', n', h1, h2⟩
      · rw [nth_eq] at h2
        cases hx with
        | ptr _ _ r d z hi =>
          obtain ⟨u, h3, h4⟩ := (h.blk b r d z _ hi h1 : BRel ι w r d z (.cells ro l)).2.1 o v h2
          refine ⟨u, ?_, h4⟩
          simp [Instr.loadAt, Instr.sureAddr, loadVar, isAgg_run (P := P) (w := w) hE hg, h3]
      · obtain ⟨h6, h5⟩ := cnd_some h2
        cases h5
        cases hx with
        | ptr _ _ r d z hi =>
          obtain ⟨u, h3, h4⟩ := (h.blk b r d z _ hi h1 : BRel ι w r d z (.arr zz t' n')).2.1 o (Nat.le_of_ble_eq_true h6)
          refine ⟨u, ?_, h4⟩
          simp [Instr.loadAt, Instr.sureAddr, loadVar, isAgg_run (P := P) (w := w) hE hg, h3]
    · cases hv
/-! ### reads of maps, of bytes -/
theorem mp_inv {β : Type} {H : Hp} {b : Pos} {k : List (AV × AV × Nat) → Nat → Option β} {v : β} (h : H.mp b none k = some v) : ∃ es c, H.m.get b = some (.map es c) ∧ k es c = some v := by
  unfold Hp.mp at h
  obtain ⟨x, h1, h2⟩ := opt_eq_some h
  cases x with
  | map es c => exact ⟨es, c, h1, h2⟩
  | cells ro l => cases h2
  | dead => cases h2
  | iter m s q l => cases h2
  | u8s => cases h2
  | chan cl => cases h2
  | arr u t n => cases h2
theorem mp_invO {H : Hp} {b : Pos} {k : List (AV × AV × Nat) → Nat → OR} {v : AV} {H' : Hp} (h : H.mp b .no k = .val v H') : ∃ es c, H.m.get b = some (.map es c) ∧ k es c = .val v H' := by
  unfold Hp.mp at h
  obtain ⟨x, h1, h2⟩ := opt_invO h
  cases x with
  | map es c => exact ⟨es, c, h1, h2⟩
  | cells ro l => cases h2
  | dead => cases h2
  | iter m s q l => cases h2
  | u8s => cases h2
  | chan cl => cases h2
  | arr u t n => cases h2
theorem it_invO {H : Hp} {b : Pos} {k : Option Pos → Nat → List Nat → Nat → OR} {v : AV} {H' : Hp} (h : H.it b .no k = .val v H') : ∃ m s q l, H.m.get b = some (.iter m s q l) ∧ k m s q l = .val v H' := by
  unfold Hp.it at h
  obtain ⟨x, h1, h2⟩ := opt_invO h
  cases x with
  | map es c => cases h2
  | cells ro l => cases h2
  | dead => cases h2
  | iter m s q l => exact ⟨m, s, q, l, h1, h2⟩
  | u8s => cases h2
  | chan cl => cases h2
  | arr u t n => cases h2
theorem ERel.length : ∀ {l : List (AV × AV × Nat)} {L : List MapEntry}, ERel ι l L → l.length = L.length
  | _, _, .nil => rfl
  | _, _, .cons _ _ _ _ _ _ _ _ _ t => by simp [t.length]
/-- A map's entries, here and there. -/
theorem Rl.mapAt (h : Rl E base w0 ι H w) {b : Pos} {cx : Value} (hx : VRel ι (.map b) cx) {es : List (AV × AV × Nat)} {c : Nat} (hg : H.m.get b = some (.map es c)) :
    ∃ r z ES, cx = .map (some r) ∧ ι b = some (r, 0, z) ∧ w.heap[r]? = some (.map ES c) ∧ ERel ι es ES.toList := by
  cases hx with
  | map _ r z hi =>
    obtain ⟨_, ES, h1, h2⟩ : BRel ι w r 0 z (.map es c) := h.blk b r 0 z _ hi hg
    exact ⟨r, z, ES, rfl, hi, h1, h2⟩
theorem lenm_gives (hE : EnvOk P E) (h : Rl E base w0 ι H w) {t kt et : Nat} (hu : E.und t = some (.map kt et)) {x : AV} {cx : Value} (hx : VRel ι x cx) {v : AV} (hv : mlF x H = some v) {ty : TypeId} :
    Gives P ι w (Builtin.len_ #[t] ty #[cx]) v := by
  unfold mlF at hv
  split at hv
  · cases hv
    cases hx
    refine ⟨.int .i64 0, ?_, .int _ _⟩
    simp [Builtin.len_, und_run (P := P) (w := w) hE hu, goInt]
  · rename_i b
    obtain ⟨es, c, h1, h2⟩ := mp_inv hv
    obtain ⟨r, z, ES, rfl, hi, h3, h4⟩ := h.mapAt hx h1
    rw [fNat_eq] at h2
    cases h2
    have hl := h4.length
    refine ⟨.int .i64 (len es), ?_, .int _ _⟩
    rw [len_eq, hl]
    simp [Builtin.len_, und_run (P := P) (w := w) hE hu, goInt, getObj, Sem.run, h3]
  · cases hv
theorem bytes_fold : ∀ (s : List Nat) (b : ByteArray), (∀ n ∈ s, n ≤ 255) → ((s.map Int.ofNat).foldl (fun r n => r.push (UInt8.ofNat n.toNat)) b).data.toList.map (·.toNat) = b.data.toList.map (·.toNat) ++ s
  | [], b, _ => by simp
  | n :: s, b, h => by
    have hn : n ≤ 255 := h n (by simp)
    rw [List.map_cons, List.foldl_cons, bytes_fold s _ fun m hm => h m (by simp [hm])]
    have : (b.push (UInt8.ofNat n)).data = b.data.push (UInt8.ofNat n) := rfl
    show ((b.push (UInt8.ofNat n)).data).toList.map (·.toNat) ++ s = _
    rw [this]
    simp
    omega
theorem byteOf_rel {v : AV} {n : Nat} (h : byteOf v = some n) : v = .int .u8 (.ofNat n) ∧ n ≤ 255 := by
  unfold byteOf at h
  split at h
  · obtain ⟨h1, h2⟩ := cnd_some h
    cases h2
    exact ⟨rfl, Nat.le_of_ble_eq_true h1⟩
  · cases h
theorem bytes_rel : ∀ {r : List AV} {s : List Nat} {C : List Value}, mapO byteOf r = some s → LRel ι r C → C = (s.map Int.ofNat).map (Value.int .u8) ∧ ∀ n ∈ s, n ≤ 255
  | [], s, C, h, hC => by cases h; cases hC; exact ⟨rfl, by simp⟩
  | x :: r, s, C, h, hC => by
    obtain ⟨n, s', h1, h2, rfl⟩ := mapO_cons h
    obtain ⟨rfl, hn⟩ := byteOf_rel h1
    cases hC with
    | cons _ c _ C hx t =>
      obtain ⟨e, hs⟩ := bytes_rel h2 t
      have := int_rel hx
      subst this
      refine ⟨by rw [e]; rfl, fun m hm => ?_⟩
      cases hm with
      | head => exact hn
      | tail _ hm => exact hs m hm
theorem isAtB_rel {x : AV} {v : Value} (h : isAtB x = true) (hx : VRel ι x v) : ∃ n, v = .int .u8 n := by
  unfold isAtB at h
  split at h
  · exact ⟨_, int_rel hx⟩
  · rename_i i tb
    cases hg : atG i (.cv .u8) tb with
    | none => rw [hg] at h; cases h
    | some r =>
      rw [hg] at h
      cases r with
      | «at» j =>
        obtain rfl : j = i := Nat.eq_of_beq_eq_true h
        obtain ⟨ho, rfl⟩ := at_rel hx
        have h1 : some (AV.int .u8 (wr .u8 (ι.s j).2)) = some (.int (ι.s j).1 (ι.s j).2) := ho j _ _ (atG_some hg)
        have h2 := Option.some.inj h1
        injection h2 with h3 h4
        exact ⟨_, by rw [← h3]⟩
      | _ => cases h
  · cases h
theorem isAtB_ints : ∀ {l : List AV} {C : List Value}, allB isAtB l = true → LRel ι l C → ∃ ns : List Int, C = ns.map (Value.int .u8)
  | [], _, _, .nil => ⟨[], rfl⟩
  | x :: l, _, h, .cons _ v _ C hx t => by
    replace h : iand (isAtB x) (allB isAtB l) = true := h
    rw [iand_eq, Bool.and_eq_true] at h
    obtain ⟨n, rfl⟩ := isAtB_rel h.1 hx
    obtain ⟨ns, rfl⟩ := isAtB_ints h.2 t
    exact ⟨n :: ns, rfl⟩
theorem isAtB_at {i : Nat} {tb : List (Nat × AtO × AtV)} (h : isAtB (.at i tb) = true) (ho : AtOk ι.s tb) : (ι.s i).1 = .u8 ∧ 0 ≤ (ι.s i).2 ∧ (ι.s i).2 < 256 := by
  replace h : (opt (atG i (.cv .u8) tb) false fun r => AtV.rec (motive := fun _ => Bool) (fun j => Nat.beq j i) (fun _ => false) (fun _ _ => false) r) = true := h
  cases hg : atG i (.cv .u8) tb with
  | none => rw [hg] at h; cases h
  | some r =>
    rw [hg] at h
    cases r with
    | «at» j =>
      obtain rfl : j = i := Nat.eq_of_beq_eq_true h
      have h1 : some (AV.int .u8 (wr .u8 (ι.s j).2)) = some (.int (ι.s j).1 (ι.s j).2) := ho j _ _ (atG_some hg)
      have h2 := Option.some.inj h1
      injection h2 with h3 h4
      rw [wr_eq] at h4
      replace h4 : (ι.s j).2 % (2 ^ 8 : Int) = (ι.s j).2 := h4
      have h5 := Int.emod_nonneg (ι.s j).2 (show (2 ^ 8 : Int) ≠ 0 by decide)
      have h6 := Int.emod_lt_of_pos (ι.s j).2 (show (0 : Int) < 2 ^ 8 by decide)
      rw [h4] at h5 h6
      exact ⟨h3.symm, h5, h6⟩
    | _ => cases h
theorem putU_lt : ∀ (f u : Nat), u < 128 ^ (f + 1) → ∀ x ∈ putU f u, x ≤ 255
  | 0, u, h, x, hx => by
    have : x = u := by simpa [putU] using hx
    simp at h
    omega
  | f + 1, u, h, x, hx => by
    unfold putU at hx
    split at hx
    · have : x = u := by simpa using hx
      omega
    · cases hx with
      | head => omega
      | tail _ hx => exact putU_lt f (u / 128) (by rw [Nat.pow_succ] at h; omega) x hx
theorem decB_lt : ∀ (f n : Nat), ∀ x ∈ decB f n, x ≤ 255
  | 0, n, x, hx => by simp [decB] at hx
  | f + 1, n, x, hx => by
    unfold decB at hx
    split at hx
    · simp at hx
    · cases hx with
      | head => omega
      | tail _ hx => exact decB_lt f _ x hx
theorem tks_lt {σ : Nat → IntKind × Int} {l : List Tk} (h : ∀ t ∈ l, t.ok σ) : ∀ x ∈ tksB σ l, x ≤ 255 := by
  intro x hx
  obtain ⟨t, ht, hx⟩ := List.mem_flatMap.1 hx
  have hk := h t ht
  cases t with
  | b n =>
    have : x = n := by simpa [Tk.bs] using hx
    have hk' : n < 256 := hk
    omega
  | a i tb =>
    have : x = (σ i).2.toNat := by simpa [Tk.bs] using hx
    obtain ⟨_, _, k3, k4⟩ := hk
    omega
  | q i tb =>
    obtain ⟨_, _, k3, k4⟩ := hk
    refine putU_lt 9 _ ?_ x hx
    have : (128 : Nat) ^ (9 + 1) = 1180591620717411303424 := by decide
    rw [this]
    split <;> omega
  | o i => exact decB_lt _ _ x hx
theorem cellTk_rel : ∀ {r : List AV} {l : List Tk} {C : List Value}, mapO cellTk r = some l → allB isAtB r = true → LRel ι r C → (∀ t ∈ l, t.ok ι.s) ∧ C = ((tksB ι.s l).map Int.ofNat).map (Value.int .u8)
  | [], l, C, h, _, hC => by cases h; cases hC; exact ⟨by simp, rfl⟩
  | x :: r, l, C, h, hb, hC => by
    obtain ⟨n, s', h1, h2, rfl⟩ := mapO_cons h
    replace hb : iand (isAtB x) (allB isAtB r) = true := hb
    rw [iand_eq, Bool.and_eq_true] at hb
    cases hC with
    | cons _ c _ C hx t =>
      obtain ⟨e1, e2⟩ := cellTk_rel h2 hb.2 t
      have e3 : tksB ι.s (n :: s') = n.bs ι.s ++ tksB ι.s s' := by simp [tksB]
      have main : n.ok ι.s ∧ ∃ y : Nat, n.bs ι.s = [y] ∧ c = .int .u8 (Int.ofNat y) := by
        unfold cellTk at h1
        split at h1
        · rename_i m
          obtain ⟨h3, h4⟩ := cnd_some h1
          cases h4
          have h5 := Nat.le_of_ble_eq_true h3
          exact ⟨show m < 256 by omega, m, rfl, int_rel hx⟩
        · rename_i i tb
          cases h1
          obtain ⟨ho, rfl⟩ := at_rel hx
          obtain ⟨k1, k2, k3⟩ := isAtB_at hb.1 ho
          refine ⟨⟨ho, k1, k2, k3⟩, (ι.s i).2.toNat, rfl, ?_⟩
          rw [k1]
          congr 1
          show (ι.s i).2 = ((ι.s i).2.toNat : Int)
          omega
        · cases h1
      obtain ⟨m1, y, m2, rfl⟩ := main
      refine ⟨fun t ht => ?_, ?_⟩
      · cases ht with
        | head => exact m1
        | tail _ ht => exact e1 t ht
      · rw [e3, m2, e2]; rfl
theorem u8_inv {β : Type} {b : Pos} {k : Option (List Tk) → Option β} {v : β} (h : H.u8 b none k = some v) : ∃ t, H.m.get b = some (.u8s t) ∧ k t = some v := by
  unfold Hp.u8 at h
  obtain ⟨x, h1, h2⟩ := opt_eq_some h
  cases x with
  | u8s t => exact ⟨t, h1, h2⟩
  | _ => cases h2
theorem b2s_gives (hE : EnvOk P E) (h : Rl E base w0 ι H w) {s d e : Nat} (hd : E.und d = some .string) (hs : E.und s = some (.slice e)) (he : E.und e = some (.int .u8)) {x : AV} {cx : Value} (hx : VRel ι x cx) {v : AV} (hv : b2s x H = some v) :
    Gives P ι w (convert s d cx) v := by
  have conv : ∀ a l c, (convert s d (.slice a l c)).run P w = (Conv.bytesToString (.slice a l c)).run P w := fun a l c => run_convert_bytes_string w s d e a l c (und_eq hE hs) (und_eq hE he) (und_eq hE hd)
  have finC : ∀ (a : Addr) (c n : Nat) (ss : List Nat), (∀ x ∈ ss, x ≤ 255) → ss.length = n → (∀ j v, ((ss.map Int.ofNat).map (Value.int .u8))[j]? = some v → w.cell? (a.add j) = some v) →
      ∃ u : ByteArray, u.data.toList.map (·.toNat) = ss ∧ (convert s d (.slice (some a) n c)).run P w = .ok (.string u) w := by
    intro a c n ss e2 h3 h4
    have hl := run_loadCells_list (P := P) w a _ h4
    rw [List.length_map, List.length_map, h3] at hl
    refine ⟨_, ?_, (conv _ _ _).trans (run_bytesToString w a n c _ hl)⟩
    rw [bytes_fold _ _ e2]; rfl
  have fin : ∀ (a : Addr) (c n : Nat) (r : List AV) (ss : List Nat) (C : List Value), mapO byteOf r = some ss → LRel ι r C → C.length = n → (∀ j v, C[j]? = some v → w.cell? (a.add j) = some v) →
      Gives P ι w (convert s d (.slice (some a) n c)) (.str ss) := by
    intro a c n r ss C h1 h2 h3 h4
    obtain ⟨e1, e2⟩ := bytes_rel h1 h2
    subst e1
    obtain ⟨u, k1, k2⟩ := finC a c n ss e2 (by simpa using h3) h4
    exact ⟨_, k2, .str _ _ k1⟩
  have finT : ∀ (a : Addr) (c n : Nat) (l : List Tk), (∀ t ∈ l, t.ok ι.s) → n ≤ 1000000 → (tksB ι.s l).length = n → (∀ j v, (((tksB ι.s l).map Int.ofNat).map (Value.int .u8))[j]? = some v → w.cell? (a.add j) = some v) →
      Gives P ι w (convert s d (.slice (some a) n c)) (.stk l) := by
    intro a c n l h1 h2 h3 h4
    obtain ⟨u, k1, k2⟩ := finC a c n _ (tks_lt h1) h3 h4
    exact ⟨_, k2, .stk _ _ k1 ⟨h1, by omega⟩⟩
  have finA : ∀ (a : Addr) (c n : Nat) (r : List AV) (C : List Value) (v : AV), cnd (iand (Nat.ble n 1000000) (allB isAtB r)) (opt (mapO cellTk r) none fun l => some (.stk l)) none = some v → LRel ι r C → C.length = n → (∀ j v, C[j]? = some v → w.cell? (a.add j) = some v) → Gives P ι w (convert s d (.slice (some a) n c)) v := by
    intro a c n r C v h1 h2 h3 h4
    obtain ⟨h5, h6⟩ := cnd_some h1
    simp only [iand_eq, Bool.and_eq_true] at h5
    obtain ⟨l, h7, h8⟩ := opt_eq_some h6
    cases h8
    obtain ⟨e1, e2⟩ := cellTk_rel h7 h5.2 h2
    subst e2
    exact finT a c n l e1 (Nat.le_of_ble_eq_true h5.1) (by simpa using h3) h4
  unfold b2s at hv
  split at hv
  · cases hv
    cases hx
    exact ⟨.string .empty, conv _ _ _, .str _ _ rfl⟩
  · rename_i b o n c0
    obtain ⟨ro, l, h1, h2⟩ := cells_inv hv
    obtain ⟨r, h3, h4⟩ := opt_eq_some h2
    obtain ⟨h7, h8⟩ := sub_eq h3
    cases h5 : mapO byteOf r with
    | none =>
      rw [h5] at h4
      replace h4 : cnd (iand (Nat.ble n 1000000) (allB isAtB r)) (opt (mapO cellTk r) none fun l => some (.stk l)) none = some v := h4
      cases hx with
      | sl _ _ _ c r d z hi =>
        obtain ⟨C, c1, c2, c3⟩ := h.row hi h1 h7 h8
        exact finA _ _ _ _ _ _ h4 c1 c2 c3
      | slu _ _ _ c r d z e' hi hc hz =>
        obtain ⟨C, c1, c2, c3⟩ := h.row hi h1 h7 h8
        exact finA _ _ _ _ _ _ h4 c1 c2 c3
      | slv _ _ r d z ad c hi hc =>
        obtain ⟨C, c1, c2, c3⟩ := h.row hi h1 h7 h8
        have : C = [] := List.eq_nil_of_length_eq_zero c2
        subst this
        exact finA _ _ _ _ _ _ h4 c1 c2 (by simp)
    | some ss =>
    rw [h5] at h4
    cases h4
    cases hx with
    | sl _ _ _ c r d z hi =>
      obtain ⟨C, c1, c2, c3⟩ := h.row hi h1 h7 h8
      exact fin _ _ _ _ _ _ h5 c1 c2 c3
    | slu _ _ _ c r d z e' hi hc hz =>
      obtain ⟨C, c1, c2, c3⟩ := h.row hi h1 h7 h8
      exact fin _ _ _ _ _ _ h5 c1 c2 c3
    | slv _ _ r d z ad c hi hc =>
      obtain ⟨C, c1, c2, c3⟩ := h.row hi h1 h7 h8
      have : C = [] := List.eq_nil_of_length_eq_zero c2
      subst this
      exact fin _ _ _ _ _ _ h5 c1 c2 (by simp)
  · rename_i b m
    obtain ⟨t, h1, h2⟩ := u8_inv hv
    cases hx with
    | slq _ _ n c r d' Z hi hm hc hz =>
      obtain ⟨n', Z', e1, e2, e3, e4⟩ := h.blk b r d' _ _ hi h1
      obtain ⟨rfl, rfl⟩ := code_inj e1
      cases t with
      | some l =>
        cases h2
        obtain ⟨q1, q2, q3⟩ := e4 l rfl
        refine finT _ _ _ l q1.1 (by have := q1.2; omega) q2 fun j v hj => ?_
        rw [List.getElem?_map, List.getElem?_map] at hj
        cases hx : (tksB ι.s l)[j]? with
        | none => rw [hx] at hj; cases hj
        | some y =>
          rw [hx] at hj
          cases hj
          rw [add_none]
          exact q3 j y hx
      | none =>
        cases h2
        obtain ⟨f, hf⟩ : ∃ f : Nat → Int, ∀ j, j < n → w.cell? ⟨r, d' + j, none⟩ = some (.int .u8 (f j)) :=
          ⟨fun j => if hj : j < n then (e2 j hj).choose else 0, fun j hj => by show _ = some (Value.int .u8 (if hj : j < n then (e2 j hj).choose else 0)); rw [dif_pos hj]; exact (e2 j hj).choose_spec⟩
        have hl := run_loadCells_list (P := P) w ⟨r, d', none⟩ (((List.range n).map f).map (Value.int .u8)) (fun j v hj => by
          rw [List.map_map, List.getElem?_map] at hj
          cases hr : (List.range n)[j]? with
          | none => rw [hr] at hj; cases hj
          | some q =>
            rw [hr] at hj
            have hj2 := (List.getElem?_eq_some_iff.1 hr).1
            have : q = j := by
              have := (List.getElem?_eq_some_iff.1 hr).2
              simpa using this.symm
            subst this
            cases hj
            rw [add_none]
            exact hf q (by simpa using hj2))
        rw [List.length_map, List.length_map, List.length_range] at hl
        exact ⟨_, (conv _ _ _).trans (run_bytesToString w _ n c _ hl), .any _⟩
  · cases hv
theorem read_sound (hE : EnvOk P E) (h : Rl E base w0 ι H w) (hl : LkOk ι T L lk a) {o : Oper} {f : AV → Hp → Option AV} {x : Opd} (hk : cK E lk o.op = some (.r1 f x)) {v : AV} (hv : f (x.ev T L) H = some v) :
    OpGives P ι w a.eval o v := by
  obtain ⟨dst, op, type, pos, after, guard⟩ := o
  cases cK_inv hk with
  | pur _ _ h => cases h
  | load t n g y z h1 h2 h3 => exact .of (load_gives hE h h1 h2 (opd_sound h.glob hl h3) hv) rfl
  | lenm t kt et y z h1 h2 => exact .of (lenm_gives (ty := type) hE h h1 (opd_sound h.glob hl h2) hv) (by simp [execOp, resolve, invoke, builtin])
  | b2s s d e y z h1 h2 h3 h4 => exact .of (b2s_gives hE h h1 h2 h3 (opd_sound h.glob hl h4) hv) rfl
/-- What is read stays readable while blocks are made. -/
def Hp.ext (H H' : Hp) : Prop := ∀ b x, H.m.get b = some x → H'.m.get b = some x
theorem cells_ext {β : Type} {H H' : Hp} (hx : H.ext H') {b : Pos} {k : Bool → List AV → Option β} {v : β} (h : H.cells b none k = some v) : H'.cells b none k = some v := by
  obtain ⟨ro, l, h1, h2⟩ := cells_inv h
  unfold Hp.cells
  rw [hx _ _ h1]
  exact h2
theorem cellsA_ext {β : Type} {H H' : Hp} (hx : H.ext H') {b : Pos} {k : Bool → List AV → Option β} {k' : AV → PT AV → Nat → Option β} {v : β} (h : H.cells b (H.ar b none k') k = some v) : H'.cells b (H'.ar b none k') k = some v := by
  rcases cellsA_inv h with ⟨ro, l, h1, h2⟩ | ⟨z, t, n, h1, h2⟩
  · unfold Hp.cells
    rw [hx _ _ h1]
    exact h2
  · have e : H'.ar b none k' = some v := by
      unfold Hp.ar
      rw [hx _ _ h1]
      exact h2
    unfold Hp.cells
    rw [hx _ _ h1]
    exact e
theorem load_ext {n : Nat} {g : Bool} {H H' : Hp} (hx : H.ext H') {x v : AV} (h : (cnd g (ldn n) ld1) x H = some v) : (cnd g (ldn n) ld1) x H' = some v := by
  cases g with
  | true =>
    replace h : ldn n x H = some v := h
    show ldn n x H' = some v
    unfold ldn at h ⊢
    split at h
    · exact cells_ext hx h
    · cases h
  | false =>
    replace h : ld1 x H = some v := h
    show ld1 x H' = some v
    unfold ld1 at h ⊢
    split at h
    · exact cellsA_ext hx h
    · cases h
theorem read_ext {op : Op} {f : AV → Hp → Option AV} {x : Opd} (hk : cK E lk op = some (.r1 f x)) {H H' : Hp} (hx : H.ext H') {y v : AV} (h : f y H = some v) : f y H' = some v := by
  cases cK_inv hk with
  | pur _ _ h => cases h
  | load t n g y z h1 h2 h3 => exact load_ext hx h
  | lenm t kt et y z h1 h2 =>
    unfold mlF at h ⊢
    split at h
    · exact h
    · obtain ⟨es, c, e1, e2⟩ := mp_inv h
      unfold Hp.mp
      rw [hx _ _ e1]
      exact e2
    · cases h
  | b2s s d e y z h1 h2 h3 h4 =>
    unfold b2s at h ⊢
    split at h
    · exact h
    · exact cells_ext hx h
    · obtain ⟨tk, e1, e2⟩ := u8_inv h
      unfold Hp.u8
      rw [hx _ _ e1]
      exact e2
    · cases h

/-! ### new blocks -/
/-- the model's name of a new block -/
def Mk.cv (m : Mk) (r : Nat) : Value :=
  match m with
  | .ptr => .pointer (some ⟨r, 0, none⟩)
  | .sl n c => .slice (some ⟨r, 0, none⟩) n c
  | .map => .map (some r)
  | .chn => .chan (some r)
theorem Mk.rel {m : Mk} {b : Pos} {r z : Nat} (h : ι b = some (r, 0, z)) : VRel ι (m.av b) (m.cv r) := by
  cases m with
  | ptr => have := VRel.ptr b 0 r 0 z h; exact this
  | sl n c => have := VRel.sl b 0 n c r 0 z h; exact this
  | map => exact .map b r z h
  | chn => exact .chn b r z h
theorem brel_new {l : List AV} {C : Array Value} {t : TypeId} (ro : Bool) (h : LRel ι l C.toList) (w : World) (κ : Inj) (hi : ι.le κ) : BRel κ (w.alloc (.cells C t)) w.heap.size 0 C.size (.cells ro l) := by
  have hl : l.length = C.size := by rw [h.length]; simp
  refine ⟨by omega, fun j x hx => ?_, fun _ j hj => ⟨?_, ?_⟩⟩
  · obtain ⟨v, h1, h2⟩ := h.get hx
    refine ⟨v, ?_, h2.mono hi⟩
    rw [Nat.zero_add, World.cell?_alloc_new]
    simpa using h1
  · rw [Nat.zero_add, World.cell?_alloc_new]
    simp [hj]
  · rw [Nat.zero_add, World.frozen?_alloc_new]
theorem rep_get {α : Type} (z : List α) : ∀ (n i : Nat), i < n * z.length → (rep n z)[i]? = z[i % z.length]?
  | 0, i, h => by simp at h
  | n + 1, i, h => by
    have e : rep (n + 1) z = z ++ rep n z := by show app z (rep n z) = _; rw [app_eq]
    rw [e]
    by_cases hi : i < z.length
    · rw [List.getElem?_append_left hi, Nat.mod_eq_of_lt hi]
    · have hi' : z.length ≤ i := by omega
      rw [List.getElem?_append_right hi', rep_get z n (i - z.length) (by rw [Nat.succ_mul] at h; omega)]
      congr 1
      rw [Nat.mod_eq_sub_mod hi']
theorem rep_rel {z : List AV} {Z : Array Value} (hz : LRel ι z Z.toList) (n : Nat) (hp : 1 ≤ z.length) : LRel ι (rep n z) ((Array.range (n * z.length)).map (fun i => Z[i % Z.size]!)).toList := by
  have hl : Z.size = z.length := by rw [hz.length]; simp
  refine .of_get (by simp [rep_length]) fun i x v hx hv => ?_
  have hi : i < n * z.length := by
    rcases Nat.lt_or_ge i (n * z.length) with h' | h'
    · exact h'
    · rw [List.getElem?_eq_none (by rw [rep_length]; exact h')] at hx; cases hx
  rw [rep_get z n i hi] at hx
  obtain ⟨u, h1, h2⟩ := hz.get hx
  have hv' : v = Z[i % Z.size]! := by
    simp only [Array.toList_map, List.getElem?_map] at hv
    have : (Array.range (n * z.length)).toList[i]? = some i := by
      rw [Array.toList_range, List.getElem?_range hi]
    rw [this] at hv
    simpa using hv.symm
  have hm : i % Z.size < Z.size := Nat.mod_lt _ (by omega)
  rw [hv', getElem!_pos Z (i % Z.size) hm]
  rw [← hl] at h1
  have : Z.toList[i % Z.size]? = some Z[i % Z.size] := by simp [hm]
  rw [this] at h1
  cases h1
  exact h2

theorem mksB_cases (sz c : Nat) (z : List AV) : mksB sz c z = .cells false (rep c z) ∨ ∃ u, z = [u] ∧ mksB sz c z = .arr u .l c := by
  unfold mksB
  split
  · rename_i u
    rw [cnd_eq]
    split
    · exact .inr ⟨u, rfl, rfl⟩
    · exact .inl rfl
  · exact .inl rfl
theorem mksB_live (sz c : Nat) (z : List AV) : (mksB sz c z).live = true ∧ (mksB sz c z).ro = false := by
  rcases mksB_cases sz c z with e | ⟨u, _, e⟩ <;> rw [e] <;> exact ⟨rfl, rfl⟩
theorem mksB_rel {sz c : Nat} {zl : List AV} {κ : Inj} {w : World} {r d Z : Nat} (h : BRel κ w r d Z (.cells false (rep c zl))) : BRel κ w r d Z (mksB sz c zl) ∧ (mksB sz c zl).live = true ∧ (mksB sz c zl).ro = false := by
  rcases mksB_cases sz c zl with e | ⟨u, rfl, e⟩
  · rw [e]; exact ⟨h, rfl, rfl⟩
  · rw [e]
    obtain ⟨h1, h2, h3⟩ := h
    rw [rep_length] at h1
    refine ⟨⟨by simpa using h1, fun j hj => ?_, h3 rfl⟩, rfl, rfl⟩
    have e1 : arrG u .l j = u := by
      unfold arrG
      rw [show (PT.l : PT AV).get (toP j) = none by cases toP j <;> rfl]
      rfl
    rw [e1]
    refine h2 j u ?_
    rw [rep_get [u] c j (by simpa using hj)]
    simp [Nat.mod_one]

theorem bnd63 (n : Nat) (h : n ≤ 1000000) : IntKind.i64.wrap (Int.ofNat n) = (n : Int) := by
  simp [IntKind.wrap, IntKind.bits, IntKind.signed]; omega

theorem al_sound (hE : EnvOk P E) (hg : ∀ g b, E.gl g = some b → ∃ z, ι b = some (g, 0, z)) (hl : LkOk ι T L lk a) {o : Oper} {f : List AV → Option (Blk × Mk)} {xs : List Opd} (hk : cK E lk o.op = some (.al f xs)) {x : Blk} {m : Mk} (hv : f (evs T L xs) = some (x, m)) :
    ∃ (ob : Obj) (z : Nat), (execOp a.eval o).run P w = .ok (.value (m.cv w.heap.size)) (w.alloc ob) ∧ (∀ κ, ι.le κ → BRel κ (w.alloc ob) w.heap.size 0 z x) ∧ x.live = true ∧ x.ro = false := by
  obtain ⟨dst, op, type, pos, after, guard⟩ := o
  cases cK_inv hk with
  | pur _ _ h => cases h
  | mkc t e dir i x' y h1 h2 h3 =>
    have hx := opd_sound hg hl h3
    have hrun : (Instr.makeChan t (a.eval x')).run P w = .ok (.chan (some w.heap.size)) (w.alloc (.chan 0 #[] false 0 0 false)) ∧ x = .chan false ∧ m = .chn := by
      replace hv : mkcF [y.ev T L] = some (x, m) := hv
      unfold mkcF at hv
      split at hv
      · rename_i k exs
        cases hv
        injection exs with e1 e2
        rw [e1] at hx
        rw [int_rel hx]
        have := Go.Conc.run_makeChan (P := P) (w := w) (und_eq hE h1) (hE.ty _ _ h2) k 0 (by decide) (by simp)
        exact ⟨by simpa using this, rfl, rfl⟩
      · cases hv
    obtain ⟨hrun, rfl, rfl⟩ := hrun
    refine ⟨.chan 0 #[] false 0 0 false, 0, by simp [execOp, hrun, Mk.cv], fun κ _ => ⟨rfl, 0, 0, 0, false, ?_⟩, rfl, rfl⟩
    show (w.heap.push _)[w.heap.size]? = _
    simp
  | mkm t kt et r xs h1 h2 =>
    have hx := opds_sound (T := T) (L := L) (a := a) hg hl h2
    have hrun : (Instr.makeMap t (r.map a.eval)).run P w = .ok (.map (some w.heap.size)) (w.alloc (.map #[] 0)) ∧ x = .map [] 0 ∧ m = .map := by
      unfold mkmF at hv
      split at hv
      · rename_i exs
        cases hv
        rw [exs] at hx
        cases r with
        | some y => cases hx
        | none => exact ⟨by simp [Instr.makeMap, newObj, Sem.run], rfl, rfl⟩
      · rename_i k n exs
        cases hv
        rw [exs] at hx
        cases r with
        | none => cases hx
        | some y =>
          replace hx : LRel ι [.int k n] [a.eval y] := hx
          cases hx with
          | cons _ _ _ _ hx1 _ =>
            have := int_rel hx1
            exact ⟨by simp [Instr.makeMap, this, und_run (P := P) (w := w) hE h1, asInt, asIntOf, newObj, Sem.run], rfl, rfl⟩
      · cases hv
    obtain ⟨hrun, rfl, rfl⟩ := hrun
    refine ⟨.map #[] 0, 0, by simp [execOp, hrun, Mk.cv], fun κ _ => ⟨rfl, #[], ?_, .nil⟩, rfl, rfl⟩
    show (w.heap.push _)[w.heap.size]? = _
    simp
  | alloc t z h =>
    cases hv
    obtain ⟨zc, h1, h2⟩ := zcells_run (P := P) (ι := ι) (w := w) hE h
    refine ⟨.cells zc.cells t, _, ?_, fun κ hκ => brel_new false h2 w κ hκ, rfl, rfl⟩
    have : (Instr.alloc t true (.tuple #[])).run P w = .ok (.pointer (some ⟨w.heap.size, 0, none⟩)) (w.alloc (.cells zc.cells t)) := by
      simp [Instr.alloc, h1, newVar, newRow, newObj, Sem.run]
    simp [execOp, this, Mk.cv]
  | box t x y h =>
    obtain ⟨l, h1, h2⟩ := opt_eq_some hv
    cases h2
    have hx := opd_sound hg hl h
    have hc := hx.cells h1
    refine ⟨.cells (a.eval x).cells t, _, ?_, fun κ hκ => brel_new false hc w κ hκ, rfl, rfl⟩
    have : (Instr.box t (a.eval x)).run P w = .ok (.pointer (some ⟨w.heap.size, 0, none⟩)) (w.alloc (.cells (a.eval x).cells t)) := by
      simp [Instr.box, newVar, newRow, newObj, Sem.run]
    simp [execOp, this, Mk.cv]
  | bsl t n e s z ps xs h1 h2 h3 h4 h5 h6 h7 =>
    obtain ⟨l, h8, h9⟩ := opt_eq_some hv
    replace h8 := fillQ_eq h8
    cases h9
    obtain ⟨zc, hz1, hz2⟩ := zcells_run (P := P) (ι := ι) (w := w) hE h3
    have hvs : LRel ι (evs T L xs) ((ps.toList.map fun (p : Nat × Operand) => (p.1, a.eval p.2)).map (·.2)) := by
      have e : (ps.toList.map fun (p : Nat × Operand) => (p.1, a.eval p.2)).map (·.2) = (ps.toList.map (·.2)).map a.eval := by simp
      rw [e]; exact opds_sound hg hl h4
    have hzl : zc.cells.size = s := by rw [← h5, hz2.length]; simp
    -- the zero cells
    obtain ⟨Z, hZ1, hZ2⟩ : ∃ Z : Array Value, ((if n * s = 0 then pure #[] else do pure (← zeroValue e).cells : Sem (Array Value)).run P w = .ok Z w) ∧ LRel ι (rep n z) ((Array.range (n * s)).map (Z[· % Z.size]!)).toList := by
      by_cases h0 : n * s = 0
      · refine ⟨#[], by rw [if_pos h0]; rfl, ?_⟩
        have hn0 : n = 0 := by
          rcases Nat.mul_eq_zero.1 h0 with h | h
          · exact h
          · omega
        subst hn0
        rw [h0]
        have e0 : ((Array.range 0).map ((#[] : Array Value)[· % (#[] : Array Value).size]!)).toList = [] := by simp
        rw [e0]
        exact .nil
      · refine ⟨zc.cells, by rw [if_neg h0]; simp [hz1], ?_⟩
        rw [← h5]
        exact rep_rel hz2 n (by omega)
    obtain ⟨R, hR1, hR2⟩ := fill_rel (ι := ι) (fun i => some (i * s, s)) _ _ _ l h8 (ps.toList.map fun (p : Nat × Operand) => (p.1, a.eval p.2)) _ (by simp [placesA]) hvs hZ2
    refine ⟨.cells R e, _, ?_, fun κ hκ => brel_new false hR2 w κ hκ, rfl, rfl⟩
    have : (Instr.buildSlice t n (ps.map fun (i, x) => (i, a.eval x))).run P w = .ok (.slice (some ⟨w.heap.size, 0, none⟩) n n) (w.alloc (.cells R e)) := by
      have e1 : (ps.map fun (p : Nat × Operand) => (p.1, a.eval p.2)).toList = ps.toList.map fun (p : Nat × Operand) => (p.1, a.eval p.2) := by simp
      have hR1' : Instr.fill (fun i => some (i * s, s)) ((Array.range (n * s)).map (Z[· % Z.size]!)) (ps.map fun (p : Nat × Operand) => (p.1, a.eval p.2)).toList = some R := by rw [e1]; exact hR1
      by_cases h0 : n * s = 0
      · rw [if_pos h0] at hZ1
        have hZ3 : #[] = Z := by simpa using hZ1
        subst hZ3
        simp only [Instr.buildSlice, Sem.run_bind, und_run (P := P) (w := w) hE h1, Result.andThen_ok, size_run (P := P) (w := w) hE h2]
        rw [if_neg (show ¬ n * s > 2 ^ 24 by omega), if_pos h0]
        simp only [Sem.run_bind, Sem.run_pure, Result.andThen_ok, hR1']
        simp [newRow, newObj, Sem.run]
      · rw [if_neg h0] at hZ1
        have hZ3 : zc.cells = Z := by simpa [hz1] using hZ1
        subst hZ3
        simp only [Instr.buildSlice, Sem.run_bind, und_run (P := P) (w := w) hE h1, Result.andThen_ok, size_run (P := P) (w := w) hE h2]
        rw [if_neg (show ¬ n * s > 2 ^ 24 by omega), if_neg h0]
        simp only [Sem.run_bind, Sem.run_pure, Result.andThen_ok, hz1, hR1']
        simp [newRow, newObj, Sem.run]
    simp [execOp, this, Mk.cv]
  | mks t e l c i z xs h1 h2 h3 h4 h5 h6 =>
    have hx := opds_sound (T := T) (L := L) (a := a) hg hl h4
    unfold mksF at hv
    split at hv
    · rename_i l' c' exs
      obtain ⟨h7, hv⟩ := cnd_some hv
      cases hv
      simp only [iand_eq, Bool.and_eq_true] at h7
      have k1 : l' ≤ c' := Nat.le_of_ble_eq_true h7.1
      have k2 : c' ≤ 1000000 := Nat.le_of_ble_eq_true h7.2.1
      have k3 : 1 ≤ i.size := Nat.le_of_ble_eq_true h7.2.2
      rw [exs] at hx
      cases hx with
      | cons _ _ _ _ hx1 hx =>
        cases hx with
        | cons _ _ _ _ hx2 hx =>
          have el := int_rel hx1
          have ec := int_rel hx2
          obtain ⟨zc, hz1, hz2⟩ := zcells_run (P := P) (ι := ι) (w := w) hE h3
          obtain ⟨Z, hZ1, hZ2⟩ : ∃ Z : Array Value, ((if c' * i.size = 0 then pure #[] else do pure (← zeroValue e).cells : Sem (Array Value)).run P w = .ok Z w) ∧ LRel ι (rep c' z) ((Array.range (c' * i.size)).map (Z[· % Z.size]!)).toList := by
            by_cases h0 : c' * i.size = 0
            · refine ⟨#[], by rw [if_pos h0]; rfl, ?_⟩
              have hn0 : c' = 0 := by
                rcases Nat.mul_eq_zero.1 h0 with h | h
                · exact h
                · omega
              subst hn0
              rw [h0]
              have e0 : ((Array.range 0).map ((#[] : Array Value)[· % (#[] : Array Value).size]!)).toList = [] := by simp
              rw [e0]
              exact .nil
            · refine ⟨zc.cells, by rw [if_neg h0]; simp [hz1], ?_⟩
              rw [← h5]
              exact rep_rel hz2 c' (by omega)
          refine ⟨.cells ((Array.range (c' * i.size)).map (Z[· % Z.size]!)) e, _, ?_, fun κ hκ => (mksB_rel (brel_new false hZ2 w κ hκ)).1, (mksB_live _ _ _).1, (mksB_live _ _ _).2⟩
          have : (Instr.makeSlice t (a.eval l) (a.eval c)).run P w = .ok (.slice (some ⟨w.heap.size, 0, none⟩) l' c') (w.alloc (.cells ((Array.range (c' * i.size)).map (Z[· % Z.size]!)) e)) := by
            rw [el, ec]
            have w1 := bnd63 l' (by omega)
            have w2 := bnd63 c' k2
            have hb : (i.bytes : Int) * (c' : Int) ≤ 2 ^ 48 := by
              have : i.bytes * c' ≤ 100000 * 1000000 := Nat.mul_le_mul h6 k2
              have : ((i.bytes * c' : Nat) : Int) ≤ 100000000000 := by omega
              rw [Int.natCast_mul] at this
              omega
            simp only [Instr.makeSlice, Sem.run_bind, und_run (P := P) (w := w) hE h1, Result.andThen_ok, asInt, asIntOf, Sem.run_pure, info_run (P := P) (w := w) hE h2, w1, w2]
            have c1 : ¬ ((decide ((c' : Int) < 0) || decide ((i.bytes : Int) * (c' : Int) > 2 ^ 48) || decide ((l' : Int) < 0) || decide ((l' : Int) > (c' : Int))) = true) := by
              simp only [Bool.or_eq_true, decide_eq_true_eq]
              omega
            rw [if_neg c1]
            have ask : ∀ n, (askRoom n).run P w = .ok () w := by
              intro n; unfold askRoom; split <;> rfl
            by_cases h0 : c' * i.size = 0
            · rw [if_pos h0] at hZ1
              have hZ3 : #[] = Z := by simpa using hZ1
              subst hZ3
              simp only [Sem.run_bind, Sem.run_pure, Result.andThen_ok, ask, sizeOf, info_run (P := P) (w := w) hE h2, Int.toNat_natCast, if_pos h0]
              simp [newRow, newObj, Sem.run]
            · rw [if_neg h0] at hZ1
              have hZ3 : zc.cells = Z := by simpa [hz1] using hZ1
              subst hZ3
              simp only [Sem.run_bind, Sem.run_pure, Result.andThen_ok, ask, sizeOf, info_run (P := P) (w := w) hE h2, Int.toNat_natCast, if_neg h0, hz1]
              simp [newRow, newObj, Sem.run]
          simp [execOp, this, Mk.cv]
    · cases hv
end Go.Ev
