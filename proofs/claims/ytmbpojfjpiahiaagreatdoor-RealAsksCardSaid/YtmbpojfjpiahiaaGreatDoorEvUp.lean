/- The words for the search of the classes above one: a loop over an iterator that writes its own box; walked by hand. -/
import Derived.RangeFuncNested
import Derived.RangeFuncBound
import Derived.RangeFuncCalls
import Derived.RangeFuncLeaves
import Derived.Shelf.Abstract
import Derived.Shelf.RegionOpen
import Derived.WalkKit
import Derived.OwnWalkIn
import Derived.TacticsInMore
import Derived.LoopNIn
import Derived.LoopIn
import Derived.Test.YtmbpojfjpiahiaaGreatDoorProg
namespace Go.Ev
open Go.RowKit Go.Shelf Go.Proofs
attribute [local go_sem] Oper.semAt_some
set_option maxRecDepth 100000
set_option maxHeartbeats 2000000

def Gv (P : Program) (f : Nat) (args : Array Value) (n0 : Nat) (w0 : World) (v : Value) : Prop :=
  ∀ W, Below n0 w0 W → Calls P f args W fun e W' => e = .returned v ∧ Below W.heap.size W W'
def Path (P : Program) (f n0 : Nat) (w0 : World) (lp : Value) : Int → List Int → Prop
  | a, [] => ∃ z, z < 0 ∧ Gv P f #[lp, .int .i64 a] n0 w0 (.int .i64 z)
  | a, x :: xs => 0 ≤ x ∧ Gv P f #[lp, .int .i64 a] n0 w0 (.int .i64 x) ∧ Path P f n0 w0 lp x xs

theorem up1_in (m n0 : Nat) (w0 : World) (l bl bc M : Nat) (lp : Value) (c : Int) (xs : List Int) (hP : Path Tryz.prog 221 n0 w0 lp c xs) (hM : Gv Tryz.prog 153 #[lp] n0 w0 (.int .i64 M)) (hlen : xs.length ≤ M) (hM2 : M < 1000000)
    (J : List Int → World → Prop) (hJ1 : ∀ pre W W', J pre W → Below W.heap.size W W' → J pre W') (hJ2 : ∀ pre W v, J pre W → J pre (W.setCell ⟨bc, 0, none⟩ v)) (hJb : ∀ pre W, J pre W → Below n0 w0 W)
    (hY : ∀ pre x W1, J pre W1 → x ∈ xs → YieldAt Fence.wide (m - 1) Tryz.prog l #[.int .i64 x] W1 fun e W' => e = .returned (.bool true) ∧ J (pre ++ [x]) W' ∧ W1.heap.size ≤ W'.heap.size ∧ ∀ k, k < W1.heap.size → k ≠ l → W'.heap[k]? = W1.heap[k]?)
    (W : World) (hbl : W.cell? ⟨bl, 0, none⟩ = some lp) (hbc : W.cell? ⟨bc, 0, none⟩ = some (.int .i64 c)) (hfc : W.frozen? ⟨bc, 0, none⟩ = false) (h1 : bl ≠ l) (h2 : bc ≠ l) (h3 : bl ≠ bc) (h0 : J [] W) :
    CallsIn Fence.wide m Tryz.prog 279 #[.func (.yield l) #[] #[], .pointer (some ⟨bl, 0, none⟩), .pointer (some ⟨bc, 0, none⟩)] W fun e W' => (∃ v, e = .returned v) ∧ J xs W' := by
  refine callsIn_of_wp Tryz.func279 rfl trivial ?_ rfl
  simp only [Tryz.ntmps279, List.size_toArray, List.length_cons, List.length_nil, Nat.reduceAdd, Nat.reduceSub, Array.replicate_succ, Array.replicate_zero, List.push_toArray, List.append_toArray, List.nil_append, List.cons_append]
  gi_wp2_with (refine ⟨trivial, (fun h => by simp [Fence.wide] at h), ?_⟩; gi_at_call 153; refine (callsIn_wide.2 (hM _ (hJb _ _ h0))).mono ?_; rintro e w1 ⟨rfl, hb1⟩)
  have keep : ∀ (A B : World), Below A.heap.size A B → ∀ (k : Nat) (v : Value), A.cell? ⟨k, 0, none⟩ = some v → B.cell? ⟨k, 0, none⟩ = some v ∧ B.frozen? ⟨k, 0, none⟩ = A.frozen? ⟨k, 0, none⟩ := by
    intro A B hb k v hv
    have hlt : k < A.heap.size := by
      obtain ⟨o, ho, _⟩ := cells_of_cell hv
      exact (Array.getElem?_eq_some_iff.1 ho).1
    exact ⟨(hb.cell (p := ⟨k, 0, none⟩) hlt).trans hv, World.frozen?_of_block (hb.block k hlt)⟩
  gi_loopw [7] (fun i wr => ∃ (pre rest : List Int) (cur : Int), i = .int .i64 pre.length ∧ xs = pre ++ rest ∧ wr.cell? ⟨bc, 0, none⟩ = some (.int .i64 cur) ∧ wr.frozen? ⟨bc, 0, none⟩ = false ∧ wr.cell? ⟨bl, 0, none⟩ = some lp ∧ Path Tryz.prog 221 n0 w0 lp cur rest ∧ J pre wr)
    (fun i _ => M + 1 - (match i with | .int _ n => n.toNat | _ => 0))
  case atStart =>
    exact ⟨[], xs, c, rfl, rfl, (keep W w1 hb1 bc _ hbc).1, (keep W w1 hb1 bc _ hbc).2.trans hfc, (keep W w1 hb1 bl _ hbl).1, hP, hJ1 _ _ _ h0 hb1⟩
  case round =>
    obtain ⟨pre, rest, cur, rfl, hx, hc, hf, hl, hPa, hJs⟩ := hrel
    have hpl : pre.length ≤ M := by rw [hx] at hlen; simp at hlen; omega
    have hlt : (pre.length : Int) < (M : Int) + 1 := by omega
    cases rest with
    | nil =>
      obtain ⟨z, hz, hG⟩ := hPa
      gi_wp2_with (refine ⟨trivial, (fun h => by simp [Fence.wide] at h), ?_⟩; gi_at_call 221; refine (callsIn_wide.2 (hG _ (hJb _ _ hJs))).mono ?_; rintro e w2 ⟨rfl, hb2⟩; obtain ⟨hc2, hf2⟩ := keep wr w2 hb2 bc _ hc; rw [hf] at hf2)
      refine ⟨fun _ h => (by cases h), ?_⟩
      gi_wp2
      refine bodyPost_ret (results_none rfl _ _ _) rfl ?_
      have hxp : pre = xs := by simpa using hx.symm
      exact ⟨⟨_, rfl⟩, hxp ▸ hJ2 _ _ _ (hJ1 _ _ _ hJs hb2)⟩
    | cons x rest =>
      obtain ⟨hx0, hG, hPa'⟩ := hPa
      have hxn : ¬ x < 0 := by omega
      gi_wp2_with (refine ⟨trivial, (fun h => by simp [Fence.wide] at h), ?_⟩; gi_at_call 221; refine (callsIn_wide.2 (hG _ (hJb _ _ hJs))).mono ?_; rintro e w2 ⟨rfl, hb2⟩; obtain ⟨hc2, hf2⟩ := keep wr w2 hb2 bc _ hc; rw [hf] at hf2; have hJ3 := hJ2 _ _ (.int .i64 x) (hJ1 _ _ _ hJs hb2); obtain ⟨fn, tmps, assign, body, hy, hR⟩ := hY pre x _ hJ3 (by rw [hx]; simp))
      refine ⟨fun h => (by simp [Fence.wide] at h), hR.mono ?_⟩
      rintro e W3 ⟨rfl, hJ4, hsz, hk⟩
      gi_wp2
      have hl2 := (keep wr w2 hb2 bl _ hl).1
      have hcs : (w2.setCell ⟨bc, 0, none⟩ (.int .i64 x)).cell? ⟨bc, 0, none⟩ = some (.int .i64 x) := World.cell?_setCell_same' _ _ _ (by rw [hc2]; rfl)
      have hls : (w2.setCell ⟨bc, 0, none⟩ (.int .i64 x)).cell? ⟨bl, 0, none⟩ = some lp := (World.cell?_of_block (Below.heap_setCell w2 ⟨bc, 0, none⟩ (.int .i64 x) bl h3)).trans hl2
      have lt_of : ∀ (A : World) (k : Nat) (v : Value), A.cell? ⟨k, 0, none⟩ = some v → k < A.heap.size := by
        intro A k v hv
        obtain ⟨o, ho, _⟩ := cells_of_cell hv
        exact (Array.getElem?_eq_some_iff.1 ho).1
      have e1 := hk bc (lt_of _ _ _ hcs) h2
      have e2 := hk bl (lt_of _ _ _ hls) h1
      refine ⟨⟨pre ++ [x], rest, x, by simp, by simp [hx], (World.cell?_of_block e1).trans hcs, (World.frozen?_of_block e1).trans (by rw [World.frozen?_setCell]; exact hf2), (World.cell?_of_block e2).trans hls, hPa', hJ4⟩, ?_⟩
      simp only
      omega

theorem rangeAll {P : Program} {g : Operand} {pt : Tmp} {assign body : Code} {Q : Exit → Act → World → Prop} {a : Act} {w : World} {gf : Nat} {lb : Array Value} (hg : a.eval g = .func (.func gf) #[] lb)
    (eg : ∀ args w, (callFunc gf args).run P w = .ok (.enter gf args) w) (xs : List Int) (bc : Nat) (I : World → Prop)
    (hIk : ∀ W W', I W → W.heap.size ≤ W'.heap.size → W'.os = W.os → W'.tape = W.tape → W'.output = W.output → (∀ k, k < w.heap.size → k ≠ bc → W'.heap[k]? = W.heap[k]?) → I W') (hI0 : I w)
    (hround : ∀ l x W, I W → x ∈ xs → assign.wpIn (Fence.wide.inRound l) 1 P (Exit.then (fun a₁ W₁ => W₁ = W ∧ ∀ W2, I W2 → body.wpIn (Fence.wide.inRound l) 1 P (fun e _ W' => e = .normal ∧ W' = W2) a₁ W2) (fun _ _ _ => False))
      { tmps := a.tmps.setIfInBounds pt (.int .i64 x), defers := [] } W)
    (hit : ∀ (J : List Int → World → Prop) (W : World), W.heap.size = w.heap.size + 2 → I W → (∀ k, k < w.heap.size → W.heap[k]? = w.heap[k]?) →
      (∀ pre A B, J pre A → Below A.heap.size A B → J pre B) → (∀ pre A v, J pre A → J pre (A.setCell ⟨bc, 0, none⟩ v)) → (∀ pre A, J pre A → I A) →
      (∀ pre x A, J pre A → x ∈ xs → YieldAt Fence.wide 1 P (w.heap.size + 1) #[.int .i64 x] A fun e W' => e = .returned (.bool true) ∧ J (pre ++ [x]) W' ∧ A.heap.size ≤ W'.heap.size ∧ ∀ k, k < A.heap.size → k ≠ w.heap.size + 1 → W'.heap[k]? = A.heap[k]?) →
      J [] W → CallsIn Fence.wide 2 P gf (#[.func (.yield (w.heap.size + 1)) #[] #[]] ++ lb) W fun e W' => (∃ v, e = .returned v) ∧ J xs W')
    (hbc : bc < w.heap.size)
    (hdone : ∀ W, I W → w.heap.size ≤ W.heap.size → W.heap[w.heap.size]? = some (.deferred (some [])) → Q .normal { a with defers := { target := .collected w.heap.size, args := #[] } :: a.defers } W) :
    (Code.rangeFunc g #[pt] assign body).wpIn Fence.wide 3 P Q a w := by
  refine wpIn_rangeFunc fun fn hfn => ?_
  obtain ⟨rec, hrec⟩ : ∃ rec : LoopState → Option Code → Loop, rec = fun st pe => { state := st, pending := pe, fn, tmps := a.tmps, params := #[pt], assign, body, defers := w.heap.size } := ⟨_, rfl⟩
  obtain ⟨W1, hW1⟩ : ∃ W1, (w.alloc (.deferred (some []))).alloc (.loop (rec .ready none)) = W1 := ⟨_, rfl⟩
  have hL1 : W1.heap[w.heap.size + 1]? = some (.loop (rec .ready none)) := by
    rw [← hW1]; have := World.alloc_heap_new (w.alloc (.deferred (some []))) (.loop (rec .ready none)); rwa [World.size_alloc] at this
  have hK1 : W1.heap[w.heap.size]? = some (.deferred (some [])) := by
    rw [← hW1]; exact (Below.heap_alloc _ _ _ (by simp)).trans (World.alloc_heap_new w _)
  have hs1 : W1.heap.size = w.heap.size + 2 := by rw [← hW1]; simp
  have hold : ∀ k, k < w.heap.size → W1.heap[k]? = w.heap[k]? := fun k hk => by
    rw [← hW1]; exact (Below.heap_alloc _ _ _ (by simp; omega)).trans (Below.heap_alloc _ _ _ hk)
  have hI1 : I W1 := hIk w W1 hI0 (by omega) (by rw [← hW1]; rfl) (by rw [← hW1]; rfl) (by rw [← hW1]; rfl) fun k hk _ => hold k hk
  refine ⟨w.heap.size + 1, [{ target := .collected w.heap.size, args := #[] }], W1, { target := .fn (.func gf) lb, args := #[.func (.yield (w.heap.size + 1)) #[] #[]] }, W1, gf,
    #[.func (.yield (w.heap.size + 1)) #[] #[]] ++ lb, W1, ?_, ?_, fun _ _ => trivial, ?_, fun h => (by simp [Fence.wide] at h), ?_⟩
  · rw [← hW1, hrec]; exact run_enterLoop_outer _ _ _ _ _
  · simp only [resolve, hg]
    simp [go_sem]
  · simp [invoke, go_sem, eg]
  · have putH : ∀ (A : World) (l k : Nat) (o : Obj), k ≠ l → (A.putObj l o).heap[k]? = A.heap[k]? := fun A l k o hk => World.putObj_heap_other hk
    refine (hit (fun _ W => I W ∧ w.heap.size + 2 ≤ W.heap.size ∧ W.heap[w.heap.size + 1]? = some (.loop (rec .ready none)) ∧ W.heap[w.heap.size]? = some (.deferred (some []))) W1 hs1 hI1 hold ?_ ?_ (fun _ _ h => h.1) ?_
      ⟨hI1, by omega, hL1, hK1⟩).mono ?_
    · rintro pre A B ⟨h1, h2, h3, h4⟩ hb
      have hsz := hb.size
      exact ⟨hIk A B h1 hsz hb.os hb.tape hb.output fun k hk _ => hb.block k (by omega), by omega, (hb.block _ (by omega)).trans h3, (hb.block _ (by omega)).trans h4⟩
    · rintro pre A v ⟨h1, h2, h3, h4⟩
      exact ⟨hIk A _ h1 (by simp) rfl rfl rfl fun k _ hk => Below.heap_setCell A ⟨bc, 0, none⟩ v k hk, by simpa using h2, (Below.heap_setCell A ⟨bc, 0, none⟩ v _ (by show w.heap.size + 1 ≠ bc; omega)).trans h3, (Below.heap_setCell A ⟨bc, 0, none⟩ v _ (by show w.heap.size ≠ bc; omega)).trans h4⟩
    · rintro pre x A ⟨h1, h2, h3, h4⟩ hx
      have hlt : w.heap.size + 1 < A.heap.size := (Array.getElem?_eq_some_iff.1 h3).1
      have hy := run_yield (P := P) (args := #[.int .i64 x]) h3 (by rw [hrec]; rfl)
      rw [hrec] at hy
      have ef : ((#[pt].zip #[Value.int .i64 x]).foldl (fun tmps (t, a) => tmps.setIfInBounds t a) a.tmps) = a.tmps.setIfInBounds pt (.int .i64 x) := by simp
      simp only [ef] at hy
      refine ⟨fn, _, assign, body, hy, roundIn_of_wpIn hfn (wpIn_mono (hround (w.heap.size + 1) x A h1 hx) ?_)⟩
      rintro e a₁ W₁ hq
      cases e with
      | normal =>
        obtain ⟨rfl, hb⟩ := hq
        refine ⟨_, run_beginRound h3 (by rw [hrec]), ?_⟩
        have hI2 : I (W₁.putObj (w.heap.size + 1) (.loop { rec .ready none with state := .busy })) := hIk W₁ _ h1 (by simp) rfl rfl rfl fun k hk _ => putH _ _ _ _ (by omega)
        refine wpIn_mono (hb _ hI2) ?_
        rintro e a₂ W₂ ⟨rfl, rfl⟩
        have hl2 : (W₁.putObj (w.heap.size + 1) (.loop { rec .ready none with state := .busy })).heap[w.heap.size + 1]? = some (.loop { rec .ready none with state := .busy }) := World.putObj_heap_same hlt
        have hr := run_endRound (P := P) none hl2
        refine ⟨_, _, hr, rfl, ⟨hIk _ _ hI2 (by simp) rfl rfl rfl fun k hk _ => putH _ _ _ _ (by omega), by simpa using h2, ?_, (putH _ _ _ _ (by omega)).trans ((putH _ _ _ _ (by omega)).trans h4)⟩, by simp, fun k hk hne => (putH _ _ _ _ hne).trans (putH _ _ _ _ hne)⟩
        rw [World.putObj_heap_same (by simpa using hlt), hrec]
        rfl
      | ret => exact hq.elim
      | exit id => exact hq.elim
      | goto t => exact hq.elim
      | panic ch => exact hq.elim
      | outgrown => exact hq.elim
    · rintro e W2 ⟨⟨v, rfl⟩, h1, h2, h3, h4⟩
      have := run_endLoop (P := P) h3 (by rw [hrec]; simp)
      rw [hrec] at this
      refine ⟨none, _, this, ?_⟩
      exact hdone _ (hIk _ _ h1 (by simp) rfl rfl rfl fun k hk _ => putH _ _ _ _ (by omega)) (by simp; omega) ((putH _ _ _ _ (by omega)).trans h4)

theorem up_in (m : Nat) (lp : Value) (hlp : ∃ ad, lp = .pointer ad) (c : Int) (w : World) :
    CallsIn Fence.wide m Tryz.prog 208 #[lp, .int .i64 c] w fun e w' => e = .returned (.func (.func 279) #[] #[.pointer (some ⟨w.heap.size, 0, none⟩), .pointer (some ⟨w.heap.size + 1, 0, none⟩)]) ∧ w' = (w.alloc (.cells #[lp] 256)).alloc (.cells #[.int .i64 c] 3) := by
  obtain ⟨ad, rfl⟩ := hlp
  refine callsIn_of_wp Tryz.func208 rfl trivial ?_ rfl
  simp only [Tryz.ntmps208, List.size_toArray, List.length_cons, List.length_nil, Nat.reduceAdd, Nat.reduceSub, Array.replicate_succ, Array.replicate_zero, List.push_toArray, List.append_toArray, List.nil_append, List.cons_append]
  gi_wp2
  go_ret
  exact ⟨rfl, rfl⟩

theorem supers2 (w : World) (lp : Value) (hlp : ∃ ad, lp = .pointer ad) (ob oo M : Nat) (hbox : w.cell? ⟨ob, oo, none⟩ = some lp) (c : Int) (x : Value) (xs : List Int) (hP : Path Tryz.prog 221 w.heap.size w lp c xs) (hM : Gv Tryz.prog 153 #[lp] w.heap.size w (.int .i64 M)) (hlen : xs.length ≤ M) (hM2 : M < 1000000) (hc : c ∉ xs) :
    Calls Tryz.prog 207 #[.int .i64 c, x, .pointer (some ⟨ob, oo, none⟩)] w fun e w' => e = .returned (.bool false) ∧ Below w.heap.size w w' := by
  have hob : ob < w.heap.size := by
    have := hbox
    unfold World.cell? at this
    rcases Nat.lt_or_ge ob w.heap.size with h | h
    · exact h
    · rw [Array.getElem?_eq_none h] at this; cases this
  have hbA : Below w.heap.size w ((w.alloc (.cells #[.int .i64 c] 3)).alloc (.cells #[.bool false] 4)) := ((Below.refl _ w).alloc (Nat.le_refl _) _).alloc (by simp) _
  have hbox2 := (hbA.cell (p := ⟨ob, oo, none⟩) hob).trans hbox
  refine (callsIn_wide (n := 3)).1 ?_
  refine callsIn_of_wp_marks Tryz.func207 rfl trivial ?_ rfl
  simp only [Tryz.ntmps207, List.size_toArray, List.length_cons, List.length_nil, Nat.reduceAdd, Nat.reduceSub, Array.replicate_succ, Array.replicate_zero, List.push_toArray, List.append_toArray, List.nil_append, List.cons_append]
  gi_wp2_with (refine ⟨trivial, ?_⟩; gi_at_call 208; refine (up_in _ _ hlp c _).mono ?_; rintro e w' ⟨rfl, rfl⟩)
  obtain ⟨Wr, hWr⟩ : ∃ Wr, ((((w.alloc (.cells #[.int .i64 c] 3)).alloc (.cells #[.bool false] 4)).alloc (.cells #[lp] 256)).alloc (.cells #[.int .i64 c] 3)) = Wr := ⟨_, rfl⟩
  have hsz : Wr.heap.size = w.heap.size + 4 := by rw [← hWr]; simp
  have hBr : Below w.heap.size w Wr := by
    rw [← hWr]
    exact (hbA.alloc (by simp; omega) _).alloc (by simp; omega) _
  have b0 : Wr.heap[w.heap.size]? = some (.cells #[.int .i64 c] 3) := by
    rw [← hWr, Below.heap_alloc _ _ _ (by simp <;> omega), Below.heap_alloc _ _ _ (by simp <;> omega), Below.heap_alloc _ _ _ (by simp <;> omega)]
    exact World.alloc_heap_new w _
  have b1 : Wr.heap[w.heap.size + 1]? = some (.cells #[.bool false] 4) := by
    rw [← hWr, Below.heap_alloc _ _ _ (by simp <;> omega), Below.heap_alloc _ _ _ (by simp <;> omega)]
    have := World.alloc_heap_new (w.alloc (.cells #[.int .i64 c] 3)) (.cells #[.bool false] 4)
    rwa [World.size_alloc] at this
  have b2 : Wr.heap[w.heap.size + 2]? = some (.cells #[lp] 256) := by
    rw [← hWr, Below.heap_alloc _ _ _ (by simp <;> omega)]
    have := World.alloc_heap_new ((w.alloc (.cells #[.int .i64 c] 3)).alloc (.cells #[.bool false] 4)) (.cells #[lp] 256)
    rwa [World.size_alloc, World.size_alloc] at this
  have b3 : Wr.heap[w.heap.size + 3]? = some (.cells #[.int .i64 c] 3) := by
    rw [← hWr]
    have := World.alloc_heap_new (((w.alloc (.cells #[.int .i64 c] 3)).alloc (.cells #[.bool false] 4)).alloc (.cells #[lp] 256)) (.cells #[.int .i64 c] 3)
    rwa [World.size_alloc, World.size_alloc, World.size_alloc] at this
  have box : ∀ (W : World) (k : Nat) (v : Value) (t : TypeId), W.heap[k]? = some (.cells #[v] t) → W.cell? ⟨k, 0, none⟩ = some v ∧ W.frozen? ⟨k, 0, none⟩ = false := by
    intro W k v t h
    constructor <;> simp [World.cell?, World.frozen?, h]
  rw [hWr]
  clear hWr
  refine rangeAll (gf := 279) (lb := #[.pointer (some ⟨w.heap.size + 2, 0, none⟩), .pointer (some ⟨w.heap.size + 3, 0, none⟩)]) rfl (enters_of Tryz.func279 (by kernel_rfl) rfl) xs (w.heap.size + 3)
    (fun W => Below w.heap.size w W ∧ W.heap[w.heap.size]? = some (.cells #[.int .i64 c] 3) ∧ W.heap[w.heap.size + 1]? = some (.cells #[.bool false] 4))
    ?_ ⟨hBr, b0, b1⟩ ?_ ?_ (by omega) ?_
  · rintro W W' ⟨h1, h2, h3⟩ hs ho ht hp hk
    exact ⟨⟨ho.trans h1.os, ht.trans h1.tape, hp.trans h1.output, Nat.le_trans h1.size hs, fun k hk' => (hk k (by omega) (by omega)).trans (h1.block k hk')⟩, (hk _ (by omega) (by omega)).trans h2, (hk _ (by omega) (by omega)).trans h3⟩
  · rintro l x' W ⟨h1, h2, h3⟩ hx'
    have hc0 := (box W _ _ _ h2).1
    have hne : x' ≠ c := fun e => hc (e ▸ hx')
    gi_wp2
    refine ⟨trivial, ?_⟩
    rintro W2 ⟨k1, k2, k3⟩
    have hc2 := (box W2 _ _ _ k2).1
    gi_wp2
  · intro J W hs hI hold hJ1 hJ2 hJI hY h0
    have hb2 := (box W _ _ _ ((hold _ (by omega)).trans b2)).1
    have hb3 := box W _ _ _ ((hold _ (by omega)).trans b3)
    exact up1_in 2 w.heap.size w (Wr.heap.size + 1) (w.heap.size + 2) (w.heap.size + 3) M lp c xs hP hM hlen hM2 J hJ1 hJ2 (fun pre A h => (hJI pre A h).1) hY W hb2 hb3.1 hb3.2 (by omega) (by omega) (by omega) h0
  · rintro W ⟨k1, k2, k3⟩ hs hK
    have hb1 := box W _ _ _ k3
    gi_wp2
    have hne : Wr.heap.size ≠ w.heap.size + 1 := by omega
    have hK2 : (W.setCell ⟨w.heap.size + 1, 0, none⟩ (.bool false)).heap[Wr.heap.size]? = some (.deferred (some [])) := (Below.heap_setCell W ⟨w.heap.size + 1, 0, none⟩ (.bool false) _ hne).trans hK
    refine ⟨by simp, .inl ⟨_, _, rfl, run_takeDeferred hK2, ?_⟩⟩
    have hres : (Go.results Tryz.f207 #[Value.int IntKind.i64 c, x, Value.pointer (some ⟨ob, oo, none⟩), Value.pointer (some ⟨w.heap.size, 0, none⟩), undef, Value.pointer (some ⟨w.heap.size + 1, 0, none⟩), undef, lp, Value.int IntKind.i64 c,
        Value.func (Fn.func 279) #[] #[Value.pointer (some ⟨w.heap.size + 1 + 1, 0, none⟩), Value.pointer (some ⟨w.heap.size + 1 + 1 + 1, 0, none⟩)], undef, undef, undef, undef]).run Tryz.prog
        ((W.setCell ⟨w.heap.size + 1, 0, none⟩ (.bool false)).putObj Wr.heap.size (.deferred none)) = .ok (.bool false) ((W.setCell ⟨w.heap.size + 1, 0, none⟩ (.bool false)).putObj Wr.heap.size (.deferred none)) := by
      have hcell : ((W.setCell ⟨w.heap.size + 1, 0, none⟩ (.bool false)).putObj Wr.heap.size (.deferred none)).cell? ⟨w.heap.size + 1, 0, none⟩ = some (.bool false) := by
        rw [World.cell?_of_block (w := W.setCell ⟨w.heap.size + 1, 0, none⟩ (.bool false)) (World.putObj_heap_other (by show w.heap.size + 1 ≠ Wr.heap.size; omega))]
        exact World.cell?_setCell_same' _ _ _ (by rw [hb1.1]; rfl)
      simp [Go.results, Tryz.results207, loadVar, asAddr, hcell]
    refine ⟨_, hres, rfl, ?_⟩
    have k4 : Below w.heap.size w (W.setCell ⟨w.heap.size + 1, 0, none⟩ (.bool false)) := k1.setCell (p := ⟨w.heap.size + 1, 0, none⟩) (by show w.heap.size ≤ w.heap.size + 1; omega) _
    exact k4.trans (belowK_b (w := w) (Nat.le_refl _) _ Wr.heap.size _ _ (by omega) hK2 rfl rfl)
end Go.Ev
