/- The word for 'class' of a checker at a number that is not known: two values, of which nothing is told. -/
import Derived.Test.YtmbpojfjpiahiaaGreatDoorEvPn
namespace Go.Ev
set_option maxRecDepth 100000
open Go.Proofs Go.Proofs.YtmbpojfjpiahiaaGreatDoor Go.RowKit
variable {σ : Nat → IntKind × Int}
theorem wr_sub11 (n : Int) : wr .i64 (wr .i32 n - 11) = wr .i32 n - 11 := by
  have := wr32_range n
  exact wr64_id (by omega) (by omega)
noncomputable def tupB (v : AV) : Bool :=
  match v with
  | .tup [_, _] => true
  | _ => false
noncomputable def retB (r : CR) : Bool := CR.rec (motive := fun _ => Bool) (fun v _ => tupB v) (fun _ _ => false) false r
theorem retB_inv {r : CR} (h : retB r = true) : ∃ x y H, r = .ret (.tup [x, y]) H := by
  cases r with
  | no => cases h
  | pan v H => cases h
  | ret v H =>
    replace h : tupB v = true := h
    unfold tupB at h
    split at h
    · exact ⟨_, _, _, rfl⟩
    · cases h
noncomputable def clTb (i j n : Nat) (l g : Bool) : List (Nat × AtO × AtV) := [(i, .bc .lss .i64 11, .bool l), (i, .bc .sub .i64 11, .at j), (j, .bc .geq .i64 (.ofNat n), .bool g)]
noncomputable def clRun (c : AV) (H : Hp) (a : AV) : Bool := retB (evC envL 1000 100 283 [c, a] H)
noncomputable def clsN (n i j : Nat) (c : AV) (H : Hp) : Bool :=
  iand (clRun c H (.at i (clTb i j n true false))) (iand (clRun c H (.at i (clTb i j n false true))) (allN (fun m => clRun c H (.int .i64 (.ofNat (Nat.add 11 m)))) n))
noncomputable def atW (i : Nat) (r : AtV) : Bool := AtV.rec (motive := fun _ => Bool) (fun j => Nat.beq j i) (fun _ => false) (fun _ _ => false) r
noncomputable def clsV (i j : Nat) (c : AV) (H : Hp) : Option (AV × Hp) :=
  (roH H).m.frc fun m => Bool.rec (motive := fun _ => Option (AV × Hp)) (cnd (clsN 2 i j c ⟨m, H.nx⟩) (some (.tup [.any, .any], H)) none) (some (.tup [.any, .any], H)) (clsN 1 i j c ⟨m, H.nx⟩)
noncomputable def classS (args : List AV) (H : Hp) : Option (AV × Hp) :=
  match args with
  | [c, .at i tb] => opt (atG i .w32 tb) none fun r => cnd (atW i r) (opt (atG i (.bc .sub .i64 11) tb) none fun q => AtV.rec (motive := fun _ => Option (AV × Hp)) (fun j => clsV i j c H) (fun _ => none) (fun _ _ => none) q) none
  | args => crO (evC envL 1000 100 283 args H)
noncomputable def word4 (i : Nat) : Option (List AV → Hp → Option (AV × Hp)) := cnd (Nat.beq i 283) (some classS) (word3 i)
noncomputable def env4 : Env := eF (mkPT (ccW word4))
theorem env4_ty : env4.ty = env.ty := by unfold env4 env eF; rfl
theorem env4_gl : env4.gl = env.gl := by unfold env4 env eF; rfl
theorem env4_cc : CcOk env4 := words_cc
theorem env4_fn {f : Nat} {x : Func} (h : fnOf env4 f = some x) : fnL[f]? = some x := words_fn h
theorem clsV_inv {i j : Nat} {c : AV} {H : Hp} {p : AV × Hp} (h : clsV i j c H = some p) : p = (.tup [.any, .any], H) ∧ ∃ n, clsN n i j c (roH H) = true := by
  unfold clsV at h
  rw [frc_eq] at h
  cases h1 : clsN 1 i j c ⟨(roH H).m, H.nx⟩ with
  | true => rw [h1] at h; cases h; exact ⟨rfl, 1, h1⟩
  | false =>
    rw [h1] at h
    replace h : cnd (clsN 2 i j c ⟨(roH H).m, H.nx⟩) (some (AV.tup [.any, .any], H)) none = some p := h
    obtain ⟨h2, h3⟩ := cnd_some h
    cases h3
    exact ⟨rfl, 2, h2⟩
theorem clsN_inv {n i j : Nat} {c : AV} {H : Hp} (h : clsN n i j c H = true) : clRun c H (.at i (clTb i j n true false)) = true ∧ clRun c H (.at i (clTb i j n false true)) = true ∧ ∀ m, m < n → clRun c H (.int .i64 (.ofNat (Nat.add 11 m))) = true := by
  unfold clsN at h
  rw [iand_eq, iand_eq, Bool.and_eq_true, Bool.and_eq_true] at h
  exact ⟨h.1, h.2.1, allN_eq h.2.2⟩
theorem cls_cases {tb : List (Nat × AtO × AtV)} (ho : AtOk σ tb) {i j : Nat} (k1 : atG i .w32 tb = some (.at i)) (k3 : atG i (.bc .sub .i64 11) tb = some (.at j)) (n : Nat) :
    ∃ (a : Int) (x : AV), σ i = (.i64, a) ∧ (x = .at i (clTb i j n true false) ∨ x = .at i (clTb i j n false true) ∨ ∃ m, m < n ∧ x = .int .i64 (.ofNat (Nat.add 11 m))) ∧ ∀ ι : Inj, ι.s = σ → VRel ι x (.int .i64 a) := by
  have g1 := ho _ _ _ (atG_some k1)
  have g2 := ho _ _ _ (atG_some k3)
  generalize hs : σ i = s at g1 g2
  generalize hs2 : σ j = s2 at g2
  obtain ⟨k, a⟩ := s
  obtain ⟨k', b⟩ := s2
  replace g1 : (match (σ i).1 with | .i64 => some (AV.int .i64 (wr .i32 (σ i).2)) | _ => none) = some (AV.int (σ i).1 (σ i).2) := g1
  replace g2 : cnd (kbeq (σ i).1 .i64) (vI (σ i).1 (wr (σ i).1 (isub (σ i).2 11))) none = some (AV.int (σ j).1 (σ j).2) := g2
  rw [hs] at g1 g2
  rw [hs2] at g2
  have hk : k = .i64 ∧ wr .i32 a = a := by
    cases k <;> first | (cases g1; done) | exact ⟨rfl, by injection (Option.some.inj g1)⟩
  obtain ⟨rfl, ha1⟩ := hk
  have hrg := wr32_range a
  rw [ha1] at hrg
  replace g2 : vI .i64 (wr .i64 (isub a 11)) = some (AV.int k' b) := g2
  rw [vI_eq, isub_eq, wr64_id (by omega) (by omega)] at g2
  have hj : k' = .i64 ∧ a - 11 = b := by
    have := Option.some.inj g2
    injection this with e1 e2
    exact ⟨e1.symm, e2⟩
  obtain ⟨rfl, hb⟩ := hj
  have tbok : ∀ l g : Bool, decide (a < 11) = l → decide (b ≥ (Int.ofNat n)) = g → AtOk σ (clTb i j n l g) := fun l g e1 e2 =>
    atOk_cons (den_lss hs e1) <| atOk_cons (den_sub hs hs2 (by rw [wr64_id (by omega) (by omega)]; exact hb)) <| atOk_cons (den_geq hs2 e2) <| atOk_nil
  by_cases c1 : a < 11
  · exact ⟨a, _, rfl, .inl rfl, fun ι e => .at i _ _ _ (by rw [e]; exact tbok true false (decide_eq_true c1) (decide_eq_false (by simp only [Int.ofNat_eq_natCast]; omega))) (by rw [e]; exact hs)⟩
  · by_cases c2 : b ≥ Int.ofNat n
    · exact ⟨a, _, rfl, .inr (.inl rfl), fun ι e => .at i _ _ _ (by rw [e]; exact tbok false true (decide_eq_false c1) (decide_eq_true c2)) (by rw [e]; exact hs)⟩
    · simp only [Int.ofNat_eq_natCast] at c2
      have e3 : (Int.ofNat (Nat.add 11 (a - 11).toNat)) = a := by
        show ((11 + (a - 11).toNat : Nat) : Int) = a
        omega
      refine ⟨a, _, rfl, .inr (.inr ⟨(a - 11).toNat, by omega, rfl⟩), fun ι _ => ?_⟩
      rw [e3]
      exact .int _ _
theorem class_ok {E : Env} (hgl : E.gl = env.gl) {base : Nat} {w0 : World} : CallOk Tryz.prog E base w0 fun f' args H => if f' = 283 then sumK (classS args H) else .no := by
  intro f' args H r he hr ι w cargs hR ha
  replace he : (if f' = 283 then sumK (classS args H) else CR.no) = r := he
  have hf : f' = 283 := Classical.byContradiction fun hne => by
    rw [if_neg hne] at he
    exact hr he.symm
  subst hf
  rw [if_pos rfl] at he
  unfold sumK at he
  obtain ⟨p, h1, h2⟩ := optC_ne he hr
  have plain : ∀ args', crO (evC envL 1000 100 283 args' H) = some p → LRel ι args' cargs → Entered Tryz.prog 283 ∧ Calls Tryz.prog 283 cargs.toArray w (CPost E base w0 ι H r) := by
    intro args' hp ha'
    generalize hx : evC envL 1000 100 283 args' H = q at hp
    cases q with
    | no => cases hp
    | pan v H' => cases hp
    | ret v H' =>
      cases hp
      obtain ⟨k1, k2⟩ := envL_call (base := base) (w0 := w0) 1000 100 283 args' H _ hx (by intro e; cases e) ι w cargs (hR.env (envL_gl.trans hgl.symm)) ha'
      refine ⟨k1, Calls.mono k2 fun e W' h3 => ?_⟩
      cases e with
      | returned c =>
        obtain ⟨v', H2, ι', e1, e2, e3, e4⟩ := h3
        cases e1
        exact ⟨v, H', ι', h2.symm, e2, e3.env (hgl.trans envL_gl.symm), e4⟩
      | panicked ch =>
        obtain ⟨v', H2, ι', c, e1, _⟩ := h3
        cases e1
      | outgrown => exact h3.elim
  have one : ∀ (c x : AV), clRun c (roH H) x = true → LRel ι [c, x] cargs → p = (.tup [.any, .any], H) → Entered Tryz.prog 283 ∧ Calls Tryz.prog 283 cargs.toArray w (CPost E base w0 ι H r) := by
    intro c x hc hx hp
    obtain ⟨y, z, H', e1⟩ := retB_inv hc
    subst hp
    refine ⟨⟨_, Tryz.func283, by kernel_rfl, by kernel_rfl⟩, Calls.mono (ro_call (call := evC envL 1000 100) (fun base w0 => envL_call (base := base) (w0 := w0) 1000 100) (hR.env (envL_gl.trans hgl.symm)) hx e1 (Below.refl _ _)) fun e W' h3 => ?_⟩
    obtain ⟨⟨cv, ι', rfl, hv⟩, hb⟩ := h3
    cases hv with
    | tup _ L hL =>
      cases hL with
      | cons _ v1 _ L k1 hL =>
        cases hL with
        | cons _ v2 _ L k2 hL =>
          cases hL
          exact ⟨_, H, ι, h2.symm, .tup _ [v1, v2] (.cons _ _ _ _ (.any _) (.cons _ _ _ _ (.any _) .nil)), hR.of_below hb, .refl ι H⟩
  unfold classS at h1
  split at h1
  · rename_i c i tb
    obtain ⟨r1, k1, h3⟩ := opt_eq_some h1
    obtain ⟨k2, h4⟩ := cnd_some h3
    obtain ⟨q, k3, h5⟩ := opt_eq_some h4
    cases r1 with
    | bool b => cases k2
    | int k n => cases k2
    | «at» i' =>
      obtain rfl : i' = i := Nat.eq_of_beq_eq_true k2
      cases q with
      | bool b => cases h5
      | int k n => cases h5
      | «at» j =>
        obtain ⟨hp, n, hn⟩ := clsV_inv h5
        cases ha with
        | cons _ cc _ L hc ha =>
          cases ha with
          | cons _ ca _ L hx ha =>
            cases ha
            obtain ⟨ho, rfl⟩ := at_rel hx
            obtain ⟨a, x, hs, hx3, hv⟩ := cls_cases ho k1 k3 n
            obtain ⟨n1, n2, n3⟩ := clsN_inv hn
            have hrun : clRun c (roH H) x = true := by
              rcases hx3 with rfl | rfl | ⟨m, hm, rfl⟩
              · exact n1
              · exact n2
              · exact n3 m hm
            have hrel := hv ι rfl
            rw [hs]
            rw [hs] at one
            exact one c x hrun (.cons _ _ _ _ hc (.cons _ _ _ _ hrel .nil)) hp
  · exact plain _ h1 ha
theorem word4_ok {E : Env} (hgl : E.gl = env.gl) {W : World} (hW : AsciiOk W) {f : Nat} {g : List AV → Hp → Option (AV × Hp)} (h1 : word4 f = some g) : CallOk Tryz.prog E W.heap.size W fun f' args H => if f' = f then sumK (g args H) else .no := by
  unfold word4 at h1
  rw [cnd_eq] at h1
  split at h1
  · rename_i e
    obtain rfl := Nat.eq_of_beq_eq_true e
    cases h1
    exact class_ok hgl
  · exact word3_ok hgl hW h1
theorem env4_sums {W : World} (hW : AsciiOk W) : SumsOk Tryz.prog env4 W.heap.size W := fun _ _ h => word4_ok env4_gl hW (words_sm h)
theorem env4_call {W : World} (hW : AsciiOk W) (nl n : Nat) : CallOk Tryz.prog env4 W.heap.size W (evC env4 nl n) := evC_sound (ok_of env4_ty fun _ _ => env4_fn) env_mixed (code_of fun _ _ => env4_fn) (env4_sums hW) env4_cc nl n
theorem run4_true {f nl n : Nat} {args : List AV} (h : isTrue (evC env4 nl n f args H0) = true) {W : World} (hL : laidMetH Tryz.prog laid2 W) {cargs : List Value} (ha : LRel (injS σ) args cargs) :
    Calls Tryz.prog f cargs.toArray W fun e W' => e = .returned (.bool true) ∧ Below W.heap.size W W' :=
  (run_of (E := env4) env4_gl h (env4_call (ascii_cell hL) nl n) (ascii_cell hL) ha).2
end Go.Ev
