/- The loop that lays a script of turns, in words. -/
import Derived.Test.YtbehlkbeofoahaaGreatDoorEvIdle
namespace Go.Ev
set_option maxRecDepth 100000
set_option linter.unusedSimpArgs false
set_option linter.unusedVariables false
open Go.Proofs
open Go.RowKit (Below)
variable {E : Env} {base : Nat} {w0 : World} {F : PT FE} {nl : Nat}
noncomputable def scrT (k d : Nat) : Nat → Nat → PT AV :=
  Nat.rec (motive := fun _ => Nat → Nat → PT AV) (fun _ _ => .l) (fun _ ih b m => .n (ih b (Nat.mul m 2)) (some (.int .i64 (.ofNat (Nat.mod b k)))) (ih (Nat.add b m) (Nat.mul m 2))) d
theorem toPf_get (k : Nat) : ∀ (d f b m n : Nat), n < 2 ^ d → d ≤ f → (scrT k (d + 1) b m).get (toPf f n) = some (.int .i64 (.ofNat ((b + n * m) % k)))
  | 0, f, b, m, n, hn, _ => by
    have : n = 0 := by simpa using hn
    subst this
    have hp : toPf f 0 = .h := by
      cases f with
      | zero => rfl
      | succ f => rw [toPf_succ, if_pos rfl]
    rw [hp, Nat.zero_mul, Nat.add_zero]; rfl
  | d + 1, 0, b, m, n, hn, hf => by omega
  | d + 1, f + 1, b, m, n, hn, hf => by
    rw [toPf_succ]
    have h2 : n / 2 < 2 ^ d := by rw [Nat.pow_succ] at hn; omega
    split
    · rename_i e
      subst e
      rw [Nat.zero_mul, Nat.add_zero]; rfl
    · split
      · rename_i h1
        show PT.get (toPf f (n / 2)) (scrT k (d + 1) (b + m) (m * 2)) = _
        rw [toPf_get k d f (b + m) (m * 2) (n / 2) h2 (by omega)]
        congr 4
        have : n = n / 2 * 2 + 1 := by omega
        conv => rhs; rw [this]
        rw [Nat.add_mul, Nat.mul_assoc, Nat.mul_comm 2 m, Nat.one_mul]; omega
      · rename_i h1
        show PT.get (toPf f (n / 2)) (scrT k (d + 1) b (m * 2)) = _
        rw [toPf_get k d f b (m * 2) (n / 2) h2 (by omega)]
        congr 4
        have : n = n / 2 * 2 := by omega
        conv => rhs; rw [this]
        rw [Nat.mul_assoc, Nat.mul_comm 2 m]
theorem scr_get (k : Nat) {z : AV} {j : Nat} (h : j < 32768) : arrG z (scrT k 16 0 1) j = .int .i64 (.ofNat (j % k)) := by
  unfold arrG
  have : toP j = toPf 24 j := rfl
  rw [this, toPf_get k 15 24 0 1 j (by omega) (by omega), Nat.zero_add, Nat.mul_one]; rfl
theorem ile_nat (a b : Nat) : ile (.ofNat a) (.ofNat b) = Nat.ble a b := rfl
theorem ss21_0 (x : AV) (T : PT AV) : PT.get (.i (.o (.i .h))) (PT.set (.i (.i (.o (.i .h)))) x T) = PT.get (.i (.o (.i .h))) T := get_set_ne _ _ _ _ (by intro h; cases h)
theorem ss21_1 (x : AV) (T : PT AV) : PT.get (.o (.o (.i .h))) (PT.set (.i (.o (.i .h))) x T) = PT.get (.o (.o (.i .h))) T := get_set_ne _ _ _ _ (by intro h; cases h)
theorem ss21_2 (x : AV) (T : PT AV) : PT.get (.o (.o (.i .h))) (PT.set (.i (.i (.o (.i .h)))) x T) = PT.get (.o (.o (.i .h))) T := get_set_ne _ _ _ _ (by intro h; cases h)
theorem ss21_3 (x : AV) (T : PT AV) : PT.get (.o .h) (PT.set (.i (.o (.i .h))) x T) = PT.get (.o .h) T := get_set_ne _ _ _ _ (by intro h; cases h)
theorem ss21_4 (x : AV) (T : PT AV) : PT.get (.o .h) (PT.set (.i (.i (.o (.i .h)))) x T) = PT.get (.o .h) T := get_set_ne _ _ _ _ (by intro h; cases h)
theorem ss21_5 (x : AV) (T : PT AV) : PT.get (.i (.i (.o (.i .h)))) (PT.set (.i (.o (.i .h))) x T) = PT.get (.i (.i (.o (.i .h)))) T := get_set_ne _ _ _ _ (by intro h; cases h)

noncomputable def sb21 (call : CallT) (_nl : Nat) : StT := (sSeq (sSeq (g21r6 call) (sCd (fun T => bq (t26 T)) sSkip (fun T D H => .ext 0 T D H))) (sSeq (sBlock 1 (g21r7 call)) (g21r8 call)))
theorem sb21_round {call : CallT} {T : PT AV} {D : List DF} {H : Hp} {b : Pos} {N i k : Nat} {c : Cap} {z : AV} {t : PT AV} (hs : T.get (.o (.o (.i .h))) = some (.sl b 0 N c)) (hi : T.get (.i (.o (.i .h))) = some (.int .i64 (.ofNat i))) (hk : T.get (.o .h) = some (.int .i64 (.ofNat k)))
    (hb : H.m.get b = some (.arr z t N)) (h1 : i < N) (h2 : N ≤ 1000000) (h3 : k ≤ 1000) :
    sb21 call nl T D H = .nrm ((T.set (.i (.i (.o (.i .h)))) (.bool true)).set (.i (.o (.i .h))) (.int .i64 (.ofNat (i + 1)))) D ⟨H.m.set b (.arr z (t.set (toP i) (.int .i64 (.ofNat (i % (k + 1))))) N), H.nx⟩ := by
  have j0 : syBin .lss fLss (.int .i64 (.ofNat i)) (.int .i64 (.ofNat N)) = some (.bool true) := by
    rw [lss_int, ile_nat]
    have : Nat.ble N i = false := by
      cases h : Nat.ble N i with
      | false => rfl
      | true => have := Nat.le_of_ble_eq_true h; omega
    rw [this]; rfl
  have j1 := addN_int (a := k) (b := 1) (by omega)
  have j2 := remN_int (a := i) (b := k + 1) (by omega)
  have j3 : avIA 1 (.sl b 0 N c) (.int .i64 (.ofNat i)) = some (.ptr b i) := by have := avIA_1 (b := b) (o := 0) (c := c) (k := .i64) h1; rwa [Nat.zero_add] at this
  have j4 := stA_of hb h1 h2 (x := .int .i64 (.ofNat (i % (k + 1)))) rfl
  have j5 := addN_int (a := i) (b := 1) (by omega)
  simp only [sb21, g21r6, g21r7, g21r8, t12, t11, t1, t26, hs, hi, hk, get_set_same, ss21_0, ss21_1, ss21_2, ss21_3, ss21_4, ss21_5, j0, j1, j2, j3, j4, j5, oI_eq, iN_eq, sSeq_eq, sCd_eq, sBlock_eq, blkO_nrm, blkO_ext, blkO_ret, sSkip_eq, thn_nrm, thn_ret, thn_ext, rg_nrm, save_nil, save_cons, nth_z, nth_s, ow_val, cw_ret, sF_eq, sI_eq, opt_some, opt_none, cnd_tt, cnd_ff, oP_some, avId_eq, avNC_ptr, avFA_ptr, Nat.zero_add, gh_n, go_n, gi_n, sh_n, so_n, si_n, sh_l, so_l, si_l, bI_f, bI_t, bN_t, bN_f, bq_b, ov_val, cv_ret, avExt_0, avExt_1, eqP_ptr, eqN_int, avLenL_sl, avNot_b, inot_t, inot_f, gB_ft, gB_ff, gB_tup, jn_eq, pick_t, pick_f, ccO_ret, rsV_eq, rvOf_t, mapO_n1, mapO_n0, rsM_1, rsM_2, ieq0, ieqM, lss_n0]
theorem sb21_end {call : CallT} {T : PT AV} {D : List DF} {H : Hp} {b : Pos} {N : Nat} {c : Cap} (hs : T.get (.o (.o (.i .h))) = some (.sl b 0 N c)) (hi : T.get (.i (.o (.i .h))) = some (.int .i64 (.ofNat N))) :
    sb21 call nl T D H = .ext 0 (T.set (.i (.i (.o (.i .h)))) (.bool false)) D H := by
  have j0 : syBin .lss fLss (.int .i64 (.ofNat N)) (.int .i64 (.ofNat N)) = some (.bool false) := by
    rw [lss_int, ile_nat, Nat.ble_eq_true_of_le (Nat.le_refl _)]; rfl
  simp only [sb21, g21r6, g21r7, g21r8, t12, t11, t1, t26, hs, hi, get_set_same, ss21_0, ss21_1, ss21_2, ss21_3, ss21_4, ss21_5, j0, oI_eq, iN_eq, sSeq_eq, sCd_eq, sBlock_eq, blkO_nrm, blkO_ext, blkO_ret, sSkip_eq, thn_nrm, thn_ret, thn_ext, rg_nrm, save_nil, save_cons, nth_z, nth_s, ow_val, cw_ret, sF_eq, sI_eq, opt_some, opt_none, cnd_tt, cnd_ff, oP_some, avId_eq, avNC_ptr, avFA_ptr, Nat.zero_add, gh_n, go_n, gi_n, sh_n, so_n, si_n, sh_l, so_l, si_l, bI_f, bI_t, bN_t, bN_f, bq_b, ov_val, cv_ret, avExt_0, avExt_1, eqP_ptr, eqN_int, avLenL_sl, avNot_b, inot_t, inot_f, gB_ft, gB_ff, gB_tup, jn_eq, pick_t, pick_f, ccO_ret, rsV_eq, rvOf_t, mapO_n1, mapO_n0, rsM_1, rsM_2, ieq0, ieqM, lss_n0]
noncomputable def scr21 (T : PT AV) (D : List DF) (H : Hp) (x i k : AV) : Out :=
  match x, i, k with
  | .sl b 0 N _, .int .i64 (.ofNat 0), .int .i64 (.ofNat k) => H.ar b .no fun z _ M => cnd (iand (iand (Nat.beq M N) (Nat.ble 1 N)) (iand (Nat.ble N 30000) (Nat.ble k 900)))
      (((T.set (.i (.i (.o (.i .h)))) (.bool false)).set (.i (.o (.i .h))) (.int .i64 (.ofNat N))).frc fun T => (H.m.set b (.arr z (scrT (Nat.succ k) 16 0 1) N)).frc fun m => .ext 0 T D ⟨m, H.nx⟩) .no
  | _, _, _ => .no
noncomputable def scrW21 : StT := fun T D H => scr21 T D H (t11 T) (t12 T) (t1 T)
noncomputable def SB21 : Code := cL (cL (cR (cL (cR (cR (cR (cR (bodyOf Tryz.f21))))))))
theorem arO_get {H : Hp} {b : Pos} {f : AV → PT AV → Nat → Out} {r : Out} (h : H.ar b .no f = r) (hr : r ≠ .no) : ∃ z t n, H.m.get b = some (.arr z t n) ∧ f z t n = r := by
  unfold Hp.ar at h
  cases hy : H.m.get b with
  | none => rw [hy] at h; exact absurd h.symm hr
  | some y =>
    rw [hy] at h
    cases y with
    | arr z t n => exact ⟨z, t, n, rfl, h⟩
    | _ => exact absurd h.symm hr
theorem scr21_loop {nt : Nat} {call : CallT} (hb : StOk Tryz.prog E base w0 nt x21 SB21 (sb21 call nl)) {T0 : PT AV} {D : List DF} {H0 : Hp} {b : Pos} {N k : Nat} {c : Cap} {z : AV} (hs : T0.get (.o (.o (.i .h))) = some (.sl b 0 N c)) (hk : T0.get (.o .h) = some (.int .i64 (.ofNat k)))
    (hN : 1 ≤ N) (hN2 : N ≤ 30000) (hk2 : k ≤ 900) {ι0 : Inj} {H00 : Hp} :
    ∀ (m i : Nat) (T : PT AV) (t : PT AV) (H : Hp) (ι : Inj) (a : Act) (w : World), i + m = N → (∀ p, p ≠ (.i (.o (.i .h))) → p ≠ (.i (.i (.o (.i .h)))) → T.get p = T0.get p) → T.get (.i (.o (.i .h))) = some (.int .i64 (.ofNat i)) → H.nx = H0.nx → (∀ p, p ≠ b → H.m.get p = H0.m.get p) → H.m.get b = some (.arr z t N) → (∀ j, j < i → arrG z t j = .int .i64 (.ofNat (j % (k + 1)))) →
      Fr nt x21 ι T a → AfterR E base w0 ι0 H00 D H ι a.defers w → LoopAt Tryz.prog SB21 (OPost E base w0 nt x21 ι0 H00 (.ext 0 ((T0.set (.i (.i (.o (.i .h)))) (.bool false)).set (.i (.o (.i .h))) (.int .i64 (.ofNat N))) D ⟨H0.m.set b (.arr z (scrT (k + 1) 16 0 1) N), H0.nx⟩)) a w
  | 0, i, T, t, H, ι, a, w, hm, hT, hi, hnx, hH, hbb, ht, hF, hA => by
    have hi' : i = N := by omega
    subst hi'
    have hs' : T.get (.o (.o (.i .h))) = some (.sl b 0 i c) := (hT _ (by intro h; cases h) (by intro h; cases h)).trans hs
    obtain ⟨pv, hv⟩ : ∃ v, VRel ι (.sl b 0 i c) v := by
      have : (.o (.o (.i .h))) = Pos.of 11 := rfl
      exact ⟨_, hF.val 11 _ hs'⟩
    have hib : ∃ x, ι b = some x := by
      cases hv with
      | sl _ _ _ _ _ _ _ h => exact ⟨_, h⟩
      | slu _ _ _ _ _ _ _ _ h _ _ => exact ⟨_, h⟩
      | slv _ _ _ _ _ _ _ h _ => exact ⟨_, h⟩
    have hW : Wk ι H ⟨H0.m.set b (.arr z (scrT (k + 1) 16 0 1) i), H0.nx⟩ := by
      refine ⟨hnx.symm, fun p hp => ?_, fun p x hx => ?_⟩
      · have hne : p ≠ b := fun e => by obtain ⟨_, h⟩ := hib; rw [e, h] at hp; cases hp
        exact (get_set_ne _ _ _ _ hne).trans (hH p hne).symm
      · by_cases hne : p = b
        · subst hne
          dsimp only at hx
          rw [get_set_same] at hx
          cases hx
          exact ⟨_, hbb, .inr (.inr (.inl ⟨z, z, t, _, i, rfl, rfl, fun j hj => by rw [ht j hj, scr_get (k + 1) (by omega)]⟩))⟩
        · dsimp only at hx
          rw [get_set_ne _ _ _ _ hne] at hx
          exact ⟨x, (hH p hne).trans hx, .inl rfl⟩
    refine loopAt_round (wp_mono (hb T D _ _ (sb21_end hs' hi) (by intro e; cases e) ι0 H00 ι a w hF (hA.weaken hW)) fun e a' w' hp => ?_)
    cases e with
    | normal => obtain ⟨_, _, _, _, q, _⟩ := hp; cases q
    | exit id =>
      obtain ⟨T2, D2, H2, ι', q, hF', hA'⟩ := hp
      cases q
      refine ⟨_, _, _, ι', rfl, hF'.weaken fun p v hv => .inl ?_, hA'⟩
      by_cases h1 : p = (.i (.i (.o (.i .h))))
      · subst h1
        rw [get_set_ne _ _ _ _ (by intro h; cases h), get_set_same] at hv
        rw [get_set_same]; exact hv
      · rw [get_set_ne _ _ _ _ h1]
        by_cases h2 : p = (.i (.o (.i .h)))
        · subst h2
          rw [get_set_same] at hv
          rw [hi]; exact hv
        · rw [get_set_ne _ _ _ _ h2, get_set_ne _ _ _ _ h1] at hv
          exact (hT p h2 h1).trans hv
    | ret => obtain ⟨_, _, _, _, q, _⟩ := hp; cases q
    | panic ch => obtain ⟨_, _, _, _, _, _, q, _⟩ := hp; cases q
    | goto l => exact hp.elim
    | outgrown => exact hp.elim
  | m + 1, i, T, t, H, ι, a, w, hm, hT, hi, hnx, hH, hbb, ht, hF, hA => by
    have hs' : T.get (.o (.o (.i .h))) = some (.sl b 0 N c) := (hT _ (by intro h; cases h) (by intro h; cases h)).trans hs
    have hk' : T.get (.o .h) = some (.int .i64 (.ofNat k)) := (hT _ (by intro h; cases h) (by intro h; cases h)).trans hk
    refine loopAt_round (wp_mono (hb T D H _ (sb21_round hs' hi hk' hbb (by omega) (by omega) (by omega)) (by intro e; cases e) ι0 H00 ι a w hF hA) fun e a' w' hp => ?_)
    cases e with
    | normal =>
      obtain ⟨T2, D2, H2, ι', q, hF', hA'⟩ := hp
      cases q
      refine scr21_loop hb hs hk hN hN2 hk2 m (i + 1) _ (t.set (toP i) (.int .i64 (.ofNat (i % (k + 1))))) ⟨H.m.set b (.arr z (t.set (toP i) (.int .i64 (.ofNat (i % (k + 1))))) N), H.nx⟩ ι' a' w' (by omega) (fun p h1 h2 => ?_) (get_set_same _ _ _) hnx (fun p hp => ?_) (get_set_same _ _ _) (fun j hj => ?_) hF' hA'
      · rw [get_set_ne _ _ _ _ h1, get_set_ne _ _ _ _ h2]; exact hT p h1 h2
      · exact (get_set_ne _ _ _ _ hp).trans (hH p hp)
      · by_cases e : j = i
        · subst e; rw [arrG_same]
        · rw [arrG_ne _ _ _ (by omega) (by omega) e]; exact ht j (by omega)
    | exit id => obtain ⟨_, _, _, _, q, _⟩ := hp; cases q
    | ret => obtain ⟨_, _, _, _, q, _⟩ := hp; cases q
    | panic ch => obtain ⟨_, _, _, _, _, _, q, _⟩ := hp; cases q
    | goto l => exact hp.elim
    | outgrown => exact hp.elim
theorem scrW21_ok {nt : Nat} {call : CallT} (hb : StOk Tryz.prog E base w0 nt x21 SB21 (sb21 call nl)) : HdOk Tryz.prog E base w0 nt x21 SB21 scrW21 := by
  intro T D H r he hr ι0 H0 ι a w hF hA
  unfold scrW21 scr21 at he
  split at he
  · rename_i b N c k e1 e2 e3
    obtain ⟨z, t, M, hb0, he⟩ := arO_get he hr
    rw [cnd_eq] at he
    split at he
    · rename_i hc
      simp only [iand_eq, Bool.and_eq_true] at hc
      obtain rfl := Nat.eq_of_beq_eq_true hc.1.1
      rw [frc_eq, frc_eq] at he
      subst he
      exact scr21_loop hb (tN_get e1 (by intro e; cases e)) (tN_get e3 (by intro e; cases e)) (Nat.le_of_ble_eq_true hc.1.2) (Nat.le_of_ble_eq_true hc.2.1) (Nat.le_of_ble_eq_true hc.2.2) M 0 T t H ι a w (Nat.zero_add M) (fun _ _ _ => rfl) (tN_get e2 (by intro e; cases e)) rfl (fun _ _ => rfl) hb0 (fun j hj => by omega) hF hA
    · exact absurd he.symm hr
  · exact absurd he.symm hr
theorem sb21_told (call : CallT) (nl : Nat) : sb21 call nl = ev (eF F) call nl x21 SB21 := evN_of (by kernel_rfl)
theorem sb21_code : codeB Tryz.f21.ntmps SB21 = true := by kernel_rfl
noncomputable def gq21_0 (call : CallT) (_nl : Nat) : StT := (g21r0 call)
noncomputable def cq21_0 : Code := cL (bodyOf Tryz.f21)
theorem gq21_0_told (call : CallT) (nl : Nat) : gq21_0 call nl = ev (eF F) call nl x21 cq21_0 := evN_of (by kernel_rfl)
theorem cq21_0_code : codeB Tryz.f21.ntmps cq21_0 = true := by kernel_rfl
noncomputable def gq21_1 (call : CallT) (_nl : Nat) : StT := (g21r1 call)
noncomputable def cq21_1 : Code := cL (cR (bodyOf Tryz.f21))
theorem gq21_1_told (call : CallT) (nl : Nat) : gq21_1 call nl = ev (eF F) call nl x21 cq21_1 := evN_of (by kernel_rfl)
theorem cq21_1_code : codeB Tryz.f21.ntmps cq21_1 = true := by kernel_rfl
noncomputable def gq21_2 (call : CallT) (_nl : Nat) : StT := (sSeq (g21r2 call) (sCd (fun T => bq (t21 T)) (sSeq (g21r3 call) (fun T D H => .ret T D H)) sSkip))
noncomputable def cq21_2 : Code := cL (cR (cR (bodyOf Tryz.f21)))
theorem gq21_2_told (call : CallT) (nl : Nat) : gq21_2 call nl = ev (eF F) call nl x21 cq21_2 := evN_of (by kernel_rfl)
theorem cq21_2_code : codeB Tryz.f21.ntmps cq21_2 = true := by kernel_rfl
noncomputable def gq21_3 (call : CallT) (_nl : Nat) : StT := (g21r4 call)
noncomputable def cq21_3 : Code := cL (cR (cR (cR (bodyOf Tryz.f21))))
theorem gq21_3_told (call : CallT) (nl : Nat) : gq21_3 call nl = ev (eF F) call nl x21 cq21_3 := evN_of (by kernel_rfl)
theorem cq21_3_code : codeB Tryz.f21.ntmps cq21_3 = true := by kernel_rfl
noncomputable def gq21_4_0 (call : CallT) (_nl : Nat) : StT := (g21r5 call)
noncomputable def cq21_4_0 : Code := cL (cL (cR (cR (cR (cR (bodyOf Tryz.f21))))))
theorem gq21_4_0_told (call : CallT) (nl : Nat) : gq21_4_0 call nl = ev (eF F) call nl x21 cq21_4_0 := evN_of (by kernel_rfl)
theorem cq21_4_0_code : codeB Tryz.f21.ntmps cq21_4_0 = true := by kernel_rfl
noncomputable def gq21_5 (call : CallT) (_nl : Nat) : StT := (g21r9 call)
noncomputable def cq21_5 : Code := cL (cR (cR (cR (cR (cR (bodyOf Tryz.f21))))))
theorem gq21_5_told (call : CallT) (nl : Nat) : gq21_5 call nl = ev (eF F) call nl x21 cq21_5 := evN_of (by kernel_rfl)
theorem cq21_5_code : codeB Tryz.f21.ntmps cq21_5 = true := by kernel_rfl
noncomputable def gq21_6 (call : CallT) (_nl : Nat) : StT := (sSeq (g21r10 call) (sCd (fun T => bq (t52 T)) (sSeq (g21r11 call) (fun T D H => .ret T D H)) sSkip))
noncomputable def cq21_6 : Code := cL (cR (cR (cR (cR (cR (cR (bodyOf Tryz.f21)))))))
theorem gq21_6_told (call : CallT) (nl : Nat) : gq21_6 call nl = ev (eF F) call nl x21 cq21_6 := evN_of (by kernel_rfl)
theorem cq21_6_code : codeB Tryz.f21.ntmps cq21_6 = true := by kernel_rfl
noncomputable def gq21_7 (call : CallT) (_nl : Nat) : StT := (g21r12 call)
noncomputable def cq21_7 : Code := cL (cR (cR (cR (cR (cR (cR (cR (bodyOf Tryz.f21))))))))
theorem gq21_7_told (call : CallT) (nl : Nat) : gq21_7 call nl = ev (eF F) call nl x21 cq21_7 := evN_of (by kernel_rfl)
theorem cq21_7_code : codeB Tryz.f21.ntmps cq21_7 = true := by kernel_rfl
noncomputable def gq21_8 (call : CallT) (_nl : Nat) : StT := (fun T D H => .ret T D H)
noncomputable def cq21_8 : Code := (cR (cR (cR (cR (cR (cR (cR (cR (bodyOf Tryz.f21)))))))))
theorem gq21_8_told (call : CallT) (nl : Nat) : gq21_8 call nl = ev (eF F) call nl x21 cq21_8 := evN_of (by kernel_rfl)
theorem cq21_8_code : codeB Tryz.f21.ntmps cq21_8 = true := by kernel_rfl
noncomputable def gW21 (call : CallT) (nl : Nat) : StT := (sSeq (gq21_0 call nl) (sSeq (gq21_1 call nl) (sSeq (gq21_2 call nl) (sSeq (gq21_3 call nl) (sSeq (sSeq (gq21_4_0 call nl) (sBlock 0 scrW21)) (sSeq (gq21_5 call nl) (sSeq (gq21_6 call nl) (sSeq (gq21_7 call nl) (gq21_8 call nl)))))))))
theorem dec21 : Tryz.f21.body = some (.seq cq21_0 (.seq cq21_1 (.seq cq21_2 (.seq cq21_3 (.seq (.seq cq21_4_0 (.block 0 (.loop SB21))) (.seq cq21_5 (.seq cq21_6 (.seq cq21_7 cq21_8)))))))) := by kernel_rfl
theorem gW21_ok (hE : EnvOk Tryz.prog (eF F)) (hm : Tryz.prog.follows .mixedOrders = true) {call : CallT} (hC : CallOk Tryz.prog (eF F) base w0 call) (nl : Nat) : StOk Tryz.prog (eF F) base w0 Tryz.f21.ntmps x21 (.seq cq21_0 (.seq cq21_1 (.seq cq21_2 (.seq cq21_3 (.seq (.seq cq21_4_0 (.block 0 (.loop SB21))) (.seq cq21_5 (.seq cq21_6 (.seq cq21_7 cq21_8)))))))) (gW21 call nl) := by
  have hb : StOk Tryz.prog (eF F) base w0 Tryz.f21.ntmps x21 SB21 (sb21 call nl) := by rw [sb21_told (F := F)]; exact stOk_ev hE hC hm nl (codeB_ok _ sb21_code)
  have h0 : StOk Tryz.prog (eF F) base w0 Tryz.f21.ntmps x21 cq21_0 (gq21_0 call nl) := by rw [gq21_0_told (F := F)]; exact stOk_ev hE hC hm nl (codeB_ok _ cq21_0_code)
  have h1 : StOk Tryz.prog (eF F) base w0 Tryz.f21.ntmps x21 cq21_1 (gq21_1 call nl) := by rw [gq21_1_told (F := F)]; exact stOk_ev hE hC hm nl (codeB_ok _ cq21_1_code)
  have h2 : StOk Tryz.prog (eF F) base w0 Tryz.f21.ntmps x21 cq21_2 (gq21_2 call nl) := by rw [gq21_2_told (F := F)]; exact stOk_ev hE hC hm nl (codeB_ok _ cq21_2_code)
  have h3 : StOk Tryz.prog (eF F) base w0 Tryz.f21.ntmps x21 cq21_3 (gq21_3 call nl) := by rw [gq21_3_told (F := F)]; exact stOk_ev hE hC hm nl (codeB_ok _ cq21_3_code)
  have h4_0 : StOk Tryz.prog (eF F) base w0 Tryz.f21.ntmps x21 cq21_4_0 (gq21_4_0 call nl) := by rw [gq21_4_0_told (F := F)]; exact stOk_ev hE hC hm nl (codeB_ok _ cq21_4_0_code)
  have h5 : StOk Tryz.prog (eF F) base w0 Tryz.f21.ntmps x21 cq21_5 (gq21_5 call nl) := by rw [gq21_5_told (F := F)]; exact stOk_ev hE hC hm nl (codeB_ok _ cq21_5_code)
  have h6 : StOk Tryz.prog (eF F) base w0 Tryz.f21.ntmps x21 cq21_6 (gq21_6 call nl) := by rw [gq21_6_told (F := F)]; exact stOk_ev hE hC hm nl (codeB_ok _ cq21_6_code)
  have h7 : StOk Tryz.prog (eF F) base w0 Tryz.f21.ntmps x21 cq21_7 (gq21_7 call nl) := by rw [gq21_7_told (F := F)]; exact stOk_ev hE hC hm nl (codeB_ok _ cq21_7_code)
  have h8 : StOk Tryz.prog (eF F) base w0 Tryz.f21.ntmps x21 cq21_8 (gq21_8 call nl) := by rw [gq21_8_told (F := F)]; exact stOk_ev hE hC hm nl (codeB_ok _ cq21_8_code)
  exact (stOk_seq h0 (stOk_seq h1 (stOk_seq h2 (stOk_seq h3 (stOk_seq (stOk_seq h4_0 (stOk_block (stOk_loop (scrW21_ok (nl := nl) (call := call) hb)))) (stOk_seq h5 (stOk_seq h6 (stOk_seq h7 h8))))))))
theorem gW21_cc (hE : EnvOk Tryz.prog (eF F)) (hm : Tryz.prog.follows .mixedOrders = true) :
    x21 = crossF Tryz.f21 ∧ (∃ c, Tryz.f21.body = some c ∧ ∀ (base : Nat) (w0 : World) (call : CallT) (nl : Nat), CallOk Tryz.prog (eF F) base w0 call → StOk Tryz.prog (eF F) base w0 Tryz.f21.ntmps x21 c (gW21 call nl)) ∧ ∀ T H, rsV [.t (.i (.i .h)), .t (.o (.o (.o .h))), .t (.i (.o (.o .h)))] T H = results (eF F) Tryz.f21 T H :=
  ⟨(k21 F).1, ⟨_, dec21, fun _ _ _ nl hC => gW21_ok hE hm hC nl⟩, (k21 F).2.2.2⟩
end Go.Ev
