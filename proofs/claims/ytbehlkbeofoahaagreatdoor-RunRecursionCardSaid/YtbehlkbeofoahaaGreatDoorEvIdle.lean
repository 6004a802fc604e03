/- The loop of 'run.Run' where no agent is ready: its rounds in words. -/
import Derived.Test.YtbehlkbeofoahaaGreatDoorEvLd
import Derived.Test.YtbehlkbeofoahaaGreatDoorEvRow
namespace Go.Ev
set_option maxRecDepth 100000
set_option linter.unusedSimpArgs false
set_option linter.unusedVariables false
open Go.Proofs
open Go.RowKit (Below)
theorem oP_some (v : AV) (k : AV → Out) : oP (some v) k = k v := rfl
theorem oI_eq (v : AV) (k : AV → Out) : oI v k = k v := by
  unfold oI
  rw [avId_eq]
theorem iN_eq (n : Nat) : iN n = .int .i64 (.ofNat n) := rfl
theorem ieq0 : ieq (.ofNat 0) (.ofNat 0) = true := rfl
theorem ieqM : ieq (.negSucc 0) (.ofNat 0) = false := rfl
theorem lss_n0 (n : Nat) : syBin .lss fLss (.int .i64 (.ofNat n)) (.int .i64 (.ofNat 0)) = some (.bool false) := by rw [lss_int]; rfl
variable {E : Env} {nl n : Nat} {H : Hp}
noncomputable def nxtB (bf co b : Pos) (o m : Nat) (t : PT Blk) : PT Blk :=
  cnd (Nat.beq m 0) ((t.set bf (.cells false [.sl b (o + 1) m (.op 1), .chn co])).set co (.chan true)) (t.set bf (.cells false [.sl b (o + 1) m (.op 1), .chn co]))
theorem next_run (hE : E.fn.get (Pos.of 56) = some (.cc Tryz.f56 x56 g56 (rsV [.t (.i .h), .t (.o (.o .h))]))) {bf co b : Pos} {o m N : Nat} {z : AV} {t : PT AV}
    (hf : H.m.get bf = some (.cells false [.sl b o (m + 1) (.op 1), .chn co])) (hc : H.m.get co = some (.chan false)) (hb : H.m.get b = some (.arr z t N)) (ho : o < N) (hne : co ≠ bf) :
    evC E nl (n + 1) 56 [.ptr bf 0] H = .ret (.tup [arrG z t o, .bool true]) ⟨nxtB bf co b o m H.m, H.nx⟩ := by
  rw [evC_cc hE]
  have i0 : initT x56 [.ptr bf 0] = .n .l (some (.ptr bf 0)) .l := by kernel_rfl
  have j0 : ld1 (.ptr bf 0) H = some (.sl b o (m + 1) (.op 1)) := ld1_of hf 0
  have j1 : ld1 (.ptr bf 1) H = some (.chn co) := ld1_of hf 1
  have j2 := ld1_arr hb o ho
  have j3 : st 1 (.ptr bf 0) (.sl b (o + 1) m (.op 1)) H = .val (.tup []) ⟨H.m.set bf (.cells false [.sl b (o + 1) m (.op 1), .chn co]), H.nx⟩ := st1_of hf (o := 0) (by simp) (x := .sl b (o + 1) m (.op 1)) rfl
  have j4 : ld1 (.ptr bf 0) ⟨H.m.set bf (.cells false [.sl b (o + 1) m (.op 1), .chn co]), H.nx⟩ = some (.sl b (o + 1) m (.op 1)) := ld1_of (ro := false) (l := [.sl b (o + 1) m (.op 1), .chn co]) (get_set_same _ _ _) 0
  have j5 : ld1 (.ptr bf 1) ⟨H.m.set bf (.cells false [.sl b (o + 1) m (.op 1), .chn co]), H.nx⟩ = some (.chn co) := ld1_of (ro := false) (l := [.sl b (o + 1) m (.op 1), .chn co]) (get_set_same _ _ _) 1
  have j6 : ∀ y, clF (.chn co) y ⟨H.m.set bf (.cells false [.sl b (o + 1) m (.op 1), .chn co]), H.nx⟩ = .val (.tup []) ⟨(H.m.set bf (.cells false [.sl b (o + 1) m (.op 1), .chn co])).set co (.chan true), H.nx⟩ := fun y => clF_f y (by rw [← hc]; exact get_set_ne _ _ _ _ hne)
  have j7 : avIA 1 (.sl b o (m + 1) (.op 1)) (.int .i64 (.ofNat 0)) = some (.ptr b o) := avIA_1 (m := 0) (by omega)
  have j8 := avSl_1 (b := b) (o := o) (m := m) .pnil .pnil
  have j9 : ieq (.ofNat m) (.ofNat 0) = Nat.beq m 0 := rfl
  rw [evCc_ccO]
  simp only [g56, g56r0, g56r1, g56r2, g56r3, g56r4, g56r5, g56r6, g56r7, t0, t2, t7, t10, t31, i0, j0, j1, j2, j3, j4, j5, j7, j8, j9, selF_f _ hc, oI_eq, iN_eq, sSeq_eq, sCd_eq, sBlock_eq, blkO_nrm, blkO_ext, blkO_ret, sSkip_eq, thn_nrm, thn_ret, thn_ext, rg_nrm, save_nil, save_cons, nth_z, nth_s, ow_val, cw_ret, sF_eq, sI_eq, opt_some, opt_none, cnd_tt, cnd_ff, oP_some, avId_eq, avNC_ptr, avFA_ptr, Nat.zero_add, gh_n, go_n, gi_n, sh_n, so_n, si_n, sh_l, so_l, si_l, bI_f, bI_t, bN_t, bN_f, bq_b, ov_val, cv_ret, avExt_0, avExt_1, eqP_ptr, eqN_int, avLenL_sl, avNot_b, inot_t, inot_f, gB_ft, gB_ff, gB_tup, jn_eq, pick_t, pick_f, ccO_ret, rsV_eq, rvOf_t, mapO_n1, mapO_n0, rsM_1, rsM_2, ieq0, ieqM, lss_n0]
  unfold nxtB
  cases Nat.beq m 0 with
  | true => simp only [j5, j6, g56, g56r0, g56r1, g56r2, g56r3, g56r4, g56r5, g56r6, g56r7, t0, t2, t7, t10, t31, oI_eq, iN_eq, sSeq_eq, sCd_eq, sBlock_eq, blkO_nrm, blkO_ext, blkO_ret, sSkip_eq, thn_nrm, thn_ret, thn_ext, rg_nrm, save_nil, save_cons, nth_z, nth_s, ow_val, cw_ret, sF_eq, sI_eq, opt_some, opt_none, cnd_tt, cnd_ff, oP_some, avId_eq, avNC_ptr, avFA_ptr, Nat.zero_add, gh_n, go_n, gi_n, sh_n, so_n, si_n, sh_l, so_l, si_l, bI_f, bI_t, bN_t, bN_f, bq_b, ov_val, cv_ret, avExt_0, avExt_1, eqP_ptr, eqN_int, avLenL_sl, avNot_b, inot_t, inot_f, gB_ft, gB_ff, gB_tup, jn_eq, pick_t, pick_f, ccO_ret, rsV_eq, rvOf_t, mapO_n1, mapO_n0, rsM_1, rsM_2, ieq0, ieqM, lss_n0]
  | false => simp only [g56, g56r0, g56r1, g56r2, g56r3, g56r4, g56r5, g56r6, g56r7, t0, t2, t7, t10, t31, oI_eq, iN_eq, sSeq_eq, sCd_eq, sBlock_eq, blkO_nrm, blkO_ext, blkO_ret, sSkip_eq, thn_nrm, thn_ret, thn_ext, rg_nrm, save_nil, save_cons, nth_z, nth_s, ow_val, cw_ret, sF_eq, sI_eq, opt_some, opt_none, cnd_tt, cnd_ff, oP_some, avId_eq, avNC_ptr, avFA_ptr, Nat.zero_add, gh_n, go_n, gi_n, sh_n, so_n, si_n, sh_l, so_l, si_l, bI_f, bI_t, bN_t, bN_f, bq_b, ov_val, cv_ret, avExt_0, avExt_1, eqP_ptr, eqN_int, avLenL_sl, avNot_b, inot_t, inot_f, gB_ft, gB_ff, gB_tup, jn_eq, pick_t, pick_f, ccO_ret, rsV_eq, rvOf_t, mapO_n1, mapO_n0, rsM_1, rsM_2, ieq0, ieqM, lss_n0]

structure Sch (k : Nat) (bs bp bst bf b co : Pos) (cst cp : Cap) (inp sk : AV) (z : AV) (t : PT AV) (N : Nat) (o m : Nat) (M : PT Blk) : Prop where
  s : ∃ a, M.get bs = some (.cells false [.sl bst 0 k cst, .sl bp 0 k cp, .ptr bf 0, inp, sk, .int .i64 a])
  p : ∃ l, M.get bp = some (.cells false l) ∧ l.length = k ∧ ∀ j, j < k → ∃ a, l[j]? = some (.int .i64 a)
  st : ∃ ro l, M.get bst = some (.cells ro l) ∧ ∀ j, j < k → l[j]? = some (.int .i64 (.ofNat 0))
  f : M.get bf = some (.cells false [.sl b o m (.op 1), .chn co])
  c : M.get co = some (.chan (Nat.beq m 0))
  b : M.get b = some (.arr z t N)
  len : o + m = N
  w : ∀ j, j < N → ∃ w, w < k ∧ arrG z t j = .int .i64 (.ofNat w)
structure SchNe (bs bp bst bf b co : Pos) : Prop where
  sp : bs ≠ bp
  sst : bs ≠ bst
  sf : bs ≠ bf
  sb : bs ≠ b
  sc : bs ≠ co
  pst : bp ≠ bst
  pf : bp ≠ bf
  pb : bp ≠ b
  pc : bp ≠ co
  stf : bst ≠ bf
  stb : bst ≠ b
  stc : bst ≠ co
  fb : bf ≠ b
  fc : bf ≠ co
  bc : b ≠ co
theorem at_run (hE : E.fn.get (Pos.of 33) = some (.cc Tryz.f33 x33 g33 (rsV [.t (.i .h)]))) {bs : Pos} {x0 x1 x2 x3 x4 x5 : AV} (hs : H.m.get bs = some (.cells false [x0, x1, x2, x3, x4, x5])) :
    evC E nl (n + 1) 33 [.ptr bs 0] H = .ret x5 H := by
  rw [evC_cc hE]
  have i0 : initT x33 [.ptr bs 0] = .n .l (some (.ptr bs 0)) .l := by kernel_rfl
  have j5 : ld1 (.ptr bs 5) H = some x5 := ld1_of hs 5
  rw [evCc_ccO]
  simp only [g33, g33r0, g33r1, g33r2, g33r3, t0, t4, i0, j5, oI_eq, iN_eq, sSeq_eq, sCd_eq, sBlock_eq, blkO_nrm, blkO_ext, blkO_ret, sSkip_eq, thn_nrm, thn_ret, thn_ext, rg_nrm, save_nil, save_cons, nth_z, nth_s, ow_val, cw_ret, sF_eq, sI_eq, opt_some, opt_none, cnd_tt, cnd_ff, oP_some, avId_eq, avNC_ptr, avFA_ptr, Nat.zero_add, gh_n, go_n, gi_n, sh_n, so_n, si_n, sh_l, so_l, si_l, bI_f, bI_t, bN_t, bN_f, bq_b, ov_val, cv_ret, avExt_0, avExt_1, eqP_ptr, eqN_int, avLenL_sl, avNot_b, inot_t, inot_f, gB_ft, gB_ff, gB_tup, jn_eq, pick_t, pick_f, ccO_ret, rsV_eq, rvOf_t, mapO_n1, mapO_n0, rsM_1, rsM_2, ieq0, ieqM, lss_n0]
theorem pick_run (hN : E.fn.get (Pos.of 56) = some (.cc Tryz.f56 x56 g56 (rsV [.t (.i .h), .t (.o (.o .h))]))) (hE : E.fn.get (Pos.of 34) = some (.cc Tryz.f34 x34 g34 (rsV [.t (.i .h), .t (.o (.o .h))])))
    {k : Nat} {bs bp bst bf b co : Pos} {cst cp : Cap} {inp sk z : AV} {t : PT AV} {N o m : Nat} (hS : Sch k bs bp bst bf b co cst cp inp sk z t N o (m + 1) H.m) (hne : SchNe bs bp bst bf b co) (hk : k ≤ 1000) :
    ∃ w M, w < k ∧ evC E nl (n + 2) 34 [.ptr bs 0] H = .ret (.tup [.int .i64 (.ofNat w), .bool true]) ⟨M, H.nx⟩ ∧ Sch k bs bp bst bf b co cst cp inp sk z t N (o + 1) m M ∧ ∀ p, p ≠ bs → p ≠ bp → p ≠ bf → p ≠ co → M.get p = H.m.get p := by
  obtain ⟨a, hs⟩ := hS.s
  obtain ⟨lp, hp, hpl, hpa⟩ := hS.p
  obtain ⟨ro, lst, hst, hst0⟩ := hS.st
  have hlen := hS.len
  obtain ⟨w, hw, hwv⟩ := hS.w o (by omega)
  have hnx := next_run (n := n) (nl := nl) hN hS.f hS.c hS.b (by omega) hne.fc.symm
  rw [hwv] at hnx
  obtain ⟨pw, hpw⟩ := hpa w hw
  -- the heap behind 'next'
  have hM1 : ∀ p, p ≠ bf → p ≠ co → (nxtB bf co b o m H.m).get p = H.m.get p := by
    intro p h1 h2
    unfold nxtB
    cases Nat.beq m 0 with
    | true => rw [cnd_tt, get_set_ne _ _ _ _ h2, get_set_ne _ _ _ _ h1]
    | false => rw [cnd_ff, get_set_ne _ _ _ _ h1]
  have hMf : (nxtB bf co b o m H.m).get bf = some (.cells false [.sl b (o + 1) m (.op 1), .chn co]) := by
    unfold nxtB
    cases Nat.beq m 0 with
    | true => rw [cnd_tt, get_set_ne _ _ _ _ hne.fc, get_set_same]
    | false => rw [cnd_ff, get_set_same]
  have hMc : (nxtB bf co b o m H.m).get co = some (.chan (Nat.beq m 0)) := by
    unfold nxtB
    cases Nat.beq m 0 with
    | true => rw [cnd_tt, get_set_same]
    | false => rw [cnd_ff, get_set_ne _ _ _ _ hne.fc.symm]; exact hS.c
  generalize hM : nxtB bf co b o m H.m = M1 at hnx hM1 hMf hMc
  have hs1 : M1.get bs = some (.cells false [.sl bst 0 k cst, .sl bp 0 k cp, .ptr bf 0, inp, sk, .int .i64 a]) := by rw [hM1 bs hne.sf hne.sc]; exact hs
  have hp1 : M1.get bp = some (.cells false lp) := by rw [hM1 bp hne.pf hne.pc]; exact hp
  have hst1 : M1.get bst = some (.cells ro lst) := by rw [hM1 bst hne.stf hne.stc]; exact hst
  have i0 : initT x34 [.ptr bs 0] = .n .l (some (.ptr bs 0)) .l := by kernel_rfl
  have j2 : ld1 (.ptr bs 2) H = some (.ptr bf 0) := ld1_of hs 2
  have h5 : ld1 (.ptr bs 5) ⟨M1, H.nx⟩ = some (.int .i64 a) := ld1_of (H := ⟨M1, H.nx⟩) hs1 5
  generalize hL : (Blk.cells false [.sl bst 0 k cst, .sl bp 0 k cp, .ptr bf 0, inp, sk, .int .i64 (wr .i64 (iadd a (.ofNat 1)))]) = L at *
  have j6 : st 1 (.ptr bs 5) (.int .i64 (wr .i64 (iadd a (.ofNat 1)))) ⟨M1, H.nx⟩ = .val (.tup []) ⟨M1.set bs L, H.nx⟩ := by
    rw [← hL]; exact st1_of (H := ⟨M1, H.nx⟩) hs1 (o := 5) (by simp) rfl
  have hs2 : (M1.set bs L).get bs = some (.cells false [.sl bst 0 k cst, .sl bp 0 k cp, .ptr bf 0, inp, sk, .int .i64 (wr .i64 (iadd a (.ofNat 1)))]) := by rw [get_set_same, hL]
  have j7 : ld1 (.ptr bs 0) ⟨M1.set bs L, H.nx⟩ = some (.sl bst 0 k cst) := ld1_of (H := ⟨M1.set bs L, H.nx⟩) hs2 0
  have j8 : ld1 (.ptr bs 1) ⟨M1.set bs L, H.nx⟩ = some (.sl bp 0 k cp) := ld1_of (H := ⟨M1.set bs L, H.nx⟩) hs2 1
  have hst2 : (M1.set bs L).get bst = some (.cells ro lst) := by rw [get_set_ne _ _ _ _ hne.sst.symm]; exact hst1
  have hp2 : (M1.set bs L).get bp = some (.cells false lp) := by rw [get_set_ne _ _ _ _ hne.sp.symm]; exact hp1
  have j9 : avIA 1 (.sl bst 0 k cst) (.int .i64 (.ofNat w)) = some (.ptr bst w) := by have := avIA_1 (b := bst) (o := 0) (c := cst) (k := .i64) hw; rwa [Nat.zero_add] at this
  have j10 : avIA 1 (.sl bp 0 k cp) (.int .i64 (.ofNat w)) = some (.ptr bp w) := by have := avIA_1 (b := bp) (o := 0) (c := cp) (k := .i64) hw; rwa [Nat.zero_add] at this
  have j11 : ld1 (.ptr bst w) ⟨M1.set bs L, H.nx⟩ = some (.int .i64 (.ofNat 0)) := by rw [ld1_of (H := ⟨M1.set bs L, H.nx⟩) hst2 w, nth_eq]; exact hst0 w hw
  have j12 : ld1 (.ptr bp w) ⟨M1.set bs L, H.nx⟩ = some (.int .i64 pw) := by rw [ld1_of (H := ⟨M1.set bs L, H.nx⟩) hp2 w, nth_eq]; exact hpw
  have j13 : st 1 (.ptr bp w) (.int .i64 (wr .i64 (iadd pw (.ofNat 1)))) ⟨M1.set bs L, H.nx⟩ = .val (.tup []) ⟨(M1.set bs L).set bp (.cells false (lp.set w (.int .i64 (wr .i64 (iadd pw (.ofNat 1)))))), H.nx⟩ :=
    st1_of (H := ⟨M1.set bs L, H.nx⟩) hp2 (o := w) (by omega) rfl
  have j14 := rem_int hw
  have j15 := addN_int (a := w) (b := k) (by omega)
  have j16 := remN_int (a := w + k) (b := k) (by omega)
  rw [Nat.add_mod_right, Nat.mod_eq_of_lt hw] at j16
  refine ⟨w, (M1.set bs L).set bp (.cells false (lp.set w (.int .i64 (wr .i64 (iadd pw (.ofNat 1)))))), hw, ?_, ?_, ?_⟩
  · rw [evC_cc hE, evCc_ccO]
    simp only [g34, g34r0, g34r1, g34r2, g34r3, g34r4, g34r5, g34r6, g34r7, g34r8, g34r9, g34r10, g34r11, g34r12, g34r13, t0, t4, t5, t6, t7, t9, t19, t46, i0, j2, hnx, h5, j6, j7, j8, j9, j10, j11, j12, j13, j14, j15, j16, add_int, oI_eq, iN_eq, sSeq_eq, sCd_eq, sBlock_eq, blkO_nrm, blkO_ext, blkO_ret, sSkip_eq, thn_nrm, thn_ret, thn_ext, rg_nrm, save_nil, save_cons, nth_z, nth_s, ow_val, cw_ret, sF_eq, sI_eq, opt_some, opt_none, cnd_tt, cnd_ff, oP_some, avId_eq, avNC_ptr, avFA_ptr, Nat.zero_add, gh_n, go_n, gi_n, sh_n, so_n, si_n, sh_l, so_l, si_l, bI_f, bI_t, bN_t, bN_f, bq_b, ov_val, cv_ret, avExt_0, avExt_1, eqP_ptr, eqN_int, avLenL_sl, avNot_b, inot_t, inot_f, gB_ft, gB_ff, gB_tup, jn_eq, pick_t, pick_f, ccO_ret, rsV_eq, rvOf_t, mapO_n1, mapO_n0, rsM_1, rsM_2, ieq0, ieqM, lss_n0]
  · refine ⟨⟨wr .i64 (iadd a (.ofNat 1)), ?_⟩, ⟨_, get_set_same _ _ _, by rw [List.length_set]; exact hpl, fun j hj => ?_⟩, ⟨ro, lst, ?_, hst0⟩, ?_, ?_, ?_, by omega, hS.w⟩
    · rw [get_set_ne _ _ _ _ hne.sp]; exact hs2
    · by_cases e : j = w
      · subst e
        exact ⟨wr .i64 (iadd pw (.ofNat 1)), by rw [List.getElem?_set_self (by omega)]⟩
      · rw [List.getElem?_set_ne (Ne.symm e)]; exact hpa j hj
    · rw [get_set_ne _ _ _ _ hne.pst.symm]; exact hst2
    · rw [get_set_ne _ _ _ _ hne.pf.symm, get_set_ne _ _ _ _ hne.sf.symm]; exact hMf
    · rw [get_set_ne _ _ _ _ hne.pc.symm, get_set_ne _ _ _ _ hne.sc.symm]; exact hMc
    · rw [get_set_ne _ _ _ _ hne.pb.symm, get_set_ne _ _ _ _ hne.sb.symm, hM1 b hne.fb.symm hne.bc]; exact hS.b
  · intro p h1 h2 h3 h4
    rw [get_set_ne _ _ _ _ h2, get_set_ne _ _ _ _ h1, hM1 p h3 h4]
theorem gs0 (x : AV) (T : PT AV) : PT.get (.o (.o (.i .h))) (PT.set (.o (.o (.o (.i (.o (.o .h)))))) x T) = PT.get (.o (.o (.i .h))) T := get_set_ne _ _ _ _ (by intro h; cases h)
theorem gs1 (x : AV) (T : PT AV) : PT.get (.o (.o (.i .h))) (PT.set (.i (.i (.o (.i (.o (.o .h)))))) x T) = PT.get (.o (.o (.i .h))) T := get_set_ne _ _ _ _ (by intro h; cases h)
theorem gs2 (x : AV) (T : PT AV) : PT.get (.o (.o (.i .h))) (PT.set (.i (.o (.o (.o .h)))) x T) = PT.get (.o (.o (.i .h))) T := get_set_ne _ _ _ _ (by intro h; cases h)
theorem gs3 (x : AV) (T : PT AV) : PT.get (.o (.o (.i .h))) (PT.set (.i (.i (.o (.o .h)))) x T) = PT.get (.o (.o (.i .h))) T := get_set_ne _ _ _ _ (by intro h; cases h)
theorem gs4 (x : AV) (T : PT AV) : PT.get (.o (.o (.i .h))) (PT.set (.o (.i (.o (.o .h)))) x T) = PT.get (.o (.o (.i .h))) T := get_set_ne _ _ _ _ (by intro h; cases h)
theorem gs5 (x : AV) (T : PT AV) : PT.get (.o (.o (.i .h))) (PT.set (.o (.i (.i (.i (.i (.o .h)))))) x T) = PT.get (.o (.o (.i .h))) T := get_set_ne _ _ _ _ (by intro h; cases h)
theorem gs6 (x : AV) (T : PT AV) : PT.get (.o (.o (.i .h))) (PT.set (.i (.i (.i (.o (.o (.i .h)))))) x T) = PT.get (.o (.o (.i .h))) T := get_set_ne _ _ _ _ (by intro h; cases h)
theorem gs7 (x : AV) (T : PT AV) : PT.get (.o (.i (.i .h))) (PT.set (.o (.o (.o (.i (.o (.o .h)))))) x T) = PT.get (.o (.i (.i .h))) T := get_set_ne _ _ _ _ (by intro h; cases h)
theorem gs8 (x : AV) (T : PT AV) : PT.get (.o (.i (.i .h))) (PT.set (.i (.i (.o (.i (.o (.o .h)))))) x T) = PT.get (.o (.i (.i .h))) T := get_set_ne _ _ _ _ (by intro h; cases h)
theorem gs9 (x : AV) (T : PT AV) : PT.get (.o (.i (.i .h))) (PT.set (.i (.o (.o (.o .h)))) x T) = PT.get (.o (.i (.i .h))) T := get_set_ne _ _ _ _ (by intro h; cases h)
theorem gs10 (x : AV) (T : PT AV) : PT.get (.o (.i (.i .h))) (PT.set (.i (.i (.o (.o .h)))) x T) = PT.get (.o (.i (.i .h))) T := get_set_ne _ _ _ _ (by intro h; cases h)
theorem gs11 (x : AV) (T : PT AV) : PT.get (.o (.i (.i .h))) (PT.set (.o (.i (.o (.o .h)))) x T) = PT.get (.o (.i (.i .h))) T := get_set_ne _ _ _ _ (by intro h; cases h)
theorem gs12 (x : AV) (T : PT AV) : PT.get (.o (.i (.i .h))) (PT.set (.o (.i (.i (.i (.i (.o .h)))))) x T) = PT.get (.o (.i (.i .h))) T := get_set_ne _ _ _ _ (by intro h; cases h)
theorem gs13 (x : AV) (T : PT AV) : PT.get (.o (.i (.i .h))) (PT.set (.i (.i (.i (.o (.o (.i .h)))))) x T) = PT.get (.o (.i (.i .h))) T := get_set_ne _ _ _ _ (by intro h; cases h)
theorem gs14 (x : AV) (T : PT AV) : PT.get (.o (.o (.o (.o .h)))) (PT.set (.o (.o (.o (.i (.o (.o .h)))))) x T) = PT.get (.o (.o (.o (.o .h)))) T := get_set_ne _ _ _ _ (by intro h; cases h)
theorem gs15 (x : AV) (T : PT AV) : PT.get (.o (.o (.o (.o .h)))) (PT.set (.i (.i (.o (.i (.o (.o .h)))))) x T) = PT.get (.o (.o (.o (.o .h)))) T := get_set_ne _ _ _ _ (by intro h; cases h)
theorem gs16 (x : AV) (T : PT AV) : PT.get (.o (.o (.o (.o .h)))) (PT.set (.i (.o (.o (.o .h)))) x T) = PT.get (.o (.o (.o (.o .h)))) T := get_set_ne _ _ _ _ (by intro h; cases h)
theorem gs17 (x : AV) (T : PT AV) : PT.get (.o (.o (.o (.o .h)))) (PT.set (.i (.i (.o (.o .h)))) x T) = PT.get (.o (.o (.o (.o .h)))) T := get_set_ne _ _ _ _ (by intro h; cases h)
theorem gs18 (x : AV) (T : PT AV) : PT.get (.o (.o (.o (.o .h)))) (PT.set (.o (.i (.o (.o .h)))) x T) = PT.get (.o (.o (.o (.o .h)))) T := get_set_ne _ _ _ _ (by intro h; cases h)
theorem gs19 (x : AV) (T : PT AV) : PT.get (.o (.o (.o (.o .h)))) (PT.set (.o (.i (.i (.i (.i (.o .h)))))) x T) = PT.get (.o (.o (.o (.o .h)))) T := get_set_ne _ _ _ _ (by intro h; cases h)
theorem gs20 (x : AV) (T : PT AV) : PT.get (.o (.o (.o (.o .h)))) (PT.set (.i (.i (.i (.o (.o (.i .h)))))) x T) = PT.get (.o (.o (.o (.o .h)))) T := get_set_ne _ _ _ _ (by intro h; cases h)
theorem gs21 (x : AV) (T : PT AV) : PT.get (.o (.i (.o (.o .h)))) (PT.set (.o (.o (.o (.i (.o (.o .h)))))) x T) = PT.get (.o (.i (.o (.o .h)))) T := get_set_ne _ _ _ _ (by intro h; cases h)
theorem gs22 (x : AV) (T : PT AV) : PT.get (.o (.i (.o (.o .h)))) (PT.set (.i (.i (.o (.i (.o (.o .h)))))) x T) = PT.get (.o (.i (.o (.o .h)))) T := get_set_ne _ _ _ _ (by intro h; cases h)
theorem gs23 (x : AV) (T : PT AV) : PT.get (.o (.i (.o (.o .h)))) (PT.set (.i (.o (.o (.o .h)))) x T) = PT.get (.o (.i (.o (.o .h)))) T := get_set_ne _ _ _ _ (by intro h; cases h)
theorem gs24 (x : AV) (T : PT AV) : PT.get (.o (.i (.o (.o .h)))) (PT.set (.i (.i (.o (.o .h)))) x T) = PT.get (.o (.i (.o (.o .h)))) T := get_set_ne _ _ _ _ (by intro h; cases h)
theorem gs25 (x : AV) (T : PT AV) : PT.get (.o (.i (.o (.o .h)))) (PT.set (.o (.i (.i (.i (.i (.o .h)))))) x T) = PT.get (.o (.i (.o (.o .h)))) T := get_set_ne _ _ _ _ (by intro h; cases h)
theorem gs26 (x : AV) (T : PT AV) : PT.get (.o (.i (.o (.o .h)))) (PT.set (.i (.i (.i (.o (.o (.i .h)))))) x T) = PT.get (.o (.i (.o (.o .h)))) T := get_set_ne _ _ _ _ (by intro h; cases h)
theorem gs27 (x : AV) (T : PT AV) : PT.get (.i (.i (.o (.o .h)))) (PT.set (.o (.o (.o (.i (.o (.o .h)))))) x T) = PT.get (.i (.i (.o (.o .h)))) T := get_set_ne _ _ _ _ (by intro h; cases h)
theorem gs28 (x : AV) (T : PT AV) : PT.get (.i (.i (.o (.o .h)))) (PT.set (.i (.i (.o (.i (.o (.o .h)))))) x T) = PT.get (.i (.i (.o (.o .h)))) T := get_set_ne _ _ _ _ (by intro h; cases h)
theorem gs29 (x : AV) (T : PT AV) : PT.get (.i (.i (.o (.o .h)))) (PT.set (.i (.o (.o (.o .h)))) x T) = PT.get (.i (.i (.o (.o .h)))) T := get_set_ne _ _ _ _ (by intro h; cases h)
theorem gs30 (x : AV) (T : PT AV) : PT.get (.i (.i (.o (.o .h)))) (PT.set (.o (.i (.o (.o .h)))) x T) = PT.get (.i (.i (.o (.o .h)))) T := get_set_ne _ _ _ _ (by intro h; cases h)
theorem gs31 (x : AV) (T : PT AV) : PT.get (.i (.i (.o (.o .h)))) (PT.set (.o (.i (.i (.i (.i (.o .h)))))) x T) = PT.get (.i (.i (.o (.o .h)))) T := get_set_ne _ _ _ _ (by intro h; cases h)
theorem gs32 (x : AV) (T : PT AV) : PT.get (.i (.i (.o (.o .h)))) (PT.set (.i (.i (.i (.o (.o (.i .h)))))) x T) = PT.get (.i (.i (.o (.o .h)))) T := get_set_ne _ _ _ _ (by intro h; cases h)
theorem gs33 (x : AV) (T : PT AV) : PT.get (.o (.o (.o (.i (.o (.o .h)))))) (PT.set (.i (.i (.o (.i (.o (.o .h)))))) x T) = PT.get (.o (.o (.o (.i (.o (.o .h)))))) T := get_set_ne _ _ _ _ (by intro h; cases h)
theorem gs34 (x : AV) (T : PT AV) : PT.get (.o (.o (.o (.i (.o (.o .h)))))) (PT.set (.i (.o (.o (.o .h)))) x T) = PT.get (.o (.o (.o (.i (.o (.o .h)))))) T := get_set_ne _ _ _ _ (by intro h; cases h)
theorem gs35 (x : AV) (T : PT AV) : PT.get (.o (.o (.o (.i (.o (.o .h)))))) (PT.set (.i (.i (.o (.o .h)))) x T) = PT.get (.o (.o (.o (.i (.o (.o .h)))))) T := get_set_ne _ _ _ _ (by intro h; cases h)
theorem gs36 (x : AV) (T : PT AV) : PT.get (.o (.o (.o (.i (.o (.o .h)))))) (PT.set (.o (.i (.o (.o .h)))) x T) = PT.get (.o (.o (.o (.i (.o (.o .h)))))) T := get_set_ne _ _ _ _ (by intro h; cases h)
theorem gs37 (x : AV) (T : PT AV) : PT.get (.o (.o (.o (.i (.o (.o .h)))))) (PT.set (.o (.i (.i (.i (.i (.o .h)))))) x T) = PT.get (.o (.o (.o (.i (.o (.o .h)))))) T := get_set_ne _ _ _ _ (by intro h; cases h)
theorem gs38 (x : AV) (T : PT AV) : PT.get (.o (.o (.o (.i (.o (.o .h)))))) (PT.set (.i (.i (.i (.o (.o (.i .h)))))) x T) = PT.get (.o (.o (.o (.i (.o (.o .h)))))) T := get_set_ne _ _ _ _ (by intro h; cases h)
theorem gs39 (x : AV) (T : PT AV) : PT.get (.i (.i (.o (.i (.o (.o .h)))))) (PT.set (.o (.o (.o (.i (.o (.o .h)))))) x T) = PT.get (.i (.i (.o (.i (.o (.o .h)))))) T := get_set_ne _ _ _ _ (by intro h; cases h)
theorem gs40 (x : AV) (T : PT AV) : PT.get (.i (.i (.o (.i (.o (.o .h)))))) (PT.set (.i (.o (.o (.o .h)))) x T) = PT.get (.i (.i (.o (.i (.o (.o .h)))))) T := get_set_ne _ _ _ _ (by intro h; cases h)
theorem gs41 (x : AV) (T : PT AV) : PT.get (.i (.i (.o (.i (.o (.o .h)))))) (PT.set (.i (.i (.o (.o .h)))) x T) = PT.get (.i (.i (.o (.i (.o (.o .h)))))) T := get_set_ne _ _ _ _ (by intro h; cases h)
theorem gs42 (x : AV) (T : PT AV) : PT.get (.i (.i (.o (.i (.o (.o .h)))))) (PT.set (.o (.i (.o (.o .h)))) x T) = PT.get (.i (.i (.o (.i (.o (.o .h)))))) T := get_set_ne _ _ _ _ (by intro h; cases h)
theorem gs43 (x : AV) (T : PT AV) : PT.get (.i (.i (.o (.i (.o (.o .h)))))) (PT.set (.o (.i (.i (.i (.i (.o .h)))))) x T) = PT.get (.i (.i (.o (.i (.o (.o .h)))))) T := get_set_ne _ _ _ _ (by intro h; cases h)
theorem gs44 (x : AV) (T : PT AV) : PT.get (.i (.i (.o (.i (.o (.o .h)))))) (PT.set (.i (.i (.i (.o (.o (.i .h)))))) x T) = PT.get (.i (.i (.o (.i (.o (.o .h)))))) T := get_set_ne _ _ _ _ (by intro h; cases h)
theorem gs45 (x : AV) (T : PT AV) : PT.get (.o (.i (.i (.i (.i (.o .h)))))) (PT.set (.o (.o (.o (.i (.o (.o .h)))))) x T) = PT.get (.o (.i (.i (.i (.i (.o .h)))))) T := get_set_ne _ _ _ _ (by intro h; cases h)
theorem gs46 (x : AV) (T : PT AV) : PT.get (.o (.i (.i (.i (.i (.o .h)))))) (PT.set (.i (.i (.o (.i (.o (.o .h)))))) x T) = PT.get (.o (.i (.i (.i (.i (.o .h)))))) T := get_set_ne _ _ _ _ (by intro h; cases h)
theorem gs47 (x : AV) (T : PT AV) : PT.get (.o (.i (.i (.i (.i (.o .h)))))) (PT.set (.i (.o (.o (.o .h)))) x T) = PT.get (.o (.i (.i (.i (.i (.o .h)))))) T := get_set_ne _ _ _ _ (by intro h; cases h)
theorem gs48 (x : AV) (T : PT AV) : PT.get (.o (.i (.i (.i (.i (.o .h)))))) (PT.set (.i (.i (.o (.o .h)))) x T) = PT.get (.o (.i (.i (.i (.i (.o .h)))))) T := get_set_ne _ _ _ _ (by intro h; cases h)
theorem gs49 (x : AV) (T : PT AV) : PT.get (.o (.i (.i (.i (.i (.o .h)))))) (PT.set (.o (.i (.o (.o .h)))) x T) = PT.get (.o (.i (.i (.i (.i (.o .h)))))) T := get_set_ne _ _ _ _ (by intro h; cases h)
theorem gs50 (x : AV) (T : PT AV) : PT.get (.o (.i (.i (.i (.i (.o .h)))))) (PT.set (.i (.i (.i (.o (.o (.i .h)))))) x T) = PT.get (.o (.i (.i (.i (.i (.o .h)))))) T := get_set_ne _ _ _ _ (by intro h; cases h)
theorem gs51 (x : AV) (T : PT AV) : PT.get (.i (.i (.i (.o (.o (.i .h)))))) (PT.set (.o (.o (.o (.i (.o (.o .h)))))) x T) = PT.get (.i (.i (.i (.o (.o (.i .h)))))) T := get_set_ne _ _ _ _ (by intro h; cases h)
theorem gs52 (x : AV) (T : PT AV) : PT.get (.i (.i (.i (.o (.o (.i .h)))))) (PT.set (.i (.i (.o (.i (.o (.o .h)))))) x T) = PT.get (.i (.i (.i (.o (.o (.i .h)))))) T := get_set_ne _ _ _ _ (by intro h; cases h)
theorem gs53 (x : AV) (T : PT AV) : PT.get (.i (.i (.i (.o (.o (.i .h)))))) (PT.set (.i (.o (.o (.o .h)))) x T) = PT.get (.i (.i (.i (.o (.o (.i .h)))))) T := get_set_ne _ _ _ _ (by intro h; cases h)
theorem gs54 (x : AV) (T : PT AV) : PT.get (.i (.i (.i (.o (.o (.i .h)))))) (PT.set (.i (.i (.o (.o .h)))) x T) = PT.get (.i (.i (.i (.o (.o (.i .h)))))) T := get_set_ne _ _ _ _ (by intro h; cases h)
theorem gs55 (x : AV) (T : PT AV) : PT.get (.i (.i (.i (.o (.o (.i .h)))))) (PT.set (.o (.i (.o (.o .h)))) x T) = PT.get (.i (.i (.i (.o (.o (.i .h)))))) T := get_set_ne _ _ _ _ (by intro h; cases h)
theorem gs56 (x : AV) (T : PT AV) : PT.get (.i (.i (.i (.o (.o (.i .h)))))) (PT.set (.o (.i (.i (.i (.i (.o .h)))))) x T) = PT.get (.i (.i (.i (.o (.o (.i .h)))))) T := get_set_ne _ _ _ _ (by intro h; cases h)

def slotsI : List Pos := [(.o (.o (.o (.i (.o (.o .h)))))), (.i (.i (.o (.i (.o (.o .h)))))), (.i (.o (.o (.o .h)))), (.i (.i (.o (.o .h)))), (.o (.i (.o (.o .h)))), (.o (.i (.i (.i (.i (.o .h)))))), (.i (.i (.i (.o (.o (.i .h))))))]
theorem get_slots (p : Pos) (hp : p ∉ slotsI) : p ≠ (.o (.o (.o (.i (.o (.o .h)))))) ∧ p ≠ (.i (.i (.o (.i (.o (.o .h)))))) ∧ p ≠ (.i (.o (.o (.o .h)))) ∧ p ≠ (.i (.i (.o (.o .h)))) ∧ p ≠ (.o (.i (.o (.o .h)))) ∧ p ≠ (.o (.i (.i (.i (.i (.o .h)))))) ∧ p ≠ (.i (.i (.i (.o (.o (.i .h)))))) := by
  refine ⟨fun e => hp (by rw [e]; simp [slotsI]), fun e => hp (by rw [e]; simp [slotsI]), fun e => hp (by rw [e]; simp [slotsI]), fun e => hp (by rw [e]; simp [slotsI]), fun e => hp (by rw [e]; simp [slotsI]), fun e => hp (by rw [e]; simp [slotsI]), fun e => hp (by rw [e]; simp [slotsI])⟩
noncomputable def lb13 (call : CallT) (nl : Nat) : StT := (sBlock 1 (sSeq (sSeq (g13r9 call) (sSeq (g13r10 call) (sBlock 2 (sCd (fun T => bq (t74 T)) (sSeq (g13r11 call) (sSeq (g13r12 call) (fun T D H => .ret T D H))) sSkip)))) (sSeq (g13r13 call) (sSeq (g13r14 call) (sSeq (sSeq (g13r15 call) (sCd (fun T => bq (t93 T)) (sSeq (g13r16 call) (fun T D H => .ext 1 T D H)) sSkip)) (sSeq (sSeq (g13r17 call) (sCd (fun T => bq (t102 T)) (fun T D H => .ext 1 T D H) sSkip)) (sSeq (g13r18 call) (sSeq (g13r19 call) (sBlock 3 (sLoop (sSeq (g13r20 call) (sSeq (sCd (fun T => bq (t112 T)) sSkip (fun T D H => .ext 3 T D H)) (sSeq (sBlock 4 (sSeq (g13r21 call) (sSeq (g13r22 call) (g13r23 call)))) (g13r24 call)))) nl))))))))))
theorem set_some {p q : Pos} {x : AV} {T : PT AV} (h : p = q ∨ ∃ u, T.get p = some u) : ∃ u, (T.set q x).get p = some u := by
  by_cases e : p = q
  · subst e; exact ⟨x, get_set_same _ _ _⟩
  · rcases h with h | h
    · exact absurd h e
    · rw [get_set_ne _ _ _ _ e]; exact h
theorem round_run {call : CallT} {nl : Nat} {T : PT AV} {D : List DF} {H H1 : Hp} {bm bs bo : Pos} {w : Nat} {s : Int} {a : AV}
    (h11 : T.get (.o (.o (.i .h))) = some (.ptr bm 0)) (h13 : T.get (.o (.i (.i .h))) = some (.ptr bs 0)) (h15 : T.get (.o (.o (.o (.o .h)))) = some (.chn bo)) (ho : H.m.get bo = some (.chan false))
    (hA : call 33 [.ptr bs 0] H = .ret a H) (hP : call 34 [.ptr bs 0] H = .ret (.tup [.int .i64 (.ofNat w), .bool true]) H1) (hT : call 35 [.ptr bm 0, .int .i64 (.ofNat w)] H1 = .ret (.int .i64 s) H1) (hs : ieq s (.ofNat 0) = false) :
    ∃ T', lb13 call nl T D H = .nrm T' D H1 ∧ (∀ p, p ∉ slotsI → T'.get p = T.get p) ∧ ∀ p, p ∈ slotsI → ∃ u, T'.get p = some u := by
  have e11 : t11 T = .ptr bm 0 := by unfold t11; rw [h11]; rfl
  have e13 : t13 T = .ptr bs 0 := by unfold t13; rw [h13]; rfl
  have e15 : t15 T = .chn bo := by unfold t15; rw [h15]; rfl
  refine ⟨?T, ?h, ?k⟩
  case h =>
    simp only [lb13, g13r9, g13r10, g13r11, g13r12, g13r13, g13r14, g13r15, g13r16, g13r17, t8, t10, t11, t13, t15, t17, t18, t71, t74, t93, t102, t112, h11, h13, h15, hA, hP, hT, hs, selF_f _ ho, get_set_same, gs0, gs1, gs2, gs3, gs4, gs5, gs6, gs7, gs8, gs9, gs10, gs11, gs12, gs13, gs14, gs15, gs16, gs17, gs18, gs19, gs20, gs21, gs22, gs23, gs24, gs25, gs26, gs27, gs28, gs29, gs30, gs31, gs32, gs33, gs34, gs35, gs36, gs37, gs38, gs39, gs40, gs41, gs42, gs43, gs44, gs45, gs46, gs47, gs48, gs49, gs50, gs51, gs52, gs53, gs54, gs55, gs56, gB_ff, oI_eq, iN_eq, sSeq_eq, sCd_eq, sBlock_eq, blkO_nrm, blkO_ext, blkO_ret, sSkip_eq, thn_nrm, thn_ret, thn_ext, rg_nrm, save_nil, save_cons, nth_z, nth_s, ow_val, cw_ret, sF_eq, sI_eq, opt_some, opt_none, cnd_tt, cnd_ff, oP_some, avId_eq, avNC_ptr, avFA_ptr, Nat.zero_add, gh_n, go_n, gi_n, sh_n, so_n, si_n, sh_l, so_l, si_l, bI_f, bI_t, bN_t, bN_f, bq_b, ov_val, cv_ret, avExt_0, avExt_1, eqP_ptr, eqN_int, avLenL_sl, avNot_b, inot_t, inot_f, gB_ft, gB_ff, gB_tup, jn_eq, pick_t, pick_f, ccO_ret, rsV_eq, rvOf_t, mapO_n1, mapO_n0, rsM_1, rsM_2, ieq0, ieqM, lss_n0]
    rfl
  case k =>
    refine ⟨fun p hp => ?_, fun p hp => ?_⟩
    · obtain ⟨n0, n1, n2, n3, n4, n5, n6⟩ := get_slots p hp
      rw [get_set_ne _ _ _ _ n6, get_set_ne _ _ _ _ n5, get_set_ne _ _ _ _ n4, get_set_ne _ _ _ _ n3, get_set_ne _ _ _ _ n2, get_set_ne _ _ _ _ n1, get_set_ne _ _ _ _ n0]
    · simp only [slotsI, List.mem_cons, List.not_mem_nil, or_false] at hp
      rcases hp with rfl | rfl | rfl | rfl | rfl | rfl | rfl <;> repeat (first | exact set_some (.inl rfl) | refine set_some (.inr ?_))

noncomputable def isZ (v : AV) : Bool :=
  match v with
  | .int .i64 (.ofNat n) => Nat.beq n 0
  | _ => false
noncomputable def isI (v : AV) : Bool :=
  match v with
  | .int .i64 _ => true
  | _ => false
noncomputable def isW (k : Nat) (v : AV) : Bool :=
  match v with
  | .int .i64 (.ofNat n) => Nat.ble (Nat.succ n) k
  | _ => false
noncomputable def allP (f : AV → Bool) (t : PT AV) : Bool := PT.rec (motive := fun _ => Bool) true (fun _ v _ a b => iand (opt v true f) (iand a b)) t
theorem isZ_inv {v : AV} (h : isZ v = true) : v = .int .i64 (.ofNat 0) := by
  unfold isZ at h
  split at h
  · rename_i n; rw [Nat.eq_of_beq_eq_true h]
  · cases h
theorem isI_inv {v : AV} (h : isI v = true) : ∃ a, v = .int .i64 a := by
  unfold isI at h
  split at h
  · exact ⟨_, rfl⟩
  · cases h
theorem isW_inv {k : Nat} {v : AV} (h : isW k v = true) : ∃ w, w < k ∧ v = .int .i64 (.ofNat w) := by
  unfold isW at h
  split at h
  · exact ⟨_, Nat.le_of_ble_eq_true h, rfl⟩
  · cases h
theorem allP_get {f : AV → Bool} : ∀ {t : PT AV} {p : Pos} {v : AV}, allP f t = true → t.get p = some v → f v = true
  | .l, p, v, _, h => by rw [get_leaf] at h; cases h
  | .n a u b, p, v, h, hg => by
    replace h : iand (opt u true f) (iand (allP f a) (allP f b)) = true := h
    simp only [iand_eq, Bool.and_eq_true] at h
    cases p with
    | h =>
      replace hg : u = some v := hg
      subst hg
      exact h.1
    | o p => exact allP_get (t := a) h.2.1 hg
    | i p => exact allP_get (t := b) h.2.2 hg
theorem arrG_all {f : AV → Bool} {z : AV} {t : PT AV} (hz : f z = true) (ht : allP f t = true) (j : Nat) : f (arrG z t j) = true := by
  unfold arrG
  cases h : t.get (toP j) with
  | none => exact hz
  | some v => exact allP_get ht h
noncomputable def quiet1 (bm : Pos) (R : Hp) (t : Nat) : Bool := opt (intCR (evC env 1000 100 35 [.ptr bm 0, .int .i64 (.ofNat t)] R)) false fun s => inot (ieq s (.ofNat 0))
noncomputable def quiet (bm : Pos) (R : Hp) (k : Nat) : Bool := allN (quiet1 bm R) k
noncomputable def hdOff (H : Hp) (bs bp bf co : Pos) : Hp := ((H.m.set bs .dead).set bp .dead).frc fun m => ((m.set bf .dead).set co .dead).frc fun m => ⟨m, H.nx⟩
noncomputable def hdEnd (H : Hp) (bs bp bf co : Pos) (S F : Blk) : Hp := ((H.m.set bs S).set bp .dead).frc fun m => ((m.set bf F).set co (.chan true)).frc fun m => ⟨m, H.nx⟩
noncomputable def tEnd (T : PT AV) : PT AV := (((((((T.set (.o (.o (.o (.i (.o (.o .h)))))) .any).set (.i (.i (.o (.i (.o (.o .h)))))) .any).set (.i (.o (.o (.o .h)))) .any).set (.i (.i (.o (.o .h)))) .any).set (.o (.i (.o (.o .h)))) .any).set (.o (.i (.i (.i (.i (.o .h)))))) .any).set (.i (.i (.i (.o (.o (.i .h)))))) .any).frc fun T => T
noncomputable def idle4 (T : PT AV) (H : Hp) (bm bs bp bst bf b co : Pos) (k : Nat) (cst cp : Cap) (inp sk : AV) (o m : Nat) (lst lp : List AV) (z : AV) (t : PT AV) (N : Nat) : Option (PT AV × Hp) :=
  cnd (iand (iand (iand (Nat.ble 1 m) (Nat.ble 1 k)) (iand (Nat.ble k 1000) (Nat.beq (len lst) k))) (iand (iand (Nat.beq (len lp) k) (Nat.beq (Nat.add o m) N)) (iand (inot (pbeq bst bp)) (iand (allB isZ lst) (allB isI lp)))))
    (cnd (quiet bm (roH (hdOff H bs bp bf co)) k)
      (cnd (iand (isW k z) (allP (isW k) t))
        (some (tEnd T, hdEnd H bs bp bf co (.cells false [.sl bst 0 k cst, .sl bp 0 k cp, .ptr bf 0, inp, sk, .any]) (.cells false [.sl b N 0 (.op 1), .chn co])))
        none) none) none
noncomputable def idle3 (T : PT AV) (H : Hp) (bm bs bo bp bst bf b co : Pos) (k : Nat) (cst cp : Cap) (inp sk : AV) (o m : Nat) : Option (PT AV × Hp) :=
  cnd (pbeq co bo) none (H.ch co none fun c1 => cnd c1 none (H.ch bo none fun c2 => cnd c2 none
    (H.cells bst none fun _ lst => H.cells bp none fun rp lp => cnd rp none (H.ar b none fun z t N => idle4 T H bm bs bp bst bf b co k cst cp inp sk o m lst lp z t N))))
noncomputable def idle2 (T : PT AV) (H : Hp) (bm bs bo bp bst bf : Pos) (k : Nat) (cst cp : Cap) (inp sk : AV) (ro : Bool) (l : List AV) : Option (PT AV × Hp) :=
  match l with
  | [.sl b o m (.op 1), .chn co] => cnd ro none (idle3 T H bm bs bo bp bst bf b co k cst cp inp sk o m)
  | _ => none
noncomputable def idle1 (T : PT AV) (H : Hp) (bm bs bo : Pos) (ro : Bool) (l : List AV) : Option (PT AV × Hp) :=
  match l with
  | [.sl bst 0 k cst, .sl bp 0 k' cp, .ptr bf 0, inp, sk, .int .i64 _] => cnd ro none (cnd (Nat.beq k k') (H.cells bf none fun ro l => idle2 T H bm bs bo bp bst bf k cst cp inp sk ro l) none)
  | _ => none
noncomputable def idle0 (T : PT AV) (H : Hp) (m s o : AV) : Option (PT AV × Hp) :=
  match m, s, o with
  | .ptr bm 0, .ptr bs 0, .chn bo => H.cells bs none fun ro l => idle1 T H bm bs bo ro l
  | _, _, _ => none
noncomputable def idleF (T : PT AV) (H : Hp) : Option (PT AV × Hp) := idle0 T H (t11 T) (t13 T) (t15 T)

theorem off_get {H : Hp} {bs bp bf co p : Pos} (h1 : p ≠ bs) (h2 : p ≠ bp) (h3 : p ≠ bf) (h4 : p ≠ co) : (hdOff H bs bp bf co).m.get p = H.m.get p := by
  unfold hdOff
  rw [frc_eq, frc_eq, get_set_ne _ _ _ _ h4, get_set_ne _ _ _ _ h3, get_set_ne _ _ _ _ h2, get_set_ne _ _ _ _ h1]
theorem off_dead {H : Hp} {bs bp bf co p : Pos} (h : p = bs ∨ p = bp ∨ p = bf ∨ p = co) : (hdOff H bs bp bf co).m.get p = some .dead := by
  unfold hdOff
  rw [frc_eq, frc_eq]
  by_cases h4 : p = co
  · rw [h4, get_set_same]
  · rw [get_set_ne _ _ _ _ h4]
    by_cases h3 : p = bf
    · rw [h3, get_set_same]
    · rw [get_set_ne _ _ _ _ h3]
      by_cases h2 : p = bp
      · rw [h2, get_set_same]
      · rw [get_set_ne _ _ _ _ h2]
        by_cases h1 : p = bs
        · rw [h1, get_set_same]
        · rcases h with h | h | h | h
          · exact absurd h h1
          · exact absurd h h2
          · exact absurd h h3
          · exact absurd h h4
theorem off_nx {H : Hp} {bs bp bf co : Pos} : (hdOff H bs bp bf co).nx = H.nx := by
  unfold hdOff
  rw [frc_eq, frc_eq]
theorem end_get {H : Hp} {bs bp bf co p : Pos} {S F : Blk} (h1 : p ≠ bs) (h2 : p ≠ bp) (h3 : p ≠ bf) (h4 : p ≠ co) : (hdEnd H bs bp bf co S F).m.get p = H.m.get p := by
  unfold hdEnd
  rw [frc_eq, frc_eq, get_set_ne _ _ _ _ h4, get_set_ne _ _ _ _ h3, get_set_ne _ _ _ _ h2, get_set_ne _ _ _ _ h1]
theorem end_nx {H : Hp} {bs bp bf co : Pos} {S F : Blk} : (hdEnd H bs bp bf co S F).nx = H.nx := by
  unfold hdEnd
  rw [frc_eq, frc_eq]
structure Found (T : PT AV) (H : Hp) (p : PT AV × Hp) (bm bs bo bp bst bf b co : Pos) (k : Nat) (cst cp : Cap) (inp sk : AV) (o m : Nat) (z : AV) (t : PT AV) (N : Nat) : Prop where
  h11 : T.get (.o (.o (.i .h))) = some (.ptr bm 0)
  h13 : T.get (.o (.i (.i .h))) = some (.ptr bs 0)
  h15 : T.get (.o (.o (.o (.o .h)))) = some (.chn bo)
  ho : H.m.get bo = some (.chan false)
  sch : Sch k bs bp bst bf b co cst cp inp sk z t N o m H.m
  ne : SchNe bs bp bst bf b co
  oc : bo ≠ co
  os : bo ≠ bs
  op : bo ≠ bp
  of : bo ≠ bf
  k1 : 1 ≤ k
  k2 : k ≤ 1000
  m1 : 1 ≤ m
  q : ∀ t, t < k → ∃ s, intCR (evC env 1000 100 35 [.ptr bm 0, .int .i64 (.ofNat t)] (roH (hdOff H bs bp bf co))) = some s ∧ ieq s (.ofNat 0) = false
  r : p = (tEnd T, hdEnd H bs bp bf co (.cells false [.sl bst 0 k cst, .sl bp 0 k cp, .ptr bf 0, inp, sk, .any]) (.cells false [.sl b N 0 (.op 1), .chn co]))
theorem tN_get {T : PT AV} {p : Pos} {v : AV} (h : opt (T.get p) AV.any (fun v => v) = v) (hv : v ≠ .any) : T.get p = some v := by
  cases hg : T.get p with
  | none => rw [hg] at h; exact absurd h.symm hv
  | some u => rw [hg] at h; exact congrArg some h
theorem cells_get {H : Hp} {b : Pos} {α : Type} {f : Bool → List AV → Option α} {x : α} (h : H.cells b none f = some x) : ∃ ro l, H.m.get b = some (.cells ro l) ∧ f ro l = some x := by
  unfold Hp.cells at h
  obtain ⟨y, h1, h2⟩ := opt_eq_some h
  cases y with
  | cells ro l => exact ⟨ro, l, h1, h2⟩
  | _ => cases h2
theorem ch_get {H : Hp} {b : Pos} {α : Type} {f : Bool → Option α} {x : α} (h : H.ch b none f = some x) : ∃ c, H.m.get b = some (.chan c) ∧ f c = some x := by
  unfold Hp.ch at h
  obtain ⟨y, h1, h2⟩ := opt_eq_some h
  cases y with
  | chan c => exact ⟨c, h1, h2⟩
  | _ => cases h2
theorem ar_get {H : Hp} {b : Pos} {α : Type} {f : AV → PT AV → Nat → Option α} {x : α} (h : H.ar b none f = some x) : ∃ z t n, H.m.get b = some (.arr z t n) ∧ f z t n = some x := by
  unfold Hp.ar at h
  obtain ⟨y, h1, h2⟩ := opt_eq_some h
  cases y with
  | arr z t n => exact ⟨z, t, n, h1, h2⟩
  | _ => cases h2
theorem cnd_no {α : Type} {c : Bool} {x : Option α} {y : α} (h : cnd c none x = some y) : c = false ∧ x = some y := by
  cases c with
  | true => cases h
  | false => exact ⟨rfl, h⟩
theorem cnd_yes {α : Type} {c : Bool} {x : Option α} {y : α} (h : cnd c x none = some y) : c = true ∧ x = some y := by
  cases c with
  | false => cases h
  | true => exact ⟨rfl, h⟩
theorem pbeq_refl : ∀ p : Pos, pbeq p p = true
  | .h => rfl
  | .o p => pbeq_refl p
  | .i p => pbeq_refl p
theorem idleF_inv {T : PT AV} {H : Hp} {p : PT AV × Hp} (h : idleF T H = some p) : ∃ bm bs bo bp bst bf b co k cst cp inp sk o m z t N, Found T H p bm bs bo bp bst bf b co k cst cp inp sk o m z t N := by
  unfold idleF at h
  unfold idle0 at h
  split at h
  · rename_i bm bs bo e11 e13 e15
    obtain ⟨ro, l, hs, h⟩ := cells_get h
    unfold idle1 at h
    split at h
    · rename_i bst k cst bp k' cp bf inp sk a
      replace h := cnd_no h
      obtain ⟨e0, h⟩ := h
      subst e0
      replace h := cnd_yes h
      obtain ⟨hk, h⟩ := h
      obtain rfl := Nat.eq_of_beq_eq_true hk
      obtain ⟨ro, l, hf, h⟩ := cells_get h
      unfold idle2 at h
      split at h
      · rename_i b o m co
        replace h := cnd_no h
        obtain ⟨e0, h⟩ := h
        subst e0
        unfold idle3 at h
        obtain ⟨hoc, h⟩ := cnd_no h
        obtain ⟨c1, hc, h⟩ := ch_get h
        replace h := cnd_no h
        obtain ⟨e0, h⟩ := h
        subst e0
        obtain ⟨c2, ho, h⟩ := ch_get h
        replace h := cnd_no h
        obtain ⟨e0, h⟩ := h
        subst e0
        obtain ⟨ro, lst, hst, h⟩ := cells_get h
        obtain ⟨rp, lp, hp, h⟩ := cells_get h
        replace h := cnd_no h
        obtain ⟨e0, h⟩ := h
        subst e0
        obtain ⟨z, t, N, hb, h⟩ := ar_get h
        unfold idle4 at h
        obtain ⟨g, h⟩ := cnd_yes h
        obtain ⟨hq, h⟩ := cnd_yes h
        obtain ⟨hw, h⟩ := cnd_yes h
        simp only [iand_eq, Bool.and_eq_true, len_eq, inot_eq, Bool.not_eq_true'] at g hw
        obtain ⟨⟨⟨m1, k1⟩, k2, l1⟩, ⟨l2, on⟩, n1, az, ai⟩ := g
        have m1' := Nat.le_of_ble_eq_true m1
        have hm0 : Nat.beq m 0 = false := by
          cases m with
          | zero => omega
          | succ m => rfl
        refine ⟨bm, bs, bo, bp, bst, bf, b, co, k, cst, cp, inp, sk, o, m, z, t, N, tN_get e11 (by intro e; cases e), tN_get e13 (by intro e; cases e), tN_get e15 (by intro e; cases e), ho,
          ⟨⟨_, hs⟩, ⟨lp, hp, Nat.eq_of_beq_eq_true l2, fun j hj => ?_⟩, ⟨ro, lst, hst, fun j hj => ?_⟩, hf, by rw [hm0]; exact hc, hb, Nat.eq_of_beq_eq_true on, fun j _ => isW_inv (arrG_all hw.1 hw.2 j)⟩, ?_, ?_, ?_, ?_, ?_, Nat.le_of_ble_eq_true k1, Nat.le_of_ble_eq_true k2, m1', fun t ht => ?_, (Option.some.inj h).symm⟩
        · have hl := Nat.eq_of_beq_eq_true l2
          have hx := allB_iff ai (lp[j]'(by omega)) (List.getElem_mem _)
          obtain ⟨a, ha⟩ := isI_inv hx
          exact ⟨a, by rw [List.getElem?_eq_getElem (by omega), ha]⟩
        · have hl := Nat.eq_of_beq_eq_true l1
          have hx := allB_iff az (lst[j]'(by omega)) (List.getElem_mem _)
          rw [List.getElem?_eq_getElem (by omega), isZ_inv hx]
        · have k1' := Nat.le_of_ble_eq_true k1
          have l1' := Nat.eq_of_beq_eq_true l1
          have l2' := Nat.eq_of_beq_eq_true l2
          have ip : ∀ {q : Pos} {x y : Blk}, H.m.get q = some x → H.m.get q = some y → x = y := fun h1 h2 => Option.some.inj (h1.symm.trans h2)
          have nst : ∀ {x : AV} {l : List AV}, lst = x :: l → isZ x = true := fun e => allB_iff az _ (by rw [e]; exact .head _)
          have npt : ∀ {x : AV} {l : List AV}, lp = x :: l → isI x = true := fun e => allB_iff ai _ (by rw [e]; exact .head _)
          refine ⟨fun e => ?_, fun e => ?_, fun e => ?_, fun e => ?_, fun e => ?_, fun e => ?_, fun e => ?_, fun e => ?_, fun e => ?_, fun e => ?_, fun e => ?_, fun e => ?_, fun e => ?_, fun e => ?_, fun e => ?_⟩ <;> subst e
          · have := ip hs hp; injection this with _ e; have := npt e.symm; cases this
          · have := ip hs hst; injection this with _ e; have := nst e.symm; cases this
          · have := ip hs hf; injection this with _ e; injection e with _ e; injection e with e _; cases e
          · have := ip hs hb; cases this
          · have := ip hs hc; cases this
          · rw [pbeq_refl] at n1; cases n1
          · have := ip hp hf; injection this with _ e; have := npt e; cases this
          · have := ip hp hb; cases this
          · have := ip hp hc; cases this
          · have := ip hst hf; injection this with _ e; have := nst e; cases this
          · have := ip hst hb; cases this
          · have := ip hst hc; cases this
          · have := ip hf hb; cases this
          · have := ip hf hc; cases this
          · have := ip hb hc; cases this
        · intro e; subst e; rw [pbeq_refl] at hoc; cases hoc
        · intro e; subst e; rw [ho] at hs; cases hs
        · intro e; subst e; rw [ho] at hp; cases hp
        · intro e; subst e; rw [ho] at hf; cases hf
        · have hq1 := allN_eq hq t ht
          unfold quiet1 at hq1
          cases hx : intCR (evC env 1000 100 35 [.ptr bm 0, .int .i64 (.ofNat t)] (roH (hdOff H bs bp bf co))) with
          | none => rw [hx] at hq1; cases hq1
          | some s =>
            rw [hx] at hq1
            exact ⟨s, rfl, by rw [opt_some, inot_eq] at hq1; simpa using hq1⟩
      · cases h
    · cases h
  · cases h

noncomputable def cL (c : Code) : Code := Code.rec (motive := fun _ => Code) .skip (fun _ _ _ => .skip) (fun a _ _ _ => a) (fun _ _ _ _ _ => .skip) (fun _ c _ => c) (fun c _ => c) (fun _ _ _ _ _ _ => .skip) (fun _ => .skip) (fun c _ => c) (fun _ => .skip) (fun _ => .skip) .skip (fun _ => .skip) c
noncomputable def cR (c : Code) : Code := Code.rec (motive := fun _ => Code) .skip (fun _ _ _ => .skip) (fun _ b _ _ => b) (fun _ _ _ _ _ => .skip) (fun _ c _ => c) (fun c _ => c) (fun _ _ _ _ _ _ => .skip) (fun _ => .skip) (fun c _ => c) (fun _ => .skip) (fun _ => .skip) .skip (fun _ => .skip) c
noncomputable def LB : Code := cL (cL (cR (cR (cR (cR (cR (cR (cR (bodyOf Tryz.f13)))))))))
variable {base : Nat} {w0 : World} {F : PT FE}
def OffOk (H H' : Hp) (bs bp bf co : Pos) : Prop := H'.nx = H.nx ∧ (∀ p, p ≠ bs → p ≠ bp → p ≠ bf → p ≠ co → H'.m.get p = H.m.get p) ∧ ∀ p, (p = bs ∨ p = bp ∨ p = bf ∨ p = co) → ∃ y, H'.m.get p = some y
noncomputable def callS (H : Hp) (bm bs bp bf co : Pos) (k : Nat) (args : List AV) (H' : Hp) : CR :=
  match args with
  | [.ptr b 0, .int .i64 (.ofNat t)] => cnd (iand (pbeq b bm) (Nat.ble (Nat.succ t) k)) (opt (intCR (evC env 1000 100 35 [.ptr bm 0, .int .i64 (.ofNat t)] (roH (hdOff H bs bp bf co)))) .no fun s => .ret (.int .i64 s) H') .no
  | _ => .no
open Classical in
noncomputable def callB (H : Hp) (bm bs bp bf co : Pos) (k : Nat) : CallT := fun f args H' =>
  if f = 35 then (if OffOk H H' bs bp bf co then callS H bm bs bp bf co k args H' else .no) else evC env 1000 100 f args H'
theorem callB_ok (hg : env.gl = E.gl) (H : Hp) (bm bs bp bf co : Pos) (k : Nat) : CallOk Tryz.prog E base w0 (callB H bm bs bp bf co k) := by
  intro f args H' r he hr ι w cargs hR ha
  unfold callB at he
  split at he
  · rename_i ef
    subst ef
    split at he
    · rename_i ho
      unfold callS at he
      split at he
      · rename_i b t
        rw [cnd_eq] at he
        split at he
        · rename_i hc
          simp only [iand_eq, Bool.and_eq_true] at hc
          obtain rfl := pbeq_eq hc.1
          obtain ⟨sx, h1, h2⟩ := optC_ne he hr
          have hR' : Rl env base w0 ι (hdOff H bs bp bf co) w := (hR.env hg).weaken0 (off_nx.trans ho.1.symm) fun p x hx => by
            by_cases hp : p = bs ∨ p = bp ∨ p = bf ∨ p = co
            · obtain ⟨y, hy⟩ := ho.2.2 p hp
              rw [off_dead hp] at hx
              cases hx
              exact ⟨y, hy, .inr (.inl rfl)⟩
            · have n1 : p ≠ bs := fun e => hp (.inl e)
              have n2 : p ≠ bp := fun e => hp (.inr (.inl e))
              have n3 : p ≠ bf := fun e => hp (.inr (.inr (.inl e)))
              have n4 : p ≠ co := fun e => hp (.inr (.inr (.inr e)))
              rw [off_get n1 n2 n3 n4] at hx
              exact ⟨x, (ho.2.1 p n1 n2 n3 n4).trans hx, .inl rfl⟩
          refine ⟨⟨_, Tryz.func35, by kernel_rfl, by kernel_rfl⟩, Calls.mono (gv_of hR' ha h1 w (Below.refl _ _)) ?_⟩
          rintro e W' ⟨rfl, hb⟩
          exact ⟨.int .i64 sx, H', ι, h2.symm, .int _ _, hR.of_below hb, .refl ι H'⟩
        · exact absurd he.symm hr
      · exact absurd he.symm hr
    · exact absurd he.symm hr
  · exact (CallOk.env hg.symm (env_call base w0 1000 100)) f args H' r he hr ι w cargs hR ha
theorem env_next : env.fn.get (Pos.of 56) = some (.cc Tryz.f56 x56 g56 (rsV [.t (.i .h), .t (.o (.o .h))])) := by kernel_rfl
theorem env_at : env.fn.get (Pos.of 33) = some (.cc Tryz.f33 x33 g33 (rsV [.t (.i .h)])) := by kernel_rfl
theorem env_pick : env.fn.get (Pos.of 34) = some (.cc Tryz.f34 x34 g34 (rsV [.t (.i .h), .t (.o (.o .h))])) := by kernel_rfl
theorem tEnd_eq (T : PT AV) : tEnd T = (((((((T.set (.o (.o (.o (.i (.o (.o .h)))))) .any).set (.i (.i (.o (.i (.o (.o .h)))))) .any).set (.i (.o (.o (.o .h)))) .any).set (.i (.i (.o (.o .h)))) .any).set (.o (.i (.o (.o .h)))) .any).set (.o (.i (.i (.i (.i (.o .h)))))) .any).set (.i (.i (.i (.o (.o (.i .h)))))) .any) := by
  unfold tEnd
  rw [frc_eq]
theorem tEnd_out (T : PT AV) (p : Pos) (hp : p ∉ slotsI) : (tEnd T).get p = T.get p := by
  obtain ⟨n0, n1, n2, n3, n4, n5, n6⟩ := get_slots p hp
  rw [tEnd_eq, get_set_ne _ _ _ _ n6, get_set_ne _ _ _ _ n5, get_set_ne _ _ _ _ n4, get_set_ne _ _ _ _ n3, get_set_ne _ _ _ _ n2, get_set_ne _ _ _ _ n1, get_set_ne _ _ _ _ n0]
theorem any_in {p q : Pos} {T : PT AV} (h : p = q ∨ T.get p = some .any) : (T.set q .any).get p = some .any := by
  by_cases e : p = q
  · subst e; exact get_set_same _ _ _
  · rcases h with h | h
    · exact absurd h e
    · rw [get_set_ne _ _ _ _ e]; exact h
theorem tEnd_in (T : PT AV) (p : Pos) (hp : p ∈ slotsI) : (tEnd T).get p = some .any := by
  rw [tEnd_eq]
  simp only [slotsI, List.mem_cons, List.not_mem_nil, or_false] at hp
  rcases hp with rfl | rfl | rfl | rfl | rfl | rfl | rfl <;> repeat (first | exact any_in (.inl rfl) | refine any_in (.inr ?_))
theorem fm_out : (.o (.o (.i .h))) ∉ slotsI := by simp [slotsI]
theorem fs_out : (.o (.i (.i .h))) ∉ slotsI := by simp [slotsI]
theorem fo_out : (.o (.o (.o (.o .h)))) ∉ slotsI := by simp [slotsI]
section
variable {T0 : PT AV} {H0 : Hp} {pr : PT AV × Hp} {bm bs bo bp bst bf b co : Pos} {k : Nat} {cst cp : Cap} {inp sk : AV} {o0 m0 : Nat} {z : AV} {t : PT AV} {N : Nat}
variable {T : PT AV} {o m : Nat}
theorem idle_round (hf : Found T0 H0 pr bm bs bo bp bst bf b co k cst cp inp sk o0 m0 z t N) (D : List DF)
    (hS : Sch k bs bp bst bf b co cst cp inp sk z t N o (m + 1) H.m) (ho : OffOk H0 H bs bp bf co) (hT : ∀ p, p ∉ slotsI → T.get p = T0.get p) :
    ∃ T' H1, lb13 (callB H0 bm bs bp bf co k) nl T D H = .nrm T' D H1 ∧ Sch k bs bp bst bf b co cst cp inp sk z t N (o + 1) m H1.m ∧ OffOk H0 H1 bs bp bf co ∧ (∀ p, p ∉ slotsI → T'.get p = T0.get p) ∧ ∀ p, p ∈ slotsI → ∃ u, T'.get p = some u := by
  obtain ⟨w, M, hw, hP, hS', hM⟩ := pick_run (nl := 1000) (n := 98) env_next env_pick hS hf.ne hf.k2
  obtain ⟨a, hs⟩ := hS.s
  obtain ⟨sx, h1, h2⟩ := hf.q w hw
  have ho1 : OffOk H0 ⟨M, H.nx⟩ bs bp bf co := by
    refine ⟨ho.1, fun p n1 n2 n3 n4 => (hM p n1 n2 n3 n4).trans (ho.2.1 p n1 n2 n3 n4), fun p hp => ?_⟩
    obtain ⟨_, k1⟩ := hS'.s
    obtain ⟨_, k2, _⟩ := hS'.p
    rcases hp with rfl | rfl | rfl | rfl
    · exact ⟨_, k1⟩
    · exact ⟨_, k2⟩
    · exact ⟨_, hS'.f⟩
    · exact ⟨_, hS'.c⟩
  have hbo : H.m.get bo = some (.chan false) := (ho.2.1 bo hf.os hf.op hf.of hf.oc).trans hf.ho
  have c1 : callB H0 bm bs bp bf co k 33 [.ptr bs 0] H = .ret (.int .i64 a) H := by
    unfold callB
    rw [if_neg (by decide)]
    exact at_run (n := 99) env_at hs
  have c2 : callB H0 bm bs bp bf co k 34 [.ptr bs 0] H = .ret (.tup [.int .i64 (.ofNat w), .bool true]) ⟨M, H.nx⟩ := by
    unfold callB
    rw [if_neg (by decide)]
    exact hP
  have c3 : callB H0 bm bs bp bf co k 35 [.ptr bm 0, .int .i64 (.ofNat w)] ⟨M, H.nx⟩ = .ret (.int .i64 sx) ⟨M, H.nx⟩ := by
    unfold callB
    rw [if_pos rfl, if_pos ho1]
    show cnd (iand (pbeq bm bm) (Nat.ble (Nat.succ w) k)) (opt (intCR (evC env 1000 100 35 [.ptr bm 0, .int .i64 (.ofNat w)] (roH (hdOff H0 bs bp bf co)))) CR.no fun s => .ret (.int .i64 s) ⟨M, H.nx⟩) .no = _
    rw [pbeq_refl, Nat.ble_eq_true_of_le hw, h1]; rfl
  obtain ⟨T', e1, e2, e3⟩ := round_run (D := D) (nl := nl) ((hT _ fm_out).trans hf.h11) ((hT _ fs_out).trans hf.h13) ((hT _ fo_out).trans hf.h15) hbo c1 c2 c3 h2
  exact ⟨T', ⟨M, H.nx⟩, e1, hS', ho1, fun p hp => (e2 p hp).trans (hT p hp), e3⟩
theorem end_wk {ι : Inj} {w : World} {a : Act} {nt : Nat} (hf : Found T0 H0 pr bm bs bo bp bst bf b co k cst cp inp sk o0 m0 z t N)
    (hS : Sch k bs bp bst bf b co cst cp inp sk z t N o 0 H.m) (ho : OffOk H0 H bs bp bf co) (hT : ∀ p, p ∉ slotsI → T.get p = T0.get p) (hR : Rl E base w0 ι H w) (hF : Fr nt x13 ι T a) : Wk ι H pr.2 := by
  rw [hf.r]
  obtain ⟨av, hs⟩ := hS.s
  obtain ⟨lp, hp, _⟩ := hS.p
  obtain ⟨pv, hv⟩ : ∃ v, VRel ι (.ptr bs 0) v := ⟨a.eval (.tmp 13), hF.val 13 _ ((hT _ fs_out).trans hf.h13)⟩
  have is : ∃ x, ι bs = some x := by cases hv with | ptr _ _ _ _ _ h => exact ⟨_, h⟩
  obtain ⟨⟨rs, ds, zs⟩, is⟩ := is
  have hB := hR.blk bs _ _ _ _ is hs
  have ip : ∃ x, ι bp = some x := by
    obtain ⟨v, _, hv⟩ := hB.2.1 1 _ rfl
    have := hf.k1
    cases hv with
    | sl _ _ _ _ _ _ _ h => exact ⟨_, h⟩
    | slu _ _ _ _ _ _ _ _ h _ _ => exact ⟨_, h⟩
    | slv _ _ _ _ _ _ _ h _ => exact ⟨_, h⟩
  have if' : ∃ x, ι bf = some x := by
    obtain ⟨v, _, hv⟩ := hB.2.1 2 _ rfl
    cases hv with | ptr _ _ _ _ _ h => exact ⟨_, h⟩
  obtain ⟨⟨rf, df, zf⟩, if'⟩ := if'
  have ic : ∃ x, ι co = some x := by
    obtain ⟨v, _, hv⟩ := (hR.blk bf _ _ _ _ if' hS.f).2.1 1 _ rfl
    cases hv with | chn _ _ _ h => exact ⟨_, h⟩
  have hN : o = N := by have := hS.len; omega
  refine ⟨end_nx.trans ho.1.symm, fun p hp0 => ?_, fun p x hx => ?_⟩
  · have n1 : p ≠ bs := fun e => by rw [e, is] at hp0; cases hp0
    have n2 : p ≠ bp := fun e => by obtain ⟨_, ip⟩ := ip; rw [e, ip] at hp0; cases hp0
    have n3 : p ≠ bf := fun e => by rw [e, if'] at hp0; cases hp0
    have n4 : p ≠ co := fun e => by obtain ⟨_, ic⟩ := ic; rw [e, ic] at hp0; cases hp0
    exact (end_get n1 n2 n3 n4).trans (ho.2.1 p n1 n2 n3 n4).symm
  · unfold hdEnd at hx
    rw [frc_eq, frc_eq] at hx
    by_cases n4 : p = co
    · subst n4
      rw [get_set_same] at hx
      cases hx
      exact ⟨_, hS.c, .inl rfl⟩
    · dsimp only at hx
      rw [get_set_ne _ _ _ _ n4] at hx
      by_cases n3 : p = bf
      · subst n3
        rw [get_set_same] at hx
        cases hx
        exact ⟨_, hS.f, .inl (by rw [hN])⟩
      · rw [get_set_ne _ _ _ _ n3] at hx
        by_cases n2 : p = bp
        · subst n2
          rw [get_set_same] at hx
          cases hx
          exact ⟨_, hp, .inr (.inl rfl)⟩
        · rw [get_set_ne _ _ _ _ n2] at hx
          by_cases n1 : p = bs
          · subst n1
            rw [get_set_same] at hx
            cases hx
            exact ⟨_, hs, .inr (.inr (.inr ⟨false, _, _, rfl, rfl, rfl, fun j => by rcases j with _ | _ | _ | _ | _ | _ | j <;> simp⟩))⟩
          · rw [get_set_ne _ _ _ _ n1] at hx
            exact ⟨x, (ho.2.1 p n1 n2 n3 n4).trans hx, .inl rfl⟩
theorem idle_loop {nt : Nat} {j : StT} {r : Out} {D : List DF} {ι0 : Inj} {H00 : Hp} (hf : Found T0 H0 pr bm bs bo bp bst bf b co k cst cp inp sk o0 m0 z t N)
    (hb : ∀ (call : CallT), CallOk Tryz.prog E base w0 call → StOk Tryz.prog E base w0 nt x13 LB (lb13 call nl)) (hg : env.gl = E.gl) (hj : HdOk Tryz.prog E base w0 nt x13 LB j) (hr : j pr.1 D pr.2 = r) (hne : r ≠ .no) :
    ∀ (m o : Nat) (T : PT AV) (H : Hp) (ι : Inj) (a : Act) (w : World), Sch k bs bp bst bf b co cst cp inp sk z t N o m H.m → OffOk H0 H bs bp bf co → (∀ p, p ∉ slotsI → T.get p = T0.get p) → (1 ≤ m ∨ ∀ p, p ∈ slotsI → ∃ u, T.get p = some u) →
      Fr nt x13 ι T a → AfterR E base w0 ι0 H00 D H ι a.defers w → LoopAt Tryz.prog LB (OPost E base w0 nt x13 ι0 H00 r) a w
  | 0, o, T, H, ι, a, w, hS, ho, hT, hU, hF, hA => by
    have hU' : ∀ p, p ∈ slotsI → ∃ u, T.get p = some u := hU.resolve_left (by omega)
    have hW := end_wk hf hS ho hT hA.rl hF
    have hp1 : pr.1 = tEnd T0 := by rw [hf.r]
    have hT' : TLe T pr.1 := fun p v hv => by
      rw [hp1] at hv
      by_cases hp : p ∈ slotsI
      · rw [tEnd_in T0 p hp] at hv
        cases hv
        exact .inr ⟨rfl, hU' p hp⟩
      · rw [tEnd_out T0 p hp] at hv
        exact .inl ((hT p hp).trans hv)
    exact hj pr.1 D pr.2 r hr hne ι0 H00 ι a w (hF.weaken hT') (hA.weaken hW)
  | m + 1, o, T, H, ι, a, w, hS, ho, hT, _, hF, hA => by
    obtain ⟨T', H1, e1, e2, e3, e4, e5⟩ := idle_round (nl := nl) hf D hS ho hT
    refine loopAt_round (wp_mono (hb _ (callB_ok hg H0 bm bs bp bf co k) T D H _ e1 (by intro e; cases e) ι0 H00 ι a w hF hA) fun e a' w' hp => ?_)
    cases e with
    | normal =>
      obtain ⟨T2, D2, H2, ι', q, hF', hA'⟩ := hp
      cases q
      exact idle_loop hf hb hg hj hr hne m (o + 1) T' H1 ι' a' w' e2 e3 e4 (.inr e5) hF' hA'
    | exit id => obtain ⟨_, _, _, _, q, _⟩ := hp; cases q
    | ret => obtain ⟨_, _, _, _, q, _⟩ := hp; cases q
    | panic ch => obtain ⟨_, _, _, _, _, _, q, _⟩ := hp; cases q
    | goto l => exact hp.elim
    | outgrown => exact hp.elim
end
noncomputable def lpW (body : StT) (n : Nat) : StT :=
  Nat.rec (motive := fun _ => StT) (fun _ _ _ => .no) (fun _ ih => sRds body 32 fun T D H => opt (idleF T H) (ih T D H) fun p => sRds body 3 (fun _ _ _ => .no) p.1 D p.2) n
theorem lpW_ok {nt : Nat} {body : StT} (hb0 : StOk Tryz.prog E base w0 nt x13 LB body) (hb : ∀ (call : CallT), CallOk Tryz.prog E base w0 call → StOk Tryz.prog E base w0 nt x13 LB (lb13 call 0)) (hg : env.gl = E.gl) : ∀ n, HdOk Tryz.prog E base w0 nt x13 LB (lpW body n)
  | 0 => hdOk_no fun _ _ _ => rfl
  | n + 1 => by
    refine hdOk_rds hb0 ?_ 32
    intro T D H r he hr ι0 H0 ι a w hF hA
    replace he : (opt (idleF T H) (lpW body n T D H) fun p => sRds body 3 (fun _ _ _ => .no) p.1 D p.2) = r := he
    cases hi : idleF T H with
    | none =>
      rw [hi] at he
      exact lpW_ok hb0 hb hg n T D H r he hr ι0 H0 ι a w hF hA
    | some p =>
      rw [hi] at he
      obtain ⟨bm, bs, bo, bp, bst, bf, b, co, k, cst, cp, inp, sk, o, m, z, t, N, hf⟩ := idleF_inv hi
      have hS := hf.sch
      refine idle_loop (nl := 0) hf hb hg (hdOk_rds hb0 (hdOk_no fun _ _ _ => rfl) 3) he hr m o T H ι a w hS ⟨rfl, fun _ _ _ _ _ => rfl, fun p hp => ?_⟩ (fun _ _ => rfl) (.inl hf.m1) hF hA
      obtain ⟨_, k1⟩ := hS.s
      obtain ⟨_, k2, _⟩ := hS.p
      rcases hp with rfl | rfl | rfl | rfl
      · exact ⟨_, k1⟩
      · exact ⟨_, k2⟩
      · exact ⟨_, hS.f⟩
      · exact ⟨_, hS.c⟩

theorem lb_told (call : CallT) (nl : Nat) : lb13 call nl = ev (eF F) call nl x13 LB := evN_of (by kernel_rfl)
noncomputable def gp0 (call : CallT) (_nl : Nat) : StT := (g13r0 call)
noncomputable def cp0 : Code := cL (bodyOf Tryz.f13)
theorem gp0_told (call : CallT) (nl : Nat) : gp0 call nl = ev (eF F) call nl x13 cp0 := evN_of (by kernel_rfl)
noncomputable def gp1 (call : CallT) (_nl : Nat) : StT := (sSeq (g13r1 call) (sCd (fun T => bq (t45 T)) (sSeq (g13r2 call) (fun T D H => .ret T D H)) sSkip))
noncomputable def cp1 : Code := cL (cR (bodyOf Tryz.f13))
theorem gp1_told (call : CallT) (nl : Nat) : gp1 call nl = ev (eF F) call nl x13 cp1 := evN_of (by kernel_rfl)
noncomputable def gp2 (call : CallT) (_nl : Nat) : StT := (g13r3 call)
noncomputable def cp2 : Code := cL (cR (cR (bodyOf Tryz.f13)))
theorem gp2_told (call : CallT) (nl : Nat) : gp2 call nl = ev (eF F) call nl x13 cp2 := evN_of (by kernel_rfl)
noncomputable def gp3 (call : CallT) (_nl : Nat) : StT := (sSeq (g13r4 call) (sCd (fun T => bq (t54 T)) (sSeq (g13r5 call) (fun T D H => .ret T D H)) sSkip))
noncomputable def cp3 : Code := cL (cR (cR (cR (bodyOf Tryz.f13))))
theorem gp3_told (call : CallT) (nl : Nat) : gp3 call nl = ev (eF F) call nl x13 cp3 := evN_of (by kernel_rfl)
noncomputable def gp4 (call : CallT) (_nl : Nat) : StT := (g13r6 call)
noncomputable def cp4 : Code := cL (cR (cR (cR (cR (bodyOf Tryz.f13)))))
theorem gp4_told (call : CallT) (nl : Nat) : gp4 call nl = ev (eF F) call nl x13 cp4 := evN_of (by kernel_rfl)
noncomputable def gp5 (call : CallT) (_nl : Nat) : StT := (g13r7 call)
noncomputable def cp5 : Code := cL (cR (cR (cR (cR (cR (bodyOf Tryz.f13))))))
theorem gp5_told (call : CallT) (nl : Nat) : gp5 call nl = ev (eF F) call nl x13 cp5 := evN_of (by kernel_rfl)
noncomputable def gp6 (call : CallT) (_nl : Nat) : StT := (g13r8 call)
noncomputable def cp6 : Code := cL (cR (cR (cR (cR (cR (cR (bodyOf Tryz.f13)))))))
theorem gp6_told (call : CallT) (nl : Nat) : gp6 call nl = ev (eF F) call nl x13 cp6 := evN_of (by kernel_rfl)
noncomputable def gW13 (call : CallT) (nl : Nat) : StT := sSeq (gp0 call nl) (sSeq (gp1 call nl) (sSeq (gp2 call nl) (sSeq (gp3 call nl) (sSeq (gp4 call nl) (sSeq (gp5 call nl) (sSeq (gp6 call nl) (sBlock 0 (lpW (lb13 call nl) nl))))))))
theorem dec13 : Tryz.f13.body = some (.seq cp0 (.seq cp1 (.seq cp2 (.seq cp3 (.seq cp4 (.seq cp5 (.seq cp6 (.block 0 (.loop LB))))))))) := by kernel_rfl
theorem lb_code : codeB Tryz.f13.ntmps LB = true := by kernel_rfl
theorem cp0_code : codeB Tryz.f13.ntmps cp0 = true := by kernel_rfl
theorem cp1_code : codeB Tryz.f13.ntmps cp1 = true := by kernel_rfl
theorem cp2_code : codeB Tryz.f13.ntmps cp2 = true := by kernel_rfl
theorem cp3_code : codeB Tryz.f13.ntmps cp3 = true := by kernel_rfl
theorem cp4_code : codeB Tryz.f13.ntmps cp4 = true := by kernel_rfl
theorem cp5_code : codeB Tryz.f13.ntmps cp5 = true := by kernel_rfl
theorem cp6_code : codeB Tryz.f13.ntmps cp6 = true := by kernel_rfl
theorem gW13_ok (hE : EnvOk Tryz.prog (eF F)) (hm : Tryz.prog.follows .mixedOrders = true) {call : CallT} (hC : CallOk Tryz.prog (eF F) base w0 call) (nl : Nat) :
    StOk Tryz.prog (eF F) base w0 Tryz.f13.ntmps x13 (.seq cp0 (.seq cp1 (.seq cp2 (.seq cp3 (.seq cp4 (.seq cp5 (.seq cp6 (.block 0 (.loop LB))))))))) (gW13 call nl) := by
  have hb : ∀ (call : CallT) (nl : Nat), CallOk Tryz.prog (eF F) base w0 call → StOk Tryz.prog (eF F) base w0 Tryz.f13.ntmps x13 LB (lb13 call nl) := fun call nl hC => by
    rw [lb_told (F := F)]; exact stOk_ev hE hC hm nl (codeB_ok _ lb_code)
  have h0 : StOk Tryz.prog (eF F) base w0 Tryz.f13.ntmps x13 cp0 (gp0 call nl) := by rw [gp0_told (F := F)]; exact stOk_ev hE hC hm nl (codeB_ok _ cp0_code)
  have h1 : StOk Tryz.prog (eF F) base w0 Tryz.f13.ntmps x13 cp1 (gp1 call nl) := by rw [gp1_told (F := F)]; exact stOk_ev hE hC hm nl (codeB_ok _ cp1_code)
  have h2 : StOk Tryz.prog (eF F) base w0 Tryz.f13.ntmps x13 cp2 (gp2 call nl) := by rw [gp2_told (F := F)]; exact stOk_ev hE hC hm nl (codeB_ok _ cp2_code)
  have h3 : StOk Tryz.prog (eF F) base w0 Tryz.f13.ntmps x13 cp3 (gp3 call nl) := by rw [gp3_told (F := F)]; exact stOk_ev hE hC hm nl (codeB_ok _ cp3_code)
  have h4 : StOk Tryz.prog (eF F) base w0 Tryz.f13.ntmps x13 cp4 (gp4 call nl) := by rw [gp4_told (F := F)]; exact stOk_ev hE hC hm nl (codeB_ok _ cp4_code)
  have h5 : StOk Tryz.prog (eF F) base w0 Tryz.f13.ntmps x13 cp5 (gp5 call nl) := by rw [gp5_told (F := F)]; exact stOk_ev hE hC hm nl (codeB_ok _ cp5_code)
  have h6 : StOk Tryz.prog (eF F) base w0 Tryz.f13.ntmps x13 cp6 (gp6 call nl) := by rw [gp6_told (F := F)]; exact stOk_ev hE hC hm nl (codeB_ok _ cp6_code)
  exact stOk_seq h0 (stOk_seq h1 (stOk_seq h2 (stOk_seq h3 (stOk_seq h4 (stOk_seq h5 (stOk_seq h6 (stOk_block (stOk_loop (lpW_ok (hb call nl hC) (fun c hc => hb c 0 hc) rfl nl)))))))))
theorem gW13_cc (hE : EnvOk Tryz.prog (eF F)) (hm : Tryz.prog.follows .mixedOrders = true) :
    x13 = crossF Tryz.f13 ∧ (∃ c, Tryz.f13.body = some c ∧ ∀ (base : Nat) (w0 : World) (call : CallT) (nl : Nat), CallOk Tryz.prog (eF F) base w0 call → StOk Tryz.prog (eF F) base w0 Tryz.f13.ntmps x13 c (gW13 call nl)) ∧ ∀ T H, rsV [.c (.i (.o (.o .h))) true 8] T H = results (eF F) Tryz.f13 T H :=
  ⟨(k13 F).1, ⟨_, dec13, fun _ _ _ nl hC => gW13_ok hE hm hC nl⟩, (k13 F).2.2.2⟩
end Go.Ev
