/- The loop that says of each element of a new row that it is a ref, in one step over a row of unknown length. -/
import Derived.Test.YtbehlkbeofoahaaGreatDoorEvIdle
import Derived.Test.YtbehlkbeofoahaaGreatDoorEvLd
namespace Go.Ev
set_option maxRecDepth 100000
set_option linter.unusedSimpArgs false
set_option linter.unusedVariables false
open Go.Proofs
open Go.RowKit (Below)
variable {E : Env} {base : Nat} {w0 : World} {F : PT FE} {nl : Nat} {call : CallT}
noncomputable def g277r0 (_call : CallT) : StT := fun T D H => rg T [(0, (.o (.o .h)))] (opt (boxF [(t1 T)]) RO.no fun p0 => Hp.new H p0.1 fun b0 H => RO.nrm [(p0.2.av b0)] D H)
noncomputable def g277r1 (_call : CallT) : StT := fun T D H => rg T [(0, (.i (.o .h)))] (oP (bldF [] zc184 []) fun v0 => opt (boxF [v0]) RO.no fun p1 => Hp.new H p1.1 fun b1 H => oP (avId (p1.2.av b1)) fun v2 => RO.nrm [v2, (p1.2.av b1), v0] D H)
noncomputable def g277r2 (_call : CallT) : StT := fun T D H => rg T [(0, (.i (.i (.i .h))))] (oP (avFA 0 (t3 T)) fun v0 => oP (ld1 v0 H) fun v1 => RO.nrm [v1, v0] D H)
noncomputable def g277r3 (_call : CallT) : StT := fun T D H => rg T [(0, (.i (.i (.i (.o (.i .h))))))] (oP (opt (avEqN (t14 T) (iN 14)) none bI) fun v0 => oP (avId v0) fun v1 => RO.nrm [v1, v0] D H)
noncomputable def g277r4 (_call : CallT) : StT := fun T D H => rg T [] (oP (avId (t4 T)) fun v0 => oP (avId (t4 T)) fun v1 => oP (avFA 1 (t3 T)) fun v2 => oP (ld1 v2 H) fun v3 => oP (avNC v0) fun v4 => oP (avFA 0 v4) fun v5 => ov (st 1 v5 (iN 1) H) fun v6 H => cnd (rk (ld1 v2 H) v3 true) (oP (avNC v1) fun v7 => oP (avFA 1 v7) fun v8 => ov (st 1 v8 v3 H) fun v9 H => RO.nrm [v9, v8, v7, v6, v5, v4, v3, v2, v1, v0] D H) RO.no)
noncomputable def g277r5 (_call : CallT) : StT := fun T D H => rg T [(0, (.o (.i (.i (.i (.o (.o .h))))))), (1, (.i (.o (.i (.i (.o (.o .h))))))), (2, (.o (.o (.i (.i (.o (.o .h)))))))] (oP (avId (t0 T)) fun v0 => oP (avNC v0) fun v1 => oP (avFA 0 v1) fun v2 => oP (ld1 v2 H) fun v3 => oP (avNC v3) fun v4 => oP (avFA 2 v4) fun v5 => oP (ld1 v5 H) fun v6 => oP (avFA 1 (t3 T)) fun v7 => oP (ld1 v7 H) fun v8 => oP (avIA 4 v6 v8) fun v9 => oP (avFA 0 v9) fun v10 => oP (ld1 v10 H) fun v11 => oP (avLenL v11) fun v12 => oP (avId (iN 0)) fun v13 => RO.nrm [v13, v12, v11, v10, v9, v8, v7, v6, v5, v4, v3, v2, v1, v0] D H)
noncomputable def g277r6 (_call : CallT) : StT := fun T D H => rg T [(0, (.i (.i (.i (.i (.o (.o .h)))))))] (oP (syBin .lss fLss (t77 T) (t76 T)) fun v0 => RO.nrm [v0] D H)
noncomputable def g277r7 (_call : CallT) : StT := fun T D H => rg T [(1, (.i (.i .h)))] (oP (avIA 2 (t75 T) (t77 T)) fun v0 => oP (ldn 2 v0 H) fun v1 => Hp.new H (.cells false zc101) fun b2 H => ov (st 2 (.ptr b2 0) v1 H) fun v3 H => RO.nrm [v3, (.ptr b2 0), v1, v0] D H)
noncomputable def g277r8 (_call : CallT) : StT := fun T D H => rg T [] (oP (avId (t4 T)) fun v0 => oP (avId (t4 T)) fun v1 => oP (avNC v1) fun v2 => oP (avFA 2 v2) fun v3 => oP (ld1 v3 H) fun v4 => oP (avFA 1 (t6 T)) fun v5 => oP (ld1 v5 H) fun v6 => oP (opt (avEqN v6 (iN 1)) none bN) fun v7 => oP (bldF [(0, 1), (1, 1)] zc186 [(iN 0), v7]) fun v8 => opt (bslF [(0, 2)] zc186 1 [v8]) RO.no fun p9 => Hp.new H p9.1 fun b9 H => ov (apd 2 v4 (p9.2.av b9) H) fun v10 H => oP (avNC v0) fun v11 => oP (avFA 2 v11) fun v12 => ov (st 1 v12 v10 H) fun v13 H => RO.nrm [v13, v12, v11, v10, (p9.2.av b9), v8, v7, v6, v5, v4, v3, v2, v1, v0] D H)
noncomputable def g277r9 (_call : CallT) : StT := fun T D H => rg T [(0, (.o (.i (.i (.i (.o (.o .h)))))))] (oP (syBin .add strApp (t77 T) (iN 1)) fun v0 => oP (avId v0) fun v1 => RO.nrm [v1, v0] D H)
noncomputable def g277r10 (_call : CallT) : StT := fun T D H => rg T [(0, (.o (.o (.o (.o (.o (.i .h)))))))] (oP (opt (avEqN (t14 T) (iN 44)) none bI) fun v0 => oP (avId v0) fun v1 => RO.nrm [v1, v0] D H)
noncomputable def g277r11 (call : CallT) : StT := fun T D H => rg T [(1, (.o (.o (.o .h))))] (oP (avId (t0 T)) fun v0 => cv (call 242 [v0] H) D fun v1 H => oP (avId v1) fun v2 => oP (avExt 0 v2) fun v3 => oP (avExt 1 v2) fun v4 => oP (avId v3) fun v5 => oP (avId v4) fun v6 => RO.nrm [v6, v5, v4, v3, v2, v1, v0] D H)
noncomputable def g277r12 (_call : CallT) : StT := fun T D H => rg T [] (oP (avId (t4 T)) fun v0 => oP (avId (t4 T)) fun v1 => oP (avId (t4 T)) fun v2 => oP (avId (t7 T)) fun v3 => oP (bldF [(0, 1), (1, 1)] zc186 [v3, (.bool true)]) fun v4 => opt (bslF [(0, 2)] zc186 1 [v4]) RO.no fun p5 => Hp.new H p5.1 fun b5 H => oP (avNC v0) fun v6 => oP (avFA 0 v6) fun v7 => ov (st 1 v7 (iN 4) H) fun v8 H => oP (avNC v1) fun v9 => oP (avFA 1 v9) fun v10 => ov (st 1 v10 (iN 10) H) fun v11 H => oP (avNC v2) fun v12 => oP (avFA 2 v12) fun v13 => ov (st 1 v13 (p5.2.av b5) H) fun v14 H => RO.nrm [v14, v13, v12, v11, v10, v9, v8, v7, v6, (p5.2.av b5), v4, v3, v2, v1, v0] D H)
noncomputable def g277r13 (call : CallT) : StT := fun T D H => rg T [(0, (.o (.i (.o .h))))] (oP (avId (t0 T)) fun v0 => cv (call 252 [v0] H) D fun v1 H => oP (avId v1) fun v2 => RO.nrm [v2, v1, v0] D H)
noncomputable def g277r14 (call : CallT) : StT := fun T D H => rg T [] (oP (avId (t9 T)) fun v0 => oP (syBin .lss fLss v0 (iN 0)) fun v1 => oP (avId v1) fun v2 => jn (fun (v3 : AV) (D : List DF) (H : Hp) => jn (fun (v4 : AV) (D : List DF) (H : Hp) => oP (avPick v2 (.bool true) v4) fun v5 => cv (call 244 [v5, (iN 4)] H) D fun v6 H => RO.nrm [v6, v5, v4, v3, v2, v1, v0] D H) fun k4 => opt (gB false v2) RO.no fun w4 => cnd w4 (oP (syBin .gtr fGtr v3 (iN 1000)) fun v4 => k4 v4 D H) (k4 (.tup []) D H)) fun k3 => opt (gB false v2) RO.no fun w3 => cnd w3 (oP (avId (t9 T)) fun v3 => k3 v3 D H) (k3 (.tup []) D H))
noncomputable def g277r15 (_call : CallT) : StT := fun T D H => rg T [] (oP (avId (t4 T)) fun v0 => oP (avId (t4 T)) fun v1 => oP (avId (t9 T)) fun v2 => opt (mksF 2 zc186 [v2, v2]) RO.no fun p3 => Hp.new H p3.1 fun b3 H => oP (avNC v0) fun v4 => oP (avFA 0 v4) fun v5 => ov (st 1 v5 (iN 2) H) fun v6 H => oP (avNC v1) fun v7 => oP (avFA 2 v7) fun v8 => ov (st 1 v8 (p3.2.av b3) H) fun v9 H => RO.nrm [v9, v8, v7, v6, v5, v4, (p3.2.av b3), v2, v1, v0] D H)
noncomputable def g277r16 (_call : CallT) : StT := fun T D H => rg T [(0, (.i (.i (.o (.o (.o .h))))))] (oP (avFA 0 (t3 T)) fun v0 => oP (ld1 v0 H) fun v1 => oP (opt (avEqN v1 (iN 20)) none bI) fun v2 => RO.nrm [v2, v1, v0] D H)
noncomputable def g277r17 (_call : CallT) : StT := fun T D H => rg T [] (oP (avId (t4 T)) fun v0 => oP (avNC v0) fun v1 => oP (avFA 0 v1) fun v2 => ov (st 1 v2 (iN 3) H) fun v3 H => RO.nrm [v3, v2, v1, v0] D H)
noncomputable def g277r18 (_call : CallT) : StT := fun T D H => rg T [(0, (.o (.o (.i (.i (.o .h)))))), (1, (.i (.i (.o (.i (.o .h))))))] (oP (avId (t4 T)) fun v0 => oP (avNC v0) fun v1 => oP (avFA 2 v1) fun v2 => oP (ld1 v2 H) fun v3 => oP (avLenL v3) fun v4 => oP (avId (iN 0)) fun v5 => RO.nrm [v5, v4, v3, v2, v1, v0] D H)
noncomputable def g277r19 (_call : CallT) : StT := fun T D H => rg T [(0, (.i (.o (.i (.i (.o .h))))))] (oP (syBin .lss fLss (t43 T) (t42 T)) fun v0 => RO.nrm [v0] D H)
noncomputable def g277r20 (_call : CallT) : StT := fun T D H => rg T [(0, (.i (.i (.o .h))))] (oP (avId (t43 T)) fun v0 => oP (avId v0) fun v1 => RO.nrm [v1, v0] D H)
noncomputable def g277r21 (_call : CallT) : StT := fun T D H => rg T [] (oP (avId (t4 T)) fun v0 => oP (avNC v0) fun v1 => oP (avFA 2 v1) fun v2 => oP (ld1 v2 H) fun v3 => oP (avId (t10 T)) fun v4 => oP (avIA 2 v3 v4) fun v5 => oP (avFA 1 v5) fun v6 => ov (st 1 v6 (.bool true) H) fun v7 H => RO.nrm [v7, v6, v5, v4, v3, v2, v1, v0] D H)
noncomputable def g277r22 (_call : CallT) : StT := fun T D H => rg T [(0, (.o (.o (.i (.i (.o .h))))))] (oP (syBin .add strApp (t43 T) (iN 1)) fun v0 => oP (avId v0) fun v1 => RO.nrm [v1, v0] D H)
noncomputable def g277r23 (call : CallT) : StT := fun T D H => rg T [] (oP (avId (t0 T)) fun v0 => oP (avNC v0) fun v1 => oP (avFA 3 v1) fun v2 => oP (ld1 v2 H) fun v3 => cv (call 244 [v3, (iN 8)] H) D fun v4 H => RO.nrm [v4, v3, v2, v1, v0] D H)
noncomputable def g277r24 (call : CallT) : StT := fun T D H => rg T [] (oP (avId (t0 T)) fun v0 => oP (avId (t0 T)) fun v1 => oP (avNC v1) fun v2 => oP (avFA 0 v2) fun v3 => oP (ld1 v3 H) fun v4 => oP (avId (t4 T)) fun v5 => cv (call 101 [v4, v5] H) D fun v6 H => cv (call 249 [v0, v6, (.bool true)] H) D fun v7 H => RO.nrm [v7, v6, v5, v4, v3, v2, v1, v0] D H)
noncomputable def gU277 (call : CallT) (nl : Nat) : StT := (sSeq (g277r0 call) (sSeq (g277r1 call) (sSeq (sSeq (g277r2 call) (sBlock 0 (sSeq (g277r3 call) (sCd (fun T => bq (t54 T)) (sSeq (g277r4 call) (sSeq (g277r5 call) (sBlock 3 (sLoop (sSeq (g277r6 call) (sSeq (sCd (fun T => bq (t78 T)) sSkip (fun T D H => .ext 3 T D H)) (sSeq (sBlock 4 (sSeq (g277r7 call) (g277r8 call))) (g277r9 call)))) nl)))) (sSeq (g277r10 call) (sCd (fun T => bq (t95 T)) (sSeq (g277r11 call) (g277r12 call)) (sSeq (g277r13 call) (sSeq (g277r14 call) (sSeq (g277r15 call) (sSeq (g277r16 call) (sCd (fun T => bq (t34 T)) (sSeq (g277r17 call) (sSeq (g277r18 call) (sBlock 1 (sLoop (sSeq (g277r19 call) (sSeq (sCd (fun T => bq (t44 T)) sSkip (fun T D H => .ext 1 T D H)) (sSeq (sBlock 2 (sSeq (g277r20 call) (g277r21 call))) (g277r22 call)))) nl)))) sSkip))))))))))) (sSeq (g277r23 call) (g277r24 call)))))
noncomputable def x277 : PT Unit := (.n (.n (.n (.n (.n (.n .l none (.n .l (some ()) .l)) none .l) (some ()) .l) (some ()) (.n .l none (.n (.n (.n .l (some ()) .l) (some ()) .l) none .l))) (some ()) (.n (.n .l (some ()) .l) none (.n .l none (.n (.n (.n .l (some ()) .l) none .l) none .l)))) (some ()) (.n (.n .l (some ()) (.n .l none (.n (.n (.n .l (some ()) .l) (some ()) .l) none .l))) none (.n (.n (.n (.n .l (some ()) .l) none .l) (some ()) (.n (.n .l (some ()) .l) none .l)) (some ()) (.n (.n .l none (.n .l (some ()) .l)) (some ()) (.n (.n (.n .l (some ()) .l) none .l) none .l)))))
theorem rf0 (x : AV) (T : PT AV) : PT.get (.o (.o (.i (.i (.o .h))))) (PT.set (.i (.o (.i (.i (.o .h))))) x T) = PT.get (.o (.o (.i (.i (.o .h))))) T := get_set_ne _ _ _ _ (by intro h; cases h)
theorem rf1 (x : AV) (T : PT AV) : PT.get (.o (.o (.i (.i (.o .h))))) (PT.set (.i (.i (.o .h))) x T) = PT.get (.o (.o (.i (.i (.o .h))))) T := get_set_ne _ _ _ _ (by intro h; cases h)
theorem rf2 (x : AV) (T : PT AV) : PT.get (.i (.i (.o (.i (.o .h))))) (PT.set (.i (.o (.i (.i (.o .h))))) x T) = PT.get (.i (.i (.o (.i (.o .h))))) T := get_set_ne _ _ _ _ (by intro h; cases h)
theorem rf3 (x : AV) (T : PT AV) : PT.get (.i (.i (.o (.i (.o .h))))) (PT.set (.i (.i (.o .h))) x T) = PT.get (.i (.i (.o (.i (.o .h))))) T := get_set_ne _ _ _ _ (by intro h; cases h)
theorem rf4 (x : AV) (T : PT AV) : PT.get (.i (.i (.o (.i (.o .h))))) (PT.set (.o (.o (.i (.i (.o .h))))) x T) = PT.get (.i (.i (.o (.i (.o .h))))) T := get_set_ne _ _ _ _ (by intro h; cases h)
theorem rf5 (x : AV) (T : PT AV) : PT.get (.i (.o .h)) (PT.set (.i (.o (.i (.i (.o .h))))) x T) = PT.get (.i (.o .h)) T := get_set_ne _ _ _ _ (by intro h; cases h)
theorem rf6 (x : AV) (T : PT AV) : PT.get (.i (.o .h)) (PT.set (.i (.i (.o .h))) x T) = PT.get (.i (.o .h)) T := get_set_ne _ _ _ _ (by intro h; cases h)
theorem rf7 (x : AV) (T : PT AV) : PT.get (.i (.o .h)) (PT.set (.o (.o (.i (.i (.o .h))))) x T) = PT.get (.i (.o .h)) T := get_set_ne _ _ _ _ (by intro h; cases h)
theorem rf8 (x : AV) (T : PT AV) : PT.get (.i (.i (.o .h))) (PT.set (.i (.o (.i (.i (.o .h))))) x T) = PT.get (.i (.i (.o .h))) T := get_set_ne _ _ _ _ (by intro h; cases h)
theorem rf9 (x : AV) (T : PT AV) : PT.get (.i (.i (.o .h))) (PT.set (.o (.o (.i (.i (.o .h))))) x T) = PT.get (.i (.i (.o .h))) T := get_set_ne _ _ _ _ (by intro h; cases h)
theorem ileN (a b : Nat) : ile (.ofNat a) (.ofNat b) = Nat.ble a b := rfl
theorem bleF {a b : Nat} (h : b < a) : Nat.ble a b = false := by
  cases h' : Nat.ble a b with
  | false => rfl
  | true => have := Nat.le_of_ble_eq_true h'; omega
theorem avIA_e {e : Nat} {b : Pos} {o n m : Nat} {c : Cap} {k : IntKind} (h : m < n) : avIA e (.sl b o n c) (.int k (.ofNat m)) = some (.ptr b (o + m * e)) := by
  show cnd (Nat.ble (Nat.succ m) n) (fNat (Nat.add o (Nat.mul m e)) fun q => some (AV.ptr b q)) none = _
  rw [Nat.ble_eq_true_of_le h, fNat_eq', cnd_tt]; rfl
noncomputable def sbF (call : CallT) (_nl : Nat) : StT := (sSeq (g277r19 call) (sSeq (sCd (fun T => bq (t44 T)) sSkip (fun T D H => .ext 1 T D H)) (sSeq (sBlock 2 (sSeq (g277r20 call) (g277r21 call))) (g277r22 call))))
theorem sbF_round {T : PT AV} {D : List DF} {H : Hp} {bo b : Pos} {x y : AV} {l : List AV} {n j : Nat} (h4 : T.get (.i (.o .h)) = some (.ptr bo 0)) (h42 : T.get (.i (.i (.o (.i (.o .h))))) = some (.int .i64 (.ofNat n))) (h43 : T.get (.o (.o (.i (.i (.o .h))))) = some (.int .i64 (.ofNat j)))
    (hbo : H.m.get bo = some (.cells false [x, y, .sl b 0 n (.op 2)])) (hb : H.m.get b = some (.cells false l)) (hl : l.length = 2 * n) (hj : j < n) (hn : n ≤ 1000000) :
    sbF call nl T D H = .nrm (((T.set (.i (.o (.i (.i (.o .h))))) (.bool true)).set (.i (.i (.o .h))) (.int .i64 (.ofNat j))).set (.o (.o (.i (.i (.o .h))))) (.int .i64 (.ofNat (j + 1)))) D ⟨H.m.set b (.cells false (l.set (j * 2 + 1) (.bool true))), H.nx⟩ := by
  have j0 : syBin .lss fLss (.int .i64 (.ofNat j)) (.int .i64 (.ofNat n)) = some (.bool true) := by
    rw [lss_int, ileN, bleF hj]; rfl
  have j1 : ld1 (.ptr bo 2) H = some (.sl b 0 n (.op 2)) := ld1_of hbo 2
  have j2 : avIA 2 (.sl b 0 n (.op 2)) (.int .i64 (.ofNat j)) = some (.ptr b (j * 2)) := by have := avIA_e (e := 2) (b := b) (o := 0) (c := .op 2) (k := .i64) hj; rwa [Nat.zero_add] at this
  have j3 := st1_of hb (o := j * 2 + 1) (by omega) (x := .bool true) rfl
  have j5 := addN_int (a := j) (b := 1) (by omega)
  simp only [sbF, g277r19, g277r20, g277r21, g277r22, t43, t42, t4, t10, t44, h4, h42, h43, get_set_same, rf0, rf1, rf2, rf3, rf4, rf5, rf6, rf7, rf8, rf9, j0, j1, j2, j3, j5, oI_eq, iN_eq, sSeq_eq, sCd_eq, sBlock_eq, blkO_nrm, blkO_ext, blkO_ret, sSkip_eq, thn_nrm, thn_ret, thn_ext, rg_nrm, save_nil, save_cons, nth_z, nth_s, opt_some, opt_none, cnd_tt, cnd_ff, oP_some, avId_eq, avNC_ptr, avFA_ptr, Nat.zero_add, bI_f, bI_t, bN_t, bN_f, bq_b, ov_val]
theorem sbF_end {T : PT AV} {D : List DF} {H : Hp} {n : Nat} (h42 : T.get (.i (.i (.o (.i (.o .h))))) = some (.int .i64 (.ofNat n))) (h43 : T.get (.o (.o (.i (.i (.o .h))))) = some (.int .i64 (.ofNat n))) :
    sbF call nl T D H = .ext 1 (T.set (.i (.o (.i (.i (.o .h))))) (.bool false)) D H := by
  have j0 : syBin .lss fLss (.int .i64 (.ofNat n)) (.int .i64 (.ofNat n)) = some (.bool false) := by
    rw [lss_int, ileN, Nat.ble_eq_true_of_le (Nat.le_refl _)]; rfl
  simp only [sbF, g277r19, g277r20, g277r21, g277r22, t43, t42, t4, t10, t44, h42, h43, get_set_same, rf0, rf1, rf2, rf3, rf4, rf5, rf6, rf7, rf8, rf9, j0, oI_eq, iN_eq, sSeq_eq, sCd_eq, sBlock_eq, blkO_nrm, blkO_ext, blkO_ret, sSkip_eq, thn_nrm, thn_ret, thn_ext, rg_nrm, save_nil, save_cons, nth_z, nth_s, opt_some, opt_none, cnd_tt, cnd_ff, oP_some, avId_eq, avNC_ptr, avFA_ptr, Nat.zero_add, bI_f, bI_t, bN_t, bN_f, bq_b, ov_val]
def rws (u v : AV) (n j : Nat) : List AV := (List.range (2 * n)).map fun p => if p % 2 = 0 then u else if p / 2 < j then .bool true else v
theorem rws_len (u v : AV) (n j : Nat) : (rws u v n j).length = 2 * n := by simp [rws]
theorem rws_get {u v : AV} {n j p : Nat} (h : p < 2 * n) : (rws u v n j)[p]? = some (if p % 2 = 0 then u else if p / 2 < j then .bool true else v) := by
  unfold rws
  rw [List.getElem?_map, List.getElem?_range h]; rfl
theorem rws_set {u v : AV} {n j : Nat} (h : j < n) : (rws u v n j).set (j * 2 + 1) (.bool true) = rws u v n (j + 1) := by
  refine List.ext_getElem? fun p => ?_
  by_cases hp : p < 2 * n
  · by_cases e : p = j * 2 + 1
    · subst e
      rw [List.getElem?_set_self (by rw [rws_len]; exact hp), rws_get hp, if_neg (by omega), if_pos (by omega)]
    · rw [List.getElem?_set_ne (Ne.symm e), rws_get hp, rws_get hp]
      by_cases h2 : p % 2 = 0
      · rw [if_pos h2, if_pos h2]
      · rw [if_neg h2, if_neg h2]
        by_cases h3 : p / 2 < j
        · rw [if_pos h3, if_pos (by omega)]
        · rw [if_neg h3, if_neg (by omega)]
  · rw [List.getElem?_eq_none (by rw [List.length_set, rws_len]; omega), List.getElem?_eq_none (by rw [rws_len]; omega)]
noncomputable def tRef (T : PT AV) : PT AV := (((T.set (.i (.o (.i (.i (.o .h))))) .any).set (.i (.i (.o .h))) .any).set (.o (.o (.i (.i (.o .h))))) .any).frc fun T => T
noncomputable def hRef (H : Hp) (bo b : Pos) (x y u : AV) (i : Nat) (tb : List (Nat × AtO × AtV)) : Hp :=
  ((((H.m.set b .dead).set H.nx .dead).set H.nx.succ (.zrs 2 [u, .bool true] none)).set bo (.cells false [x, y, .sln H.nx.succ 2 i tb])).frc fun m => ⟨m, H.nx.succ.succ⟩
noncomputable def hMid (H : Hp) (bo b : Pos) (x y u v : AV) (n : Nat) : Hp := ⟨((H.m.set b .dead).set H.nx (.cells false (rws u v n 0))).set bo (.cells false [x, y, .sl H.nx 0 n (.op 2)]), H.nx.succ⟩
noncomputable def refs2 (T : PT AV) (H : Hp) (bo b : Pos) (x y : AV) (i : Nat) (tb : List (Nat × AtO × AtV)) (z : List AV) : Option (PT AV × Hp) :=
  match z with
  | [u, _] => some (tRef T, hRef H bo b x y u i tb)
  | _ => none
noncomputable def refs1 (T : PT AV) (H : Hp) (bo : Pos) (i : Nat) (ro : Bool) (l : List AV) : Option (PT AV × Hp) :=
  match l with
  | [x, y, .sln b 2 i' tb] => cnd ro none (cnd (iand (Nat.beq i i') (atSz1 i' tb)) (H.zr b none fun e z w => opt w (cnd (Nat.beq e 2) (refs2 T H bo b x y i' tb z) none) fun _ => none) none)
  | _ => none
noncomputable def refs0 (T : PT AV) (H : Hp) (o n j : AV) : Option (PT AV × Hp) :=
  match o, n, j with
  | .ptr bo 0, .at i _, .int .i64 (.ofNat 0) => H.cells bo none fun ro l => refs1 T H bo i ro l
  | _, _, _ => none
noncomputable def refsF (T : PT AV) (H : Hp) : Option (PT AV × Hp) := refs0 T H (t4 T) (t42 T) (t43 T)
noncomputable def refsW : StT := fun T D H => opt (refsF T H) (sLoop (sbF (fun _ _ _ => .no) 0) 1000 T D H) fun p => .ext 1 p.1 D p.2
structure FoundR (T : PT AV) (H : Hp) (p : PT AV × Hp) (bo b : Pos) (x y u v : AV) (i : Nat) (tb tb' : List (Nat × AtO × AtV)) : Prop where
  h4 : T.get (.i (.o .h)) = some (.ptr bo 0)
  h42 : T.get (.i (.i (.o (.i (.o .h))))) = some (.at i tb')
  h43 : T.get (.o (.o (.i (.i (.o .h))))) = some (.int .i64 (.ofNat 0))
  ho : H.m.get bo = some (.cells false [x, y, .sln b 2 i tb])
  hb : H.m.get b = some (.zrs 2 [u, v] none)
  sz : atSz1 i tb = true
  r : p = (tRef T, hRef H bo b x y u i tb)
theorem refsF_inv {T : PT AV} {H : Hp} {p : PT AV × Hp} (h : refsF T H = some p) : ∃ bo b x y u v i tb tb', FoundR T H p bo b x y u v i tb tb' := by
  unfold refsF refs0 at h
  split at h
  · rename_i bo i tb' e1 e2 e3
    obtain ⟨ro, l, ho, h⟩ := cells_get h
    unfold refs1 at h
    split at h
    · rename_i x y b i' tb
      obtain ⟨e0, h⟩ := cnd_no h
      subst e0
      obtain ⟨hc, h⟩ := cnd_yes h
      rw [iand_eq, Bool.and_eq_true] at hc
      obtain rfl := Nat.eq_of_beq_eq_true hc.1
      obtain ⟨e, z, w, hb, h⟩ := zr_inv h
      cases w with
      | some w => cases h
      | none =>
        obtain ⟨he, h⟩ := cnd_yes h
        obtain rfl := Nat.eq_of_beq_eq_true he
        unfold refs2 at h
        split at h
        · rename_i u v _
          exact ⟨bo, b, x, y, u, v, i, tb, tb', tN_get e1 (by intro e; cases e), tN_get e2 (by intro e; cases e), tN_get e3 (by intro e; cases e), ho, hb, hc.2, (Option.some.inj h).symm⟩
        · cases h
    · cases h
  · cases h
theorem sz_of {ι : Inj} {i : Nat} {tb : List (Nat × AtO × AtV)} {n : Nat} (h1 : atSz1 i tb = true) (hT : AtOk ι.s tb) (hi : ι.s i = (.i64, (n : Int))) : 1 ≤ n ∧ n ≤ 1000000 := by
  unfold atSz1 at h1
  rw [iand_eq, Bool.and_eq_true] at h1
  obtain ⟨h0, h1⟩ := h1
  have low : 1 ≤ n := by
    obtain ⟨t, h2, h3⟩ : ∃ t, atB i (.bc .lss .i64 (.ofNat 1)) tb = some t ∧ inot t = true := by
      cases hq : atB i (.bc .lss .i64 (.ofNat 1)) tb with
      | none => rw [hq] at h1; cases h1
      | some t => rw [hq] at h1; exact ⟨t, rfl, h1⟩
    have h4 : t = false := by cases t with
      | false => rfl
      | true => cases h3
    subst h4
    have h5 := atB_den hT h2
    have h6 := den_lss (c := 1) hi (t := decide ((n : Int) < 1)) rfl
    have h7 : AtV.av ι.s (AtV.bool (decide ((n : Int) < 1))) = .bool false := Option.some.inj (h6.symm.trans h5)
    have h8 : decide ((n : Int) < 1) = false := by injection h7
    have := of_decide_eq_false h8
    omega
  refine ⟨low, ?_⟩
  unfold atSz at h0
  obtain ⟨a, ha, h0⟩ : ∃ a, atB i (.bc .lss .i64 (.ofNat 0)) tb = some a ∧ (opt (atB i (.bc .gtr .i64 (.ofNat 1000000)) tb) false fun b => iand (inot a) (inot b)) = true := by
    cases hq : atB i (.bc .lss .i64 (.ofNat 0)) tb with
    | none => rw [hq] at h0; cases h0
    | some a => rw [hq] at h0; exact ⟨a, rfl, h0⟩
  obtain ⟨c, hc, h0⟩ : ∃ c, atB i (.bc .gtr .i64 (.ofNat 1000000)) tb = some c ∧ iand (inot a) (inot c) = true := by
    cases hq : atB i (.bc .gtr .i64 (.ofNat 1000000)) tb with
    | none => rw [hq] at h0; cases h0
    | some a => rw [hq] at h0; exact ⟨a, rfl, h0⟩
  rw [iand_eq, Bool.and_eq_true] at h0
  have h4 : c = false := by cases c with
    | false => rfl
    | true => cases h0.2
  subst h4
  have h5 := atB_den hT hc
  have h6 := den_gtr (c := 1000000) hi (t := decide ((n : Int) > 1000000)) rfl
  have h7 : AtV.av ι.s (AtV.bool (decide ((n : Int) > 1000000))) = .bool false := Option.some.inj (h6.symm.trans h5)
  have h8 : decide ((n : Int) > 1000000) = false := by injection h7
  have := of_decide_eq_false h8
  omega
section
variable {T0 : PT AV} {H0 : Hp} {pr : PT AV × Hp} {bo b : Pos} {x y u v : AV} {i : Nat} {tb tb' : List (Nat × AtO × AtV)}
theorem rconv (hf : FoundR T0 H0 pr bo b x y u v i tb tb') {nt : Nat} {X : PT Unit} {ι0 ι : Inj} {H00 : Hp} {D : List DF} {a : Act} {W : World} (hF : Fr nt X ι T0 a) (hA : AfterR E base w0 ι0 H00 D H0 ι a.defers W) :
    ∃ (n : Nat) (ι' : Inj) (r d Z : Nat), 1 ≤ n ∧ n ≤ 1000000 ∧ ι'.s i = (.i64, (n : Int)) ∧ AtOk ι'.s tb ∧ ι' H0.nx = some (r, d, Z) ∧ n * 2 ≤ Z ∧ (∃ q, ι' bo = some q) ∧ (∃ q, ι' b = some q) ∧ bo ≠ b ∧ bo ≠ H0.nx ∧ b ≠ H0.nx ∧ Fr nt X ι' (T0.set (.i (.i (.o (.i (.o .h))))) (.int .i64 (.ofNat n))) a ∧ AfterR E base w0 ι0 H00 D (hMid H0 bo b x y u v n) ι' a.defers W := by
  have hR := hA.rl
  obtain ⟨pv, hv⟩ : ∃ v, VRel ι (.ptr bo 0) v := ⟨a.eval (.tmp 4), hF.val 4 _ hf.h4⟩
  have is : ∃ x, ι bo = some x := by cases hv with | ptr _ _ _ _ _ h => exact ⟨_, h⟩
  obtain ⟨⟨rs, ds, zs⟩, is⟩ := is
  have hBo := hR.blk bo _ _ _ _ is hf.ho
  obtain ⟨v0, hv0, hvx⟩ := hBo.2.1 0 _ rfl
  obtain ⟨v1, hv1, hvy⟩ := hBo.2.1 1 _ rfl
  obtain ⟨v2, hv2, hvr⟩ := hBo.2.1 2 _ rfl
  cases hvr with
  | sln _ _ _ _ n c r d Z ib hT hi hc hz he =>
    obtain ⟨hn1, hn2⟩ := sz_of hf.sz hT hi
    have nn : ∀ {q : Pos} {x : Nat × Nat × Nat}, ι q = some x → q ≠ H0.nx := fun h e => by rw [e, (hR.fresh H0.nx (Nat.le_refl _)).1] at h; cases h
    have fb : bo ≠ b := fun e => by have := Option.some.inj (hf.ho.symm.trans (e ▸ hf.hb)); cases this
    have xf := nn is
    have xb := nn ib
    have hB := hR.blk b _ _ _ _ ib hf.hb
    obtain ⟨n', Z', hcode, hle, _, _, _, hcells, hwr⟩ := hB
    obtain ⟨rfl, rfl⟩ := code_inj hcode
    have hA1 : AfterR E base w0 ι0 H00 D ⟨H0.m.set b .dead, H0.nx⟩ ι a.defers W := hA.weaken ⟨rfl, fun q hq => get_set_ne _ _ _ _ (fun e => by rw [e, ib] at hq; cases hq), fun q x hx => by
      by_cases e : q = b
      · subst e
        rw [get_set_same] at hx
        cases hx
        exact ⟨_, hf.hb, .inr (.inl rfl)⟩
      · rw [get_set_ne _ _ _ _ e] at hx
        exact ⟨x, hx, .inl rfl⟩⟩
    have hown := hR.own b _ _ _ _ ib hf.hb rfl
    obtain ⟨hR2, hS2⟩ := hA1.rl.add r d Z (.cells false (rws u v n 0)) (fun κ hκ => ⟨by rw [rws_len]; omega, fun j w hw => by
        have hj : j < 2 * n := by have := (List.getElem?_eq_some_iff.1 hw).1; rwa [rws_len] at this
        rw [rws_get hj] at hw
        have hq : j / 2 < n := by omega
        rcases Nat.mod_two_eq_zero_or_one j with e | e
        · rw [if_pos e] at hw
          cases hw
          obtain ⟨cv, h1, h2⟩ := hcells (j / 2) 0 u hq rfl
          rw [show j / 2 * 2 + 0 = j by omega] at h1
          exact ⟨cv, h1, h2.mono hκ⟩
        · rw [if_neg (by omega), if_neg (by omega)] at hw
          cases hw
          obtain ⟨cv, h1, h2⟩ := hcells (j / 2) 1 v hq rfl
          rw [show j / 2 * 2 + 1 = j by omega] at h1
          exact ⟨cv, h1, h2.mono hκ⟩, fun _ => hwr⟩) (fun b' r' d' z' y e g => hA1.rl.blk b' r' d' z' y e g) (Nat.le_refl _) (hR.size b _ _ _ ib) hown hR.below (fun b' d' z' y e g => by
        cases hl : y.live with
        | false => rfl
        | true =>
          by_cases hb' : b' = b
          · subst hb'
            rw [get_set_same] at g
            cases g
            cases hl
          · rw [get_set_ne _ _ _ _ hb'] at g
            exact absurd (hR.inj b' b r d' d z' _ y _ e ib g hf.hb hl rfl) hb')
    have hle' : ι.le (upd ι H0.nx (r, d, Z)) := hS2.le
    have hgf : (PT.set H0.nx (Blk.cells false (rws u v n 0)) (PT.set b .dead H0.m)).get bo = some (.cells false [x, y, .sln b 2 i tb]) := by
      rw [get_set_ne _ _ _ _ xf, get_set_ne _ _ _ _ fb]; exact hf.ho
    obtain ⟨hR3, hS3⟩ := hR2.write (b := bo) (hle'.app _ _ is) hgf rfl rfl (w' := W) (fun _ _ => rfl) rfl rfl rfl rfl (y := .cells false [x, y, .sl H0.nx 0 n (.op 2)]) ⟨hBo.1, (fun j w hw => by
        rcases j with _ | _ | _ | j
        · cases hw
          exact ⟨_, hv0, hvx.mono hle'⟩
        · cases hw
          exact ⟨_, hv1, hvy.mono hle'⟩
        · cases hw
          have := VRel.slu (ι := upd ι H0.nx (r, d, Z)) H0.nx 0 n c r d Z 2 (upd_same _ _ _) hc (by omega)
          exact ⟨_, hv2, this⟩
        · cases hw), hBo.2.2⟩
    have hF' : Fr nt X (upd ι H0.nx (r, d, Z)) T0 a := hF.mono hle'
    refine ⟨n, upd ι H0.nx (r, d, Z), r, d, Z, hn1, hn2, hi, hT, upd_same _ _ _, by omega, ⟨_, hle'.app _ _ is⟩, ⟨_, hle'.app _ _ ib⟩, fb, xf, xb, ⟨hF'.size, fun t w hw => ?_, fun t w hw => ?_⟩, hR3, (hA1.stp.trans hS2).trans hS3, hA1.dfr.mono hle'⟩
    · by_cases e : Pos.of t = (.i (.i (.o (.i (.o .h)))))
      · rw [e, get_set_same] at hw
        exact hF'.cross t (.at i tb') (by rw [e]; exact hf.h42)
      · rw [get_set_ne _ _ _ _ e] at hw
        exact hF'.cross t w hw
    · by_cases e : Pos.of t = (.i (.i (.o (.i (.o .h)))))
      · rw [e, get_set_same] at hw
        cases hw
        have h1 := hF'.val t (.at i tb') (by rw [e]; exact hf.h42)
        generalize a.eval (.tmp t) = q at h1
        cases h1 with
        | «at» _ _ k' m' _ hi' =>
          have : (k', m') = (IntKind.i64, (n : Int)) := hi'.symm.trans hi
          cases this
          exact .int _ _
      · rw [get_set_ne _ _ _ _ e] at hw
        exact hF'.val t w hw
theorem rback (hf : FoundR T0 H0 pr bo b x y u v i tb tb') {n : Nat} {nt : Nat} {X : PT Unit} {ι0 ι : Inj} {H00 H : Hp} {D : List DF} {a : Act} {W : World} {T : PT AV} {r d Z : Nat} (hn : 1 ≤ n) (hs : ι.s i = (.i64, (n : Int))) (hT : AtOk ι.s tb)
    (hnx : ι H0.nx = some (r, d, Z)) (hZ : n * 2 ≤ Z) (hib : ∃ q, ι bo = some q) (hbb : ∃ q, ι b = some q) (fb : bo ≠ b) (xf : bo ≠ H0.nx) (xb : b ≠ H0.nx)
    (h1 : H.nx = H0.nx.succ) (h2 : ∀ p, p ≠ H0.nx → H.m.get p = (hMid H0 bo b x y u v n).m.get p) (h3 : H.m.get H0.nx = some (.cells false (rws u v n n)))
    (t1 : ∀ p, p ≠ (.o (.o (.i (.i (.o .h))))) → p ≠ (.i (.o (.i (.i (.o .h))))) → p ≠ (.i (.i (.o .h))) → T.get p = (T0.set (.i (.i (.o (.i (.o .h))))) (.int .i64 (.ofNat n))).get p) (t2 : ∃ q, T.get (.o (.o (.i (.i (.o .h))))) = some q) (t3 : ∃ q, T.get (.i (.o (.i (.i (.o .h))))) = some q) (t4 : ∃ q, T.get (.i (.i (.o .h))) = some q)
    (htb : AtOk ι.s tb') (hF : Fr nt X ι T a) (hA : AfterR E base w0 ι0 H00 D H ι a.defers W) : ∃ ι', Fr nt X ι' pr.1 a ∧ AfterR E base w0 ι0 H00 D pr.2 ι' a.defers W := by
  have hR := hA.rl
  have gm : ∀ p, p ≠ b → p ≠ H0.nx → p ≠ bo → (hMid H0 bo b x y u v n).m.get p = H0.m.get p := fun p e1 e2 e3 => by
    unfold hMid
    rw [get_set_ne _ _ _ _ e3, get_set_ne _ _ _ _ e2, get_set_ne _ _ _ _ e1]
  have gb : (hMid H0 bo b x y u v n).m.get b = some .dead := by
    unfold hMid
    rw [get_set_ne _ _ _ _ fb.symm, get_set_ne _ _ _ _ xb, get_set_same]
  have go : H.m.get bo = some (.cells false [x, y, .sl H0.nx 0 n (.op 2)]) := by
    rw [h2 bo xf]
    unfold hMid
    rw [get_set_same]
  obtain ⟨⟨rs, ds, zs⟩, is⟩ := hib
  have hBo := hR.blk bo _ _ _ _ is go
  obtain ⟨v0, hv0, hvx⟩ := hBo.2.1 0 _ rfl
  obtain ⟨v1, hv1, hvy⟩ := hBo.2.1 1 _ rfl
  obtain ⟨v2, hv2, hvr⟩ := hBo.2.1 2 _ rfl
  obtain ⟨c, hc, hz, rfl⟩ : ∃ c, n ≤ c ∧ c * 2 ≤ Z ∧ v2 = .slice (some ⟨r, d, none⟩) n c := by
    cases hvr with
    | slu _ _ _ c r' d' z' e h hc hz =>
      rw [hnx] at h
      cases h
      exact ⟨c, hc, by omega, by rw [Nat.add_zero]⟩
    | slv _ _ _ _ _ _ _ h _ => omega
  have hB := hR.blk H0.nx _ _ _ _ hnx h3
  have hA1 : AfterR E base w0 ι0 H00 D ⟨H.m.set H0.nx .dead, H.nx⟩ ι a.defers W := hA.weaken ⟨rfl, fun q hq => get_set_ne _ _ _ _ (fun e => by rw [e, hnx] at hq; cases hq), fun q x hx => by
    by_cases e : q = H0.nx
    · subst e
      rw [get_set_same] at hx
      cases hx
      exact ⟨_, h3, .inr (.inl rfl)⟩
    · rw [get_set_ne _ _ _ _ e] at hx
      exact ⟨x, hx, .inl rfl⟩⟩
  have hown := hR.own H0.nx _ _ _ _ hnx h3 rfl
  have zn : ∀ {q : Pos} {x : Nat × Nat × Nat}, ι q = some x → q ≠ H.nx := fun h e => by rw [e, (hR.fresh H.nx (Nat.le_refl _)).1] at h; cases h
  obtain ⟨hR2, hS2⟩ := hA1.rl.add r d (code n Z) (.zrs 2 [u, .bool true] none) (fun κ hκ => ⟨n, Z, rfl, hZ, by decide, rfl, (fun _ _ h => by cases h), (fun q f w hq hw => by
      replace hw : [u, AV.bool true][f]? = some w := hw
      rcases f with _ | _ | f
      · cases hw
        obtain ⟨cv, k1, k2⟩ := hB.2.1 (q * 2 + 0) _ (rws_get (by omega))
        rw [if_pos (by omega)] at k2
        exact ⟨cv, k1, k2.mono hκ⟩
      · cases hw
        obtain ⟨cv, k1, k2⟩ := hB.2.1 (q * 2 + 1) _ (rws_get (by omega))
        rw [if_neg (by omega), if_pos (by omega)] at k2
        exact ⟨cv, k1, k2.mono hκ⟩
      · cases hw), hB.2.2 rfl⟩) (fun b' r' d' z' y e g => hA1.rl.blk b' r' d' z' y e g) (Nat.le_refl _) (hR.size _ _ _ _ hnx) hown hR.below (fun b' d' z' y e g => by
      cases hl : y.live with
      | false => rfl
      | true =>
        by_cases hb' : b' = H0.nx
        · subst hb'
          rw [get_set_same] at g
          cases g
          cases hl
        · rw [get_set_ne _ _ _ _ hb'] at g
          exact absurd (hR.inj b' H0.nx r d' d z' _ y _ e hnx g h3 hl rfl) hb')
  have hle' : ι.le (upd ι H.nx (r, d, code n Z)) := hS2.le
  have hgf : (PT.set H.nx (Blk.zrs 2 [u, .bool true] none) (PT.set H0.nx .dead H.m)).get bo = some (.cells false [x, y, .sl H0.nx 0 n (.op 2)]) := by
    rw [get_set_ne _ _ _ _ (zn is), get_set_ne _ _ _ _ xf]; exact go
  obtain ⟨hR3, hS3⟩ := hR2.write (b := bo) (hle'.app _ _ is) hgf rfl rfl (w' := W) (fun _ _ => rfl) rfl rfl rfl rfl (y := .cells false [x, y, .sln H.nx 2 i tb]) ⟨hBo.1, (fun j w hw => by
      rcases j with _ | _ | _ | j
      · cases hw
        exact ⟨_, hv0, hvx.mono hle'⟩
      · cases hw
        exact ⟨_, hv1, hvy.mono hle'⟩
      · cases hw
        exact ⟨_, hv2, .sln H.nx 2 i tb n c r d Z (upd_same _ _ _) hT hs hc hz (by decide)⟩
      · cases hw), hBo.2.2⟩
  have hA3 : AfterR E base w0 ι0 H00 D ⟨PT.set bo (.cells false [x, y, .sln H.nx 2 i tb]) (PT.set H.nx (.zrs 2 [u, .bool true] none) (PT.set H0.nx .dead H.m)), H.nx.succ⟩ (upd ι H.nx (r, d, code n Z)) a.defers W := ⟨hR3, (hA1.stp.trans hS2).trans hS3, hA1.dfr.mono hle'⟩
  refine ⟨upd ι H.nx (r, d, code n Z), ?_, hA3.weaken ?_⟩
  · have hF' := hF.mono hle'
    rw [hf.r]
    show Fr nt X _ (tRef T0) a
    unfold tRef
    rw [frc_eq]
    have key : ∀ p w, (((T0.set (.i (.o (.i (.i (.o .h))))) .any).set (.i (.i (.o .h))) .any).set (.o (.o (.i (.i (.o .h))))) .any).get p = some w → (∃ q, T.get p = some q) ∧ ∀ c, (∀ q, T.get p = some q → VRel (upd ι H.nx (r, d, code n Z)) q c) → VRel (upd ι H.nx (r, d, code n Z)) w c := by
      intro p w hw
      by_cases e1 : p = (.o (.o (.i (.i (.o .h)))))
      · subst e1; rw [get_set_same] at hw; cases hw; exact ⟨t2, fun c _ => .any c⟩
      rw [get_set_ne _ _ _ _ e1] at hw
      by_cases e2 : p = (.i (.i (.o .h)))
      · subst e2; rw [get_set_same] at hw; cases hw; exact ⟨t4, fun c _ => .any c⟩
      rw [get_set_ne _ _ _ _ e2] at hw
      by_cases e3 : p = (.i (.o (.i (.i (.o .h)))))
      · subst e3; rw [get_set_same] at hw; cases hw; exact ⟨t3, fun c _ => .any c⟩
      rw [get_set_ne _ _ _ _ e3] at hw
      have e4 := t1 p e1 e3 e2
      by_cases e5 : p = (.i (.i (.o (.i (.o .h)))))
      · subst e5
        rw [get_set_same] at e4
        rw [hf.h42] at hw
        cases hw
        refine ⟨⟨_, e4⟩, fun c hc => ?_⟩
        have := hc _ e4
        cases this
        exact .at i tb' _ _ htb hs
      · rw [get_set_ne _ _ _ _ e5, hw] at e4
        exact ⟨⟨_, e4⟩, fun c hc => hc _ e4⟩
    exact ⟨hF'.size, fun t w hw => by obtain ⟨⟨q, hq⟩, _⟩ := key _ w hw; exact hF'.cross t q hq, fun t w hw => by obtain ⟨_, k⟩ := key _ w hw; exact k _ fun q hq => hF'.val t q hq⟩
  · rw [hf.r]
    show Wk _ _ (hRef H0 bo b x y u i tb)
    unfold hRef
    rw [frc_eq]
    have all : ∀ q, (PT.set bo (Blk.cells false [x, y, .sln H0.nx.succ 2 i tb]) (PT.set H0.nx.succ (.zrs 2 [u, .bool true] none) (PT.set H0.nx .dead (PT.set b .dead H0.m)))).get q = (PT.set bo (Blk.cells false [x, y, .sln H.nx 2 i tb]) (PT.set H.nx (.zrs 2 [u, .bool true] none) (PT.set H0.nx .dead H.m))).get q := by
      intro q
      rw [h1]
      by_cases e1 : q = bo
      · rw [e1, get_set_same, get_set_same]
      rw [get_set_ne _ _ _ _ e1, get_set_ne _ _ _ _ e1]
      by_cases e2 : q = H0.nx.succ
      · rw [e2, get_set_same, get_set_same]
      rw [get_set_ne _ _ _ _ e2, get_set_ne _ _ _ _ e2]
      by_cases e3 : q = H0.nx
      · rw [e3, get_set_same, get_set_same]
      rw [get_set_ne _ _ _ _ e3, get_set_ne _ _ _ _ e3, h2 q e3]
      by_cases e4 : q = b
      · rw [e4, get_set_same, gb]
      rw [get_set_ne _ _ _ _ e4, gm q e4 e3 e1]
    exact ⟨by rw [h1], fun q _ => all q, fun q x hx => ⟨x, (all q).symm.trans hx, .inl rfl⟩⟩
end
noncomputable def fndBlk (k : Nat) (c : Code) : Code :=
  match blks k c with
  | [.loop x] => x
  | _ => .skip
noncomputable def SBF : Code := fndBlk 1 (bodyOf Tryz.f277)
theorem SBF_eq : blks 1 (bodyOf Tryz.f277) = [.loop SBF] := by kernel_rfl
theorem sbF_told (call : CallT) (nl : Nat) : sbF call nl = ev (eF F) call nl x277 SBF := by kernel_rfl
theorem sbF_code : codeB Tryz.f277.ntmps SBF = true := by kernel_rfl
theorem refs_loop {nt : Nat} {T0 : PT AV} {H0 : Hp} {pr : PT AV × Hp} {bo b : Pos} {x y u v : AV} {i : Nat} {tb tb' : List (Nat × AtO × AtV)} (hb : StOk Tryz.prog E base w0 nt x277 SBF (sbF call nl)) (hf : FoundR T0 H0 pr bo b x y u v i tb tb') {D : List DF} {ι0 : Inj} {H00 : Hp} {n r d Z : Nat} (hn : 1 ≤ n) (hn2 : n ≤ 1000000) (hZ : n * 2 ≤ Z) (fb : bo ≠ b) (xf : bo ≠ H0.nx) (xb : b ≠ H0.nx) :
    ∀ (m j : Nat) (T : PT AV) (H : Hp) (ι : Inj) (a : Act) (w : World), j + m = n → (∀ p, p ≠ (.o (.o (.i (.i (.o .h))))) → p ≠ (.i (.o (.i (.i (.o .h))))) → p ≠ (.i (.i (.o .h))) → T.get p = (T0.set (.i (.i (.o (.i (.o .h))))) (.int .i64 (.ofNat n))).get p) → T.get (.o (.o (.i (.i (.o .h))))) = some (.int .i64 (.ofNat j)) → (1 ≤ m ∨ ∃ q, T.get (.i (.i (.o .h))) = some q) → H.nx = H0.nx.succ →
      (∀ p, p ≠ H0.nx → H.m.get p = (hMid H0 bo b x y u v n).m.get p) → H.m.get H0.nx = some (.cells false (rws u v n j)) → ι.s i = (.i64, (n : Int)) → AtOk ι.s tb → AtOk ι.s tb' → ι H0.nx = some (r, d, Z) → (∃ q, ι bo = some q) → (∃ q, ι b = some q) →
      Fr nt x277 ι T a → AfterR E base w0 ι0 H00 D H ι a.defers w → LoopAt Tryz.prog SBF (OPost E base w0 nt x277 ι0 H00 (.ext 1 pr.1 D pr.2)) a w
  | 0, j, T, H, ι, a, w, hm, hT, hi, hk, hnx, hH, hbb, hs, htb, htb', hι, ho, hbi, hF, hA => by
    have hj : j = n := by omega
    subst hj
    have h42 : T.get (.i (.i (.o (.i (.o .h))))) = some (.int .i64 (.ofNat j)) := (hT _ (by intro h; cases h) (by intro h; cases h) (by intro h; cases h)).trans (get_set_same _ _ _)
    have hA0 : AfterR E base w0 ι H D H ι a.defers w := ⟨hA.rl, .refl ι H, hA.dfr⟩
    refine loopAt_round (wp_mono (hb T D H _ (sbF_end h42 hi) (by intro e; cases e) ι H ι a w hF hA0) fun e a' w' hp => ?_)
    cases e with
    | normal => obtain ⟨_, _, _, _, q, _⟩ := hp; cases q
    | exit id =>
      obtain ⟨T2, D2, H2, ι', q, hF', hA'⟩ := hp
      cases q
      have hle := hA'.stp.le
      have hA2 : AfterR E base w0 ι0 H00 D H ι' a'.defers w' := ⟨hA'.rl, hA.stp.trans hA'.stp, hA'.dfr⟩
      obtain ⟨ι2, k1, k2⟩ := rback hf hn (by rw [hle.s]; exact hs) (by rw [hle.s]; exact htb) (hle.app _ _ hι) hZ (by obtain ⟨q, h⟩ := ho; exact ⟨q, hle.app _ _ h⟩) (by obtain ⟨q, h⟩ := hbi; exact ⟨q, hle.app _ _ h⟩) fb xf xb hnx hH hbb
        (fun p e1 e2 e3 => (get_set_ne _ _ _ _ e2).trans (hT p e1 e2 e3)) ⟨_, (get_set_ne _ _ _ _ (by intro h; cases h)).trans hi⟩ ⟨_, get_set_same _ _ _⟩ (by
          obtain ⟨q, h⟩ := hk.resolve_left (by omega)
          exact ⟨q, (get_set_ne _ _ _ _ (by intro h; cases h)).trans h⟩) (by rw [hle.s]; exact htb') hF' hA2
      exact ⟨_, _, _, ι2, rfl, k1, k2⟩
    | ret => obtain ⟨_, _, _, _, q, _⟩ := hp; cases q
    | panic ch => obtain ⟨_, _, _, _, _, _, q, _⟩ := hp; cases q
    | goto l => exact hp.elim
    | outgrown => exact hp.elim
  | m + 1, j, T, H, ι, a, w, hm, hT, hi, hk, hnx, hH, hbb, hs, htb, htb', hι, ho, hbi, hF, hA => by
    have h42 : T.get (.i (.i (.o (.i (.o .h))))) = some (.int .i64 (.ofNat n)) := (hT _ (by intro h; cases h) (by intro h; cases h) (by intro h; cases h)).trans (get_set_same _ _ _)
    have h4 : T.get (.i (.o .h)) = some (.ptr bo 0) := (hT _ (by intro h; cases h) (by intro h; cases h) (by intro h; cases h)).trans ((get_set_ne _ _ _ _ (by intro h; cases h)).trans hf.h4)
    have go : H.m.get bo = some (.cells false [x, y, .sl H0.nx 0 n (.op 2)]) := by
      rw [hH bo xf]
      unfold hMid
      rw [get_set_same]
    have hA0 : AfterR E base w0 ι H D H ι a.defers w := ⟨hA.rl, .refl ι H, hA.dfr⟩
    refine loopAt_round (wp_mono (hb T D H _ (sbF_round h4 h42 hi go hbb (rws_len _ _ _ _) (by omega) hn2) (by intro e; cases e) ι H ι a w hF hA0) fun e a' w' hp => ?_)
    cases e with
    | normal =>
      obtain ⟨T2, D2, H2, ι', q, hF', hA'⟩ := hp
      cases q
      have hle := hA'.stp.le
      refine refs_loop hb hf hn hn2 hZ fb xf xb m (j + 1) _ ⟨H.m.set H0.nx (.cells false ((rws u v n j).set (j * 2 + 1) (.bool true))), H.nx⟩ ι' a' w' (by omega) (fun p e1 e2 e3 => ?_) (get_set_same _ _ _) (.inr ⟨_, (get_set_ne _ _ _ _ (by intro h; cases h)).trans (get_set_same _ _ _)⟩) hnx (fun p hp => (get_set_ne _ _ _ _ hp).trans (hH p hp)) ((get_set_same _ _ _).trans (by rw [rws_set (by omega)])) (by rw [hle.s]; exact hs) (by rw [hle.s]; exact htb) (by rw [hle.s]; exact htb') (hle.app _ _ hι) (by obtain ⟨q, h⟩ := ho; exact ⟨q, hle.app _ _ h⟩) (by obtain ⟨q, h⟩ := hbi; exact ⟨q, hle.app _ _ h⟩) hF' ⟨hA'.rl, hA.stp.trans hA'.stp, hA'.dfr⟩
      rw [get_set_ne _ _ _ _ e1, get_set_ne _ _ _ _ e3, get_set_ne _ _ _ _ e2]
      exact hT p e1 e2 e3
    | exit id => obtain ⟨_, _, _, _, q, _⟩ := hp; cases q
    | ret => obtain ⟨_, _, _, _, q, _⟩ := hp; cases q
    | panic ch => obtain ⟨_, _, _, _, _, _, q, _⟩ := hp; cases q
    | goto l => exact hp.elim
    | outgrown => exact hp.elim
theorem refsW_ok {nt : Nat} (hb0 : StOk Tryz.prog E base w0 nt x277 SBF (sbF (fun _ _ _ => .no) 0)) : HdOk Tryz.prog E base w0 nt x277 SBF refsW := by
  intro T D H r he hr ι0 H0 ι a w hF hA
  replace he : (opt (refsF T H) (sLoop (sbF (fun _ _ _ => .no) 0) 1000 T D H) fun p => .ext 1 p.1 D p.2) = r := he
  cases hi : refsF T H with
  | none =>
    rw [hi] at he
    exact hdOk_rds hb0 (hdOk_no fun _ _ _ => rfl) 1000 T D H r he hr ι0 H0 ι a w hF hA
  | some p =>
    rw [hi] at he
    subst he
    obtain ⟨bo, b, x, y, u, v, i, tb, tb', hf⟩ := refsF_inv hi
    obtain ⟨n, ι', rr, d, Z, k1, k2, k3, k4, k5, k6, k7, k8, k9, k10, k11, hF', hA'⟩ := rconv hf hF hA
    have htb' : AtOk ι'.s tb' := by
      have h1 := hF.val 42 (.at i tb') hf.h42
      generalize a.eval (.tmp 42) = q at h1
      cases h1 with
      | «at» _ _ _ _ h _ => 
        have hz : ι'.s = ι.s := by
          have := hA'.stp.le.s
          have h2 := hA.stp.le.s
          rw [this, h2]
        rw [hz]; exact h
    refine refs_loop hb0 hf k1 k2 k6 k9 k10 k11 n 0 _ _ ι' a w (by omega) (fun _ _ _ _ => rfl) ((get_set_ne _ _ _ _ (by intro h; cases h)).trans hf.h43) (.inl k1) rfl (fun _ _ => rfl) ?_ k3 k4 htb' k5 k7 k8 hF' hA'
    unfold hMid
    rw [get_set_ne _ _ _ _ k10.symm, get_set_same]
noncomputable def gW277 (call : CallT) (nl : Nat) : StT := (sSeq (g277r0 call) (sSeq (g277r1 call) (sSeq (sSeq (g277r2 call) (sBlock 0 (sSeq (g277r3 call) (sCd (fun T => bq (t54 T)) (sSeq (g277r4 call) (sSeq (g277r5 call) (sBlock 3 (sLoop (sSeq (g277r6 call) (sSeq (sCd (fun T => bq (t78 T)) sSkip (fun T D H => .ext 3 T D H)) (sSeq (sBlock 4 (sSeq (g277r7 call) (g277r8 call))) (g277r9 call)))) nl)))) (sSeq (g277r10 call) (sCd (fun T => bq (t95 T)) (sSeq (g277r11 call) (g277r12 call)) (sSeq (g277r13 call) (sSeq (g277r14 call) (sSeq (g277r15 call) (sSeq (g277r16 call) (sCd (fun T => bq (t34 T)) (sSeq (g277r17 call) (sSeq (g277r18 call) (sBlock 1 refsW))) sSkip))))))))))) (sSeq (g277r23 call) (g277r24 call)))))
theorem gW277_told (call : CallT) (nl : Nat) : gW277 call nl = evJ (eF F) call nl x277 1 refsW (bodyOf Tryz.f277) := by kernel_rfl
theorem body277_code : codeB Tryz.f277.ntmps (bodyOf Tryz.f277) = true := by kernel_rfl
theorem gW277_cc (hE : EnvOk Tryz.prog (eF F)) (hm : Tryz.prog.follows .mixedOrders = true) :
    x277 = crossF Tryz.f277 ∧ (∃ c, Tryz.f277.body = some c ∧ ∀ (base : Nat) (w0 : World) (call : CallT) (nl : Nat), CallOk Tryz.prog (eF F) base w0 call → StOk Tryz.prog (eF F) base w0 Tryz.f277.ntmps x277 c (gW277 call nl)) ∧ ∀ T H, rsV [] T H = results (eF F) Tryz.f277 T H := by
  refine ⟨by kernel_rfl, ⟨bodyOf Tryz.f277, by kernel_rfl, fun base w0 call nl hC => ?_⟩, fun T H => by kernel_rfl⟩
  rw [gW277_told (F := F)]
  refine evJ_ok hE hC hm nl _ (codeB_ok _ body277_code) fun z hz => ?_
  rw [SBF_eq] at hz
  obtain rfl : z = .loop SBF := by simpa using hz
  refine stOk_loop (refsW_ok ?_)
  rw [sbF_told (F := F)]
  exact stOk_ev hE (fun f args H r he hr => absurd he.symm hr) hm 0 (codeB_ok _ sbF_code)
end Go.Ev
