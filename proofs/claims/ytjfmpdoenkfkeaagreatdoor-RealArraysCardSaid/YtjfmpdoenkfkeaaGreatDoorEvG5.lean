/- Texts of the program's functions, told beforehand; each with its proof. -/
import Derived.Test.YtjfmpdoenkfkeaaGreatDoorEvZc
namespace Go.Ev
set_option maxRecDepth 100000
set_option linter.unusedVariables false
open Go.Proofs
noncomputable section
def g226r0 : RT := fun _ T D H => oI (.bool false) fun v0 => Out.nrm (sF (.i (.i .h)) v0 sI T) D H
def g226r1 : RT := fun _ T D H => oI (t0 T) fun v0 => oP (avLenL v0) fun v1 => oI (t1 T) fun v2 => oP (avLenL v2) fun v3 => oP (opt (avEqN v1 v3) none bN) fun v4 => Out.nrm (sF (.i (.o (.i .h))) v4 sI T) D H
def g226r2 : RT := fun _ T D H => oI (.bool false) fun v0 => Out.nrm (sF (.i (.i .h)) v0 sI T) D H
def g226r3 : RT := fun _ T D H => oI (t0 T) fun v0 => oP (avLenL v0) fun v1 => oI (iN 0) fun v2 => Out.nrm (sF (.o (.o (.o (.o .h)))) v2 (sF (.i (.i (.i .h))) v1 sI) T) D H
def g226r4 : RT := fun _ T D H => oP (syBin .lss fLss (t15 T) (t14 T)) fun v0 => Out.nrm (sF (.i (.o (.o (.o .h)))) v0 sI T) D H
def g226r5 : RT := fun _ T D H => oI (t15 T) fun v0 => oI v0 fun v1 => Out.nrm (sF (.o (.o (.o .h))) v1 sI T) D H
def g226r6 : RT := fun call T D H => oI (t2 T) fun v0 => oI (t0 T) fun v1 => oI (t7 T) fun v2 => oP (avIA 1 v1 v2) fun v3 => oP (ld1 v3 H) fun v4 => oI (t1 T) fun v5 => oI (t7 T) fun v6 => oP (avIA 1 v5 v6) fun v7 => oP (ld1 v7 H) fun v8 => cw (callV call v0 [v4, v8] H) D (pW T [(0, (.i (.o (.i (.i .h)))))]) fun v9 H => oP (avNot v9) fun v10 => Out.nrm (sF (.i (.o (.i (.i .h)))) v10 sI T) D H
def g226r7 : RT := fun _ T D H => oI (.bool false) fun v0 => Out.nrm (sF (.i (.i .h)) v0 sI T) D H
def g226r8 : RT := fun _ T D H => oP (syBin .add strApp (t15 T) (iN 1)) fun v0 => oI v0 fun v1 => Out.nrm (sF (.o (.o (.o (.o .h)))) v1 sI T) D H
def g226r9 : RT := fun _ T D H => oI (.bool true) fun v0 => Out.nrm (sF (.i (.i .h)) v0 sI T) D H
def g226 (call : CallT) (nl : Nat) : StT := (sSeq (g226r0 call) (sSeq (sSeq (g226r1 call) (sCd (fun T => bq (t12 T)) (sSeq (g226r2 call) (fun T D H => .ret T D H)) sSkip)) (sSeq (sSeq (g226r3 call) (sBlock 0 (sLoop (sSeq (g226r4 call) (sSeq (sCd (fun T => bq (t16 T)) sSkip (fun T D H => .ext 0 T D H)) (sSeq (sBlock 1 (sSeq (g226r5 call) (sSeq (g226r6 call) (sCd (fun T => bq (t28 T)) (sSeq (g226r7 call) (fun T D H => .ret T D H)) sSkip)))) (g226r8 call)))) nl))) (sSeq (g226r9 call) (fun T D H => .ret T D H)))))
def x226 : PT Unit := (.n (.n (.n (.n (.n .l (some ()) .l) (some ()) .l) none .l) (some ()) .l) (some ()) (.n (.n (.n (.n .l (some ()) .l) none .l) none (.n .l (some ()) (.n .l (some ()) .l))) (some ()) (.n .l (some ()) (.n .l (some ()) .l))))
theorem k226 (F : PT FE) : Told (eF F) Tryz.f226 x226 g226 (rsV [.t (.i (.i .h))]) := toldN (by kernel_rfl) (bS (by kernel_rfl)) (fun _ _ => by kernel_rfl) (fun _ _ => by kernel_rfl)
def g227r0 : RT := fun _ T D H => oI (.bool false) fun v0 => Out.nrm (sF (.o (.i .h)) v0 sI T) D H
def g227r1 : RT := fun call T D H => oP (ld1 (t2 T) H) fun v0 => oI (t0 T) fun v1 => oI (t1 T) fun v2 => cw (call 209 [v0, v1, v2] H) D (pW T [(0, (.o (.i .h)))]) fun v3 H => oI v3 fun v4 => Out.nrm (sF (.o (.i .h)) v4 sI T) D H
def g227 (call : CallT) (_nl : Nat) : StT := (sSeq (g227r0 call) (sSeq (g227r1 call) (fun T D H => .ret T D H)))
def x227 : PT Unit := (.n (.n .l (some ()) (.n .l (some ()) .l)) (some ()) (.n .l (some ()) .l))
theorem k227 (F : PT FE) : Told (eF F) Tryz.f227 x227 g227 (rsV [.t (.o (.i .h))]) := toldN (by kernel_rfl) (bS (by kernel_rfl)) (fun _ _ => by kernel_rfl) (fun _ _ => by kernel_rfl)
def g228r0 : RT := fun _ T D H => oI (.bool false) fun v0 => Out.nrm (sF (.i (.i .h)) v0 sI T) D H
def g228r1 : RT := fun _ T D H => oI (t2 T) fun v0 => Out.nrm (sF (.o (.o (.o .h))) v0 sI T) D H
def g228r2 : RT := fun _ T D H => oP (opt (avEqN (t7 T) (.int .i64 (.negSucc 2))) none bI) fun v0 => oI v0 fun v1 => Out.nrm (sF (.i (.o (.o .h))) v1 sI T) D H
def g228r3 : RT := fun _ T D H => oI (.bool true) fun v0 => Out.nrm (sF (.i (.i .h)) v0 sI T) D H
def g228r4 : RT := fun _ T D H => oP (opt (avEqN (t7 T) (.int .i64 (.negSucc 0))) none bI) fun v0 => oI v0 fun v1 => Out.nrm (sF (.i (.i (.o .h))) v1 sI T) D H
def g228r5 : RT := fun call T D H => oI (t1 T) fun v0 => cw (call 208 [v0] H) D (pW T [(0, (.i (.i .h)))]) fun v1 H => oI v1 fun v2 => Out.nrm (sF (.i (.i .h)) v2 sI T) D H
def g228r6 : RT := fun _ T D H => oP (opt (avEqN (t7 T) (.int .i64 (.negSucc 1))) none bI) fun v0 => oI v0 fun v1 => Out.nrm (sF (.i (.i (.i .h))) v1 sI T) D H
def g228r7 : RT := fun _ T D H => oI (t1 T) fun v0 => oP (opt (avEqN v0 (iN 3)) none bI) fun v1 => oI v1 fun v2 => jn (α := JT) (fun v3 D H => jn (α := JT) (fun v4 D H => oP (avPick v2 (.bool true) v4) fun v5 => oI v5 fun v6 => jn (α := JT) (fun v7 D H => jn (α := JT) (fun v8 D H => oP (avPick v6 (.bool true) v8) fun v9 => oI v9 fun v10 => Out.nrm (sF (.i (.i .h)) v10 sI T) D H) fun k8 => opt (gB false v6) Out.no fun w8 => cnd w8 (oP (opt (avEqN v7 (iN 2)) none bI) fun v8 => k8 v8 D H) (k8 (.tup []) D H)) fun k7 => opt (gB false v6) Out.no fun w7 => cnd w7 (oI (t1 T) fun v7 => k7 v7 D H) (k7 (.tup []) D H)) fun k4 => opt (gB false v2) Out.no fun w4 => cnd w4 (oP (opt (avEqN v3 (iN 4)) none bI) fun v4 => k4 v4 D H) (k4 (.tup []) D H)) fun k3 => opt (gB false v2) Out.no fun w3 => cnd w3 (oI (t1 T) fun v3 => k3 v3 D H) (k3 (.tup []) D H)
def g228r8 : RT := fun call T D H => oI (t0 T) fun v0 => oP (avNC v0) fun v1 => oP (avFA 2 v1) fun v2 => oP (ld1 v2 H) fun v3 => oI (t1 T) fun v4 => oI (t2 T) fun v5 => cw (call 209 [v3, v4, v5] H) D (pW T [(0, (.i (.i .h)))]) fun v6 H => oI v6 fun v7 => Out.nrm (sF (.i (.i .h)) v7 sI T) D H
def g228 (call : CallT) (_nl : Nat) : StT := (sSeq (g228r0 call) (sSeq (sSeq (g228r1 call) (sBlock 0 (sSeq (g228r2 call) (sCd (fun T => bq (t8 T)) (sSeq (g228r3 call) (fun T D H => .ret T D H)) (sSeq (g228r4 call) (sCd (fun T => bq (t10 T)) (sSeq (g228r5 call) (fun T D H => .ret T D H)) (sSeq (g228r6 call) (sCd (fun T => bq (t14 T)) (sSeq (g228r7 call) (fun T D H => .ret T D H)) sSkip)))))))) (sSeq (g228r8 call) (fun T D H => .ret T D H))))
def x228 : PT Unit := (.n (.n (.n (.n .l (some ()) .l) none .l) (some ()) .l) (some ()) (.n (.n (.n .l (some ()) .l) none .l) (some ()) (.n (.n .l (some ()) .l) (some ()) (.n .l (some ()) .l))))
theorem k228 (F : PT FE) : Told (eF F) Tryz.f228 x228 g228 (rsV [.t (.i (.i .h))]) := toldN (by kernel_rfl) (bS (by kernel_rfl)) (fun _ _ => by kernel_rfl) (fun _ _ => by kernel_rfl)
def g229r0 : RT := fun _ T D H => oI (.pnil) fun v0 => Out.nrm (sF (.i (.o .h)) v0 sI T) D H
def g229r1 : RT := fun _ T D H => oI (t0 T) fun v0 => oP (avNC v0) fun v1 => oP (avFA 0 v1) fun v2 => oP (avFA 1 v2) fun v3 => oP (ld1 v3 H) fun v4 => oI (t1 T) fun v5 => oP (syBin .sub fSub v5 (iN 11)) fun v6 => oP (avIA 8 v4 v6) fun v7 => oI v7 fun v8 => Out.nrm (sF (.i (.o .h)) v8 sI T) D H
def g229 (call : CallT) (_nl : Nat) : StT := (sSeq (g229r0 call) (sSeq (g229r1 call) (fun T D H => .ret T D H)))
def x229 : PT Unit := (.n (.n .l (some ()) .l) (some ()) (.n (.n .l (some ()) .l) none .l))
theorem k229 (F : PT FE) : Told (eF F) Tryz.f229 x229 g229 (rsV [.t (.i (.o .h))]) := toldN (by kernel_rfl) (bS (by kernel_rfl)) (fun _ _ => by kernel_rfl) (fun _ _ => by kernel_rfl)
def g230r0 : RT := fun _ T D H => oI (t1 T) fun v0 => oP (opt (avEqN v0 (iN 0)) none bN) fun v1 => Out.nrm (sF (.o (.i .h)) v1 sI T) D H
def g230r1 : RT := fun call T D H => oI (t0 T) fun v0 => oI (t1 T) fun v1 => opt (bslF [(0, 1)] zc3 1 [v1]) Out.no fun p2 => Hp.new H p2.1 fun b2 H => cw (call 204 [v0, (p2.2.av b2)] H) D (pW T []) fun v3 H => Out.nrm T D H
def g230 (call : CallT) (_nl : Nat) : StT := (sSeq (g230r0 call) (sCd (fun T => bq (t5 T)) (g230r1 call) sSkip))
def x230 : PT Unit := (.n (.n .l (some ()) (.n .l (some ()) .l)) (some ()) .l)
theorem k230 (F : PT FE) : Told (eF F) Tryz.f230 x230 g230 (rsV []) := toldN (by kernel_rfl) (bS (by kernel_rfl)) (fun _ _ => by kernel_rfl) (fun _ _ => by kernel_rfl)
def g231r0 : RT := fun _ T D H => opt (boxF [(t0 T)]) Out.no fun p0 => Hp.new H p0.1 fun b0 H => oI (.fnil) fun v1 => Out.nrm (sF (.i .h) v1 (sF (.o .h) (p0.2.av b0) sI) T) D H
def g231r1 : RT := fun _ T D H => oP (mkfF (.func 253) 0 [(t1 T)]) fun v0 => oI v0 fun v1 => Out.nrm (sF (.i .h) v1 sI T) D H
def g231 (call : CallT) (_nl : Nat) : StT := (sSeq (g231r0 call) (sSeq (g231r1 call) (fun T D H => .ret T D H)))
def x231 : PT Unit := (.n (.n .l (some ()) .l) (some ()) (.n .l (some ()) .l))
theorem k231 (F : PT FE) : Told (eF F) Tryz.f231 x231 g231 (rsV [.t (.i .h)]) := toldN (by kernel_rfl) (bS (by kernel_rfl)) (fun _ _ => by kernel_rfl) (fun _ _ => by kernel_rfl)
def g232r0 : RT := fun _ T D H => oI ((.int .i32 (.ofNat 0))) fun v0 => Out.nrm (sF (.i (.o .h)) v0 sI T) D H
def g232r1 : RT := fun _ T D H => oI (t0 T) fun v0 => oI (t1 T) fun v1 => oP (syBin .add strApp v0 v1) fun v2 => oI v2 fun v3 => Out.nrm (sF (.i (.o .h)) v3 sI T) D H
def g232 (call : CallT) (_nl : Nat) : StT := (sSeq (g232r0 call) (sSeq (g232r1 call) (fun T D H => .ret T D H)))
def x232 : PT Unit := (.n (.n .l (some ()) .l) (some ()) (.n (.n .l (some ()) .l) none .l))
theorem k232 (F : PT FE) : Told (eF F) Tryz.f232 x232 g232 (rsV [.t (.i (.o .h))]) := toldN (by kernel_rfl) (bS (by kernel_rfl)) (fun _ _ => by kernel_rfl) (fun _ _ => by kernel_rfl)
def g233r0 : RT := fun _ T D H => oI ((.int .i32 (.ofNat 0))) fun v0 => Out.nrm (sF (.i (.o .h)) v0 sI T) D H
def g233r1 : RT := fun _ T D H => oI (t0 T) fun v0 => oI (t1 T) fun v1 => oP (syBin .sub fSub v0 v1) fun v2 => oI v2 fun v3 => Out.nrm (sF (.i (.o .h)) v3 sI T) D H
def g233 (call : CallT) (_nl : Nat) : StT := (sSeq (g233r0 call) (sSeq (g233r1 call) (fun T D H => .ret T D H)))
def x233 : PT Unit := (.n (.n .l (some ()) .l) (some ()) (.n (.n .l (some ()) .l) none .l))
theorem k233 (F : PT FE) : Told (eF F) Tryz.f233 x233 g233 (rsV [.t (.i (.o .h))]) := toldN (by kernel_rfl) (bS (by kernel_rfl)) (fun _ _ => by kernel_rfl) (fun _ _ => by kernel_rfl)
def g234r0 : RT := fun _ T D H => oI ((.int .i32 (.ofNat 0))) fun v0 => Out.nrm (sF (.i (.o .h)) v0 sI T) D H
def g234r1 : RT := fun _ T D H => oI (t0 T) fun v0 => oI (t1 T) fun v1 => oP (syBin .mul fMul v0 v1) fun v2 => oI v2 fun v3 => Out.nrm (sF (.i (.o .h)) v3 sI T) D H
def g234 (call : CallT) (_nl : Nat) : StT := (sSeq (g234r0 call) (sSeq (g234r1 call) (fun T D H => .ret T D H)))
def x234 : PT Unit := (.n (.n .l (some ()) .l) (some ()) (.n (.n .l (some ()) .l) none .l))
theorem k234 (F : PT FE) : Told (eF F) Tryz.f234 x234 g234 (rsV [.t (.i (.o .h))]) := toldN (by kernel_rfl) (bS (by kernel_rfl)) (fun _ _ => by kernel_rfl) (fun _ _ => by kernel_rfl)
def g235r0 : RT := fun _ T D H => opt (boxF [(t0 T)]) Out.no fun p0 => Hp.new H p0.1 fun b0 H => oI (.fnil) fun v1 => Out.nrm (sF (.i .h) v1 (sF (.o .h) (p0.2.av b0) sI) T) D H
def g235r1 : RT := fun _ T D H => oP (mkfF (.func 254) 0 [(t1 T)]) fun v0 => oI v0 fun v1 => Out.nrm (sF (.i .h) v1 sI T) D H
def g235 (call : CallT) (_nl : Nat) : StT := (sSeq (g235r0 call) (sSeq (g235r1 call) (fun T D H => .ret T D H)))
def x235 : PT Unit := (.n (.n .l (some ()) .l) (some ()) (.n .l (some ()) .l))
theorem k235 (F : PT FE) : Told (eF F) Tryz.f235 x235 g235 (rsV [.t (.i .h)]) := toldN (by kernel_rfl) (bS (by kernel_rfl)) (fun _ _ => by kernel_rfl) (fun _ _ => by kernel_rfl)
def g236r0 : RT := fun _ T D H => oI ((.int .i32 (.ofNat 0))) fun v0 => Out.nrm (sF (.i (.o .h)) v0 sI T) D H
def g236r1 : RT := fun _ T D H => oI (t0 T) fun v0 => oP (avConv .i64 v0) fun v1 => oI (t1 T) fun v2 => oP (avConv .i64 v2) fun v3 => oP (syBin .quo fQuo v1 v3) fun v4 => oP (avConv .i32 v4) fun v5 => oI v5 fun v6 => Out.nrm (sF (.i (.o .h)) v6 sI T) D H
def g236 (call : CallT) (_nl : Nat) : StT := (sSeq (g236r0 call) (sSeq (g236r1 call) (fun T D H => .ret T D H)))
def x236 : PT Unit := (.n (.n .l (some ()) .l) (some ()) (.n (.n .l (some ()) .l) none .l))
theorem k236 (F : PT FE) : Told (eF F) Tryz.f236 x236 g236 (rsV [.t (.i (.o .h))]) := toldN (by kernel_rfl) (bS (by kernel_rfl)) (fun _ _ => by kernel_rfl) (fun _ _ => by kernel_rfl)
def g237r0 : RT := fun _ T D H => oI ((.int .i32 (.ofNat 0))) fun v0 => Out.nrm (sF (.i (.o .h)) v0 sI T) D H
def g237r1 : RT := fun _ T D H => oI (t0 T) fun v0 => oP (avConv .i64 v0) fun v1 => oI (t1 T) fun v2 => oP (avConv .i64 v2) fun v3 => oP (syBin .rem fRem v1 v3) fun v4 => oP (avConv .i32 v4) fun v5 => oI v5 fun v6 => Out.nrm (sF (.i (.o .h)) v6 sI T) D H
def g237 (call : CallT) (_nl : Nat) : StT := (sSeq (g237r0 call) (sSeq (g237r1 call) (fun T D H => .ret T D H)))
def x237 : PT Unit := (.n (.n .l (some ()) .l) (some ()) (.n (.n .l (some ()) .l) none .l))
theorem k237 (F : PT FE) : Told (eF F) Tryz.f237 x237 g237 (rsV [.t (.i (.o .h))]) := toldN (by kernel_rfl) (bS (by kernel_rfl)) (fun _ _ => by kernel_rfl) (fun _ _ => by kernel_rfl)
def g238r0 : RT := fun _ T D H => oI ((.int .i32 (.ofNat 0))) fun v0 => Out.nrm (sF (.i (.o .h)) v0 sI T) D H
def g238r1 : RT := fun _ T D H => oI (t0 T) fun v0 => oP (avNeg v0) fun v1 => oI v1 fun v2 => Out.nrm (sF (.i (.o .h)) v2 sI T) D H
def g238 (call : CallT) (_nl : Nat) : StT := (sSeq (g238r0 call) (sSeq (g238r1 call) (fun T D H => .ret T D H)))
def x238 : PT Unit := (.n (.n .l (some ()) .l) (some ()) (.n (.n .l (some ()) .l) none .l))
theorem k238 (F : PT FE) : Told (eF F) Tryz.f238 x238 g238 (rsV [.t (.i (.o .h))]) := toldN (by kernel_rfl) (bS (by kernel_rfl)) (fun _ _ => by kernel_rfl) (fun _ _ => by kernel_rfl)
def g239r0 : RT := fun _ T D H => oI ((.int .i32 (.ofNat 0))) fun v0 => Out.nrm (sF (.i (.o .h)) v0 sI T) D H
def g239r1 : RT := fun _ T D H => oI (t0 T) fun v0 => oI (t1 T) fun v1 => oP (syBin .and fAnd v0 v1) fun v2 => oI v2 fun v3 => Out.nrm (sF (.i (.o .h)) v3 sI T) D H
def g239 (call : CallT) (_nl : Nat) : StT := (sSeq (g239r0 call) (sSeq (g239r1 call) (fun T D H => .ret T D H)))
def x239 : PT Unit := (.n (.n .l (some ()) .l) (some ()) (.n (.n .l (some ()) .l) none .l))
theorem k239 (F : PT FE) : Told (eF F) Tryz.f239 x239 g239 (rsV [.t (.i (.o .h))]) := toldN (by kernel_rfl) (bS (by kernel_rfl)) (fun _ _ => by kernel_rfl) (fun _ _ => by kernel_rfl)
def g240r0 : RT := fun _ T D H => oI ((.int .i32 (.ofNat 0))) fun v0 => Out.nrm (sF (.i (.o .h)) v0 sI T) D H
def g240r1 : RT := fun _ T D H => oI (t0 T) fun v0 => oI (t1 T) fun v1 => oP (syBin .or fOr v0 v1) fun v2 => oI v2 fun v3 => Out.nrm (sF (.i (.o .h)) v3 sI T) D H
def g240 (call : CallT) (_nl : Nat) : StT := (sSeq (g240r0 call) (sSeq (g240r1 call) (fun T D H => .ret T D H)))
def x240 : PT Unit := (.n (.n .l (some ()) .l) (some ()) (.n (.n .l (some ()) .l) none .l))
theorem k240 (F : PT FE) : Told (eF F) Tryz.f240 x240 g240 (rsV [.t (.i (.o .h))]) := toldN (by kernel_rfl) (bS (by kernel_rfl)) (fun _ _ => by kernel_rfl) (fun _ _ => by kernel_rfl)
def g241r0 : RT := fun _ T D H => oI ((.int .i32 (.ofNat 0))) fun v0 => Out.nrm (sF (.i (.o .h)) v0 sI T) D H
def g241r1 : RT := fun _ T D H => oI (t0 T) fun v0 => oI (t1 T) fun v1 => oP (syBin .xor fXor v0 v1) fun v2 => oI v2 fun v3 => Out.nrm (sF (.i (.o .h)) v3 sI T) D H
def g241 (call : CallT) (_nl : Nat) : StT := (sSeq (g241r0 call) (sSeq (g241r1 call) (fun T D H => .ret T D H)))
def x241 : PT Unit := (.n (.n .l (some ()) .l) (some ()) (.n (.n .l (some ()) .l) none .l))
theorem k241 (F : PT FE) : Told (eF F) Tryz.f241 x241 g241 (rsV [.t (.i (.o .h))]) := toldN (by kernel_rfl) (bS (by kernel_rfl)) (fun _ _ => by kernel_rfl) (fun _ _ => by kernel_rfl)
def g242r0 : RT := fun _ T D H => oI ((.int .i32 (.ofNat 0))) fun v0 => Out.nrm (sF (.i (.o .h)) v0 sI T) D H
def g242r1 : RT := fun _ T D H => oI (t0 T) fun v0 => oI (t1 T) fun v1 => oP (syBin .and fAnd v1 (.int .i32 (.ofNat 31))) fun v2 => oP (syBin .shl shl2 v0 v2) fun v3 => oI v3 fun v4 => Out.nrm (sF (.i (.o .h)) v4 sI T) D H
def g242 (call : CallT) (_nl : Nat) : StT := (sSeq (g242r0 call) (sSeq (g242r1 call) (fun T D H => .ret T D H)))
def x242 : PT Unit := (.n (.n .l (some ()) .l) (some ()) (.n (.n .l (some ()) .l) none .l))
theorem k242 (F : PT FE) : Told (eF F) Tryz.f242 x242 g242 (rsV [.t (.i (.o .h))]) := toldN (by kernel_rfl) (bS (by kernel_rfl)) (fun _ _ => by kernel_rfl) (fun _ _ => by kernel_rfl)
def g243r0 : RT := fun _ T D H => oI ((.int .i32 (.ofNat 0))) fun v0 => Out.nrm (sF (.i (.o .h)) v0 sI T) D H
def g243r1 : RT := fun _ T D H => oI (t0 T) fun v0 => oI (t1 T) fun v1 => oP (syBin .and fAnd v1 (.int .i32 (.ofNat 31))) fun v2 => oP (syBin .shr shr2 v0 v2) fun v3 => oI v3 fun v4 => Out.nrm (sF (.i (.o .h)) v4 sI T) D H
def g243 (call : CallT) (_nl : Nat) : StT := (sSeq (g243r0 call) (sSeq (g243r1 call) (fun T D H => .ret T D H)))
def x243 : PT Unit := (.n (.n .l (some ()) .l) (some ()) (.n (.n .l (some ()) .l) none .l))
theorem k243 (F : PT FE) : Told (eF F) Tryz.f243 x243 g243 (rsV [.t (.i (.o .h))]) := toldN (by kernel_rfl) (bS (by kernel_rfl)) (fun _ _ => by kernel_rfl) (fun _ _ => by kernel_rfl)
def g244r0 : RT := fun _ T D H => oI ((.int .i32 (.ofNat 0))) fun v0 => Out.nrm (sF (.i (.o .h)) v0 sI T) D H
def g244r1 : RT := fun _ T D H => oI (t0 T) fun v0 => oP (avConv .u32 v0) fun v1 => oI (t1 T) fun v2 => oP (syBin .and fAnd v2 (.int .i32 (.ofNat 31))) fun v3 => oP (syBin .shr shr2 v1 v3) fun v4 => oP (avConv .i32 v4) fun v5 => oI v5 fun v6 => Out.nrm (sF (.i (.o .h)) v6 sI T) D H
def g244 (call : CallT) (_nl : Nat) : StT := (sSeq (g244r0 call) (sSeq (g244r1 call) (fun T D H => .ret T D H)))
def x244 : PT Unit := (.n (.n .l (some ()) .l) (some ()) (.n (.n .l (some ()) .l) none .l))
theorem k244 (F : PT FE) : Told (eF F) Tryz.f244 x244 g244 (rsV [.t (.i (.o .h))]) := toldN (by kernel_rfl) (bS (by kernel_rfl)) (fun _ _ => by kernel_rfl) (fun _ _ => by kernel_rfl)
def g253r0 : RT := fun _ T D H => oI ((.int .i32 (.ofNat 0))) fun v0 => oI (.bool false) fun v1 => Out.nrm (sF (.i (.i .h)) v1 (sF (.o (.i .h)) v0 sI) T) D H
def g253r1 : RT := fun call T D H => oP (ld1 (t2 T) H) fun v0 => oI (t0 T) fun v1 => oI (t1 T) fun v2 => cw (callV call v0 [v1, v2] H) D (pW T [(0, (.i (.i .h))), (1, (.o (.i .h)))]) fun v3 H => oI v3 fun v4 => oI (.bool true) fun v5 => Out.nrm (sF (.i (.i .h)) v5 (sF (.o (.i .h)) v4 sI) T) D H
def g253 (call : CallT) (_nl : Nat) : StT := (sSeq (g253r0 call) (sSeq (g253r1 call) (fun T D H => .ret T D H)))
def x253 : PT Unit := (.n (.n .l (some ()) (.n .l (some ()) .l)) (some ()) (.n .l (some ()) (.n .l (some ()) .l)))
theorem k253 (F : PT FE) : Told (eF F) Tryz.f253 x253 g253 (rsV [.t (.o (.i .h)), .t (.i (.i .h))]) := toldN (by kernel_rfl) (bS (by kernel_rfl)) (fun _ _ => by kernel_rfl) (fun _ _ => by kernel_rfl)
def g254r0 : RT := fun _ T D H => oI ((.int .i32 (.ofNat 0))) fun v0 => oI (.bool false) fun v1 => Out.nrm (sF (.i (.i .h)) v1 (sF (.o (.i .h)) v0 sI) T) D H
def g254r1 : RT := fun _ T D H => oI (t1 T) fun v0 => oP (opt (avEqN v0 (.int .i32 (.ofNat 0))) none bI) fun v1 => Out.nrm (sF (.i (.o (.o .h))) v1 sI T) D H
def g254r2 : RT := fun _ T D H => oI ((.int .i32 (.ofNat 0))) fun v0 => oI (.bool false) fun v1 => Out.nrm (sF (.i (.i .h)) v1 (sF (.o (.i .h)) v0 sI) T) D H
def g254r3 : RT := fun call T D H => oP (ld1 (t2 T) H) fun v0 => oI (t0 T) fun v1 => oI (t1 T) fun v2 => cw (callV call v0 [v1, v2] H) D (pW T [(0, (.i (.i .h))), (1, (.o (.i .h)))]) fun v3 H => oI v3 fun v4 => oI (.bool true) fun v5 => Out.nrm (sF (.i (.i .h)) v5 (sF (.o (.i .h)) v4 sI) T) D H
def g254 (call : CallT) (_nl : Nat) : StT := (sSeq (g254r0 call) (sSeq (sSeq (g254r1 call) (sCd (fun T => bq (t8 T)) (sSeq (g254r2 call) (fun T D H => .ret T D H)) sSkip)) (sSeq (g254r3 call) (fun T D H => .ret T D H))))
def x254 : PT Unit := (.n (.n .l (some ()) (.n .l (some ()) .l)) (some ()) (.n (.n (.n .l (some ()) .l) none .l) (some ()) (.n .l (some ()) .l)))
theorem k254 (F : PT FE) : Told (eF F) Tryz.f254 x254 g254 (rsV [.t (.o (.i .h)), .t (.i (.i .h))]) := toldN (by kernel_rfl) (bS (by kernel_rfl)) (fun _ _ => by kernel_rfl) (fun _ _ => by kernel_rfl)
end
end Go.Ev
