/- Texts of the program's functions, told beforehand; each with its proof. -/
import Derived.Test.YtmbpojfjpiahiaaGreatDoorEvZc
namespace Go.Ev
set_option maxRecDepth 100000
set_option linter.unusedVariables false
open Go.Proofs
noncomputable section
def g366r0 : RT := fun _ T D H => oI ((.int .u64 (.ofNat 0))) fun v0 => Out.nrm (sF (.i .h) v0 sI T) D H
def g366r1 : RT := fun call T D H => oI (t0 T) fun v0 => oP (avConv .u64 v0) fun v1 => cw (call 314 [v1] H) D (pW T [(0, (.i .h))]) fun v2 H => oP (syBin .shl shl2 (.int .u64 (.ofNat 1)) v2) fun v3 => oI v3 fun v4 => Out.nrm (sF (.i .h) v4 sI T) D H
def g366 (call : CallT) (_nl : Nat) : StT := (sSeq (g366r0 call) (sSeq (g366r1 call) (fun T D H => .ret T D H)))
def x366 : PT Unit := (.n .l (some ()) (.n .l (some ()) .l))
theorem k366 (F : PT FE) : Told (eF F) Tryz.f366 x366 g366 (rsV [.t (.i .h)]) := toldN (by kernel_rfl) (bS (by kernel_rfl)) (fun _ _ => by kernel_rfl) (fun _ _ => by kernel_rfl)
def g367r0 : RT := fun _ T D H => oI ((.int .u64 (.ofNat 0))) fun v0 => Out.nrm (sF (.i .h) v0 sI T) D H
def g367r1 : RT := fun _ T D H => oI (t0 T) fun v0 => oP (avNC v0) fun v1 => oP (ld1 v1 H) fun v2 => oI (t0 T) fun v3 => oP (avNC v3) fun v4 => oP (ld1 v4 H) fun v5 => oP (syBin .shl shl2 v5 (.int .u64 (.ofNat 13))) fun v6 => oP (syBin .xor fXor v2 v6) fun v7 => oP (avNC v0) fun v8 => ow (st 1 v8 v7 H) fun v9 H => Out.nrm T D H
def g367r2 : RT := fun _ T D H => oI (t0 T) fun v0 => oP (avNC v0) fun v1 => oP (ld1 v1 H) fun v2 => oI (t0 T) fun v3 => oP (avNC v3) fun v4 => oP (ld1 v4 H) fun v5 => oP (syBin .shr shr2 v5 (.int .u64 (.ofNat 7))) fun v6 => oP (syBin .xor fXor v2 v6) fun v7 => oP (avNC v0) fun v8 => ow (st 1 v8 v7 H) fun v9 H => Out.nrm T D H
def g367r3 : RT := fun _ T D H => oI (t0 T) fun v0 => oP (avNC v0) fun v1 => oP (ld1 v1 H) fun v2 => oI (t0 T) fun v3 => oP (avNC v3) fun v4 => oP (ld1 v4 H) fun v5 => oP (syBin .shl shl2 v5 (.int .u64 (.ofNat 17))) fun v6 => oP (syBin .xor fXor v2 v6) fun v7 => oP (avNC v0) fun v8 => ow (st 1 v8 v7 H) fun v9 H => Out.nrm T D H
def g367r4 : RT := fun _ T D H => oI (t0 T) fun v0 => oP (avNC v0) fun v1 => oP (ld1 v1 H) fun v2 => oI v2 fun v3 => Out.nrm (sF (.i .h) v3 sI T) D H
def g367 (call : CallT) (_nl : Nat) : StT := (sSeq (g367r0 call) (sSeq (g367r1 call) (sSeq (g367r2 call) (sSeq (g367r3 call) (sSeq (g367r4 call) (fun T D H => .ret T D H))))))
def x367 : PT Unit := (.n .l (some ()) (.n .l (some ()) .l))
theorem k367 (F : PT FE) : Told (eF F) Tryz.f367 x367 g367 (rsV [.t (.i .h)]) := toldN (by kernel_rfl) (bS (by kernel_rfl)) (fun _ _ => by kernel_rfl) (fun _ _ => by kernel_rfl)
def g368r0 : RT := fun _ T D H => oI (iN 0) fun v0 => Out.nrm (sF (.i (.i .h)) v0 sI T) D H
def g368r1 : RT := fun call T D H => oI (t0 T) fun v0 => oI (t1 T) fun v1 => oP (syBin .sub fSub v1 (iN 1)) fun v2 => oI (t1 T) fun v3 => oI (t1 T) fun v4 => oP (syBin .add strApp v4 (iN 1)) fun v5 => oI (t2 T) fun v6 => cw (call 369 [v0, v2, v3, v5, v6] H) D (pW T [(0, (.i (.i .h)))]) fun v7 H => oI v7 fun v8 => Out.nrm (sF (.i (.i .h)) v8 sI T) D H
def g368 (call : CallT) (_nl : Nat) : StT := (sSeq (g368r0 call) (sSeq (g368r1 call) (fun T D H => .ret T D H)))
def x368 : PT Unit := (.n (.n .l (some ()) .l) (some ()) (.n .l (some ()) (.n .l (some ()) .l)))
theorem k368 (F : PT FE) : Told (eF F) Tryz.f368 x368 g368 (rsV [.t (.i (.i .h))]) := toldN (by kernel_rfl) (bS (by kernel_rfl)) (fun _ _ => by kernel_rfl) (fun _ _ => by kernel_rfl)
def g369r0 : RT := fun _ T D H => oI (iN 0) fun v0 => Out.nrm (sF (.i (.i (.o .h))) v0 sI T) D H
def g369r1 : RT := fun call T D H => oI (t0 T) fun v0 => oI (t1 T) fun v1 => oI (t2 T) fun v2 => oI (t4 T) fun v3 => cw (call 375 [v0, v1, v2, v3] H) D (pW T [(0, (.i .h)), (1, (.o .h))]) fun v4 H => oI v4 fun v5 => oP (avExt 0 v5) fun v6 => oP (avExt 1 v5) fun v7 => oI v6 fun v8 => oI v7 fun v9 => Out.nrm (sF (.i .h) v9 (sF (.o .h) v8 sI) T) D H
def g369r2 : RT := fun call T D H => oI (t0 T) fun v0 => oI (t2 T) fun v1 => oI (t3 T) fun v2 => oI (t4 T) fun v3 => cw (call 375 [v0, v1, v2, v3] H) D (pW T [(0, (.o (.o .h))), (1, (.i .h))]) fun v4 H => oI v4 fun v5 => oP (avExt 0 v5) fun v6 => oP (avExt 1 v5) fun v7 => oI v6 fun v8 => oI v7 fun v9 => Out.nrm (sF (.o (.o .h)) v9 (sF (.i .h) v8 sI) T) D H
def g369r3 : RT := fun call T D H => oI (t0 T) fun v0 => oI (t1 T) fun v1 => oI (t2 T) fun v2 => oI (t4 T) fun v3 => cw (call 375 [v0, v1, v2, v3] H) D (pW T [(0, (.i .h)), (1, (.o .h))]) fun v4 H => oI v4 fun v5 => oP (avExt 0 v5) fun v6 => oP (avExt 1 v5) fun v7 => oI v6 fun v8 => oI v7 fun v9 => Out.nrm (sF (.i .h) v9 (sF (.o .h) v8 sI) T) D H
def g369r4 : RT := fun _ T D H => oI (t2 T) fun v0 => oI v0 fun v1 => Out.nrm (sF (.i (.i (.o .h))) v1 sI T) D H
def g369 (call : CallT) (_nl : Nat) : StT := (sSeq (g369r0 call) (sSeq (g369r1 call) (sSeq (g369r2 call) (sSeq (g369r3 call) (sSeq (g369r4 call) (fun T D H => .ret T D H))))))
def x369 : PT Unit := (.n (.n (.n .l (some ()) .l) (some ()) .l) (some ()) (.n (.n .l (some ()) .l) (some ()) (.n (.n .l (some ()) .l) none .l)))
theorem k369 (F : PT FE) : Told (eF F) Tryz.f369 x369 g369 (rsV [.t (.i (.i (.o .h)))]) := toldN (by kernel_rfl) (bS (by kernel_rfl)) (fun _ _ => by kernel_rfl) (fun _ _ => by kernel_rfl)
def g370r0 : RT := fun _ T D H => oI (.bool false) fun v0 => Out.nrm (sF (.i .h) v0 sI T) D H
def g370r1 : RT := fun _ T D H => oI (t0 T) fun v0 => oI (t0 T) fun v1 => oP (opt (avEqN v0 v1) none bN) fun v2 => oI v2 fun v3 => Out.nrm (sF (.i .h) v3 sI T) D H
def g370 (call : CallT) (_nl : Nat) : StT := (sSeq (g370r0 call) (sSeq (g370r1 call) (fun T D H => .ret T D H)))
def x370 : PT Unit := (.n .l (some ()) (.n .l (some ()) .l))
theorem k370 (F : PT FE) : Told (eF F) Tryz.f370 x370 g370 (rsV [.t (.i .h)]) := toldN (by kernel_rfl) (bS (by kernel_rfl)) (fun _ _ => by kernel_rfl) (fun _ _ => by kernel_rfl)
def g375r0 : RT := fun _ T D H => oI (iN 0) fun v0 => oI (iN 0) fun v1 => Out.nrm (sF (.o (.i (.o .h))) v1 (sF (.i (.o (.o .h))) v0 sI) T) D H
def g375r1 : RT := fun call T D H => oI (t0 T) fun v0 => oI (t2 T) fun v1 => oP (avIA 1 v0 v1) fun v2 => oP (ld1 v2 H) fun v3 => oI (t0 T) fun v4 => oI (t1 T) fun v5 => oP (avIA 1 v4 v5) fun v6 => oP (ld1 v6 H) fun v7 => cw (call 340 [v3, v7] H) D (pW T [(0, (.i (.i (.o (.o .h)))))]) fun v8 H => Out.nrm (sF (.i (.i (.o (.o .h)))) v8 sI T) D H
def g375r2 : RT := fun _ T D H => oI (t3 T) fun v0 => oP (avNC v0) fun v1 => oP (ld1 v1 H) fun v2 => oP (syBin .add strApp v2 (iN 1)) fun v3 => oP (avNC v0) fun v4 => ow (st 1 v4 v3 H) fun v5 H => Out.nrm T D H
def g375r3 : RT := fun _ T D H => oI (t2 T) fun v0 => oI (t1 T) fun v1 => oI v0 fun v2 => oI v1 fun v3 => Out.nrm (sF (.o (.i (.o .h))) v3 (sF (.i (.o (.o .h))) v2 sI) T) D H
def g375r4 : RT := fun _ T D H => oI (t1 T) fun v0 => oI (t2 T) fun v1 => oI v0 fun v2 => oI v1 fun v3 => Out.nrm (sF (.o (.i (.o .h))) v3 (sF (.i (.o (.o .h))) v2 sI) T) D H
def g375 (call : CallT) (_nl : Nat) : StT := (sSeq (g375r0 call) (sSeq (sSeq (g375r1 call) (sCd (fun T => bq (t18 T)) (sSeq (g375r2 call) (sSeq (g375r3 call) (fun T D H => .ret T D H))) sSkip)) (sSeq (g375r4 call) (fun T D H => .ret T D H))))
def x375 : PT Unit := (.n (.n (.n .l (some ()) .l) (some ()) (.n (.n .l (some ()) .l) none .l)) (some ()) (.n (.n (.n .l (some ()) .l) none .l) (some ()) (.n (.n (.n .l (some ()) .l) none .l) none .l)))
theorem k375 (F : PT FE) : Told (eF F) Tryz.f375 x375 g375 (rsV [.t (.i (.o (.o .h))), .t (.o (.i (.o .h)))]) := toldN (by kernel_rfl) (bS (by kernel_rfl)) (fun _ _ => by kernel_rfl) (fun _ _ => by kernel_rfl)
end
end Go.Ev
