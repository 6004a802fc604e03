/- Texts of the program's functions, told beforehand; each with its proof. -/
import Derived.Test.YtmjccopjophgjaaGreatDoorEvZc
namespace Go.Ev
set_option maxRecDepth 100000
open Go.Proofs
noncomputable section
def g273r0 : RT := fun _ T D H => rg T [(0, (.i .h))] (oI (.snil) fun v0 => RO.nrm [v0] D H)
def g273r1 : RT := fun _ T D H => rg T [(0, (.i (.o .h)))] (oI (t0 T) fun v0 => oP (opt (avEqS v0 .snil) none bI) fun v1 => RO.nrm [v1, v0] D H)
def g273r2 : RT := fun _ T D H => rg T [(0, (.i .h))] (oI (.snil) fun v0 => RO.nrm [v0] D H)
def g273r3 : RT := fun _ T D H => rg T [(0, (.i .h))] (opt (bslF [] zc180 0 []) RO.no fun p0 => Hp.new H p0.1 fun b0 H => oI (t0 T) fun v1 => ov (apd 2 (p0.2.av b0) v1 H) fun v2 H => oI v2 fun v3 => RO.nrm [v3, v2, v1, (p0.2.av b0)] D H)
def g273 (call : CallT) (_nl : Nat) : StT := (sSeq (g273r0 call) (sSeq (sSeq (g273r1 call) (sCd (fun T => bq (t4 T)) (sSeq (g273r2 call) (fun T D H => .ret T D H)) sSkip)) (sSeq (g273r3 call) (fun T D H => .ret T D H))))
def x273 : PT Unit := (.n .l (some ()) (.n (.n .l (some ()) .l) (some ()) .l))
theorem k273 (F : PT FE) : Told (eF F) Tryz.f273 x273 g273 (rsV [.t (.i .h)]) := ⟨by kernel_rfl, bS (by kernel_rfl), fun _ _ => by kernel_rfl, fun _ _ => by kernel_rfl⟩
def g283r0 : RT := fun _ T D H => rg T [(0, .h)] (oI (.snil) fun v0 => RO.nrm [v0] D H)
def g283r1 : RT := fun call T D H => rg T [(0, .h)] (cv (call 286 [(.fn (.func 287) [] [])] H) D fun v0 H => cv (call 286 [(.fn (.func 288) [] [])] H) D fun v1 H => cv (call 286 [(.fn (.func 289) [] [])] H) D fun v2 H => cv (call 290 [(.fn (.func 291) [] [])] H) D fun v3 H => cv (call 290 [(.fn (.func 292) [] [])] H) D fun v4 H => cv (call 286 [(.fn (.func 293) [] [])] H) D fun v5 H => cv (call 286 [(.fn (.func 294) [] [])] H) D fun v6 H => cv (call 286 [(.fn (.func 295) [] [])] H) D fun v7 H => cv (call 286 [(.fn (.func 296) [] [])] H) D fun v8 H => cv (call 286 [(.fn (.func 297) [] [])] H) D fun v9 H => cv (call 286 [(.fn (.func 298) [] [])] H) D fun v10 H => cv (call 286 [(.fn (.func 299) [] [])] H) D fun v11 H => opt (bslF [(0, 1), (1, 1), (2, 1), (3, 1), (4, 1), (5, 1), (6, 1), (7, 1), (8, 1), (9, 1), (10, 1), (11, 1)] zc369 12 [v0, v1, v2, v3, v4, v5, v6, v7, v8, v9, v10, v11]) RO.no fun p12 => Hp.new H p12.1 fun b12 H => oI (p12.2.av b12) fun v13 => RO.nrm [v13, (p12.2.av b12), v11, v10, v9, v8, v7, v6, v5, v4, v3, v2, v1, v0] D H)
def g283 (call : CallT) (_nl : Nat) : StT := (sSeq (g283r0 call) (sSeq (g283r1 call) (fun T D H => .ret T D H)))
def x283 : PT Unit := (.n .l (some ()) .l)
theorem k283 (F : PT FE) : Told (eF F) Tryz.f283 x283 g283 (rsV [.t .h]) := ⟨by kernel_rfl, bS (by kernel_rfl), fun _ _ => by kernel_rfl, fun _ _ => by kernel_rfl⟩
def g286r0 : RT := fun _ T D H => rg T [(0, (.i .h)), (1, (.o .h))] (opt (boxF [(t0 T)]) RO.no fun p0 => Hp.new H p0.1 fun b0 H => oI (.fnil) fun v1 => RO.nrm [v1, (p0.2.av b0)] D H)
def g286r1 : RT := fun _ T D H => rg T [(0, (.i .h))] (oP (mkfF (.func 302) 0 [(t1 T)]) fun v0 => oI v0 fun v1 => RO.nrm [v1, v0] D H)
def g286 (call : CallT) (_nl : Nat) : StT := (sSeq (g286r0 call) (sSeq (g286r1 call) (fun T D H => .ret T D H)))
def x286 : PT Unit := (.n (.n .l (some ()) .l) (some ()) (.n .l (some ()) .l))
theorem k286 (F : PT FE) : Told (eF F) Tryz.f286 x286 g286 (rsV [.t (.i .h)]) := ⟨by kernel_rfl, bS (by kernel_rfl), fun _ _ => by kernel_rfl, fun _ _ => by kernel_rfl⟩
def g287r0 : RT := fun _ T D H => rg T [(0, (.i (.o .h)))] (oI ((.int .i32 (.ofNat 0))) fun v0 => RO.nrm [v0] D H)
def g287r1 : RT := fun _ T D H => rg T [(0, (.i (.o .h)))] (oI (t0 T) fun v0 => oI (t1 T) fun v1 => oP (syBin .add strApp v0 v1) fun v2 => oI v2 fun v3 => RO.nrm [v3, v2, v1, v0] D H)
def g287 (call : CallT) (_nl : Nat) : StT := (sSeq (g287r0 call) (sSeq (g287r1 call) (fun T D H => .ret T D H)))
def x287 : PT Unit := (.n (.n .l (some ()) .l) (some ()) (.n (.n .l (some ()) .l) none .l))
theorem k287 (F : PT FE) : Told (eF F) Tryz.f287 x287 g287 (rsV [.t (.i (.o .h))]) := ⟨by kernel_rfl, bS (by kernel_rfl), fun _ _ => by kernel_rfl, fun _ _ => by kernel_rfl⟩
def g288r0 : RT := fun _ T D H => rg T [(0, (.i (.o .h)))] (oI ((.int .i32 (.ofNat 0))) fun v0 => RO.nrm [v0] D H)
def g288r1 : RT := fun _ T D H => rg T [(0, (.i (.o .h)))] (oI (t0 T) fun v0 => oI (t1 T) fun v1 => oP (syBin .sub fSub v0 v1) fun v2 => oI v2 fun v3 => RO.nrm [v3, v2, v1, v0] D H)
def g288 (call : CallT) (_nl : Nat) : StT := (sSeq (g288r0 call) (sSeq (g288r1 call) (fun T D H => .ret T D H)))
def x288 : PT Unit := (.n (.n .l (some ()) .l) (some ()) (.n (.n .l (some ()) .l) none .l))
theorem k288 (F : PT FE) : Told (eF F) Tryz.f288 x288 g288 (rsV [.t (.i (.o .h))]) := ⟨by kernel_rfl, bS (by kernel_rfl), fun _ _ => by kernel_rfl, fun _ _ => by kernel_rfl⟩
def g289r0 : RT := fun _ T D H => rg T [(0, (.i (.o .h)))] (oI ((.int .i32 (.ofNat 0))) fun v0 => RO.nrm [v0] D H)
def g289r1 : RT := fun _ T D H => rg T [(0, (.i (.o .h)))] (oI (t0 T) fun v0 => oI (t1 T) fun v1 => oP (syBin .mul fMul v0 v1) fun v2 => oI v2 fun v3 => RO.nrm [v3, v2, v1, v0] D H)
def g289 (call : CallT) (_nl : Nat) : StT := (sSeq (g289r0 call) (sSeq (g289r1 call) (fun T D H => .ret T D H)))
def x289 : PT Unit := (.n (.n .l (some ()) .l) (some ()) (.n (.n .l (some ()) .l) none .l))
theorem k289 (F : PT FE) : Told (eF F) Tryz.f289 x289 g289 (rsV [.t (.i (.o .h))]) := ⟨by kernel_rfl, bS (by kernel_rfl), fun _ _ => by kernel_rfl, fun _ _ => by kernel_rfl⟩
def g290r0 : RT := fun _ T D H => rg T [(0, (.i .h)), (1, (.o .h))] (opt (boxF [(t0 T)]) RO.no fun p0 => Hp.new H p0.1 fun b0 H => oI (.fnil) fun v1 => RO.nrm [v1, (p0.2.av b0)] D H)
def g290r1 : RT := fun _ T D H => rg T [(0, (.i .h))] (oP (mkfF (.func 303) 0 [(t1 T)]) fun v0 => oI v0 fun v1 => RO.nrm [v1, v0] D H)
def g290 (call : CallT) (_nl : Nat) : StT := (sSeq (g290r0 call) (sSeq (g290r1 call) (fun T D H => .ret T D H)))
def x290 : PT Unit := (.n (.n .l (some ()) .l) (some ()) (.n .l (some ()) .l))
theorem k290 (F : PT FE) : Told (eF F) Tryz.f290 x290 g290 (rsV [.t (.i .h)]) := ⟨by kernel_rfl, bS (by kernel_rfl), fun _ _ => by kernel_rfl, fun _ _ => by kernel_rfl⟩
def g291r0 : RT := fun _ T D H => rg T [(0, (.i (.o .h)))] (oI ((.int .i32 (.ofNat 0))) fun v0 => RO.nrm [v0] D H)
def g291r1 : RT := fun _ T D H => rg T [(0, (.i (.o .h)))] (oI (t0 T) fun v0 => oP (avConv .i64 v0) fun v1 => oI (t1 T) fun v2 => oP (avConv .i64 v2) fun v3 => oP (syBin .quo fQuo v1 v3) fun v4 => oP (avConv .i32 v4) fun v5 => oI v5 fun v6 => RO.nrm [v6, v5, v4, v3, v2, v1, v0] D H)
def g291 (call : CallT) (_nl : Nat) : StT := (sSeq (g291r0 call) (sSeq (g291r1 call) (fun T D H => .ret T D H)))
def x291 : PT Unit := (.n (.n .l (some ()) .l) (some ()) (.n (.n .l (some ()) .l) none .l))
theorem k291 (F : PT FE) : Told (eF F) Tryz.f291 x291 g291 (rsV [.t (.i (.o .h))]) := ⟨by kernel_rfl, bS (by kernel_rfl), fun _ _ => by kernel_rfl, fun _ _ => by kernel_rfl⟩
def g292r0 : RT := fun _ T D H => rg T [(0, (.i (.o .h)))] (oI ((.int .i32 (.ofNat 0))) fun v0 => RO.nrm [v0] D H)
def g292r1 : RT := fun _ T D H => rg T [(0, (.i (.o .h)))] (oI (t0 T) fun v0 => oP (avConv .i64 v0) fun v1 => oI (t1 T) fun v2 => oP (avConv .i64 v2) fun v3 => oP (syBin .rem fRem v1 v3) fun v4 => oP (avConv .i32 v4) fun v5 => oI v5 fun v6 => RO.nrm [v6, v5, v4, v3, v2, v1, v0] D H)
def g292 (call : CallT) (_nl : Nat) : StT := (sSeq (g292r0 call) (sSeq (g292r1 call) (fun T D H => .ret T D H)))
def x292 : PT Unit := (.n (.n .l (some ()) .l) (some ()) (.n (.n .l (some ()) .l) none .l))
theorem k292 (F : PT FE) : Told (eF F) Tryz.f292 x292 g292 (rsV [.t (.i (.o .h))]) := ⟨by kernel_rfl, bS (by kernel_rfl), fun _ _ => by kernel_rfl, fun _ _ => by kernel_rfl⟩
def g293r0 : RT := fun _ T D H => rg T [(0, (.i (.o .h)))] (oI ((.int .i32 (.ofNat 0))) fun v0 => RO.nrm [v0] D H)
def g293r1 : RT := fun _ T D H => rg T [(0, (.i (.o .h)))] (oI (t0 T) fun v0 => oP (avNeg v0) fun v1 => oI v1 fun v2 => RO.nrm [v2, v1, v0] D H)
def g293 (call : CallT) (_nl : Nat) : StT := (sSeq (g293r0 call) (sSeq (g293r1 call) (fun T D H => .ret T D H)))
def x293 : PT Unit := (.n (.n .l (some ()) .l) (some ()) (.n (.n .l (some ()) .l) none .l))
theorem k293 (F : PT FE) : Told (eF F) Tryz.f293 x293 g293 (rsV [.t (.i (.o .h))]) := ⟨by kernel_rfl, bS (by kernel_rfl), fun _ _ => by kernel_rfl, fun _ _ => by kernel_rfl⟩
def g294r0 : RT := fun _ T D H => rg T [(0, (.i (.o .h)))] (oI ((.int .i32 (.ofNat 0))) fun v0 => RO.nrm [v0] D H)
def g294r1 : RT := fun _ T D H => rg T [(0, (.i (.o .h)))] (oI (t0 T) fun v0 => oI (t1 T) fun v1 => oP (syBin .and fAnd v0 v1) fun v2 => oI v2 fun v3 => RO.nrm [v3, v2, v1, v0] D H)
def g294 (call : CallT) (_nl : Nat) : StT := (sSeq (g294r0 call) (sSeq (g294r1 call) (fun T D H => .ret T D H)))
def x294 : PT Unit := (.n (.n .l (some ()) .l) (some ()) (.n (.n .l (some ()) .l) none .l))
theorem k294 (F : PT FE) : Told (eF F) Tryz.f294 x294 g294 (rsV [.t (.i (.o .h))]) := ⟨by kernel_rfl, bS (by kernel_rfl), fun _ _ => by kernel_rfl, fun _ _ => by kernel_rfl⟩
def g295r0 : RT := fun _ T D H => rg T [(0, (.i (.o .h)))] (oI ((.int .i32 (.ofNat 0))) fun v0 => RO.nrm [v0] D H)
def g295r1 : RT := fun _ T D H => rg T [(0, (.i (.o .h)))] (oI (t0 T) fun v0 => oI (t1 T) fun v1 => oP (syBin .or fOr v0 v1) fun v2 => oI v2 fun v3 => RO.nrm [v3, v2, v1, v0] D H)
def g295 (call : CallT) (_nl : Nat) : StT := (sSeq (g295r0 call) (sSeq (g295r1 call) (fun T D H => .ret T D H)))
def x295 : PT Unit := (.n (.n .l (some ()) .l) (some ()) (.n (.n .l (some ()) .l) none .l))
theorem k295 (F : PT FE) : Told (eF F) Tryz.f295 x295 g295 (rsV [.t (.i (.o .h))]) := ⟨by kernel_rfl, bS (by kernel_rfl), fun _ _ => by kernel_rfl, fun _ _ => by kernel_rfl⟩
def g296r0 : RT := fun _ T D H => rg T [(0, (.i (.o .h)))] (oI ((.int .i32 (.ofNat 0))) fun v0 => RO.nrm [v0] D H)
def g296r1 : RT := fun _ T D H => rg T [(0, (.i (.o .h)))] (oI (t0 T) fun v0 => oI (t1 T) fun v1 => oP (syBin .xor fXor v0 v1) fun v2 => oI v2 fun v3 => RO.nrm [v3, v2, v1, v0] D H)
def g296 (call : CallT) (_nl : Nat) : StT := (sSeq (g296r0 call) (sSeq (g296r1 call) (fun T D H => .ret T D H)))
def x296 : PT Unit := (.n (.n .l (some ()) .l) (some ()) (.n (.n .l (some ()) .l) none .l))
theorem k296 (F : PT FE) : Told (eF F) Tryz.f296 x296 g296 (rsV [.t (.i (.o .h))]) := ⟨by kernel_rfl, bS (by kernel_rfl), fun _ _ => by kernel_rfl, fun _ _ => by kernel_rfl⟩
def g297r0 : RT := fun _ T D H => rg T [(0, (.i (.o .h)))] (oI ((.int .i32 (.ofNat 0))) fun v0 => RO.nrm [v0] D H)
def g297r1 : RT := fun _ T D H => rg T [(0, (.i (.o .h)))] (oI (t0 T) fun v0 => oI (t1 T) fun v1 => oP (syBin .and fAnd v1 (.int .i32 (.ofNat 31))) fun v2 => oP (syBin .shl shl2 v0 v2) fun v3 => oI v3 fun v4 => RO.nrm [v4, v3, v2, v1, v0] D H)
def g297 (call : CallT) (_nl : Nat) : StT := (sSeq (g297r0 call) (sSeq (g297r1 call) (fun T D H => .ret T D H)))
def x297 : PT Unit := (.n (.n .l (some ()) .l) (some ()) (.n (.n .l (some ()) .l) none .l))
theorem k297 (F : PT FE) : Told (eF F) Tryz.f297 x297 g297 (rsV [.t (.i (.o .h))]) := ⟨by kernel_rfl, bS (by kernel_rfl), fun _ _ => by kernel_rfl, fun _ _ => by kernel_rfl⟩
def g298r0 : RT := fun _ T D H => rg T [(0, (.i (.o .h)))] (oI ((.int .i32 (.ofNat 0))) fun v0 => RO.nrm [v0] D H)
def g298r1 : RT := fun _ T D H => rg T [(0, (.i (.o .h)))] (oI (t0 T) fun v0 => oI (t1 T) fun v1 => oP (syBin .and fAnd v1 (.int .i32 (.ofNat 31))) fun v2 => oP (syBin .shr shr2 v0 v2) fun v3 => oI v3 fun v4 => RO.nrm [v4, v3, v2, v1, v0] D H)
def g298 (call : CallT) (_nl : Nat) : StT := (sSeq (g298r0 call) (sSeq (g298r1 call) (fun T D H => .ret T D H)))
def x298 : PT Unit := (.n (.n .l (some ()) .l) (some ()) (.n (.n .l (some ()) .l) none .l))
theorem k298 (F : PT FE) : Told (eF F) Tryz.f298 x298 g298 (rsV [.t (.i (.o .h))]) := ⟨by kernel_rfl, bS (by kernel_rfl), fun _ _ => by kernel_rfl, fun _ _ => by kernel_rfl⟩
def g299r0 : RT := fun _ T D H => rg T [(0, (.i (.o .h)))] (oI ((.int .i32 (.ofNat 0))) fun v0 => RO.nrm [v0] D H)
def g299r1 : RT := fun _ T D H => rg T [(0, (.i (.o .h)))] (oI (t0 T) fun v0 => oP (avConv .u32 v0) fun v1 => oI (t1 T) fun v2 => oP (syBin .and fAnd v2 (.int .i32 (.ofNat 31))) fun v3 => oP (syBin .shr shr2 v1 v3) fun v4 => oP (avConv .i32 v4) fun v5 => oI v5 fun v6 => RO.nrm [v6, v5, v4, v3, v2, v1, v0] D H)
def g299 (call : CallT) (_nl : Nat) : StT := (sSeq (g299r0 call) (sSeq (g299r1 call) (fun T D H => .ret T D H)))
def x299 : PT Unit := (.n (.n .l (some ()) .l) (some ()) (.n (.n .l (some ()) .l) none .l))
theorem k299 (F : PT FE) : Told (eF F) Tryz.f299 x299 g299 (rsV [.t (.i (.o .h))]) := ⟨by kernel_rfl, bS (by kernel_rfl), fun _ _ => by kernel_rfl, fun _ _ => by kernel_rfl⟩
def g302r0 : RT := fun _ T D H => rg T [(0, (.i (.i .h))), (1, (.o (.i .h)))] (oI ((.int .i32 (.ofNat 0))) fun v0 => oI (.bool false) fun v1 => RO.nrm [v1, v0] D H)
def g302r1 : RT := fun call T D H => rg T [(0, (.i (.i .h))), (1, (.o (.i .h)))] (oP (ld1 (t2 T) H) fun v0 => oI (t0 T) fun v1 => oI (t1 T) fun v2 => cv (callV call v0 [v1, v2] H) D fun v3 H => oI v3 fun v4 => oI (.bool true) fun v5 => RO.nrm [v5, v4, v3, v2, v1, v0] D H)
def g302 (call : CallT) (_nl : Nat) : StT := (sSeq (g302r0 call) (sSeq (g302r1 call) (fun T D H => .ret T D H)))
def x302 : PT Unit := (.n (.n .l (some ()) (.n .l (some ()) .l)) (some ()) (.n .l (some ()) (.n .l (some ()) .l)))
theorem k302 (F : PT FE) : Told (eF F) Tryz.f302 x302 g302 (rsV [.t (.o (.i .h)), .t (.i (.i .h))]) := ⟨by kernel_rfl, bS (by kernel_rfl), fun _ _ => by kernel_rfl, fun _ _ => by kernel_rfl⟩
def g303r0 : RT := fun _ T D H => rg T [(0, (.i (.i .h))), (1, (.o (.i .h)))] (oI ((.int .i32 (.ofNat 0))) fun v0 => oI (.bool false) fun v1 => RO.nrm [v1, v0] D H)
def g303r1 : RT := fun _ T D H => rg T [(0, (.i (.o (.o .h))))] (oI (t1 T) fun v0 => oP (opt (avEqN v0 (.int .i32 (.ofNat 0))) none bI) fun v1 => RO.nrm [v1, v0] D H)
def g303r2 : RT := fun _ T D H => rg T [(0, (.i (.i .h))), (1, (.o (.i .h)))] (oI ((.int .i32 (.ofNat 0))) fun v0 => oI (.bool false) fun v1 => RO.nrm [v1, v0] D H)
def g303r3 : RT := fun call T D H => rg T [(0, (.i (.i .h))), (1, (.o (.i .h)))] (oP (ld1 (t2 T) H) fun v0 => oI (t0 T) fun v1 => oI (t1 T) fun v2 => cv (callV call v0 [v1, v2] H) D fun v3 H => oI v3 fun v4 => oI (.bool true) fun v5 => RO.nrm [v5, v4, v3, v2, v1, v0] D H)
def g303 (call : CallT) (_nl : Nat) : StT := (sSeq (g303r0 call) (sSeq (sSeq (g303r1 call) (sCd (fun T => bq (t8 T)) (sSeq (g303r2 call) (fun T D H => .ret T D H)) sSkip)) (sSeq (g303r3 call) (fun T D H => .ret T D H))))
def x303 : PT Unit := (.n (.n .l (some ()) (.n .l (some ()) .l)) (some ()) (.n (.n (.n .l (some ()) .l) none .l) (some ()) (.n .l (some ()) .l)))
theorem k303 (F : PT FE) : Told (eF F) Tryz.f303 x303 g303 (rsV [.t (.o (.i .h)), .t (.i (.i .h))]) := ⟨by kernel_rfl, bS (by kernel_rfl), fun _ _ => by kernel_rfl, fun _ _ => by kernel_rfl⟩
end
end Go.Ev
