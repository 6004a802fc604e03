/- Texts of the program's functions, told beforehand; each with its proof. -/
import Derived.Test.YtbehlkbeofoahaaGreatDoorEvZc
namespace Go.Ev
set_option maxRecDepth 100000
set_option linter.unusedVariables false
open Go.Proofs
noncomputable section
def g280r0 : RT := fun _ T D H => oI (.snil) fun v0 => Out.nrm (sF (.i .h) v0 sI T) D H
def g280r1 : RT := fun _ T D H => oI (t0 T) fun v0 => oP (opt (avEqS v0 .snil) none bI) fun v1 => Out.nrm (sF (.i (.o .h)) v1 sI T) D H
def g280r2 : RT := fun _ T D H => oI (.snil) fun v0 => Out.nrm (sF (.i .h) v0 sI T) D H
def g280r3 : RT := fun _ T D H => opt (bslF [] zc186 0 []) Out.no fun p0 => Hp.new H p0.1 fun b0 H => oI (t0 T) fun v1 => ow (apd 2 (p0.2.av b0) v1 H) fun v2 H => oI v2 fun v3 => Out.nrm (sF (.i .h) v3 sI T) D H
def g280 (call : CallT) (_nl : Nat) : StT := (sSeq (g280r0 call) (sSeq (sSeq (g280r1 call) (sCd (fun T => bq (t4 T)) (sSeq (g280r2 call) (fun T D H => .ret T D H)) sSkip)) (sSeq (g280r3 call) (fun T D H => .ret T D H))))
def x280 : PT Unit := (.n .l (some ()) (.n (.n .l (some ()) .l) (some ()) .l))
theorem k280 (F : PT FE) : Told (eF F) Tryz.f280 x280 g280 (rsV [.t (.i .h)]) := toldN (by kernel_rfl) (bS (by kernel_rfl)) (fun _ _ => by kernel_rfl) (fun _ _ => by kernel_rfl)
end
end Go.Ev
