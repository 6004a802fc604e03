/- Runs of 'RunReads' in the kernel. -/
import Derived.Test.YtbehlkbeofoahaaGreatDoorEvRd
namespace Go.Ev
set_option maxRecDepth 100000
theorem reads_run_0_0 : (fun c : Nat => isTrue (evC envR 100000 1000 9 [.sl (Pos.of 1) 0 0 (.ex c), andArg 7 0] (HR 0))) = fun _ => true := by kernel_rfl
theorem reads_run_0_1 : (fun c : Nat => isTrue (evC envR 100000 1000 9 [.sl (Pos.of 1) 0 0 (.ex c), andArg 7 1] (HR 0))) = fun _ => true := by kernel_rfl
theorem reads_run_0_2 : (fun c : Nat => isTrue (evC envR 100000 1000 9 [.sl (Pos.of 1) 0 0 (.ex c), andArg 7 2] (HR 0))) = fun _ => true := by kernel_rfl
theorem reads_run_0_3 : (fun c : Nat => isTrue (evC envR 100000 1000 9 [.sl (Pos.of 1) 0 0 (.ex c), andArg 7 3] (HR 0))) = fun _ => true := by kernel_rfl
theorem reads_run_0_4 : (fun c : Nat => isTrue (evC envR 100000 1000 9 [.sl (Pos.of 1) 0 0 (.ex c), andArg 7 4] (HR 0))) = fun _ => true := by kernel_rfl
theorem reads_run_0_5 : (fun c : Nat => isTrue (evC envR 100000 1000 9 [.sl (Pos.of 1) 0 0 (.ex c), andArg 7 5] (HR 0))) = fun _ => true := by kernel_rfl
theorem reads_run_0_6 : (fun c : Nat => isTrue (evC envR 100000 1000 9 [.sl (Pos.of 1) 0 0 (.ex c), andArg 7 6] (HR 0))) = fun _ => true := by kernel_rfl
theorem reads_run_0_7 : (fun c : Nat => isTrue (evC envR 100000 1000 9 [.sl (Pos.of 1) 0 0 (.ex c), andArg 7 7] (HR 0))) = fun _ => true := by kernel_rfl
end Go.Ev
