/- Runs of 'RunReads' in the kernel. -/
import Derived.Test.YtbehlkbeofoahaaGreatDoorEvRd
namespace Go.Ev
set_option maxRecDepth 100000
theorem reads_run_2_0 : (fun c : Nat => isTrue (evC envR 100000 1000 9 [.sl (Pos.of 1) 0 2 (.ex c), andArg 7 0] (HR 2))) = fun _ => true := by kernel_rfl
theorem reads_run_2_1 : (fun c : Nat => isTrue (evC envR 100000 1000 9 [.sl (Pos.of 1) 0 2 (.ex c), andArg 7 1] (HR 2))) = fun _ => true := by kernel_rfl
theorem reads_run_2_2 : (fun c : Nat => isTrue (evC envR 100000 1000 9 [.sl (Pos.of 1) 0 2 (.ex c), andArg 7 2] (HR 2))) = fun _ => true := by kernel_rfl
theorem reads_run_2_3 : (fun c : Nat => isTrue (evC envR 100000 1000 9 [.sl (Pos.of 1) 0 2 (.ex c), andArg 7 3] (HR 2))) = fun _ => true := by kernel_rfl
theorem reads_run_2_4 : (fun c : Nat => isTrue (evC envR 100000 1000 9 [.sl (Pos.of 1) 0 2 (.ex c), andArg 7 4] (HR 2))) = fun _ => true := by kernel_rfl
theorem reads_run_2_5 : (fun c : Nat => isTrue (evC envR 100000 1000 9 [.sl (Pos.of 1) 0 2 (.ex c), andArg 7 5] (HR 2))) = fun _ => true := by kernel_rfl
theorem reads_run_2_6 : (fun c : Nat => isTrue (evC envR 100000 1000 9 [.sl (Pos.of 1) 0 2 (.ex c), andArg 7 6] (HR 2))) = fun _ => true := by kernel_rfl
theorem reads_run_2_7 : (fun c : Nat => isTrue (evC envR 100000 1000 9 [.sl (Pos.of 1) 0 2 (.ex c), andArg 7 7] (HR 2))) = fun _ => true := by kernel_rfl
end Go.Ev
