/- Runs of 'RealReads' in the kernel. -/
import Derived.Test.YthhfkiffnmiilaaGreatDoorEvRd
namespace Go.Ev
set_option maxRecDepth 100000
theorem reads_run_4_0 : (fun c : Nat => isTrue (evC env4 100000 1000 13 [.sl (Pos.of 1) 0 4 (.ex c), andArg 7 0] (HR 4))) = fun _ => true := by kernel_rfl
theorem reads_run_4_1 : (fun c : Nat => isTrue (evC env4 100000 1000 13 [.sl (Pos.of 1) 0 4 (.ex c), andArg 7 1] (HR 4))) = fun _ => true := by kernel_rfl
theorem reads_run_4_2 : (fun c : Nat => isTrue (evC env4 100000 1000 13 [.sl (Pos.of 1) 0 4 (.ex c), andArg 7 2] (HR 4))) = fun _ => true := by kernel_rfl
theorem reads_run_4_3 : (fun c : Nat => isTrue (evC env4 100000 1000 13 [.sl (Pos.of 1) 0 4 (.ex c), andArg 7 3] (HR 4))) = fun _ => true := by kernel_rfl
theorem reads_run_4_4 : (fun c : Nat => isTrue (evC env4 100000 1000 13 [.sl (Pos.of 1) 0 4 (.ex c), andArg 7 4] (HR 4))) = fun _ => true := by kernel_rfl
theorem reads_run_4_5 : (fun c : Nat => isTrue (evC env4 100000 1000 13 [.sl (Pos.of 1) 0 4 (.ex c), andArg 7 5] (HR 4))) = fun _ => true := by kernel_rfl
theorem reads_run_4_6 : (fun c : Nat => isTrue (evC env4 100000 1000 13 [.sl (Pos.of 1) 0 4 (.ex c), andArg 7 6] (HR 4))) = fun _ => true := by kernel_rfl
theorem reads_run_4_7 : (fun c : Nat => isTrue (evC env4 100000 1000 13 [.sl (Pos.of 1) 0 4 (.ex c), andArg 7 7] (HR 4))) = fun _ => true := by kernel_rfl
theorem reads_run_5_0 : (fun c : Nat => isTrue (evC env4 100000 1000 13 [.sl (Pos.of 1) 0 5 (.ex c), andArg 7 0] (HR 5))) = fun _ => true := by kernel_rfl
theorem reads_run_5_1 : (fun c : Nat => isTrue (evC env4 100000 1000 13 [.sl (Pos.of 1) 0 5 (.ex c), andArg 7 1] (HR 5))) = fun _ => true := by kernel_rfl
theorem reads_run_5_2 : (fun c : Nat => isTrue (evC env4 100000 1000 13 [.sl (Pos.of 1) 0 5 (.ex c), andArg 7 2] (HR 5))) = fun _ => true := by kernel_rfl
theorem reads_run_5_3 : (fun c : Nat => isTrue (evC env4 100000 1000 13 [.sl (Pos.of 1) 0 5 (.ex c), andArg 7 3] (HR 5))) = fun _ => true := by kernel_rfl
end Go.Ev
