/- Runs of 'RunReads' in the kernel. -/
import Derived.Test.YtbehlkbeofoahaaGreatDoorEvRd
namespace Go.Ev
set_option maxRecDepth 100000
theorem reads_run_more_0 : (fun m c : Nat => isTrue (evC envR 100000 1000 9 [.sl (Pos.of 1) 0 (Nat.add m 9) (.ex c), andArg 7 0] (HR 8))) = fun _ _ => true := by kernel_rfl
theorem reads_run_more_1 : (fun m c : Nat => isTrue (evC envR 100000 1000 9 [.sl (Pos.of 1) 0 (Nat.add m 9) (.ex c), andArg 7 1] (HR 8))) = fun _ _ => true := by kernel_rfl
theorem reads_run_more_2 : (fun m c : Nat => isTrue (evC envR 100000 1000 9 [.sl (Pos.of 1) 0 (Nat.add m 9) (.ex c), andArg 7 2] (HR 8))) = fun _ _ => true := by kernel_rfl
theorem reads_run_more_3 : (fun m c : Nat => isTrue (evC envR 100000 1000 9 [.sl (Pos.of 1) 0 (Nat.add m 9) (.ex c), andArg 7 3] (HR 8))) = fun _ _ => true := by kernel_rfl
theorem reads_run_more_4 : (fun m c : Nat => isTrue (evC envR 100000 1000 9 [.sl (Pos.of 1) 0 (Nat.add m 9) (.ex c), andArg 7 4] (HR 8))) = fun _ _ => true := by kernel_rfl
theorem reads_run_more_5 : (fun m c : Nat => isTrue (evC envR 100000 1000 9 [.sl (Pos.of 1) 0 (Nat.add m 9) (.ex c), andArg 7 5] (HR 8))) = fun _ _ => true := by kernel_rfl
theorem reads_run_more_6 : (fun m c : Nat => isTrue (evC envR 100000 1000 9 [.sl (Pos.of 1) 0 (Nat.add m 9) (.ex c), andArg 7 6] (HR 8))) = fun _ _ => true := by kernel_rfl
theorem reads_run_more_7 : (fun m c : Nat => isTrue (evC envR 100000 1000 9 [.sl (Pos.of 1) 0 (Nat.add m 9) (.ex c), andArg 7 7] (HR 8))) = fun _ _ => true := by kernel_rfl
end Go.Ev
