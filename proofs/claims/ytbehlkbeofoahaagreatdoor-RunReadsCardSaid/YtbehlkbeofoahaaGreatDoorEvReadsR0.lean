/- Runs of 'RunReads' in the kernel. -/
import Derived.Test.YtbehlkbeofoahaaGreatDoorEvRd
namespace Go.Ev
set_option maxRecDepth 100000
theorem reads_run_nil_0 : isTrue (evC envR 100000 1000 9 [.snil, andArg 7 0] H0) = true := by kernel_rfl
theorem reads_run_zero_0 : isTrue (evC envR 100000 1000 9 [.sl (Pos.of 0) 0 0 (.ex 0), andArg 7 0] H0) = true := by kernel_rfl
theorem reads_run_nil_1 : isTrue (evC envR 100000 1000 9 [.snil, andArg 7 1] H0) = true := by kernel_rfl
theorem reads_run_zero_1 : isTrue (evC envR 100000 1000 9 [.sl (Pos.of 0) 0 0 (.ex 0), andArg 7 1] H0) = true := by kernel_rfl
theorem reads_run_nil_2 : isTrue (evC envR 100000 1000 9 [.snil, andArg 7 2] H0) = true := by kernel_rfl
theorem reads_run_zero_2 : isTrue (evC envR 100000 1000 9 [.sl (Pos.of 0) 0 0 (.ex 0), andArg 7 2] H0) = true := by kernel_rfl
theorem reads_run_nil_3 : isTrue (evC envR 100000 1000 9 [.snil, andArg 7 3] H0) = true := by kernel_rfl
theorem reads_run_zero_3 : isTrue (evC envR 100000 1000 9 [.sl (Pos.of 0) 0 0 (.ex 0), andArg 7 3] H0) = true := by kernel_rfl
end Go.Ev
