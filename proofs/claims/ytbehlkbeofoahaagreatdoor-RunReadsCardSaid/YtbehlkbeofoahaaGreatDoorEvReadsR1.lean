/- Runs of 'RunReads' in the kernel. -/
import Derived.Test.YtbehlkbeofoahaaGreatDoorEvRd
namespace Go.Ev
set_option maxRecDepth 100000
theorem reads_run_nil_4 : isTrue (evC envR 100000 1000 9 [.snil, andArg 7 4] H0) = true := by kernel_rfl
theorem reads_run_zero_4 : isTrue (evC envR 100000 1000 9 [.sl (Pos.of 0) 0 0 (.ex 0), andArg 7 4] H0) = true := by kernel_rfl
theorem reads_run_nil_5 : isTrue (evC envR 100000 1000 9 [.snil, andArg 7 5] H0) = true := by kernel_rfl
theorem reads_run_zero_5 : isTrue (evC envR 100000 1000 9 [.sl (Pos.of 0) 0 0 (.ex 0), andArg 7 5] H0) = true := by kernel_rfl
theorem reads_run_nil_6 : isTrue (evC envR 100000 1000 9 [.snil, andArg 7 6] H0) = true := by kernel_rfl
theorem reads_run_zero_6 : isTrue (evC envR 100000 1000 9 [.sl (Pos.of 0) 0 0 (.ex 0), andArg 7 6] H0) = true := by kernel_rfl
theorem reads_run_nil_7 : isTrue (evC envR 100000 1000 9 [.snil, andArg 7 7] H0) = true := by kernel_rfl
theorem reads_run_zero_7 : isTrue (evC envR 100000 1000 9 [.sl (Pos.of 0) 0 0 (.ex 0), andArg 7 7] H0) = true := by kernel_rfl
end Go.Ev
