/- Runs of 'RunCasts' in the kernel. -/
import Derived.Test.YtmjccopjophgjaaGreatDoorEvRn
import Derived.Test.YtmjccopjophgjaaGreatDoorEvSy
namespace Go.Ev
set_option maxRecDepth 100000
theorem casts_run_2_0 : isTrue (evC envR 100000 1000 10 [remArg 4 2, remArg 5 0] H0) = true := by kernel_rfl
theorem casts_run_2_1 : isTrue (evC envR 100000 1000 10 [remArg 4 2, remArg 5 1] H0) = true := by kernel_rfl
theorem casts_run_2_2 : isTrue (evC envR 100000 1000 10 [remArg 4 2, remArg 5 2] H0) = true := by kernel_rfl
theorem casts_run_2_3 : isTrue (evC envR 100000 1000 10 [remArg 4 2, remArg 5 3] H0) = true := by kernel_rfl
theorem casts_run_2_4 : isTrue (evC envR 100000 1000 10 [remArg 4 2, remArg 5 4] H0) = true := by kernel_rfl
end Go.Ev
