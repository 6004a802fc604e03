/- Runs of 'RunMonitors' in the kernel. -/
import Derived.Test.YtmjccopjophgjaaGreatDoorEvRn
import Derived.Test.YtmjccopjophgjaaGreatDoorEvSy
namespace Go.Ev
set_option maxRecDepth 100000
theorem monitors_run_0_0 : isTrue (evC envR 100000 1000 13 [andArg 7 0, andArg 3 0] H0) = true := by kernel_rfl
theorem monitors_run_0_1 : isTrue (evC envR 100000 1000 13 [andArg 7 0, andArg 3 1] H0) = true := by kernel_rfl
theorem monitors_run_0_2 : isTrue (evC envR 100000 1000 13 [andArg 7 0, andArg 3 2] H0) = true := by kernel_rfl
theorem monitors_run_0_3 : isTrue (evC envR 100000 1000 13 [andArg 7 0, andArg 3 3] H0) = true := by kernel_rfl
theorem monitors_run_1_0 : isTrue (evC envR 100000 1000 13 [andArg 7 1, andArg 3 0] H0) = true := by kernel_rfl
theorem monitors_run_1_1 : isTrue (evC envR 100000 1000 13 [andArg 7 1, andArg 3 1] H0) = true := by kernel_rfl
theorem monitors_run_1_2 : isTrue (evC envR 100000 1000 13 [andArg 7 1, andArg 3 2] H0) = true := by kernel_rfl
theorem monitors_run_1_3 : isTrue (evC envR 100000 1000 13 [andArg 7 1, andArg 3 3] H0) = true := by kernel_rfl
end Go.Ev
