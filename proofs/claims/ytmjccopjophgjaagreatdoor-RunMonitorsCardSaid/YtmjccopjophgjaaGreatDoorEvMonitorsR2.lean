/- Runs of 'RunMonitors' in the kernel. -/
import Derived.Test.YtmjccopjophgjaaGreatDoorEvRn
import Derived.Test.YtmjccopjophgjaaGreatDoorEvSy
namespace Go.Ev
set_option maxRecDepth 100000
theorem monitors_run_4_0 : isTrue (evC envR 100000 1000 13 [andArg 7 4, andArg 3 0] H0) = true := by kernel_rfl
theorem monitors_run_4_1 : isTrue (evC envR 100000 1000 13 [andArg 7 4, andArg 3 1] H0) = true := by kernel_rfl
theorem monitors_run_4_2 : isTrue (evC envR 100000 1000 13 [andArg 7 4, andArg 3 2] H0) = true := by kernel_rfl
theorem monitors_run_4_3 : isTrue (evC envR 100000 1000 13 [andArg 7 4, andArg 3 3] H0) = true := by kernel_rfl
theorem monitors_run_5_0 : isTrue (evC envR 100000 1000 13 [andArg 7 5, andArg 3 0] H0) = true := by kernel_rfl
theorem monitors_run_5_1 : isTrue (evC envR 100000 1000 13 [andArg 7 5, andArg 3 1] H0) = true := by kernel_rfl
theorem monitors_run_5_2 : isTrue (evC envR 100000 1000 13 [andArg 7 5, andArg 3 2] H0) = true := by kernel_rfl
theorem monitors_run_5_3 : isTrue (evC envR 100000 1000 13 [andArg 7 5, andArg 3 3] H0) = true := by kernel_rfl
end Go.Ev
