/- Runs of 'RunMonitors' in the kernel. -/
import Derived.Test.YtmjccopjophgjaaGreatDoorEvRn
import Derived.Test.YtmjccopjophgjaaGreatDoorEvSy
namespace Go.Ev
set_option maxRecDepth 100000
theorem monitors_run_6_0 : isTrue (evC envR 100000 1000 13 [andArg 7 6, andArg 3 0] H0) = true := by kernel_rfl
theorem monitors_run_6_1 : isTrue (evC envR 100000 1000 13 [andArg 7 6, andArg 3 1] H0) = true := by kernel_rfl
theorem monitors_run_6_2 : isTrue (evC envR 100000 1000 13 [andArg 7 6, andArg 3 2] H0) = true := by kernel_rfl
theorem monitors_run_6_3 : isTrue (evC envR 100000 1000 13 [andArg 7 6, andArg 3 3] H0) = true := by kernel_rfl
theorem monitors_run_7_0 : isTrue (evC envR 100000 1000 13 [andArg 7 7, andArg 3 0] H0) = true := by kernel_rfl
theorem monitors_run_7_1 : isTrue (evC envR 100000 1000 13 [andArg 7 7, andArg 3 1] H0) = true := by kernel_rfl
theorem monitors_run_7_2 : isTrue (evC envR 100000 1000 13 [andArg 7 7, andArg 3 2] H0) = true := by kernel_rfl
theorem monitors_run_7_3 : isTrue (evC envR 100000 1000 13 [andArg 7 7, andArg 3 3] H0) = true := by kernel_rfl
end Go.Ev
