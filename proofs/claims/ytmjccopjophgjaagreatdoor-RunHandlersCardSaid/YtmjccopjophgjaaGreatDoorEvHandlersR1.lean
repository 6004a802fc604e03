/- Runs of 'RunHandlers' in the kernel. -/
import Derived.Test.YtmjccopjophgjaaGreatDoorEvRn
import Derived.Test.YtmjccopjophgjaaGreatDoorEvSy
namespace Go.Ev
set_option maxRecDepth 100000
theorem handlers_run_1_0_0 : isTrue (evC envR 100000 1000 11 [andArg 3 1, andArg 3 0, andArg 3 0] H0) = true := by kernel_rfl
theorem handlers_run_1_0_1 : isTrue (evC envR 100000 1000 11 [andArg 3 1, andArg 3 0, andArg 3 1] H0) = true := by kernel_rfl
theorem handlers_run_1_0_2 : isTrue (evC envR 100000 1000 11 [andArg 3 1, andArg 3 0, andArg 3 2] H0) = true := by kernel_rfl
theorem handlers_run_1_0_3 : isTrue (evC envR 100000 1000 11 [andArg 3 1, andArg 3 0, andArg 3 3] H0) = true := by kernel_rfl
theorem handlers_run_1_1_0 : isTrue (evC envR 100000 1000 11 [andArg 3 1, andArg 3 1, andArg 3 0] H0) = true := by kernel_rfl
theorem handlers_run_1_1_1 : isTrue (evC envR 100000 1000 11 [andArg 3 1, andArg 3 1, andArg 3 1] H0) = true := by kernel_rfl
theorem handlers_run_1_1_2 : isTrue (evC envR 100000 1000 11 [andArg 3 1, andArg 3 1, andArg 3 2] H0) = true := by kernel_rfl
theorem handlers_run_1_1_3 : isTrue (evC envR 100000 1000 11 [andArg 3 1, andArg 3 1, andArg 3 3] H0) = true := by kernel_rfl
theorem handlers_run_1_2_0 : isTrue (evC envR 100000 1000 11 [andArg 3 1, andArg 3 2, andArg 3 0] H0) = true := by kernel_rfl
theorem handlers_run_1_2_1 : isTrue (evC envR 100000 1000 11 [andArg 3 1, andArg 3 2, andArg 3 1] H0) = true := by kernel_rfl
theorem handlers_run_1_2_2 : isTrue (evC envR 100000 1000 11 [andArg 3 1, andArg 3 2, andArg 3 2] H0) = true := by kernel_rfl
theorem handlers_run_1_2_3 : isTrue (evC envR 100000 1000 11 [andArg 3 1, andArg 3 2, andArg 3 3] H0) = true := by kernel_rfl
theorem handlers_run_1_3_0 : isTrue (evC envR 100000 1000 11 [andArg 3 1, andArg 3 3, andArg 3 0] H0) = true := by kernel_rfl
theorem handlers_run_1_3_1 : isTrue (evC envR 100000 1000 11 [andArg 3 1, andArg 3 3, andArg 3 1] H0) = true := by kernel_rfl
theorem handlers_run_1_3_2 : isTrue (evC envR 100000 1000 11 [andArg 3 1, andArg 3 3, andArg 3 2] H0) = true := by kernel_rfl
theorem handlers_run_1_3_3 : isTrue (evC envR 100000 1000 11 [andArg 3 1, andArg 3 3, andArg 3 3] H0) = true := by kernel_rfl
end Go.Ev
