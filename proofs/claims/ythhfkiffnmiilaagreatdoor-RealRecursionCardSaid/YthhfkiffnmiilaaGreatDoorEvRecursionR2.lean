/- Runs of 'RealRecursion' in the kernel. -/
import Derived.Test.YthhfkiffnmiilaaGreatDoorEvRow
import Derived.Test.YthhfkiffnmiilaaGreatDoorEvSy
namespace Go.Ev
set_option maxRecDepth 100000
theorem recursion_run_8 : isTrue (evC env1 100000 1000 11 [andArg 31 8] H0) = true := by kernel_rfl
theorem recursion_run_9 : isTrue (evC env1 100000 1000 11 [andArg 31 9] H0) = true := by kernel_rfl
theorem recursion_run_10 : isTrue (evC env1 100000 1000 11 [andArg 31 10] H0) = true := by kernel_rfl
theorem recursion_run_11 : isTrue (evC env1 100000 1000 11 [andArg 31 11] H0) = true := by kernel_rfl
end Go.Ev
