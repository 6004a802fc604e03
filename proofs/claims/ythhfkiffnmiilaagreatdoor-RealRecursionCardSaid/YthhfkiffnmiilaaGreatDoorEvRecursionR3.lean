/- Runs of 'RealRecursion' in the kernel. -/
import Derived.Test.YthhfkiffnmiilaaGreatDoorEvRow
import Derived.Test.YthhfkiffnmiilaaGreatDoorEvSy
namespace Go.Ev
set_option maxRecDepth 100000
theorem recursion_run_12 : isTrue (evC env1 100000 1000 11 [andArg 31 12] H0) = true := by kernel_rfl
theorem recursion_run_13 : isTrue (evC env1 100000 1000 11 [andArg 31 13] H0) = true := by kernel_rfl
theorem recursion_run_14 : isTrue (evC env1 100000 1000 11 [andArg 31 14] H0) = true := by kernel_rfl
theorem recursion_run_15 : isTrue (evC env1 100000 1000 11 [andArg 31 15] H0) = true := by kernel_rfl
end Go.Ev
