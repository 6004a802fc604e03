/- Runs of 'RealRecursion' in the kernel. -/
import Derived.Test.YthhfkiffnmiilaaGreatDoorEvRow
import Derived.Test.YthhfkiffnmiilaaGreatDoorEvSy
namespace Go.Ev
set_option maxRecDepth 100000
theorem recursion_run_28 : isTrue (evC env1 100000 1000 11 [andArg 31 28] H0) = true := by kernel_rfl
theorem recursion_run_29 : isTrue (evC env1 100000 1000 11 [andArg 31 29] H0) = true := by kernel_rfl
theorem recursion_run_30 : isTrue (evC env1 100000 1000 11 [andArg 31 30] H0) = true := by kernel_rfl
theorem recursion_run_31 : isTrue (evC env1 100000 1000 11 [andArg 31 31] H0) = true := by kernel_rfl
end Go.Ev
