/- Runs of 'RealRecursion' in the kernel. -/
import Derived.Test.YthhfkiffnmiilaaGreatDoorEvRow
import Derived.Test.YthhfkiffnmiilaaGreatDoorEvSy
namespace Go.Ev
set_option maxRecDepth 100000
theorem recursion_run_0 : isTrue (evC env1 100000 1000 11 [andArg 31 0] H0) = true := by kernel_rfl
theorem recursion_run_1 : isTrue (evC env1 100000 1000 11 [andArg 31 1] H0) = true := by kernel_rfl
theorem recursion_run_2 : isTrue (evC env1 100000 1000 11 [andArg 31 2] H0) = true := by kernel_rfl
theorem recursion_run_3 : isTrue (evC env1 100000 1000 11 [andArg 31 3] H0) = true := by kernel_rfl
end Go.Ev
