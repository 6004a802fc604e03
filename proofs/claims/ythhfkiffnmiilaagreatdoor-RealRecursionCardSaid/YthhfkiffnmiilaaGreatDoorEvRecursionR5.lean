/- Runs of 'RealRecursion' in the kernel. -/
import Derived.Test.YthhfkiffnmiilaaGreatDoorEvRow
import Derived.Test.YthhfkiffnmiilaaGreatDoorEvSy
namespace Go.Ev
set_option maxRecDepth 100000
theorem recursion_run_20 : isTrue (evC env1 100000 1000 11 [andArg 31 20] H0) = true := by kernel_rfl
theorem recursion_run_21 : isTrue (evC env1 100000 1000 11 [andArg 31 21] H0) = true := by kernel_rfl
theorem recursion_run_22 : isTrue (evC env1 100000 1000 11 [andArg 31 22] H0) = true := by kernel_rfl
theorem recursion_run_23 : isTrue (evC env1 100000 1000 11 [andArg 31 23] H0) = true := by kernel_rfl
end Go.Ev
