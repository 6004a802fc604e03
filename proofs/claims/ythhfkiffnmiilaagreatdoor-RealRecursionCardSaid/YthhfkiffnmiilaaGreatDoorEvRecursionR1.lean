/- Runs of 'RealRecursion' in the kernel. -/
import Derived.Test.YthhfkiffnmiilaaGreatDoorEvRow
import Derived.Test.YthhfkiffnmiilaaGreatDoorEvSy
namespace Go.Ev
set_option maxRecDepth 100000
theorem recursion_run_4 : isTrue (evC env1 100000 1000 11 [andArg 31 4] H0) = true := by kernel_rfl
theorem recursion_run_5 : isTrue (evC env1 100000 1000 11 [andArg 31 5] H0) = true := by kernel_rfl
theorem recursion_run_6 : isTrue (evC env1 100000 1000 11 [andArg 31 6] H0) = true := by kernel_rfl
theorem recursion_run_7 : isTrue (evC env1 100000 1000 11 [andArg 31 7] H0) = true := by kernel_rfl
end Go.Ev
