/- Runs of 'RealRecursion' in the kernel. -/
import Derived.Test.YthhfkiffnmiilaaGreatDoorEvRow
import Derived.Test.YthhfkiffnmiilaaGreatDoorEvSy
namespace Go.Ev
set_option maxRecDepth 100000
theorem recursion_run_24 : isTrue (evC env1 100000 1000 11 [andArg 31 24] H0) = true := by kernel_rfl
theorem recursion_run_25 : isTrue (evC env1 100000 1000 11 [andArg 31 25] H0) = true := by kernel_rfl
theorem recursion_run_26 : isTrue (evC env1 100000 1000 11 [andArg 31 26] H0) = true := by kernel_rfl
theorem recursion_run_27 : isTrue (evC env1 100000 1000 11 [andArg 31 27] H0) = true := by kernel_rfl
end Go.Ev
