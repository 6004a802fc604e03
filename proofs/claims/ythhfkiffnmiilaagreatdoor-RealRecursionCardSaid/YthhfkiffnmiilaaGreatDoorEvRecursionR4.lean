/- Runs of 'RealRecursion' in the kernel. -/
import Derived.Test.YthhfkiffnmiilaaGreatDoorEvRow
import Derived.Test.YthhfkiffnmiilaaGreatDoorEvSy
namespace Go.Ev
set_option maxRecDepth 100000
theorem recursion_run_16 : isTrue (evC env1 100000 1000 11 [andArg 31 16] H0) = true := by kernel_rfl
theorem recursion_run_17 : isTrue (evC env1 100000 1000 11 [andArg 31 17] H0) = true := by kernel_rfl
theorem recursion_run_18 : isTrue (evC env1 100000 1000 11 [andArg 31 18] H0) = true := by kernel_rfl
theorem recursion_run_19 : isTrue (evC env1 100000 1000 11 [andArg 31 19] H0) = true := by kernel_rfl
end Go.Ev
