/- Runs of 'VerifyArrays' in the kernel. -/
import Derived.Test.YtjpcncllagooeaaDoorEvRow
import Derived.Test.YtjpcncllagooeaaDoorEvSy
namespace Go.Ev
set_option maxRecDepth 100000
theorem arrays_run_1_0 : isTrue (evC env1 100000 1000 14 [remArg 4 1, remArg 4 0] H0) = true := by kernel_rfl
theorem arrays_run_1_1 : isTrue (evC env1 100000 1000 14 [remArg 4 1, remArg 4 1] H0) = true := by kernel_rfl
theorem arrays_run_1_2 : isTrue (evC env1 100000 1000 14 [remArg 4 1, remArg 4 2] H0) = true := by kernel_rfl
theorem arrays_run_1_3 : isTrue (evC env1 100000 1000 14 [remArg 4 1, remArg 4 3] H0) = true := by kernel_rfl
end Go.Ev
