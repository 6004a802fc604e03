/- Runs of 'VerifyReturns' in the kernel. -/
import Derived.Test.YtjpcncllagooeaaDoorEvRow
import Derived.Test.YtjpcncllagooeaaDoorEvSy
namespace Go.Ev
set_option maxRecDepth 100000
theorem returns_run_1_1 : isTrue (evC env1 100000 1000 10 [remArg 3 1, remArg 3 1] H0) = true := by kernel_rfl
theorem returns_run_1_2 : isTrue (evC env1 100000 1000 10 [remArg 3 1, remArg 3 2] H0) = true := by kernel_rfl
theorem returns_run_2_0 : isTrue (evC env1 100000 1000 10 [remArg 3 2, remArg 3 0] H0) = true := by kernel_rfl
theorem returns_run_2_1 : isTrue (evC env1 100000 1000 10 [remArg 3 2, remArg 3 1] H0) = true := by kernel_rfl
end Go.Ev
