/- Runs of 'VerifyReturns' in the kernel. -/
import Derived.Test.YtjpcncllagooeaaDoorEvRow
import Derived.Test.YtjpcncllagooeaaDoorEvSy
namespace Go.Ev
set_option maxRecDepth 100000
theorem returns_run_2_2 : isTrue (evC env1 100000 1000 10 [remArg 3 2, remArg 3 2] H0) = true := by kernel_rfl
end Go.Ev
