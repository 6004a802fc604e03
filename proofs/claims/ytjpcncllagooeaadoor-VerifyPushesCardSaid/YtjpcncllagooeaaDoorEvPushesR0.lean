/- Runs of 'VerifyPushes' in the kernel. -/
import Derived.Test.YtjpcncllagooeaaDoorEvRow
import Derived.Test.YtjpcncllagooeaaDoorEvSy
namespace Go.Ev
set_option maxRecDepth 100000
theorem pushes_run_0 : isTrue (evC env1 100000 1000 13 [remArg 11 0] H0) = true := by kernel_rfl
theorem pushes_run_1 : isTrue (evC env1 100000 1000 13 [remArg 11 1] H0) = true := by kernel_rfl
end Go.Ev
