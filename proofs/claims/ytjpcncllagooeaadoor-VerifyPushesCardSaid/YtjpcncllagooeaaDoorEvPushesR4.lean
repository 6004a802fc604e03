/- Runs of 'VerifyPushes' in the kernel. -/
import Derived.Test.YtjpcncllagooeaaDoorEvRow
import Derived.Test.YtjpcncllagooeaaDoorEvSy
namespace Go.Ev
set_option maxRecDepth 100000
theorem pushes_run_8 : isTrue (evC env1 100000 1000 13 [remArg 11 8] H0) = true := by kernel_rfl
theorem pushes_run_9 : isTrue (evC env1 100000 1000 13 [remArg 11 9] H0) = true := by kernel_rfl
end Go.Ev
