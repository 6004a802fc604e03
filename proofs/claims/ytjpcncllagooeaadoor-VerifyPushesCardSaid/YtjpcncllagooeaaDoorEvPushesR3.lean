/- Runs of 'VerifyPushes' in the kernel. -/
import Derived.Test.YtjpcncllagooeaaDoorEvRow
import Derived.Test.YtjpcncllagooeaaDoorEvSy
namespace Go.Ev
set_option maxRecDepth 100000
theorem pushes_run_6 : isTrue (evC env1 100000 1000 13 [remArg 11 6] H0) = true := by kernel_rfl
theorem pushes_run_7 : isTrue (evC env1 100000 1000 13 [remArg 11 7] H0) = true := by kernel_rfl
end Go.Ev
