/- Runs of 'VerifyMaps' in the kernel. -/
import Derived.Test.YtjpcncllagooeaaDoorEvRow
import Derived.Test.YtjpcncllagooeaaDoorEvSy
namespace Go.Ev
set_option maxRecDepth 100000
theorem maps_run_0 : isTrue (evC env1 100000 1000 6 [andArg 3 0] H0) = true := by kernel_rfl
theorem maps_run_1 : isTrue (evC env1 100000 1000 6 [andArg 3 1] H0) = true := by kernel_rfl
end Go.Ev
