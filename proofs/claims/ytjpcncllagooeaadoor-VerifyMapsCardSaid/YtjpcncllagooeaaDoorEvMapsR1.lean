/- Runs of 'VerifyMaps' in the kernel. -/
import Derived.Test.YtjpcncllagooeaaDoorEvRow
import Derived.Test.YtjpcncllagooeaaDoorEvSy
namespace Go.Ev
set_option maxRecDepth 100000
theorem maps_run_2 : isTrue (evC env1 100000 1000 6 [andArg 3 2] H0) = true := by kernel_rfl
theorem maps_run_3 : isTrue (evC env1 100000 1000 6 [andArg 3 3] H0) = true := by kernel_rfl
end Go.Ev
