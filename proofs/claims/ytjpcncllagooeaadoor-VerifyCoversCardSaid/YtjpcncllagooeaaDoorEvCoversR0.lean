/- Runs of 'VerifyCovers' in the kernel. -/
import Derived.Test.YtjpcncllagooeaaDoorEvRow
import Derived.Test.YtjpcncllagooeaaDoorEvSy
namespace Go.Ev
set_option maxRecDepth 100000
theorem covers_run_0 : isTrue (evC env1 100000 1000 15 [andArg 3 0] H0) = true := by kernel_rfl
theorem covers_run_1 : isTrue (evC env1 100000 1000 15 [andArg 3 1] H0) = true := by kernel_rfl
theorem covers_run_2 : isTrue (evC env1 100000 1000 15 [andArg 3 2] H0) = true := by kernel_rfl
theorem covers_run_3 : isTrue (evC env1 100000 1000 15 [andArg 3 3] H0) = true := by kernel_rfl
end Go.Ev
