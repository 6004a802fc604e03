/- Runs of 'VerifyLocals' in the kernel. -/
import Derived.Test.YtjpcncllagooeaaDoorEvRow
import Derived.Test.YtjpcncllagooeaaDoorEvSy
namespace Go.Ev
set_option maxRecDepth 100000
theorem locals_run_3_0 : isTrue (evC env1 100000 1000 4 [andArg 7 3, andArg 7 0] H0) = true := by kernel_rfl
theorem locals_run_3_1 : isTrue (evC env1 100000 1000 4 [andArg 7 3, andArg 7 1] H0) = true := by kernel_rfl
theorem locals_run_3_2 : isTrue (evC env1 100000 1000 4 [andArg 7 3, andArg 7 2] H0) = true := by kernel_rfl
theorem locals_run_3_3 : isTrue (evC env1 100000 1000 4 [andArg 7 3, andArg 7 3] H0) = true := by kernel_rfl
end Go.Ev
