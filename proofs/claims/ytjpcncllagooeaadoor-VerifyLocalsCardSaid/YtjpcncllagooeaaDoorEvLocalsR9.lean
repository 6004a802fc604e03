/- Runs of 'VerifyLocals' in the kernel. -/
import Derived.Test.YtjpcncllagooeaaDoorEvRow
import Derived.Test.YtjpcncllagooeaaDoorEvSy
namespace Go.Ev
set_option maxRecDepth 100000
theorem locals_run_4_4 : isTrue (evC env1 100000 1000 4 [andArg 7 4, andArg 7 4] H0) = true := by kernel_rfl
theorem locals_run_4_5 : isTrue (evC env1 100000 1000 4 [andArg 7 4, andArg 7 5] H0) = true := by kernel_rfl
theorem locals_run_4_6 : isTrue (evC env1 100000 1000 4 [andArg 7 4, andArg 7 6] H0) = true := by kernel_rfl
theorem locals_run_4_7 : isTrue (evC env1 100000 1000 4 [andArg 7 4, andArg 7 7] H0) = true := by kernel_rfl
end Go.Ev
