/- Runs of 'VerifyForms' in the kernel. -/
import Derived.Test.YtjpcncllagooeaaDoorEvRow
import Derived.Test.YtjpcncllagooeaaDoorEvSy
namespace Go.Ev
set_option maxRecDepth 100000
theorem forms_run_1_15 : isTrue (evC env1 100000 1000 8 [andArg 7 1, andArg 15 15] H0) = true := by kernel_rfl
theorem forms_run_2 : isTrue (evC env1 100000 1000 8 [andArg 7 2, .any] H0) = true := by kernel_rfl
theorem forms_run_3 : isTrue (evC env1 100000 1000 8 [andArg 7 3, .any] H0) = true := by kernel_rfl
theorem forms_run_4_0 : isTrue (evC env1 100000 1000 8 [andArg 7 4, andArg 3 0] H0) = true := by kernel_rfl
end Go.Ev
