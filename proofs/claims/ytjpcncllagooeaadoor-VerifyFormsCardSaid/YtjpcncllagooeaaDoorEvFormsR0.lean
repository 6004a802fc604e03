/- Runs of 'VerifyForms' in the kernel. -/
import Derived.Test.YtjpcncllagooeaaDoorEvRow
import Derived.Test.YtjpcncllagooeaaDoorEvSy
namespace Go.Ev
set_option maxRecDepth 100000
theorem forms_run_0 : isTrue (evC env1 100000 1000 8 [andArg 7 0, .any] H0) = true := by kernel_rfl
theorem forms_run_1_0 : isTrue (evC env1 100000 1000 8 [andArg 7 1, andArg 15 0] H0) = true := by kernel_rfl
theorem forms_run_1_1 : isTrue (evC env1 100000 1000 8 [andArg 7 1, andArg 15 1] H0) = true := by kernel_rfl
theorem forms_run_1_2 : isTrue (evC env1 100000 1000 8 [andArg 7 1, andArg 15 2] H0) = true := by kernel_rfl
end Go.Ev
