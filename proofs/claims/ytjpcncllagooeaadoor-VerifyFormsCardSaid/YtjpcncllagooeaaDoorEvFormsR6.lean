/- Runs of 'VerifyForms' in the kernel. -/
import Derived.Test.YtjpcncllagooeaaDoorEvRow
import Derived.Test.YtjpcncllagooeaaDoorEvSy
namespace Go.Ev
set_option maxRecDepth 100000
theorem forms_run_6 : isTrue (evC env1 100000 1000 8 [andArg 7 6, .any] H0) = true := by kernel_rfl
theorem forms_run_7 : isTrue (evC env1 100000 1000 8 [andArg 7 7, .any] H0) = true := by kernel_rfl
end Go.Ev
