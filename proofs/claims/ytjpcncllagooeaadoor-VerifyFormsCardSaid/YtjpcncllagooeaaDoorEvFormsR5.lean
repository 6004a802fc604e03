/- Runs of 'VerifyForms' in the kernel. -/
import Derived.Test.YtjpcncllagooeaaDoorEvRow
import Derived.Test.YtjpcncllagooeaaDoorEvSy
namespace Go.Ev
set_option maxRecDepth 100000
theorem forms_run_4_1 : isTrue (evC env1 100000 1000 8 [andArg 7 4, andArg 3 1] H0) = true := by kernel_rfl
theorem forms_run_4_2 : isTrue (evC env1 100000 1000 8 [andArg 7 4, andArg 3 2] H0) = true := by kernel_rfl
theorem forms_run_4_3 : isTrue (evC env1 100000 1000 8 [andArg 7 4, andArg 3 3] H0) = true := by kernel_rfl
theorem forms_run_5 : isTrue (evC env1 100000 1000 8 [andArg 7 5, .any] H0) = true := by kernel_rfl
end Go.Ev
