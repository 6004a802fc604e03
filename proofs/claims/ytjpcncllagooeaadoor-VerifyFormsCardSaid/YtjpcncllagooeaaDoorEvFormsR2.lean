/- Runs of 'VerifyForms' in the kernel. -/
import Derived.Test.YtjpcncllagooeaaDoorEvRow
import Derived.Test.YtjpcncllagooeaaDoorEvSy
namespace Go.Ev
set_option maxRecDepth 100000
theorem forms_run_1_7 : isTrue (evC env1 100000 1000 8 [andArg 7 1, andArg 15 7] H0) = true := by kernel_rfl
theorem forms_run_1_8 : isTrue (evC env1 100000 1000 8 [andArg 7 1, andArg 15 8] H0) = true := by kernel_rfl
theorem forms_run_1_9 : isTrue (evC env1 100000 1000 8 [andArg 7 1, andArg 15 9] H0) = true := by kernel_rfl
theorem forms_run_1_10 : isTrue (evC env1 100000 1000 8 [andArg 7 1, andArg 15 10] H0) = true := by kernel_rfl
end Go.Ev
