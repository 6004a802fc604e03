/- Runs of 'VerifyForms' in the kernel. -/
import Derived.Test.YtjpcncllagooeaaDoorEvRow
import Derived.Test.YtjpcncllagooeaaDoorEvSy
namespace Go.Ev
set_option maxRecDepth 100000
theorem forms_run_1_11 : isTrue (evC env1 100000 1000 8 [andArg 7 1, andArg 15 11] H0) = true := by kernel_rfl
theorem forms_run_1_12 : isTrue (evC env1 100000 1000 8 [andArg 7 1, andArg 15 12] H0) = true := by kernel_rfl
theorem forms_run_1_13 : isTrue (evC env1 100000 1000 8 [andArg 7 1, andArg 15 13] H0) = true := by kernel_rfl
theorem forms_run_1_14 : isTrue (evC env1 100000 1000 8 [andArg 7 1, andArg 15 14] H0) = true := by kernel_rfl
end Go.Ev
