/- Runs of 'VerifyForms' in the kernel. -/
import Derived.Test.YtjpcncllagooeaaDoorEvRow
import Derived.Test.YtjpcncllagooeaaDoorEvSy
namespace Go.Ev
set_option maxRecDepth 100000
theorem forms_run_1_3 : isTrue (evC env1 100000 1000 8 [andArg 7 1, andArg 15 3] H0) = true := by kernel_rfl
theorem forms_run_1_4 : isTrue (evC env1 100000 1000 8 [andArg 7 1, andArg 15 4] H0) = true := by kernel_rfl
theorem forms_run_1_5 : isTrue (evC env1 100000 1000 8 [andArg 7 1, andArg 15 5] H0) = true := by kernel_rfl
theorem forms_run_1_6 : isTrue (evC env1 100000 1000 8 [andArg 7 1, andArg 15 6] H0) = true := by kernel_rfl
end Go.Ev
