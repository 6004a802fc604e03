/- Runs of 'VerifyTypes' in the kernel. -/
import Derived.Test.YtjpcncllagooeaaDoorEvRow
import Derived.Test.YtjpcncllagooeaaDoorEvSy
namespace Go.Ev
set_option maxRecDepth 100000
theorem types_run_2_false : isTrue (evC env1 100000 1000 5 [remArg 12 2, .bool false] H0) = true := by kernel_rfl
theorem types_run_2_true : isTrue (evC env1 100000 1000 5 [remArg 12 2, .bool true] H0) = true := by kernel_rfl
theorem types_run_3_false : isTrue (evC env1 100000 1000 5 [remArg 12 3, .bool false] H0) = true := by kernel_rfl
theorem types_run_3_true : isTrue (evC env1 100000 1000 5 [remArg 12 3, .bool true] H0) = true := by kernel_rfl
end Go.Ev
