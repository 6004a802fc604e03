/- Runs of 'VerifyTypes' in the kernel. -/
import Derived.Test.YtjpcncllagooeaaDoorEvRow
import Derived.Test.YtjpcncllagooeaaDoorEvSy
namespace Go.Ev
set_option maxRecDepth 100000
theorem types_run_0_false : isTrue (evC env1 100000 1000 5 [remArg 12 0, .bool false] H0) = true := by kernel_rfl
theorem types_run_0_true : isTrue (evC env1 100000 1000 5 [remArg 12 0, .bool true] H0) = true := by kernel_rfl
theorem types_run_1_false : isTrue (evC env1 100000 1000 5 [remArg 12 1, .bool false] H0) = true := by kernel_rfl
theorem types_run_1_true : isTrue (evC env1 100000 1000 5 [remArg 12 1, .bool true] H0) = true := by kernel_rfl
end Go.Ev
