/- Runs of 'VerifyTypes' in the kernel. -/
import Derived.Test.YtjpcncllagooeaaDoorEvRow
import Derived.Test.YtjpcncllagooeaaDoorEvSy
namespace Go.Ev
set_option maxRecDepth 100000
theorem types_run_8_false : isTrue (evC env1 100000 1000 5 [remArg 12 8, .bool false] H0) = true := by kernel_rfl
theorem types_run_8_true : isTrue (evC env1 100000 1000 5 [remArg 12 8, .bool true] H0) = true := by kernel_rfl
theorem types_run_9_false : isTrue (evC env1 100000 1000 5 [remArg 12 9, .bool false] H0) = true := by kernel_rfl
theorem types_run_9_true : isTrue (evC env1 100000 1000 5 [remArg 12 9, .bool true] H0) = true := by kernel_rfl
end Go.Ev
