/- Runs of 'VerifyTypes' in the kernel. -/
import Derived.Test.YtjpcncllagooeaaDoorEvRow
import Derived.Test.YtjpcncllagooeaaDoorEvSy
namespace Go.Ev
set_option maxRecDepth 100000
theorem types_run_4_false : isTrue (evC env1 100000 1000 5 [remArg 12 4, .bool false] H0) = true := by kernel_rfl
theorem types_run_4_true : isTrue (evC env1 100000 1000 5 [remArg 12 4, .bool true] H0) = true := by kernel_rfl
theorem types_run_5_false : isTrue (evC env1 100000 1000 5 [remArg 12 5, .bool false] H0) = true := by kernel_rfl
theorem types_run_5_true : isTrue (evC env1 100000 1000 5 [remArg 12 5, .bool true] H0) = true := by kernel_rfl
end Go.Ev
