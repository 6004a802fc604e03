/- Runs of 'VerifyTypes' in the kernel. -/
import Derived.Test.YtjpcncllagooeaaDoorEvRow
import Derived.Test.YtjpcncllagooeaaDoorEvSy
namespace Go.Ev
set_option maxRecDepth 100000
theorem types_run_6_false : isTrue (evC env1 100000 1000 5 [remArg 12 6, .bool false] H0) = true := by kernel_rfl
theorem types_run_6_true : isTrue (evC env1 100000 1000 5 [remArg 12 6, .bool true] H0) = true := by kernel_rfl
theorem types_run_7_false : isTrue (evC env1 100000 1000 5 [remArg 12 7, .bool false] H0) = true := by kernel_rfl
theorem types_run_7_true : isTrue (evC env1 100000 1000 5 [remArg 12 7, .bool true] H0) = true := by kernel_rfl
end Go.Ev
