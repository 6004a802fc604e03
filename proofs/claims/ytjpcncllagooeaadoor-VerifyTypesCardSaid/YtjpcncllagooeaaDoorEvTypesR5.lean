/- Runs of 'VerifyTypes' in the kernel. -/
import Derived.Test.YtjpcncllagooeaaDoorEvRow
import Derived.Test.YtjpcncllagooeaaDoorEvSy
namespace Go.Ev
set_option maxRecDepth 100000
theorem types_run_10_false : isTrue (evC env1 100000 1000 5 [remArg 12 10, .bool false] H0) = true := by kernel_rfl
theorem types_run_10_true : isTrue (evC env1 100000 1000 5 [remArg 12 10, .bool true] H0) = true := by kernel_rfl
theorem types_run_11_false : isTrue (evC env1 100000 1000 5 [remArg 12 11, .bool false] H0) = true := by kernel_rfl
theorem types_run_11_true : isTrue (evC env1 100000 1000 5 [remArg 12 11, .bool true] H0) = true := by kernel_rfl
end Go.Ev
