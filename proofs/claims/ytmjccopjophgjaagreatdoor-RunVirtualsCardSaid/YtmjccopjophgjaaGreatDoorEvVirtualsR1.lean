/- Runs of 'RunVirtuals' in the kernel. -/
import Derived.Test.YtmjccopjophgjaaGreatDoorEvRn
import Derived.Test.YtmjccopjophgjaaGreatDoorEvSy
namespace Go.Ev
set_option maxRecDepth 100000
theorem virtuals_run_1_false : isTrue (evC envR 100000 1000 9 [remArg 3 1, .bool false] H0) = true := by kernel_rfl
theorem virtuals_run_1_true : isTrue (evC envR 100000 1000 9 [remArg 3 1, .bool true] H0) = true := by kernel_rfl
end Go.Ev
