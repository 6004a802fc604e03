/- Runs of 'RunAriths' in the kernel. -/
import Derived.Test.YtbehlkbeofoahaaGreatDoorEvArithsT
namespace Go.Ev
set_option maxRecDepth 100000
theorem ariths_run_10_false : isTrue (evC envR 100000 1000 5 [remArg 12 10, .at 0 (tbAr 10 false), .at 1 (tbAr 10 false)] H0) = true := by kernel_rfl
theorem ariths_run_11_false : isTrue (evC envR 100000 1000 5 [remArg 12 11, .at 0 (tbAr 11 false), .at 1 (tbAr 11 false)] H0) = true := by kernel_rfl
end Go.Ev
