/- Runs of 'RunAriths' in the kernel. -/
import Derived.Test.YtbehlkbeofoahaaGreatDoorEvArithsT
namespace Go.Ev
set_option maxRecDepth 100000
theorem ariths_run_3_false : isTrue (evC envR 100000 1000 5 [remArg 12 3, .at 0 (tbAr 3 false), .at 1 (tbAr 3 false)] H0) = true := by kernel_rfl
theorem ariths_run_3_true : isTrue (evC envR 100000 1000 5 [remArg 12 3, .at 0 (tbAr 3 true), .at 1 (tbAr 3 true)] H0) = true := by kernel_rfl
theorem ariths_run_4_false : isTrue (evC envR 100000 1000 5 [remArg 12 4, .at 0 (tbAr 4 false), .at 1 (tbAr 4 false)] H0) = true := by kernel_rfl
end Go.Ev
