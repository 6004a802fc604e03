/- Runs of 'RunAriths' in the kernel. -/
import Derived.Test.YtbehlkbeofoahaaGreatDoorEvArithsT
namespace Go.Ev
set_option maxRecDepth 100000
theorem ariths_run_0_false : isTrue (evC envR 100000 1000 5 [remArg 12 0, .at 0 (tbAr 0 false), .at 1 (tbAr 0 false)] H0) = true := by kernel_rfl
theorem ariths_run_1_false : isTrue (evC envR 100000 1000 5 [remArg 12 1, .at 0 (tbAr 1 false), .at 1 (tbAr 1 false)] H0) = true := by kernel_rfl
theorem ariths_run_2_false : isTrue (evC envR 100000 1000 5 [remArg 12 2, .at 0 (tbAr 2 false), .at 1 (tbAr 2 false)] H0) = true := by kernel_rfl
end Go.Ev
