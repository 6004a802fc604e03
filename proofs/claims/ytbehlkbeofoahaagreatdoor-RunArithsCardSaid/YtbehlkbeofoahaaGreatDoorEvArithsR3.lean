/- Runs of 'RunAriths' in the kernel. -/
import Derived.Test.YtbehlkbeofoahaaGreatDoorEvArithsT
namespace Go.Ev
set_option maxRecDepth 100000
theorem ariths_run_7_false : isTrue (evC envR 100000 1000 5 [remArg 12 7, .at 0 (tbAr 7 false), .at 1 (tbAr 7 false)] H0) = true := by kernel_rfl
theorem ariths_run_8_false : isTrue (evC envR 100000 1000 5 [remArg 12 8, .at 0 (tbAr 8 false), .at 1 (tbAr 8 false)] H0) = true := by kernel_rfl
theorem ariths_run_9_false : isTrue (evC envR 100000 1000 5 [remArg 12 9, .at 0 (tbAr 9 false), .at 1 (tbAr 9 false)] H0) = true := by kernel_rfl
end Go.Ev
