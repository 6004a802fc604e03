/- Runs of 'RunAriths' in the kernel. -/
import Derived.Test.YtbehlkbeofoahaaGreatDoorEvArithsT
namespace Go.Ev
set_option maxRecDepth 100000
theorem ariths_run_4_true : isTrue (evC envR 100000 1000 5 [remArg 12 4, .at 0 (tbAr 4 true), .at 1 (tbAr 4 true)] H0) = true := by kernel_rfl
theorem ariths_run_5_false : isTrue (evC envR 100000 1000 5 [remArg 12 5, .at 0 (tbAr 5 false), .at 1 (tbAr 5 false)] H0) = true := by kernel_rfl
theorem ariths_run_6_false : isTrue (evC envR 100000 1000 5 [remArg 12 6, .at 0 (tbAr 6 false), .at 1 (tbAr 6 false)] H0) = true := by kernel_rfl
end Go.Ev
