/- Runs of 'RunJumps' in the kernel. -/
import Derived.Test.YtmjccopjophgjaaGreatDoorEvJumpsT
namespace Go.Ev
set_option maxRecDepth 100000
theorem jumps_run_false_false : isTrue (evC envR 100000 1000 5 [.at 0 (tbJu false false), .at 1 (tbJu false false)] H0) = true := by kernel_rfl
theorem jumps_run_false_true : isTrue (evC envR 100000 1000 5 [.at 0 (tbJu false true), .at 1 (tbJu false true)] H0) = true := by kernel_rfl
end Go.Ev
