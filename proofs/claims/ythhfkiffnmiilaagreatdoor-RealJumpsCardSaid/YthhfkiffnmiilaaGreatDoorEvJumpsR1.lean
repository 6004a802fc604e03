/- Runs of 'RealJumps' in the kernel. -/
import Derived.Test.YthhfkiffnmiilaaGreatDoorEvJumpsT
namespace Go.Ev
set_option maxRecDepth 100000
theorem jumps_run_true_false : isTrue (evC env4 100000 1000 7 [.at 0 (tbJu true false), .at 1 (tbJu true false)] H0) = true := by kernel_rfl
theorem jumps_run_true_true : isTrue (evC env4 100000 1000 7 [.at 0 (tbJu true true), .at 1 (tbJu true true)] H0) = true := by kernel_rfl
end Go.Ev
