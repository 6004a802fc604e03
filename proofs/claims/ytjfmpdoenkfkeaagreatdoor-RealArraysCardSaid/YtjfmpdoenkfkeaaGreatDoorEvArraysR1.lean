/- Runs of 'RealArrays' in the kernel. -/
import Derived.Test.YtjfmpdoenkfkeaaGreatDoorEvArraysT
namespace Go.Ev
set_option maxRecDepth 100000
theorem arrays_run_high : isTrue (evC env4 100000 1000 3 [.at 0 tbAyhigh, .at 1 tbAyhigh, .at 2 tbAyhigh] H0) = true := by kernel_rfl
theorem arrays_run_in : isTrue (evC env4 100000 1000 3 [.at 0 tbAyin, .at 1 tbAyin, .at 2 tbAyin] H0) = true := by kernel_rfl
end Go.Ev
