/- Runs of 'RealArrays' in the kernel. -/
import Derived.Test.YtjfmpdoenkfkeaaGreatDoorEvArraysT
namespace Go.Ev
set_option maxRecDepth 100000
theorem arrays_run_neg : isTrue (evC env4 100000 1000 3 [.at 0 tbAyneg, .at 1 tbAyneg, .at 2 tbAyneg] H0) = true := by kernel_rfl
theorem arrays_run_big : isTrue (evC env4 100000 1000 3 [.at 0 tbAybig, .at 1 tbAybig, .at 2 tbAybig] H0) = true := by kernel_rfl
theorem arrays_run_low : isTrue (evC env4 100000 1000 3 [.at 0 tbAylow, .at 1 tbAylow, .at 2 tbAylow] H0) = true := by kernel_rfl
end Go.Ev
