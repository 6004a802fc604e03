/- Runs of 'RunArrays' in the kernel. -/
import Derived.Test.YtbehlkbeofoahaaGreatDoorEvArraysT
namespace Go.Ev
set_option maxRecDepth 100000
theorem arrays_run_high : isTrue (evC envR 100000 1000 6 [.at 0 tbAyhigh, .at 1 tbAyhigh, .at 2 tbAyhigh] H0) = true := by kernel_rfl
theorem arrays_run_in : isTrue (evC envR 100000 1000 6 [.at 0 tbAyin, .at 1 tbAyin, .at 2 tbAyin] H0) = true := by kernel_rfl
end Go.Ev
