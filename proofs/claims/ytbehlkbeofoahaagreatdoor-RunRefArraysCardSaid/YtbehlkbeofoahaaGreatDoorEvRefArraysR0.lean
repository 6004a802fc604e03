/- Runs of 'RunRefArrays' in the kernel. -/
import Derived.Test.YtbehlkbeofoahaaGreatDoorEvRefArraysT
namespace Go.Ev
set_option maxRecDepth 100000
theorem refarrays_run : isTrue (evC envR 100000 1000 7 [.at 0 tbRf, .at 1 tbRf] H0) = true := by kernel_rfl
theorem refarrays_run1 : isTrue (evC envR 100000 1000 7 [andArg 31 0, remArg 1 0] H0) = true := by kernel_rfl
end Go.Ev
