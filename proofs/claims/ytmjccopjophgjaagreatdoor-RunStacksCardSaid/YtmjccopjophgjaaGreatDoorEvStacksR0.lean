/- Runs of 'RunStacks' in the kernel. -/
import Derived.Test.YtmjccopjophgjaaGreatDoorEvStacksT
namespace Go.Ev
set_option maxRecDepth 100000
theorem stacks_run : isTrue (evC envR 100000 1000 3 [.at 0 tbSt, .at 1 tbSt] H0) = true := by kernel_rfl
end Go.Ev
