/- Runs of 'RealStacks' in the kernel. -/
import Derived.Test.YthhfkiffnmiilaaGreatDoorEvStacksT
namespace Go.Ev
set_option maxRecDepth 100000
theorem stacks_run : isTrue (evC env4 100000 1000 5 [.at 0 tbSt, .at 1 tbSt] H0) = true := by kernel_rfl
end Go.Ev
