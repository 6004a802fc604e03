/- Runs of 'RealStarts' in the kernel. -/
import Derived.Test.YtgnmolepphodjaaGreatDoorEvRow
import Derived.Test.YtgnmolepphodjaaGreatDoorEvSy
namespace Go.Ev
set_option maxRecDepth 100000
theorem starts_run_2_false : isTrue (evC env1 100000 1000 8 [andArg 3 2, .bool false] H0) = true := by kernel_rfl
end Go.Ev
