/- Runs of 'RealCallers' in the kernel. -/
import Derived.Test.YtgnmolepphodjaaGreatDoorEvRow
import Derived.Test.YtgnmolepphodjaaGreatDoorEvSy
namespace Go.Ev
set_option maxRecDepth 100000
theorem callers_run_0 : isTrue (evC env1 100000 1000 7 [andArg 1 0] H0) = true := by kernel_rfl
end Go.Ev
