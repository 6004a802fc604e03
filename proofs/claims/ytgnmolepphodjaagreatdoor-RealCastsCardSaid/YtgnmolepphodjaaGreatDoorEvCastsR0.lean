/- Runs of 'RealCasts' in the kernel. -/
import Derived.Test.YtgnmolepphodjaaGreatDoorEvRow
import Derived.Test.YtgnmolepphodjaaGreatDoorEvSy
namespace Go.Ev
set_option maxRecDepth 100000
theorem casts_run_0_0 : isTrue (evC env1 100000 1000 5 [remArg 4 0, remArg 5 0] H0) = true := by kernel_rfl
end Go.Ev
