/- Runs of 'RealVirtuals' in the kernel. -/
import Derived.Test.YtgnmolepphodjaaGreatDoorEvRow
import Derived.Test.YtgnmolepphodjaaGreatDoorEvSy
namespace Go.Ev
set_option maxRecDepth 100000
theorem virtuals_run_0_false : isTrue (evC env1 100000 1000 4 [remArg 3 0, .bool false] H0) = true := by kernel_rfl
end Go.Ev
