/- Runs of 'RealHandlers' in the kernel. -/
import Derived.Test.YtgnmolepphodjaaGreatDoorEvRow
import Derived.Test.YtgnmolepphodjaaGreatDoorEvSy
namespace Go.Ev
set_option maxRecDepth 100000
theorem handlers_run_3_3_3 : isTrue (evC env1 100000 1000 6 [andArg 3 3, andArg 3 3, andArg 3 3] H0) = true := by kernel_rfl
end Go.Ev
