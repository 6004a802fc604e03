/- Runs of 'RunCallers' in the kernel. -/
import Derived.Test.YtmjccopjophgjaaGreatDoorEvRn
import Derived.Test.YtmjccopjophgjaaGreatDoorEvSy
namespace Go.Ev
set_option maxRecDepth 100000
theorem callers_run_0 : isTrue (evC envR 100000 1000 12 [andArg 1 0] H0) = true := by kernel_rfl
end Go.Ev
