/- Runs of 'RunRefs' in the kernel. -/
import Derived.Test.YtmjccopjophgjaaGreatDoorEvRn
import Derived.Test.YtmjccopjophgjaaGreatDoorEvSy
namespace Go.Ev
set_option maxRecDepth 100000
theorem refs_run_3 : isTrue (evC envR 100000 1000 6 [andArg 3 3] H0) = true := by kernel_rfl
end Go.Ev
