/- Runs of 'RunFields' in the kernel. -/
import Derived.Test.YtmjccopjophgjaaGreatDoorEvFieldsT
namespace Go.Ev
set_option maxRecDepth 100000
theorem fields_run : isTrue (evC envR 100000 1000 7 [.at 0 tbLo] H0) = true := by kernel_rfl
end Go.Ev
