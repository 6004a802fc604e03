/- Runs of 'RealFields' in the kernel. -/
import Derived.Test.YthhfkiffnmiilaaGreatDoorEvFieldsT
namespace Go.Ev
set_option maxRecDepth 100000
theorem fields_run : isTrue (evC env4 100000 1000 8 [.at 0 tbLo] H0) = true := by kernel_rfl
end Go.Ev
