/- Runs of 'RealLocals' in the kernel. -/
import Derived.Test.YthhfkiffnmiilaaGreatDoorEvLocalsT
namespace Go.Ev
set_option maxRecDepth 100000
theorem locals_run_12 : isTrue (evC env4 100000 1000 6 [.at 0 tbLo, andArg 15 12] H0) = true := by kernel_rfl
theorem locals_run_13 : isTrue (evC env4 100000 1000 6 [.at 0 tbLo, andArg 15 13] H0) = true := by kernel_rfl
theorem locals_run_14 : isTrue (evC env4 100000 1000 6 [.at 0 tbLo, andArg 15 14] H0) = true := by kernel_rfl
theorem locals_run_15 : isTrue (evC env4 100000 1000 6 [.at 0 tbLo, andArg 15 15] H0) = true := by kernel_rfl
end Go.Ev
