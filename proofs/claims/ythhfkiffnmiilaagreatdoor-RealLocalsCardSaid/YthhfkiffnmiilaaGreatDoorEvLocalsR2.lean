/- Runs of 'RealLocals' in the kernel. -/
import Derived.Test.YthhfkiffnmiilaaGreatDoorEvLocalsT
namespace Go.Ev
set_option maxRecDepth 100000
theorem locals_run_8 : isTrue (evC env4 100000 1000 6 [.at 0 tbLo, andArg 15 8] H0) = true := by kernel_rfl
theorem locals_run_9 : isTrue (evC env4 100000 1000 6 [.at 0 tbLo, andArg 15 9] H0) = true := by kernel_rfl
theorem locals_run_10 : isTrue (evC env4 100000 1000 6 [.at 0 tbLo, andArg 15 10] H0) = true := by kernel_rfl
theorem locals_run_11 : isTrue (evC env4 100000 1000 6 [.at 0 tbLo, andArg 15 11] H0) = true := by kernel_rfl
end Go.Ev
