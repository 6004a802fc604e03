/- Runs of 'RealLocals' in the kernel. -/
import Derived.Test.YthhfkiffnmiilaaGreatDoorEvLocalsT
namespace Go.Ev
set_option maxRecDepth 100000
theorem locals_run_0 : isTrue (evC env4 100000 1000 6 [.at 0 tbLo, andArg 15 0] H0) = true := by kernel_rfl
theorem locals_run_1 : isTrue (evC env4 100000 1000 6 [.at 0 tbLo, andArg 15 1] H0) = true := by kernel_rfl
theorem locals_run_2 : isTrue (evC env4 100000 1000 6 [.at 0 tbLo, andArg 15 2] H0) = true := by kernel_rfl
theorem locals_run_3 : isTrue (evC env4 100000 1000 6 [.at 0 tbLo, andArg 15 3] H0) = true := by kernel_rfl
end Go.Ev
