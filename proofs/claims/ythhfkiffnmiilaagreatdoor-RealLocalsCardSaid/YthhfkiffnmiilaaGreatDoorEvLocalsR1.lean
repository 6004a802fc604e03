/- Runs of 'RealLocals' in the kernel. -/
import Derived.Test.YthhfkiffnmiilaaGreatDoorEvLocalsT
namespace Go.Ev
set_option maxRecDepth 100000
theorem locals_run_4 : isTrue (evC env4 100000 1000 6 [.at 0 tbLo, andArg 15 4] H0) = true := by kernel_rfl
theorem locals_run_5 : isTrue (evC env4 100000 1000 6 [.at 0 tbLo, andArg 15 5] H0) = true := by kernel_rfl
theorem locals_run_6 : isTrue (evC env4 100000 1000 6 [.at 0 tbLo, andArg 15 6] H0) = true := by kernel_rfl
theorem locals_run_7 : isTrue (evC env4 100000 1000 6 [.at 0 tbLo, andArg 15 7] H0) = true := by kernel_rfl
end Go.Ev
