/- Runs of 'RunLocals' in the kernel. -/
import Derived.Test.YtmjccopjophgjaaGreatDoorEvLocalsT
namespace Go.Ev
set_option maxRecDepth 100000
theorem locals_run_0 : isTrue (evC envR 100000 1000 4 [.at 0 tbLo, andArg 15 0] H0) = true := by kernel_rfl
theorem locals_run_1 : isTrue (evC envR 100000 1000 4 [.at 0 tbLo, andArg 15 1] H0) = true := by kernel_rfl
theorem locals_run_2 : isTrue (evC envR 100000 1000 4 [.at 0 tbLo, andArg 15 2] H0) = true := by kernel_rfl
theorem locals_run_3 : isTrue (evC envR 100000 1000 4 [.at 0 tbLo, andArg 15 3] H0) = true := by kernel_rfl
theorem locals_run_4 : isTrue (evC envR 100000 1000 4 [.at 0 tbLo, andArg 15 4] H0) = true := by kernel_rfl
theorem locals_run_5 : isTrue (evC envR 100000 1000 4 [.at 0 tbLo, andArg 15 5] H0) = true := by kernel_rfl
theorem locals_run_6 : isTrue (evC envR 100000 1000 4 [.at 0 tbLo, andArg 15 6] H0) = true := by kernel_rfl
theorem locals_run_7 : isTrue (evC envR 100000 1000 4 [.at 0 tbLo, andArg 15 7] H0) = true := by kernel_rfl
end Go.Ev
