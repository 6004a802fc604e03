/- Runs of 'RunLocals' in the kernel. -/
import Derived.Test.YtmjccopjophgjaaGreatDoorEvLocalsT
namespace Go.Ev
set_option maxRecDepth 100000
theorem locals_run_8 : isTrue (evC envR 100000 1000 4 [.at 0 tbLo, andArg 15 8] H0) = true := by kernel_rfl
theorem locals_run_9 : isTrue (evC envR 100000 1000 4 [.at 0 tbLo, andArg 15 9] H0) = true := by kernel_rfl
theorem locals_run_10 : isTrue (evC envR 100000 1000 4 [.at 0 tbLo, andArg 15 10] H0) = true := by kernel_rfl
theorem locals_run_11 : isTrue (evC envR 100000 1000 4 [.at 0 tbLo, andArg 15 11] H0) = true := by kernel_rfl
theorem locals_run_12 : isTrue (evC envR 100000 1000 4 [.at 0 tbLo, andArg 15 12] H0) = true := by kernel_rfl
theorem locals_run_13 : isTrue (evC envR 100000 1000 4 [.at 0 tbLo, andArg 15 13] H0) = true := by kernel_rfl
theorem locals_run_14 : isTrue (evC envR 100000 1000 4 [.at 0 tbLo, andArg 15 14] H0) = true := by kernel_rfl
theorem locals_run_15 : isTrue (evC envR 100000 1000 4 [.at 0 tbLo, andArg 15 15] H0) = true := by kernel_rfl
end Go.Ev
