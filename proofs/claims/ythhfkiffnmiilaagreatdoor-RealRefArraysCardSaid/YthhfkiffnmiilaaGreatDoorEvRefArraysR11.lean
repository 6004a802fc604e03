/- Runs of 'RealRefArrays' in the kernel. -/
import Derived.Test.YthhfkiffnmiilaaGreatDoorEvRow
import Derived.Test.YthhfkiffnmiilaaGreatDoorEvSy
namespace Go.Ev
set_option maxRecDepth 100000
theorem refarrays_run_30_19 : isTrue (evC env1 100000 1000 10 [andArg 31 30, remArg 31 19] H0) = true := by kernel_rfl
theorem refarrays_run_30_20 : isTrue (evC env1 100000 1000 10 [andArg 31 30, remArg 31 20] H0) = true := by kernel_rfl
theorem refarrays_run_30_21 : isTrue (evC env1 100000 1000 10 [andArg 31 30, remArg 31 21] H0) = true := by kernel_rfl
theorem refarrays_run_30_22 : isTrue (evC env1 100000 1000 10 [andArg 31 30, remArg 31 22] H0) = true := by kernel_rfl
theorem refarrays_run_30_23 : isTrue (evC env1 100000 1000 10 [andArg 31 30, remArg 31 23] H0) = true := by kernel_rfl
theorem refarrays_run_30_24 : isTrue (evC env1 100000 1000 10 [andArg 31 30, remArg 31 24] H0) = true := by kernel_rfl
theorem refarrays_run_30_25 : isTrue (evC env1 100000 1000 10 [andArg 31 30, remArg 31 25] H0) = true := by kernel_rfl
theorem refarrays_run_30_26 : isTrue (evC env1 100000 1000 10 [andArg 31 30, remArg 31 26] H0) = true := by kernel_rfl
theorem refarrays_run_30_27 : isTrue (evC env1 100000 1000 10 [andArg 31 30, remArg 31 27] H0) = true := by kernel_rfl
theorem refarrays_run_30_28 : isTrue (evC env1 100000 1000 10 [andArg 31 30, remArg 31 28] H0) = true := by kernel_rfl
theorem refarrays_run_30_29 : isTrue (evC env1 100000 1000 10 [andArg 31 30, remArg 31 29] H0) = true := by kernel_rfl
theorem refarrays_run_30_30 : isTrue (evC env1 100000 1000 10 [andArg 31 30, remArg 31 30] H0) = true := by kernel_rfl
theorem refarrays_run_31_0 : isTrue (evC env1 100000 1000 10 [andArg 31 31, remArg 32 0] H0) = true := by kernel_rfl
theorem refarrays_run_31_1 : isTrue (evC env1 100000 1000 10 [andArg 31 31, remArg 32 1] H0) = true := by kernel_rfl
theorem refarrays_run_31_2 : isTrue (evC env1 100000 1000 10 [andArg 31 31, remArg 32 2] H0) = true := by kernel_rfl
theorem refarrays_run_31_3 : isTrue (evC env1 100000 1000 10 [andArg 31 31, remArg 32 3] H0) = true := by kernel_rfl
theorem refarrays_run_31_4 : isTrue (evC env1 100000 1000 10 [andArg 31 31, remArg 32 4] H0) = true := by kernel_rfl
theorem refarrays_run_31_5 : isTrue (evC env1 100000 1000 10 [andArg 31 31, remArg 32 5] H0) = true := by kernel_rfl
theorem refarrays_run_31_6 : isTrue (evC env1 100000 1000 10 [andArg 31 31, remArg 32 6] H0) = true := by kernel_rfl
theorem refarrays_run_31_7 : isTrue (evC env1 100000 1000 10 [andArg 31 31, remArg 32 7] H0) = true := by kernel_rfl
theorem refarrays_run_31_8 : isTrue (evC env1 100000 1000 10 [andArg 31 31, remArg 32 8] H0) = true := by kernel_rfl
theorem refarrays_run_31_9 : isTrue (evC env1 100000 1000 10 [andArg 31 31, remArg 32 9] H0) = true := by kernel_rfl
theorem refarrays_run_31_10 : isTrue (evC env1 100000 1000 10 [andArg 31 31, remArg 32 10] H0) = true := by kernel_rfl
theorem refarrays_run_31_11 : isTrue (evC env1 100000 1000 10 [andArg 31 31, remArg 32 11] H0) = true := by kernel_rfl
theorem refarrays_run_31_12 : isTrue (evC env1 100000 1000 10 [andArg 31 31, remArg 32 12] H0) = true := by kernel_rfl
theorem refarrays_run_31_13 : isTrue (evC env1 100000 1000 10 [andArg 31 31, remArg 32 13] H0) = true := by kernel_rfl
theorem refarrays_run_31_14 : isTrue (evC env1 100000 1000 10 [andArg 31 31, remArg 32 14] H0) = true := by kernel_rfl
theorem refarrays_run_31_15 : isTrue (evC env1 100000 1000 10 [andArg 31 31, remArg 32 15] H0) = true := by kernel_rfl
theorem refarrays_run_31_16 : isTrue (evC env1 100000 1000 10 [andArg 31 31, remArg 32 16] H0) = true := by kernel_rfl
theorem refarrays_run_31_17 : isTrue (evC env1 100000 1000 10 [andArg 31 31, remArg 32 17] H0) = true := by kernel_rfl
theorem refarrays_run_31_18 : isTrue (evC env1 100000 1000 10 [andArg 31 31, remArg 32 18] H0) = true := by kernel_rfl
theorem refarrays_run_31_19 : isTrue (evC env1 100000 1000 10 [andArg 31 31, remArg 32 19] H0) = true := by kernel_rfl
theorem refarrays_run_31_20 : isTrue (evC env1 100000 1000 10 [andArg 31 31, remArg 32 20] H0) = true := by kernel_rfl
theorem refarrays_run_31_21 : isTrue (evC env1 100000 1000 10 [andArg 31 31, remArg 32 21] H0) = true := by kernel_rfl
theorem refarrays_run_31_22 : isTrue (evC env1 100000 1000 10 [andArg 31 31, remArg 32 22] H0) = true := by kernel_rfl
theorem refarrays_run_31_23 : isTrue (evC env1 100000 1000 10 [andArg 31 31, remArg 32 23] H0) = true := by kernel_rfl
theorem refarrays_run_31_24 : isTrue (evC env1 100000 1000 10 [andArg 31 31, remArg 32 24] H0) = true := by kernel_rfl
theorem refarrays_run_31_25 : isTrue (evC env1 100000 1000 10 [andArg 31 31, remArg 32 25] H0) = true := by kernel_rfl
theorem refarrays_run_31_26 : isTrue (evC env1 100000 1000 10 [andArg 31 31, remArg 32 26] H0) = true := by kernel_rfl
theorem refarrays_run_31_27 : isTrue (evC env1 100000 1000 10 [andArg 31 31, remArg 32 27] H0) = true := by kernel_rfl
theorem refarrays_run_31_28 : isTrue (evC env1 100000 1000 10 [andArg 31 31, remArg 32 28] H0) = true := by kernel_rfl
theorem refarrays_run_31_29 : isTrue (evC env1 100000 1000 10 [andArg 31 31, remArg 32 29] H0) = true := by kernel_rfl
theorem refarrays_run_31_30 : isTrue (evC env1 100000 1000 10 [andArg 31 31, remArg 32 30] H0) = true := by kernel_rfl
theorem refarrays_run_31_31 : isTrue (evC env1 100000 1000 10 [andArg 31 31, remArg 32 31] H0) = true := by kernel_rfl
end Go.Ev
