/- Runs of 'RealRefArrays' in the kernel. -/
import Derived.Test.YthhfkiffnmiilaaGreatDoorEvRow
import Derived.Test.YthhfkiffnmiilaaGreatDoorEvSy
namespace Go.Ev
set_option maxRecDepth 100000
theorem refarrays_run_29_5 : isTrue (evC env1 100000 1000 10 [andArg 31 29, remArg 30 5] H0) = true := by kernel_rfl
theorem refarrays_run_29_6 : isTrue (evC env1 100000 1000 10 [andArg 31 29, remArg 30 6] H0) = true := by kernel_rfl
theorem refarrays_run_29_7 : isTrue (evC env1 100000 1000 10 [andArg 31 29, remArg 30 7] H0) = true := by kernel_rfl
theorem refarrays_run_29_8 : isTrue (evC env1 100000 1000 10 [andArg 31 29, remArg 30 8] H0) = true := by kernel_rfl
theorem refarrays_run_29_9 : isTrue (evC env1 100000 1000 10 [andArg 31 29, remArg 30 9] H0) = true := by kernel_rfl
theorem refarrays_run_29_10 : isTrue (evC env1 100000 1000 10 [andArg 31 29, remArg 30 10] H0) = true := by kernel_rfl
theorem refarrays_run_29_11 : isTrue (evC env1 100000 1000 10 [andArg 31 29, remArg 30 11] H0) = true := by kernel_rfl
theorem refarrays_run_29_12 : isTrue (evC env1 100000 1000 10 [andArg 31 29, remArg 30 12] H0) = true := by kernel_rfl
theorem refarrays_run_29_13 : isTrue (evC env1 100000 1000 10 [andArg 31 29, remArg 30 13] H0) = true := by kernel_rfl
theorem refarrays_run_29_14 : isTrue (evC env1 100000 1000 10 [andArg 31 29, remArg 30 14] H0) = true := by kernel_rfl
theorem refarrays_run_29_15 : isTrue (evC env1 100000 1000 10 [andArg 31 29, remArg 30 15] H0) = true := by kernel_rfl
theorem refarrays_run_29_16 : isTrue (evC env1 100000 1000 10 [andArg 31 29, remArg 30 16] H0) = true := by kernel_rfl
theorem refarrays_run_29_17 : isTrue (evC env1 100000 1000 10 [andArg 31 29, remArg 30 17] H0) = true := by kernel_rfl
theorem refarrays_run_29_18 : isTrue (evC env1 100000 1000 10 [andArg 31 29, remArg 30 18] H0) = true := by kernel_rfl
theorem refarrays_run_29_19 : isTrue (evC env1 100000 1000 10 [andArg 31 29, remArg 30 19] H0) = true := by kernel_rfl
theorem refarrays_run_29_20 : isTrue (evC env1 100000 1000 10 [andArg 31 29, remArg 30 20] H0) = true := by kernel_rfl
theorem refarrays_run_29_21 : isTrue (evC env1 100000 1000 10 [andArg 31 29, remArg 30 21] H0) = true := by kernel_rfl
theorem refarrays_run_29_22 : isTrue (evC env1 100000 1000 10 [andArg 31 29, remArg 30 22] H0) = true := by kernel_rfl
theorem refarrays_run_29_23 : isTrue (evC env1 100000 1000 10 [andArg 31 29, remArg 30 23] H0) = true := by kernel_rfl
theorem refarrays_run_29_24 : isTrue (evC env1 100000 1000 10 [andArg 31 29, remArg 30 24] H0) = true := by kernel_rfl
theorem refarrays_run_29_25 : isTrue (evC env1 100000 1000 10 [andArg 31 29, remArg 30 25] H0) = true := by kernel_rfl
theorem refarrays_run_29_26 : isTrue (evC env1 100000 1000 10 [andArg 31 29, remArg 30 26] H0) = true := by kernel_rfl
theorem refarrays_run_29_27 : isTrue (evC env1 100000 1000 10 [andArg 31 29, remArg 30 27] H0) = true := by kernel_rfl
theorem refarrays_run_29_28 : isTrue (evC env1 100000 1000 10 [andArg 31 29, remArg 30 28] H0) = true := by kernel_rfl
theorem refarrays_run_29_29 : isTrue (evC env1 100000 1000 10 [andArg 31 29, remArg 30 29] H0) = true := by kernel_rfl
theorem refarrays_run_30_0 : isTrue (evC env1 100000 1000 10 [andArg 31 30, remArg 31 0] H0) = true := by kernel_rfl
theorem refarrays_run_30_1 : isTrue (evC env1 100000 1000 10 [andArg 31 30, remArg 31 1] H0) = true := by kernel_rfl
theorem refarrays_run_30_2 : isTrue (evC env1 100000 1000 10 [andArg 31 30, remArg 31 2] H0) = true := by kernel_rfl
theorem refarrays_run_30_3 : isTrue (evC env1 100000 1000 10 [andArg 31 30, remArg 31 3] H0) = true := by kernel_rfl
theorem refarrays_run_30_4 : isTrue (evC env1 100000 1000 10 [andArg 31 30, remArg 31 4] H0) = true := by kernel_rfl
theorem refarrays_run_30_5 : isTrue (evC env1 100000 1000 10 [andArg 31 30, remArg 31 5] H0) = true := by kernel_rfl
theorem refarrays_run_30_6 : isTrue (evC env1 100000 1000 10 [andArg 31 30, remArg 31 6] H0) = true := by kernel_rfl
theorem refarrays_run_30_7 : isTrue (evC env1 100000 1000 10 [andArg 31 30, remArg 31 7] H0) = true := by kernel_rfl
theorem refarrays_run_30_8 : isTrue (evC env1 100000 1000 10 [andArg 31 30, remArg 31 8] H0) = true := by kernel_rfl
theorem refarrays_run_30_9 : isTrue (evC env1 100000 1000 10 [andArg 31 30, remArg 31 9] H0) = true := by kernel_rfl
theorem refarrays_run_30_10 : isTrue (evC env1 100000 1000 10 [andArg 31 30, remArg 31 10] H0) = true := by kernel_rfl
theorem refarrays_run_30_11 : isTrue (evC env1 100000 1000 10 [andArg 31 30, remArg 31 11] H0) = true := by kernel_rfl
theorem refarrays_run_30_12 : isTrue (evC env1 100000 1000 10 [andArg 31 30, remArg 31 12] H0) = true := by kernel_rfl
theorem refarrays_run_30_13 : isTrue (evC env1 100000 1000 10 [andArg 31 30, remArg 31 13] H0) = true := by kernel_rfl
theorem refarrays_run_30_14 : isTrue (evC env1 100000 1000 10 [andArg 31 30, remArg 31 14] H0) = true := by kernel_rfl
theorem refarrays_run_30_15 : isTrue (evC env1 100000 1000 10 [andArg 31 30, remArg 31 15] H0) = true := by kernel_rfl
theorem refarrays_run_30_16 : isTrue (evC env1 100000 1000 10 [andArg 31 30, remArg 31 16] H0) = true := by kernel_rfl
theorem refarrays_run_30_17 : isTrue (evC env1 100000 1000 10 [andArg 31 30, remArg 31 17] H0) = true := by kernel_rfl
theorem refarrays_run_30_18 : isTrue (evC env1 100000 1000 10 [andArg 31 30, remArg 31 18] H0) = true := by kernel_rfl
end Go.Ev
