/- Runs of 'RealRefArrays' in the kernel. -/
import Derived.Test.YthhfkiffnmiilaaGreatDoorEvRow
import Derived.Test.YthhfkiffnmiilaaGreatDoorEvSy
namespace Go.Ev
set_option maxRecDepth 100000
theorem refarrays_run_22_11 : isTrue (evC env1 100000 1000 10 [andArg 31 22, remArg 23 11] H0) = true := by kernel_rfl
theorem refarrays_run_22_12 : isTrue (evC env1 100000 1000 10 [andArg 31 22, remArg 23 12] H0) = true := by kernel_rfl
theorem refarrays_run_22_13 : isTrue (evC env1 100000 1000 10 [andArg 31 22, remArg 23 13] H0) = true := by kernel_rfl
theorem refarrays_run_22_14 : isTrue (evC env1 100000 1000 10 [andArg 31 22, remArg 23 14] H0) = true := by kernel_rfl
theorem refarrays_run_22_15 : isTrue (evC env1 100000 1000 10 [andArg 31 22, remArg 23 15] H0) = true := by kernel_rfl
theorem refarrays_run_22_16 : isTrue (evC env1 100000 1000 10 [andArg 31 22, remArg 23 16] H0) = true := by kernel_rfl
theorem refarrays_run_22_17 : isTrue (evC env1 100000 1000 10 [andArg 31 22, remArg 23 17] H0) = true := by kernel_rfl
theorem refarrays_run_22_18 : isTrue (evC env1 100000 1000 10 [andArg 31 22, remArg 23 18] H0) = true := by kernel_rfl
theorem refarrays_run_22_19 : isTrue (evC env1 100000 1000 10 [andArg 31 22, remArg 23 19] H0) = true := by kernel_rfl
theorem refarrays_run_22_20 : isTrue (evC env1 100000 1000 10 [andArg 31 22, remArg 23 20] H0) = true := by kernel_rfl
theorem refarrays_run_22_21 : isTrue (evC env1 100000 1000 10 [andArg 31 22, remArg 23 21] H0) = true := by kernel_rfl
theorem refarrays_run_22_22 : isTrue (evC env1 100000 1000 10 [andArg 31 22, remArg 23 22] H0) = true := by kernel_rfl
theorem refarrays_run_23_0 : isTrue (evC env1 100000 1000 10 [andArg 31 23, remArg 24 0] H0) = true := by kernel_rfl
theorem refarrays_run_23_1 : isTrue (evC env1 100000 1000 10 [andArg 31 23, remArg 24 1] H0) = true := by kernel_rfl
theorem refarrays_run_23_2 : isTrue (evC env1 100000 1000 10 [andArg 31 23, remArg 24 2] H0) = true := by kernel_rfl
theorem refarrays_run_23_3 : isTrue (evC env1 100000 1000 10 [andArg 31 23, remArg 24 3] H0) = true := by kernel_rfl
theorem refarrays_run_23_4 : isTrue (evC env1 100000 1000 10 [andArg 31 23, remArg 24 4] H0) = true := by kernel_rfl
theorem refarrays_run_23_5 : isTrue (evC env1 100000 1000 10 [andArg 31 23, remArg 24 5] H0) = true := by kernel_rfl
theorem refarrays_run_23_6 : isTrue (evC env1 100000 1000 10 [andArg 31 23, remArg 24 6] H0) = true := by kernel_rfl
theorem refarrays_run_23_7 : isTrue (evC env1 100000 1000 10 [andArg 31 23, remArg 24 7] H0) = true := by kernel_rfl
theorem refarrays_run_23_8 : isTrue (evC env1 100000 1000 10 [andArg 31 23, remArg 24 8] H0) = true := by kernel_rfl
theorem refarrays_run_23_9 : isTrue (evC env1 100000 1000 10 [andArg 31 23, remArg 24 9] H0) = true := by kernel_rfl
theorem refarrays_run_23_10 : isTrue (evC env1 100000 1000 10 [andArg 31 23, remArg 24 10] H0) = true := by kernel_rfl
theorem refarrays_run_23_11 : isTrue (evC env1 100000 1000 10 [andArg 31 23, remArg 24 11] H0) = true := by kernel_rfl
theorem refarrays_run_23_12 : isTrue (evC env1 100000 1000 10 [andArg 31 23, remArg 24 12] H0) = true := by kernel_rfl
theorem refarrays_run_23_13 : isTrue (evC env1 100000 1000 10 [andArg 31 23, remArg 24 13] H0) = true := by kernel_rfl
theorem refarrays_run_23_14 : isTrue (evC env1 100000 1000 10 [andArg 31 23, remArg 24 14] H0) = true := by kernel_rfl
theorem refarrays_run_23_15 : isTrue (evC env1 100000 1000 10 [andArg 31 23, remArg 24 15] H0) = true := by kernel_rfl
theorem refarrays_run_23_16 : isTrue (evC env1 100000 1000 10 [andArg 31 23, remArg 24 16] H0) = true := by kernel_rfl
theorem refarrays_run_23_17 : isTrue (evC env1 100000 1000 10 [andArg 31 23, remArg 24 17] H0) = true := by kernel_rfl
theorem refarrays_run_23_18 : isTrue (evC env1 100000 1000 10 [andArg 31 23, remArg 24 18] H0) = true := by kernel_rfl
theorem refarrays_run_23_19 : isTrue (evC env1 100000 1000 10 [andArg 31 23, remArg 24 19] H0) = true := by kernel_rfl
theorem refarrays_run_23_20 : isTrue (evC env1 100000 1000 10 [andArg 31 23, remArg 24 20] H0) = true := by kernel_rfl
theorem refarrays_run_23_21 : isTrue (evC env1 100000 1000 10 [andArg 31 23, remArg 24 21] H0) = true := by kernel_rfl
theorem refarrays_run_23_22 : isTrue (evC env1 100000 1000 10 [andArg 31 23, remArg 24 22] H0) = true := by kernel_rfl
theorem refarrays_run_23_23 : isTrue (evC env1 100000 1000 10 [andArg 31 23, remArg 24 23] H0) = true := by kernel_rfl
theorem refarrays_run_24_0 : isTrue (evC env1 100000 1000 10 [andArg 31 24, remArg 25 0] H0) = true := by kernel_rfl
theorem refarrays_run_24_1 : isTrue (evC env1 100000 1000 10 [andArg 31 24, remArg 25 1] H0) = true := by kernel_rfl
theorem refarrays_run_24_2 : isTrue (evC env1 100000 1000 10 [andArg 31 24, remArg 25 2] H0) = true := by kernel_rfl
theorem refarrays_run_24_3 : isTrue (evC env1 100000 1000 10 [andArg 31 24, remArg 25 3] H0) = true := by kernel_rfl
theorem refarrays_run_24_4 : isTrue (evC env1 100000 1000 10 [andArg 31 24, remArg 25 4] H0) = true := by kernel_rfl
theorem refarrays_run_24_5 : isTrue (evC env1 100000 1000 10 [andArg 31 24, remArg 25 5] H0) = true := by kernel_rfl
theorem refarrays_run_24_6 : isTrue (evC env1 100000 1000 10 [andArg 31 24, remArg 25 6] H0) = true := by kernel_rfl
theorem refarrays_run_24_7 : isTrue (evC env1 100000 1000 10 [andArg 31 24, remArg 25 7] H0) = true := by kernel_rfl
end Go.Ev
