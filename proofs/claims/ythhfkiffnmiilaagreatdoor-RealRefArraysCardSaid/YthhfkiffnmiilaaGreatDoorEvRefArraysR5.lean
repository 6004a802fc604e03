/- Runs of 'RealRefArrays' in the kernel. -/
import Derived.Test.YthhfkiffnmiilaaGreatDoorEvRow
import Derived.Test.YthhfkiffnmiilaaGreatDoorEvSy
namespace Go.Ev
set_option maxRecDepth 100000
theorem refarrays_run_20_10 : isTrue (evC env1 100000 1000 10 [andArg 31 20, remArg 21 10] H0) = true := by kernel_rfl
theorem refarrays_run_20_11 : isTrue (evC env1 100000 1000 10 [andArg 31 20, remArg 21 11] H0) = true := by kernel_rfl
theorem refarrays_run_20_12 : isTrue (evC env1 100000 1000 10 [andArg 31 20, remArg 21 12] H0) = true := by kernel_rfl
theorem refarrays_run_20_13 : isTrue (evC env1 100000 1000 10 [andArg 31 20, remArg 21 13] H0) = true := by kernel_rfl
theorem refarrays_run_20_14 : isTrue (evC env1 100000 1000 10 [andArg 31 20, remArg 21 14] H0) = true := by kernel_rfl
theorem refarrays_run_20_15 : isTrue (evC env1 100000 1000 10 [andArg 31 20, remArg 21 15] H0) = true := by kernel_rfl
theorem refarrays_run_20_16 : isTrue (evC env1 100000 1000 10 [andArg 31 20, remArg 21 16] H0) = true := by kernel_rfl
theorem refarrays_run_20_17 : isTrue (evC env1 100000 1000 10 [andArg 31 20, remArg 21 17] H0) = true := by kernel_rfl
theorem refarrays_run_20_18 : isTrue (evC env1 100000 1000 10 [andArg 31 20, remArg 21 18] H0) = true := by kernel_rfl
theorem refarrays_run_20_19 : isTrue (evC env1 100000 1000 10 [andArg 31 20, remArg 21 19] H0) = true := by kernel_rfl
theorem refarrays_run_20_20 : isTrue (evC env1 100000 1000 10 [andArg 31 20, remArg 21 20] H0) = true := by kernel_rfl
theorem refarrays_run_21_0 : isTrue (evC env1 100000 1000 10 [andArg 31 21, remArg 22 0] H0) = true := by kernel_rfl
theorem refarrays_run_21_1 : isTrue (evC env1 100000 1000 10 [andArg 31 21, remArg 22 1] H0) = true := by kernel_rfl
theorem refarrays_run_21_2 : isTrue (evC env1 100000 1000 10 [andArg 31 21, remArg 22 2] H0) = true := by kernel_rfl
theorem refarrays_run_21_3 : isTrue (evC env1 100000 1000 10 [andArg 31 21, remArg 22 3] H0) = true := by kernel_rfl
theorem refarrays_run_21_4 : isTrue (evC env1 100000 1000 10 [andArg 31 21, remArg 22 4] H0) = true := by kernel_rfl
theorem refarrays_run_21_5 : isTrue (evC env1 100000 1000 10 [andArg 31 21, remArg 22 5] H0) = true := by kernel_rfl
theorem refarrays_run_21_6 : isTrue (evC env1 100000 1000 10 [andArg 31 21, remArg 22 6] H0) = true := by kernel_rfl
theorem refarrays_run_21_7 : isTrue (evC env1 100000 1000 10 [andArg 31 21, remArg 22 7] H0) = true := by kernel_rfl
theorem refarrays_run_21_8 : isTrue (evC env1 100000 1000 10 [andArg 31 21, remArg 22 8] H0) = true := by kernel_rfl
theorem refarrays_run_21_9 : isTrue (evC env1 100000 1000 10 [andArg 31 21, remArg 22 9] H0) = true := by kernel_rfl
theorem refarrays_run_21_10 : isTrue (evC env1 100000 1000 10 [andArg 31 21, remArg 22 10] H0) = true := by kernel_rfl
theorem refarrays_run_21_11 : isTrue (evC env1 100000 1000 10 [andArg 31 21, remArg 22 11] H0) = true := by kernel_rfl
theorem refarrays_run_21_12 : isTrue (evC env1 100000 1000 10 [andArg 31 21, remArg 22 12] H0) = true := by kernel_rfl
theorem refarrays_run_21_13 : isTrue (evC env1 100000 1000 10 [andArg 31 21, remArg 22 13] H0) = true := by kernel_rfl
theorem refarrays_run_21_14 : isTrue (evC env1 100000 1000 10 [andArg 31 21, remArg 22 14] H0) = true := by kernel_rfl
theorem refarrays_run_21_15 : isTrue (evC env1 100000 1000 10 [andArg 31 21, remArg 22 15] H0) = true := by kernel_rfl
theorem refarrays_run_21_16 : isTrue (evC env1 100000 1000 10 [andArg 31 21, remArg 22 16] H0) = true := by kernel_rfl
theorem refarrays_run_21_17 : isTrue (evC env1 100000 1000 10 [andArg 31 21, remArg 22 17] H0) = true := by kernel_rfl
theorem refarrays_run_21_18 : isTrue (evC env1 100000 1000 10 [andArg 31 21, remArg 22 18] H0) = true := by kernel_rfl
theorem refarrays_run_21_19 : isTrue (evC env1 100000 1000 10 [andArg 31 21, remArg 22 19] H0) = true := by kernel_rfl
theorem refarrays_run_21_20 : isTrue (evC env1 100000 1000 10 [andArg 31 21, remArg 22 20] H0) = true := by kernel_rfl
theorem refarrays_run_21_21 : isTrue (evC env1 100000 1000 10 [andArg 31 21, remArg 22 21] H0) = true := by kernel_rfl
theorem refarrays_run_22_0 : isTrue (evC env1 100000 1000 10 [andArg 31 22, remArg 23 0] H0) = true := by kernel_rfl
theorem refarrays_run_22_1 : isTrue (evC env1 100000 1000 10 [andArg 31 22, remArg 23 1] H0) = true := by kernel_rfl
theorem refarrays_run_22_2 : isTrue (evC env1 100000 1000 10 [andArg 31 22, remArg 23 2] H0) = true := by kernel_rfl
theorem refarrays_run_22_3 : isTrue (evC env1 100000 1000 10 [andArg 31 22, remArg 23 3] H0) = true := by kernel_rfl
theorem refarrays_run_22_4 : isTrue (evC env1 100000 1000 10 [andArg 31 22, remArg 23 4] H0) = true := by kernel_rfl
theorem refarrays_run_22_5 : isTrue (evC env1 100000 1000 10 [andArg 31 22, remArg 23 5] H0) = true := by kernel_rfl
theorem refarrays_run_22_6 : isTrue (evC env1 100000 1000 10 [andArg 31 22, remArg 23 6] H0) = true := by kernel_rfl
theorem refarrays_run_22_7 : isTrue (evC env1 100000 1000 10 [andArg 31 22, remArg 23 7] H0) = true := by kernel_rfl
theorem refarrays_run_22_8 : isTrue (evC env1 100000 1000 10 [andArg 31 22, remArg 23 8] H0) = true := by kernel_rfl
theorem refarrays_run_22_9 : isTrue (evC env1 100000 1000 10 [andArg 31 22, remArg 23 9] H0) = true := by kernel_rfl
theorem refarrays_run_22_10 : isTrue (evC env1 100000 1000 10 [andArg 31 22, remArg 23 10] H0) = true := by kernel_rfl
end Go.Ev
