/- Runs of 'RealRefArrays' in the kernel. -/
import Derived.Test.YthhfkiffnmiilaaGreatDoorEvRow
import Derived.Test.YthhfkiffnmiilaaGreatDoorEvSy
namespace Go.Ev
set_option maxRecDepth 100000
theorem refarrays_run_26_1 : isTrue (evC env1 100000 1000 10 [andArg 31 26, remArg 27 1] H0) = true := by kernel_rfl
theorem refarrays_run_26_2 : isTrue (evC env1 100000 1000 10 [andArg 31 26, remArg 27 2] H0) = true := by kernel_rfl
theorem refarrays_run_26_3 : isTrue (evC env1 100000 1000 10 [andArg 31 26, remArg 27 3] H0) = true := by kernel_rfl
theorem refarrays_run_26_4 : isTrue (evC env1 100000 1000 10 [andArg 31 26, remArg 27 4] H0) = true := by kernel_rfl
theorem refarrays_run_26_5 : isTrue (evC env1 100000 1000 10 [andArg 31 26, remArg 27 5] H0) = true := by kernel_rfl
theorem refarrays_run_26_6 : isTrue (evC env1 100000 1000 10 [andArg 31 26, remArg 27 6] H0) = true := by kernel_rfl
theorem refarrays_run_26_7 : isTrue (evC env1 100000 1000 10 [andArg 31 26, remArg 27 7] H0) = true := by kernel_rfl
theorem refarrays_run_26_8 : isTrue (evC env1 100000 1000 10 [andArg 31 26, remArg 27 8] H0) = true := by kernel_rfl
theorem refarrays_run_26_9 : isTrue (evC env1 100000 1000 10 [andArg 31 26, remArg 27 9] H0) = true := by kernel_rfl
theorem refarrays_run_26_10 : isTrue (evC env1 100000 1000 10 [andArg 31 26, remArg 27 10] H0) = true := by kernel_rfl
theorem refarrays_run_26_11 : isTrue (evC env1 100000 1000 10 [andArg 31 26, remArg 27 11] H0) = true := by kernel_rfl
theorem refarrays_run_26_12 : isTrue (evC env1 100000 1000 10 [andArg 31 26, remArg 27 12] H0) = true := by kernel_rfl
theorem refarrays_run_26_13 : isTrue (evC env1 100000 1000 10 [andArg 31 26, remArg 27 13] H0) = true := by kernel_rfl
theorem refarrays_run_26_14 : isTrue (evC env1 100000 1000 10 [andArg 31 26, remArg 27 14] H0) = true := by kernel_rfl
theorem refarrays_run_26_15 : isTrue (evC env1 100000 1000 10 [andArg 31 26, remArg 27 15] H0) = true := by kernel_rfl
theorem refarrays_run_26_16 : isTrue (evC env1 100000 1000 10 [andArg 31 26, remArg 27 16] H0) = true := by kernel_rfl
theorem refarrays_run_26_17 : isTrue (evC env1 100000 1000 10 [andArg 31 26, remArg 27 17] H0) = true := by kernel_rfl
theorem refarrays_run_26_18 : isTrue (evC env1 100000 1000 10 [andArg 31 26, remArg 27 18] H0) = true := by kernel_rfl
theorem refarrays_run_26_19 : isTrue (evC env1 100000 1000 10 [andArg 31 26, remArg 27 19] H0) = true := by kernel_rfl
theorem refarrays_run_26_20 : isTrue (evC env1 100000 1000 10 [andArg 31 26, remArg 27 20] H0) = true := by kernel_rfl
theorem refarrays_run_26_21 : isTrue (evC env1 100000 1000 10 [andArg 31 26, remArg 27 21] H0) = true := by kernel_rfl
theorem refarrays_run_26_22 : isTrue (evC env1 100000 1000 10 [andArg 31 26, remArg 27 22] H0) = true := by kernel_rfl
theorem refarrays_run_26_23 : isTrue (evC env1 100000 1000 10 [andArg 31 26, remArg 27 23] H0) = true := by kernel_rfl
theorem refarrays_run_26_24 : isTrue (evC env1 100000 1000 10 [andArg 31 26, remArg 27 24] H0) = true := by kernel_rfl
theorem refarrays_run_26_25 : isTrue (evC env1 100000 1000 10 [andArg 31 26, remArg 27 25] H0) = true := by kernel_rfl
theorem refarrays_run_26_26 : isTrue (evC env1 100000 1000 10 [andArg 31 26, remArg 27 26] H0) = true := by kernel_rfl
theorem refarrays_run_27_0 : isTrue (evC env1 100000 1000 10 [andArg 31 27, remArg 28 0] H0) = true := by kernel_rfl
theorem refarrays_run_27_1 : isTrue (evC env1 100000 1000 10 [andArg 31 27, remArg 28 1] H0) = true := by kernel_rfl
theorem refarrays_run_27_2 : isTrue (evC env1 100000 1000 10 [andArg 31 27, remArg 28 2] H0) = true := by kernel_rfl
theorem refarrays_run_27_3 : isTrue (evC env1 100000 1000 10 [andArg 31 27, remArg 28 3] H0) = true := by kernel_rfl
theorem refarrays_run_27_4 : isTrue (evC env1 100000 1000 10 [andArg 31 27, remArg 28 4] H0) = true := by kernel_rfl
theorem refarrays_run_27_5 : isTrue (evC env1 100000 1000 10 [andArg 31 27, remArg 28 5] H0) = true := by kernel_rfl
theorem refarrays_run_27_6 : isTrue (evC env1 100000 1000 10 [andArg 31 27, remArg 28 6] H0) = true := by kernel_rfl
theorem refarrays_run_27_7 : isTrue (evC env1 100000 1000 10 [andArg 31 27, remArg 28 7] H0) = true := by kernel_rfl
theorem refarrays_run_27_8 : isTrue (evC env1 100000 1000 10 [andArg 31 27, remArg 28 8] H0) = true := by kernel_rfl
theorem refarrays_run_27_9 : isTrue (evC env1 100000 1000 10 [andArg 31 27, remArg 28 9] H0) = true := by kernel_rfl
theorem refarrays_run_27_10 : isTrue (evC env1 100000 1000 10 [andArg 31 27, remArg 28 10] H0) = true := by kernel_rfl
theorem refarrays_run_27_11 : isTrue (evC env1 100000 1000 10 [andArg 31 27, remArg 28 11] H0) = true := by kernel_rfl
theorem refarrays_run_27_12 : isTrue (evC env1 100000 1000 10 [andArg 31 27, remArg 28 12] H0) = true := by kernel_rfl
theorem refarrays_run_27_13 : isTrue (evC env1 100000 1000 10 [andArg 31 27, remArg 28 13] H0) = true := by kernel_rfl
theorem refarrays_run_27_14 : isTrue (evC env1 100000 1000 10 [andArg 31 27, remArg 28 14] H0) = true := by kernel_rfl
theorem refarrays_run_27_15 : isTrue (evC env1 100000 1000 10 [andArg 31 27, remArg 28 15] H0) = true := by kernel_rfl
theorem refarrays_run_27_16 : isTrue (evC env1 100000 1000 10 [andArg 31 27, remArg 28 16] H0) = true := by kernel_rfl
theorem refarrays_run_27_17 : isTrue (evC env1 100000 1000 10 [andArg 31 27, remArg 28 17] H0) = true := by kernel_rfl
end Go.Ev
