/- Runs of 'RealRefArrays' in the kernel. -/
import Derived.Test.YthhfkiffnmiilaaGreatDoorEvRow
import Derived.Test.YthhfkiffnmiilaaGreatDoorEvSy
namespace Go.Ev
set_option maxRecDepth 100000
theorem refarrays_run_27_18 : isTrue (evC env1 100000 1000 10 [andArg 31 27, remArg 28 18] H0) = true := by kernel_rfl
theorem refarrays_run_27_19 : isTrue (evC env1 100000 1000 10 [andArg 31 27, remArg 28 19] H0) = true := by kernel_rfl
theorem refarrays_run_27_20 : isTrue (evC env1 100000 1000 10 [andArg 31 27, remArg 28 20] H0) = true := by kernel_rfl
theorem refarrays_run_27_21 : isTrue (evC env1 100000 1000 10 [andArg 31 27, remArg 28 21] H0) = true := by kernel_rfl
theorem refarrays_run_27_22 : isTrue (evC env1 100000 1000 10 [andArg 31 27, remArg 28 22] H0) = true := by kernel_rfl
theorem refarrays_run_27_23 : isTrue (evC env1 100000 1000 10 [andArg 31 27, remArg 28 23] H0) = true := by kernel_rfl
theorem refarrays_run_27_24 : isTrue (evC env1 100000 1000 10 [andArg 31 27, remArg 28 24] H0) = true := by kernel_rfl
theorem refarrays_run_27_25 : isTrue (evC env1 100000 1000 10 [andArg 31 27, remArg 28 25] H0) = true := by kernel_rfl
theorem refarrays_run_27_26 : isTrue (evC env1 100000 1000 10 [andArg 31 27, remArg 28 26] H0) = true := by kernel_rfl
theorem refarrays_run_27_27 : isTrue (evC env1 100000 1000 10 [andArg 31 27, remArg 28 27] H0) = true := by kernel_rfl
theorem refarrays_run_28_0 : isTrue (evC env1 100000 1000 10 [andArg 31 28, remArg 29 0] H0) = true := by kernel_rfl
theorem refarrays_run_28_1 : isTrue (evC env1 100000 1000 10 [andArg 31 28, remArg 29 1] H0) = true := by kernel_rfl
theorem refarrays_run_28_2 : isTrue (evC env1 100000 1000 10 [andArg 31 28, remArg 29 2] H0) = true := by kernel_rfl
theorem refarrays_run_28_3 : isTrue (evC env1 100000 1000 10 [andArg 31 28, remArg 29 3] H0) = true := by kernel_rfl
theorem refarrays_run_28_4 : isTrue (evC env1 100000 1000 10 [andArg 31 28, remArg 29 4] H0) = true := by kernel_rfl
theorem refarrays_run_28_5 : isTrue (evC env1 100000 1000 10 [andArg 31 28, remArg 29 5] H0) = true := by kernel_rfl
theorem refarrays_run_28_6 : isTrue (evC env1 100000 1000 10 [andArg 31 28, remArg 29 6] H0) = true := by kernel_rfl
theorem refarrays_run_28_7 : isTrue (evC env1 100000 1000 10 [andArg 31 28, remArg 29 7] H0) = true := by kernel_rfl
theorem refarrays_run_28_8 : isTrue (evC env1 100000 1000 10 [andArg 31 28, remArg 29 8] H0) = true := by kernel_rfl
theorem refarrays_run_28_9 : isTrue (evC env1 100000 1000 10 [andArg 31 28, remArg 29 9] H0) = true := by kernel_rfl
theorem refarrays_run_28_10 : isTrue (evC env1 100000 1000 10 [andArg 31 28, remArg 29 10] H0) = true := by kernel_rfl
theorem refarrays_run_28_11 : isTrue (evC env1 100000 1000 10 [andArg 31 28, remArg 29 11] H0) = true := by kernel_rfl
theorem refarrays_run_28_12 : isTrue (evC env1 100000 1000 10 [andArg 31 28, remArg 29 12] H0) = true := by kernel_rfl
theorem refarrays_run_28_13 : isTrue (evC env1 100000 1000 10 [andArg 31 28, remArg 29 13] H0) = true := by kernel_rfl
theorem refarrays_run_28_14 : isTrue (evC env1 100000 1000 10 [andArg 31 28, remArg 29 14] H0) = true := by kernel_rfl
theorem refarrays_run_28_15 : isTrue (evC env1 100000 1000 10 [andArg 31 28, remArg 29 15] H0) = true := by kernel_rfl
theorem refarrays_run_28_16 : isTrue (evC env1 100000 1000 10 [andArg 31 28, remArg 29 16] H0) = true := by kernel_rfl
theorem refarrays_run_28_17 : isTrue (evC env1 100000 1000 10 [andArg 31 28, remArg 29 17] H0) = true := by kernel_rfl
theorem refarrays_run_28_18 : isTrue (evC env1 100000 1000 10 [andArg 31 28, remArg 29 18] H0) = true := by kernel_rfl
theorem refarrays_run_28_19 : isTrue (evC env1 100000 1000 10 [andArg 31 28, remArg 29 19] H0) = true := by kernel_rfl
theorem refarrays_run_28_20 : isTrue (evC env1 100000 1000 10 [andArg 31 28, remArg 29 20] H0) = true := by kernel_rfl
theorem refarrays_run_28_21 : isTrue (evC env1 100000 1000 10 [andArg 31 28, remArg 29 21] H0) = true := by kernel_rfl
theorem refarrays_run_28_22 : isTrue (evC env1 100000 1000 10 [andArg 31 28, remArg 29 22] H0) = true := by kernel_rfl
theorem refarrays_run_28_23 : isTrue (evC env1 100000 1000 10 [andArg 31 28, remArg 29 23] H0) = true := by kernel_rfl
theorem refarrays_run_28_24 : isTrue (evC env1 100000 1000 10 [andArg 31 28, remArg 29 24] H0) = true := by kernel_rfl
theorem refarrays_run_28_25 : isTrue (evC env1 100000 1000 10 [andArg 31 28, remArg 29 25] H0) = true := by kernel_rfl
theorem refarrays_run_28_26 : isTrue (evC env1 100000 1000 10 [andArg 31 28, remArg 29 26] H0) = true := by kernel_rfl
theorem refarrays_run_28_27 : isTrue (evC env1 100000 1000 10 [andArg 31 28, remArg 29 27] H0) = true := by kernel_rfl
theorem refarrays_run_28_28 : isTrue (evC env1 100000 1000 10 [andArg 31 28, remArg 29 28] H0) = true := by kernel_rfl
theorem refarrays_run_29_0 : isTrue (evC env1 100000 1000 10 [andArg 31 29, remArg 30 0] H0) = true := by kernel_rfl
theorem refarrays_run_29_1 : isTrue (evC env1 100000 1000 10 [andArg 31 29, remArg 30 1] H0) = true := by kernel_rfl
theorem refarrays_run_29_2 : isTrue (evC env1 100000 1000 10 [andArg 31 29, remArg 30 2] H0) = true := by kernel_rfl
theorem refarrays_run_29_3 : isTrue (evC env1 100000 1000 10 [andArg 31 29, remArg 30 3] H0) = true := by kernel_rfl
theorem refarrays_run_29_4 : isTrue (evC env1 100000 1000 10 [andArg 31 29, remArg 30 4] H0) = true := by kernel_rfl
end Go.Ev
