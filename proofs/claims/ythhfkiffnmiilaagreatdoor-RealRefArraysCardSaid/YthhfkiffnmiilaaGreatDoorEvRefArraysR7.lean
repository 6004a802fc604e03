/- Runs of 'RealRefArrays' in the kernel. -/
import Derived.Test.YthhfkiffnmiilaaGreatDoorEvRow
import Derived.Test.YthhfkiffnmiilaaGreatDoorEvSy
namespace Go.Ev
set_option maxRecDepth 100000
theorem refarrays_run_24_8 : isTrue (evC env1 100000 1000 10 [andArg 31 24, remArg 25 8] H0) = true := by kernel_rfl
theorem refarrays_run_24_9 : isTrue (evC env1 100000 1000 10 [andArg 31 24, remArg 25 9] H0) = true := by kernel_rfl
theorem refarrays_run_24_10 : isTrue (evC env1 100000 1000 10 [andArg 31 24, remArg 25 10] H0) = true := by kernel_rfl
theorem refarrays_run_24_11 : isTrue (evC env1 100000 1000 10 [andArg 31 24, remArg 25 11] H0) = true := by kernel_rfl
theorem refarrays_run_24_12 : isTrue (evC env1 100000 1000 10 [andArg 31 24, remArg 25 12] H0) = true := by kernel_rfl
theorem refarrays_run_24_13 : isTrue (evC env1 100000 1000 10 [andArg 31 24, remArg 25 13] H0) = true := by kernel_rfl
theorem refarrays_run_24_14 : isTrue (evC env1 100000 1000 10 [andArg 31 24, remArg 25 14] H0) = true := by kernel_rfl
theorem refarrays_run_24_15 : isTrue (evC env1 100000 1000 10 [andArg 31 24, remArg 25 15] H0) = true := by kernel_rfl
theorem refarrays_run_24_16 : isTrue (evC env1 100000 1000 10 [andArg 31 24, remArg 25 16] H0) = true := by kernel_rfl
theorem refarrays_run_24_17 : isTrue (evC env1 100000 1000 10 [andArg 31 24, remArg 25 17] H0) = true := by kernel_rfl
theorem refarrays_run_24_18 : isTrue (evC env1 100000 1000 10 [andArg 31 24, remArg 25 18] H0) = true := by kernel_rfl
theorem refarrays_run_24_19 : isTrue (evC env1 100000 1000 10 [andArg 31 24, remArg 25 19] H0) = true := by kernel_rfl
theorem refarrays_run_24_20 : isTrue (evC env1 100000 1000 10 [andArg 31 24, remArg 25 20] H0) = true := by kernel_rfl
theorem refarrays_run_24_21 : isTrue (evC env1 100000 1000 10 [andArg 31 24, remArg 25 21] H0) = true := by kernel_rfl
theorem refarrays_run_24_22 : isTrue (evC env1 100000 1000 10 [andArg 31 24, remArg 25 22] H0) = true := by kernel_rfl
theorem refarrays_run_24_23 : isTrue (evC env1 100000 1000 10 [andArg 31 24, remArg 25 23] H0) = true := by kernel_rfl
theorem refarrays_run_24_24 : isTrue (evC env1 100000 1000 10 [andArg 31 24, remArg 25 24] H0) = true := by kernel_rfl
theorem refarrays_run_25_0 : isTrue (evC env1 100000 1000 10 [andArg 31 25, remArg 26 0] H0) = true := by kernel_rfl
theorem refarrays_run_25_1 : isTrue (evC env1 100000 1000 10 [andArg 31 25, remArg 26 1] H0) = true := by kernel_rfl
theorem refarrays_run_25_2 : isTrue (evC env1 100000 1000 10 [andArg 31 25, remArg 26 2] H0) = true := by kernel_rfl
theorem refarrays_run_25_3 : isTrue (evC env1 100000 1000 10 [andArg 31 25, remArg 26 3] H0) = true := by kernel_rfl
theorem refarrays_run_25_4 : isTrue (evC env1 100000 1000 10 [andArg 31 25, remArg 26 4] H0) = true := by kernel_rfl
theorem refarrays_run_25_5 : isTrue (evC env1 100000 1000 10 [andArg 31 25, remArg 26 5] H0) = true := by kernel_rfl
theorem refarrays_run_25_6 : isTrue (evC env1 100000 1000 10 [andArg 31 25, remArg 26 6] H0) = true := by kernel_rfl
theorem refarrays_run_25_7 : isTrue (evC env1 100000 1000 10 [andArg 31 25, remArg 26 7] H0) = true := by kernel_rfl
theorem refarrays_run_25_8 : isTrue (evC env1 100000 1000 10 [andArg 31 25, remArg 26 8] H0) = true := by kernel_rfl
theorem refarrays_run_25_9 : isTrue (evC env1 100000 1000 10 [andArg 31 25, remArg 26 9] H0) = true := by kernel_rfl
theorem refarrays_run_25_10 : isTrue (evC env1 100000 1000 10 [andArg 31 25, remArg 26 10] H0) = true := by kernel_rfl
theorem refarrays_run_25_11 : isTrue (evC env1 100000 1000 10 [andArg 31 25, remArg 26 11] H0) = true := by kernel_rfl
theorem refarrays_run_25_12 : isTrue (evC env1 100000 1000 10 [andArg 31 25, remArg 26 12] H0) = true := by kernel_rfl
theorem refarrays_run_25_13 : isTrue (evC env1 100000 1000 10 [andArg 31 25, remArg 26 13] H0) = true := by kernel_rfl
theorem refarrays_run_25_14 : isTrue (evC env1 100000 1000 10 [andArg 31 25, remArg 26 14] H0) = true := by kernel_rfl
theorem refarrays_run_25_15 : isTrue (evC env1 100000 1000 10 [andArg 31 25, remArg 26 15] H0) = true := by kernel_rfl
theorem refarrays_run_25_16 : isTrue (evC env1 100000 1000 10 [andArg 31 25, remArg 26 16] H0) = true := by kernel_rfl
theorem refarrays_run_25_17 : isTrue (evC env1 100000 1000 10 [andArg 31 25, remArg 26 17] H0) = true := by kernel_rfl
theorem refarrays_run_25_18 : isTrue (evC env1 100000 1000 10 [andArg 31 25, remArg 26 18] H0) = true := by kernel_rfl
theorem refarrays_run_25_19 : isTrue (evC env1 100000 1000 10 [andArg 31 25, remArg 26 19] H0) = true := by kernel_rfl
theorem refarrays_run_25_20 : isTrue (evC env1 100000 1000 10 [andArg 31 25, remArg 26 20] H0) = true := by kernel_rfl
theorem refarrays_run_25_21 : isTrue (evC env1 100000 1000 10 [andArg 31 25, remArg 26 21] H0) = true := by kernel_rfl
theorem refarrays_run_25_22 : isTrue (evC env1 100000 1000 10 [andArg 31 25, remArg 26 22] H0) = true := by kernel_rfl
theorem refarrays_run_25_23 : isTrue (evC env1 100000 1000 10 [andArg 31 25, remArg 26 23] H0) = true := by kernel_rfl
theorem refarrays_run_25_24 : isTrue (evC env1 100000 1000 10 [andArg 31 25, remArg 26 24] H0) = true := by kernel_rfl
theorem refarrays_run_25_25 : isTrue (evC env1 100000 1000 10 [andArg 31 25, remArg 26 25] H0) = true := by kernel_rfl
theorem refarrays_run_26_0 : isTrue (evC env1 100000 1000 10 [andArg 31 26, remArg 27 0] H0) = true := by kernel_rfl
end Go.Ev
