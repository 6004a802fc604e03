/- Runs of 'RealRefArrays' in the kernel. -/
import Derived.Test.YthhfkiffnmiilaaGreatDoorEvRow
import Derived.Test.YthhfkiffnmiilaaGreatDoorEvSy
namespace Go.Ev
set_option maxRecDepth 100000
theorem refarrays_run_15_12 : isTrue (evC env1 100000 1000 10 [andArg 31 15, remArg 16 12] H0) = true := by kernel_rfl
theorem refarrays_run_15_13 : isTrue (evC env1 100000 1000 10 [andArg 31 15, remArg 16 13] H0) = true := by kernel_rfl
theorem refarrays_run_15_14 : isTrue (evC env1 100000 1000 10 [andArg 31 15, remArg 16 14] H0) = true := by kernel_rfl
theorem refarrays_run_15_15 : isTrue (evC env1 100000 1000 10 [andArg 31 15, remArg 16 15] H0) = true := by kernel_rfl
theorem refarrays_run_16_0 : isTrue (evC env1 100000 1000 10 [andArg 31 16, remArg 17 0] H0) = true := by kernel_rfl
theorem refarrays_run_16_1 : isTrue (evC env1 100000 1000 10 [andArg 31 16, remArg 17 1] H0) = true := by kernel_rfl
theorem refarrays_run_16_2 : isTrue (evC env1 100000 1000 10 [andArg 31 16, remArg 17 2] H0) = true := by kernel_rfl
theorem refarrays_run_16_3 : isTrue (evC env1 100000 1000 10 [andArg 31 16, remArg 17 3] H0) = true := by kernel_rfl
theorem refarrays_run_16_4 : isTrue (evC env1 100000 1000 10 [andArg 31 16, remArg 17 4] H0) = true := by kernel_rfl
theorem refarrays_run_16_5 : isTrue (evC env1 100000 1000 10 [andArg 31 16, remArg 17 5] H0) = true := by kernel_rfl
theorem refarrays_run_16_6 : isTrue (evC env1 100000 1000 10 [andArg 31 16, remArg 17 6] H0) = true := by kernel_rfl
theorem refarrays_run_16_7 : isTrue (evC env1 100000 1000 10 [andArg 31 16, remArg 17 7] H0) = true := by kernel_rfl
theorem refarrays_run_16_8 : isTrue (evC env1 100000 1000 10 [andArg 31 16, remArg 17 8] H0) = true := by kernel_rfl
theorem refarrays_run_16_9 : isTrue (evC env1 100000 1000 10 [andArg 31 16, remArg 17 9] H0) = true := by kernel_rfl
theorem refarrays_run_16_10 : isTrue (evC env1 100000 1000 10 [andArg 31 16, remArg 17 10] H0) = true := by kernel_rfl
theorem refarrays_run_16_11 : isTrue (evC env1 100000 1000 10 [andArg 31 16, remArg 17 11] H0) = true := by kernel_rfl
theorem refarrays_run_16_12 : isTrue (evC env1 100000 1000 10 [andArg 31 16, remArg 17 12] H0) = true := by kernel_rfl
theorem refarrays_run_16_13 : isTrue (evC env1 100000 1000 10 [andArg 31 16, remArg 17 13] H0) = true := by kernel_rfl
theorem refarrays_run_16_14 : isTrue (evC env1 100000 1000 10 [andArg 31 16, remArg 17 14] H0) = true := by kernel_rfl
theorem refarrays_run_16_15 : isTrue (evC env1 100000 1000 10 [andArg 31 16, remArg 17 15] H0) = true := by kernel_rfl
theorem refarrays_run_16_16 : isTrue (evC env1 100000 1000 10 [andArg 31 16, remArg 17 16] H0) = true := by kernel_rfl
theorem refarrays_run_17_0 : isTrue (evC env1 100000 1000 10 [andArg 31 17, remArg 18 0] H0) = true := by kernel_rfl
theorem refarrays_run_17_1 : isTrue (evC env1 100000 1000 10 [andArg 31 17, remArg 18 1] H0) = true := by kernel_rfl
theorem refarrays_run_17_2 : isTrue (evC env1 100000 1000 10 [andArg 31 17, remArg 18 2] H0) = true := by kernel_rfl
theorem refarrays_run_17_3 : isTrue (evC env1 100000 1000 10 [andArg 31 17, remArg 18 3] H0) = true := by kernel_rfl
theorem refarrays_run_17_4 : isTrue (evC env1 100000 1000 10 [andArg 31 17, remArg 18 4] H0) = true := by kernel_rfl
theorem refarrays_run_17_5 : isTrue (evC env1 100000 1000 10 [andArg 31 17, remArg 18 5] H0) = true := by kernel_rfl
theorem refarrays_run_17_6 : isTrue (evC env1 100000 1000 10 [andArg 31 17, remArg 18 6] H0) = true := by kernel_rfl
theorem refarrays_run_17_7 : isTrue (evC env1 100000 1000 10 [andArg 31 17, remArg 18 7] H0) = true := by kernel_rfl
theorem refarrays_run_17_8 : isTrue (evC env1 100000 1000 10 [andArg 31 17, remArg 18 8] H0) = true := by kernel_rfl
theorem refarrays_run_17_9 : isTrue (evC env1 100000 1000 10 [andArg 31 17, remArg 18 9] H0) = true := by kernel_rfl
theorem refarrays_run_17_10 : isTrue (evC env1 100000 1000 10 [andArg 31 17, remArg 18 10] H0) = true := by kernel_rfl
theorem refarrays_run_17_11 : isTrue (evC env1 100000 1000 10 [andArg 31 17, remArg 18 11] H0) = true := by kernel_rfl
theorem refarrays_run_17_12 : isTrue (evC env1 100000 1000 10 [andArg 31 17, remArg 18 12] H0) = true := by kernel_rfl
theorem refarrays_run_17_13 : isTrue (evC env1 100000 1000 10 [andArg 31 17, remArg 18 13] H0) = true := by kernel_rfl
theorem refarrays_run_17_14 : isTrue (evC env1 100000 1000 10 [andArg 31 17, remArg 18 14] H0) = true := by kernel_rfl
theorem refarrays_run_17_15 : isTrue (evC env1 100000 1000 10 [andArg 31 17, remArg 18 15] H0) = true := by kernel_rfl
theorem refarrays_run_17_16 : isTrue (evC env1 100000 1000 10 [andArg 31 17, remArg 18 16] H0) = true := by kernel_rfl
theorem refarrays_run_17_17 : isTrue (evC env1 100000 1000 10 [andArg 31 17, remArg 18 17] H0) = true := by kernel_rfl
theorem refarrays_run_18_0 : isTrue (evC env1 100000 1000 10 [andArg 31 18, remArg 19 0] H0) = true := by kernel_rfl
theorem refarrays_run_18_1 : isTrue (evC env1 100000 1000 10 [andArg 31 18, remArg 19 1] H0) = true := by kernel_rfl
theorem refarrays_run_18_2 : isTrue (evC env1 100000 1000 10 [andArg 31 18, remArg 19 2] H0) = true := by kernel_rfl
theorem refarrays_run_18_3 : isTrue (evC env1 100000 1000 10 [andArg 31 18, remArg 19 3] H0) = true := by kernel_rfl
theorem refarrays_run_18_4 : isTrue (evC env1 100000 1000 10 [andArg 31 18, remArg 19 4] H0) = true := by kernel_rfl
end Go.Ev
