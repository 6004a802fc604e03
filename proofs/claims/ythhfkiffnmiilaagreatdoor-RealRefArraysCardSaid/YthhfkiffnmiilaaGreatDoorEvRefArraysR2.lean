/- Runs of 'RealRefArrays' in the kernel. -/
import Derived.Test.YthhfkiffnmiilaaGreatDoorEvRow
import Derived.Test.YthhfkiffnmiilaaGreatDoorEvSy
namespace Go.Ev
set_option maxRecDepth 100000
theorem refarrays_run_12_10 : isTrue (evC env1 100000 1000 10 [andArg 31 12, remArg 13 10] H0) = true := by kernel_rfl
theorem refarrays_run_12_11 : isTrue (evC env1 100000 1000 10 [andArg 31 12, remArg 13 11] H0) = true := by kernel_rfl
theorem refarrays_run_12_12 : isTrue (evC env1 100000 1000 10 [andArg 31 12, remArg 13 12] H0) = true := by kernel_rfl
theorem refarrays_run_13_0 : isTrue (evC env1 100000 1000 10 [andArg 31 13, remArg 14 0] H0) = true := by kernel_rfl
theorem refarrays_run_13_1 : isTrue (evC env1 100000 1000 10 [andArg 31 13, remArg 14 1] H0) = true := by kernel_rfl
theorem refarrays_run_13_2 : isTrue (evC env1 100000 1000 10 [andArg 31 13, remArg 14 2] H0) = true := by kernel_rfl
theorem refarrays_run_13_3 : isTrue (evC env1 100000 1000 10 [andArg 31 13, remArg 14 3] H0) = true := by kernel_rfl
theorem refarrays_run_13_4 : isTrue (evC env1 100000 1000 10 [andArg 31 13, remArg 14 4] H0) = true := by kernel_rfl
theorem refarrays_run_13_5 : isTrue (evC env1 100000 1000 10 [andArg 31 13, remArg 14 5] H0) = true := by kernel_rfl
theorem refarrays_run_13_6 : isTrue (evC env1 100000 1000 10 [andArg 31 13, remArg 14 6] H0) = true := by kernel_rfl
theorem refarrays_run_13_7 : isTrue (evC env1 100000 1000 10 [andArg 31 13, remArg 14 7] H0) = true := by kernel_rfl
theorem refarrays_run_13_8 : isTrue (evC env1 100000 1000 10 [andArg 31 13, remArg 14 8] H0) = true := by kernel_rfl
theorem refarrays_run_13_9 : isTrue (evC env1 100000 1000 10 [andArg 31 13, remArg 14 9] H0) = true := by kernel_rfl
theorem refarrays_run_13_10 : isTrue (evC env1 100000 1000 10 [andArg 31 13, remArg 14 10] H0) = true := by kernel_rfl
theorem refarrays_run_13_11 : isTrue (evC env1 100000 1000 10 [andArg 31 13, remArg 14 11] H0) = true := by kernel_rfl
theorem refarrays_run_13_12 : isTrue (evC env1 100000 1000 10 [andArg 31 13, remArg 14 12] H0) = true := by kernel_rfl
theorem refarrays_run_13_13 : isTrue (evC env1 100000 1000 10 [andArg 31 13, remArg 14 13] H0) = true := by kernel_rfl
theorem refarrays_run_14_0 : isTrue (evC env1 100000 1000 10 [andArg 31 14, remArg 15 0] H0) = true := by kernel_rfl
theorem refarrays_run_14_1 : isTrue (evC env1 100000 1000 10 [andArg 31 14, remArg 15 1] H0) = true := by kernel_rfl
theorem refarrays_run_14_2 : isTrue (evC env1 100000 1000 10 [andArg 31 14, remArg 15 2] H0) = true := by kernel_rfl
theorem refarrays_run_14_3 : isTrue (evC env1 100000 1000 10 [andArg 31 14, remArg 15 3] H0) = true := by kernel_rfl
theorem refarrays_run_14_4 : isTrue (evC env1 100000 1000 10 [andArg 31 14, remArg 15 4] H0) = true := by kernel_rfl
theorem refarrays_run_14_5 : isTrue (evC env1 100000 1000 10 [andArg 31 14, remArg 15 5] H0) = true := by kernel_rfl
theorem refarrays_run_14_6 : isTrue (evC env1 100000 1000 10 [andArg 31 14, remArg 15 6] H0) = true := by kernel_rfl
theorem refarrays_run_14_7 : isTrue (evC env1 100000 1000 10 [andArg 31 14, remArg 15 7] H0) = true := by kernel_rfl
theorem refarrays_run_14_8 : isTrue (evC env1 100000 1000 10 [andArg 31 14, remArg 15 8] H0) = true := by kernel_rfl
theorem refarrays_run_14_9 : isTrue (evC env1 100000 1000 10 [andArg 31 14, remArg 15 9] H0) = true := by kernel_rfl
theorem refarrays_run_14_10 : isTrue (evC env1 100000 1000 10 [andArg 31 14, remArg 15 10] H0) = true := by kernel_rfl
theorem refarrays_run_14_11 : isTrue (evC env1 100000 1000 10 [andArg 31 14, remArg 15 11] H0) = true := by kernel_rfl
theorem refarrays_run_14_12 : isTrue (evC env1 100000 1000 10 [andArg 31 14, remArg 15 12] H0) = true := by kernel_rfl
theorem refarrays_run_14_13 : isTrue (evC env1 100000 1000 10 [andArg 31 14, remArg 15 13] H0) = true := by kernel_rfl
theorem refarrays_run_14_14 : isTrue (evC env1 100000 1000 10 [andArg 31 14, remArg 15 14] H0) = true := by kernel_rfl
theorem refarrays_run_15_0 : isTrue (evC env1 100000 1000 10 [andArg 31 15, remArg 16 0] H0) = true := by kernel_rfl
theorem refarrays_run_15_1 : isTrue (evC env1 100000 1000 10 [andArg 31 15, remArg 16 1] H0) = true := by kernel_rfl
theorem refarrays_run_15_2 : isTrue (evC env1 100000 1000 10 [andArg 31 15, remArg 16 2] H0) = true := by kernel_rfl
theorem refarrays_run_15_3 : isTrue (evC env1 100000 1000 10 [andArg 31 15, remArg 16 3] H0) = true := by kernel_rfl
theorem refarrays_run_15_4 : isTrue (evC env1 100000 1000 10 [andArg 31 15, remArg 16 4] H0) = true := by kernel_rfl
theorem refarrays_run_15_5 : isTrue (evC env1 100000 1000 10 [andArg 31 15, remArg 16 5] H0) = true := by kernel_rfl
theorem refarrays_run_15_6 : isTrue (evC env1 100000 1000 10 [andArg 31 15, remArg 16 6] H0) = true := by kernel_rfl
theorem refarrays_run_15_7 : isTrue (evC env1 100000 1000 10 [andArg 31 15, remArg 16 7] H0) = true := by kernel_rfl
theorem refarrays_run_15_8 : isTrue (evC env1 100000 1000 10 [andArg 31 15, remArg 16 8] H0) = true := by kernel_rfl
theorem refarrays_run_15_9 : isTrue (evC env1 100000 1000 10 [andArg 31 15, remArg 16 9] H0) = true := by kernel_rfl
theorem refarrays_run_15_10 : isTrue (evC env1 100000 1000 10 [andArg 31 15, remArg 16 10] H0) = true := by kernel_rfl
theorem refarrays_run_15_11 : isTrue (evC env1 100000 1000 10 [andArg 31 15, remArg 16 11] H0) = true := by kernel_rfl
end Go.Ev
