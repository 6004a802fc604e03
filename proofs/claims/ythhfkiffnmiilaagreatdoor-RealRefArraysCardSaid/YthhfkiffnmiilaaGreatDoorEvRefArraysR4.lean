/- Runs of 'RealRefArrays' in the kernel. -/
import Derived.Test.YthhfkiffnmiilaaGreatDoorEvRow
import Derived.Test.YthhfkiffnmiilaaGreatDoorEvSy
namespace Go.Ev
set_option maxRecDepth 100000
theorem refarrays_run_18_5 : isTrue (evC env1 100000 1000 10 [andArg 31 18, remArg 19 5] H0) = true := by kernel_rfl
theorem refarrays_run_18_6 : isTrue (evC env1 100000 1000 10 [andArg 31 18, remArg 19 6] H0) = true := by kernel_rfl
theorem refarrays_run_18_7 : isTrue (evC env1 100000 1000 10 [andArg 31 18, remArg 19 7] H0) = true := by kernel_rfl
theorem refarrays_run_18_8 : isTrue (evC env1 100000 1000 10 [andArg 31 18, remArg 19 8] H0) = true := by kernel_rfl
theorem refarrays_run_18_9 : isTrue (evC env1 100000 1000 10 [andArg 31 18, remArg 19 9] H0) = true := by kernel_rfl
theorem refarrays_run_18_10 : isTrue (evC env1 100000 1000 10 [andArg 31 18, remArg 19 10] H0) = true := by kernel_rfl
theorem refarrays_run_18_11 : isTrue (evC env1 100000 1000 10 [andArg 31 18, remArg 19 11] H0) = true := by kernel_rfl
theorem refarrays_run_18_12 : isTrue (evC env1 100000 1000 10 [andArg 31 18, remArg 19 12] H0) = true := by kernel_rfl
theorem refarrays_run_18_13 : isTrue (evC env1 100000 1000 10 [andArg 31 18, remArg 19 13] H0) = true := by kernel_rfl
theorem refarrays_run_18_14 : isTrue (evC env1 100000 1000 10 [andArg 31 18, remArg 19 14] H0) = true := by kernel_rfl
theorem refarrays_run_18_15 : isTrue (evC env1 100000 1000 10 [andArg 31 18, remArg 19 15] H0) = true := by kernel_rfl
theorem refarrays_run_18_16 : isTrue (evC env1 100000 1000 10 [andArg 31 18, remArg 19 16] H0) = true := by kernel_rfl
theorem refarrays_run_18_17 : isTrue (evC env1 100000 1000 10 [andArg 31 18, remArg 19 17] H0) = true := by kernel_rfl
theorem refarrays_run_18_18 : isTrue (evC env1 100000 1000 10 [andArg 31 18, remArg 19 18] H0) = true := by kernel_rfl
theorem refarrays_run_19_0 : isTrue (evC env1 100000 1000 10 [andArg 31 19, remArg 20 0] H0) = true := by kernel_rfl
theorem refarrays_run_19_1 : isTrue (evC env1 100000 1000 10 [andArg 31 19, remArg 20 1] H0) = true := by kernel_rfl
theorem refarrays_run_19_2 : isTrue (evC env1 100000 1000 10 [andArg 31 19, remArg 20 2] H0) = true := by kernel_rfl
theorem refarrays_run_19_3 : isTrue (evC env1 100000 1000 10 [andArg 31 19, remArg 20 3] H0) = true := by kernel_rfl
theorem refarrays_run_19_4 : isTrue (evC env1 100000 1000 10 [andArg 31 19, remArg 20 4] H0) = true := by kernel_rfl
theorem refarrays_run_19_5 : isTrue (evC env1 100000 1000 10 [andArg 31 19, remArg 20 5] H0) = true := by kernel_rfl
theorem refarrays_run_19_6 : isTrue (evC env1 100000 1000 10 [andArg 31 19, remArg 20 6] H0) = true := by kernel_rfl
theorem refarrays_run_19_7 : isTrue (evC env1 100000 1000 10 [andArg 31 19, remArg 20 7] H0) = true := by kernel_rfl
theorem refarrays_run_19_8 : isTrue (evC env1 100000 1000 10 [andArg 31 19, remArg 20 8] H0) = true := by kernel_rfl
theorem refarrays_run_19_9 : isTrue (evC env1 100000 1000 10 [andArg 31 19, remArg 20 9] H0) = true := by kernel_rfl
theorem refarrays_run_19_10 : isTrue (evC env1 100000 1000 10 [andArg 31 19, remArg 20 10] H0) = true := by kernel_rfl
theorem refarrays_run_19_11 : isTrue (evC env1 100000 1000 10 [andArg 31 19, remArg 20 11] H0) = true := by kernel_rfl
theorem refarrays_run_19_12 : isTrue (evC env1 100000 1000 10 [andArg 31 19, remArg 20 12] H0) = true := by kernel_rfl
theorem refarrays_run_19_13 : isTrue (evC env1 100000 1000 10 [andArg 31 19, remArg 20 13] H0) = true := by kernel_rfl
theorem refarrays_run_19_14 : isTrue (evC env1 100000 1000 10 [andArg 31 19, remArg 20 14] H0) = true := by kernel_rfl
theorem refarrays_run_19_15 : isTrue (evC env1 100000 1000 10 [andArg 31 19, remArg 20 15] H0) = true := by kernel_rfl
theorem refarrays_run_19_16 : isTrue (evC env1 100000 1000 10 [andArg 31 19, remArg 20 16] H0) = true := by kernel_rfl
theorem refarrays_run_19_17 : isTrue (evC env1 100000 1000 10 [andArg 31 19, remArg 20 17] H0) = true := by kernel_rfl
theorem refarrays_run_19_18 : isTrue (evC env1 100000 1000 10 [andArg 31 19, remArg 20 18] H0) = true := by kernel_rfl
theorem refarrays_run_19_19 : isTrue (evC env1 100000 1000 10 [andArg 31 19, remArg 20 19] H0) = true := by kernel_rfl
theorem refarrays_run_20_0 : isTrue (evC env1 100000 1000 10 [andArg 31 20, remArg 21 0] H0) = true := by kernel_rfl
theorem refarrays_run_20_1 : isTrue (evC env1 100000 1000 10 [andArg 31 20, remArg 21 1] H0) = true := by kernel_rfl
theorem refarrays_run_20_2 : isTrue (evC env1 100000 1000 10 [andArg 31 20, remArg 21 2] H0) = true := by kernel_rfl
theorem refarrays_run_20_3 : isTrue (evC env1 100000 1000 10 [andArg 31 20, remArg 21 3] H0) = true := by kernel_rfl
theorem refarrays_run_20_4 : isTrue (evC env1 100000 1000 10 [andArg 31 20, remArg 21 4] H0) = true := by kernel_rfl
theorem refarrays_run_20_5 : isTrue (evC env1 100000 1000 10 [andArg 31 20, remArg 21 5] H0) = true := by kernel_rfl
theorem refarrays_run_20_6 : isTrue (evC env1 100000 1000 10 [andArg 31 20, remArg 21 6] H0) = true := by kernel_rfl
theorem refarrays_run_20_7 : isTrue (evC env1 100000 1000 10 [andArg 31 20, remArg 21 7] H0) = true := by kernel_rfl
theorem refarrays_run_20_8 : isTrue (evC env1 100000 1000 10 [andArg 31 20, remArg 21 8] H0) = true := by kernel_rfl
theorem refarrays_run_20_9 : isTrue (evC env1 100000 1000 10 [andArg 31 20, remArg 21 9] H0) = true := by kernel_rfl
end Go.Ev
