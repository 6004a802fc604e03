/- Runs of 'RealRefArrays' in the kernel. -/
import Derived.Test.YthhfkiffnmiilaaGreatDoorEvRow
import Derived.Test.YthhfkiffnmiilaaGreatDoorEvSy
namespace Go.Ev
set_option maxRecDepth 100000
theorem refarrays_run_8_8 : isTrue (evC env1 100000 1000 10 [andArg 31 8, remArg 9 8] H0) = true := by kernel_rfl
theorem refarrays_run_9_0 : isTrue (evC env1 100000 1000 10 [andArg 31 9, remArg 10 0] H0) = true := by kernel_rfl
theorem refarrays_run_9_1 : isTrue (evC env1 100000 1000 10 [andArg 31 9, remArg 10 1] H0) = true := by kernel_rfl
theorem refarrays_run_9_2 : isTrue (evC env1 100000 1000 10 [andArg 31 9, remArg 10 2] H0) = true := by kernel_rfl
theorem refarrays_run_9_3 : isTrue (evC env1 100000 1000 10 [andArg 31 9, remArg 10 3] H0) = true := by kernel_rfl
theorem refarrays_run_9_4 : isTrue (evC env1 100000 1000 10 [andArg 31 9, remArg 10 4] H0) = true := by kernel_rfl
theorem refarrays_run_9_5 : isTrue (evC env1 100000 1000 10 [andArg 31 9, remArg 10 5] H0) = true := by kernel_rfl
theorem refarrays_run_9_6 : isTrue (evC env1 100000 1000 10 [andArg 31 9, remArg 10 6] H0) = true := by kernel_rfl
theorem refarrays_run_9_7 : isTrue (evC env1 100000 1000 10 [andArg 31 9, remArg 10 7] H0) = true := by kernel_rfl
theorem refarrays_run_9_8 : isTrue (evC env1 100000 1000 10 [andArg 31 9, remArg 10 8] H0) = true := by kernel_rfl
theorem refarrays_run_9_9 : isTrue (evC env1 100000 1000 10 [andArg 31 9, remArg 10 9] H0) = true := by kernel_rfl
theorem refarrays_run_10_0 : isTrue (evC env1 100000 1000 10 [andArg 31 10, remArg 11 0] H0) = true := by kernel_rfl
theorem refarrays_run_10_1 : isTrue (evC env1 100000 1000 10 [andArg 31 10, remArg 11 1] H0) = true := by kernel_rfl
theorem refarrays_run_10_2 : isTrue (evC env1 100000 1000 10 [andArg 31 10, remArg 11 2] H0) = true := by kernel_rfl
theorem refarrays_run_10_3 : isTrue (evC env1 100000 1000 10 [andArg 31 10, remArg 11 3] H0) = true := by kernel_rfl
theorem refarrays_run_10_4 : isTrue (evC env1 100000 1000 10 [andArg 31 10, remArg 11 4] H0) = true := by kernel_rfl
theorem refarrays_run_10_5 : isTrue (evC env1 100000 1000 10 [andArg 31 10, remArg 11 5] H0) = true := by kernel_rfl
theorem refarrays_run_10_6 : isTrue (evC env1 100000 1000 10 [andArg 31 10, remArg 11 6] H0) = true := by kernel_rfl
theorem refarrays_run_10_7 : isTrue (evC env1 100000 1000 10 [andArg 31 10, remArg 11 7] H0) = true := by kernel_rfl
theorem refarrays_run_10_8 : isTrue (evC env1 100000 1000 10 [andArg 31 10, remArg 11 8] H0) = true := by kernel_rfl
theorem refarrays_run_10_9 : isTrue (evC env1 100000 1000 10 [andArg 31 10, remArg 11 9] H0) = true := by kernel_rfl
theorem refarrays_run_10_10 : isTrue (evC env1 100000 1000 10 [andArg 31 10, remArg 11 10] H0) = true := by kernel_rfl
theorem refarrays_run_11_0 : isTrue (evC env1 100000 1000 10 [andArg 31 11, remArg 12 0] H0) = true := by kernel_rfl
theorem refarrays_run_11_1 : isTrue (evC env1 100000 1000 10 [andArg 31 11, remArg 12 1] H0) = true := by kernel_rfl
theorem refarrays_run_11_2 : isTrue (evC env1 100000 1000 10 [andArg 31 11, remArg 12 2] H0) = true := by kernel_rfl
theorem refarrays_run_11_3 : isTrue (evC env1 100000 1000 10 [andArg 31 11, remArg 12 3] H0) = true := by kernel_rfl
theorem refarrays_run_11_4 : isTrue (evC env1 100000 1000 10 [andArg 31 11, remArg 12 4] H0) = true := by kernel_rfl
theorem refarrays_run_11_5 : isTrue (evC env1 100000 1000 10 [andArg 31 11, remArg 12 5] H0) = true := by kernel_rfl
theorem refarrays_run_11_6 : isTrue (evC env1 100000 1000 10 [andArg 31 11, remArg 12 6] H0) = true := by kernel_rfl
theorem refarrays_run_11_7 : isTrue (evC env1 100000 1000 10 [andArg 31 11, remArg 12 7] H0) = true := by kernel_rfl
theorem refarrays_run_11_8 : isTrue (evC env1 100000 1000 10 [andArg 31 11, remArg 12 8] H0) = true := by kernel_rfl
theorem refarrays_run_11_9 : isTrue (evC env1 100000 1000 10 [andArg 31 11, remArg 12 9] H0) = true := by kernel_rfl
theorem refarrays_run_11_10 : isTrue (evC env1 100000 1000 10 [andArg 31 11, remArg 12 10] H0) = true := by kernel_rfl
theorem refarrays_run_11_11 : isTrue (evC env1 100000 1000 10 [andArg 31 11, remArg 12 11] H0) = true := by kernel_rfl
theorem refarrays_run_12_0 : isTrue (evC env1 100000 1000 10 [andArg 31 12, remArg 13 0] H0) = true := by kernel_rfl
theorem refarrays_run_12_1 : isTrue (evC env1 100000 1000 10 [andArg 31 12, remArg 13 1] H0) = true := by kernel_rfl
theorem refarrays_run_12_2 : isTrue (evC env1 100000 1000 10 [andArg 31 12, remArg 13 2] H0) = true := by kernel_rfl
theorem refarrays_run_12_3 : isTrue (evC env1 100000 1000 10 [andArg 31 12, remArg 13 3] H0) = true := by kernel_rfl
theorem refarrays_run_12_4 : isTrue (evC env1 100000 1000 10 [andArg 31 12, remArg 13 4] H0) = true := by kernel_rfl
theorem refarrays_run_12_5 : isTrue (evC env1 100000 1000 10 [andArg 31 12, remArg 13 5] H0) = true := by kernel_rfl
theorem refarrays_run_12_6 : isTrue (evC env1 100000 1000 10 [andArg 31 12, remArg 13 6] H0) = true := by kernel_rfl
theorem refarrays_run_12_7 : isTrue (evC env1 100000 1000 10 [andArg 31 12, remArg 13 7] H0) = true := by kernel_rfl
theorem refarrays_run_12_8 : isTrue (evC env1 100000 1000 10 [andArg 31 12, remArg 13 8] H0) = true := by kernel_rfl
theorem refarrays_run_12_9 : isTrue (evC env1 100000 1000 10 [andArg 31 12, remArg 13 9] H0) = true := by kernel_rfl
end Go.Ev
