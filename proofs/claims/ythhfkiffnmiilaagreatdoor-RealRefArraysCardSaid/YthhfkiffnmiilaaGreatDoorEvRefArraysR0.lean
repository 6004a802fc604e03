/- Runs of 'RealRefArrays' in the kernel. -/
import Derived.Test.YthhfkiffnmiilaaGreatDoorEvRow
import Derived.Test.YthhfkiffnmiilaaGreatDoorEvSy
namespace Go.Ev
set_option maxRecDepth 100000
theorem refarrays_run_0_0 : isTrue (evC env1 100000 1000 10 [andArg 31 0, remArg 1 0] H0) = true := by kernel_rfl
theorem refarrays_run_1_0 : isTrue (evC env1 100000 1000 10 [andArg 31 1, remArg 2 0] H0) = true := by kernel_rfl
theorem refarrays_run_1_1 : isTrue (evC env1 100000 1000 10 [andArg 31 1, remArg 2 1] H0) = true := by kernel_rfl
theorem refarrays_run_2_0 : isTrue (evC env1 100000 1000 10 [andArg 31 2, remArg 3 0] H0) = true := by kernel_rfl
theorem refarrays_run_2_1 : isTrue (evC env1 100000 1000 10 [andArg 31 2, remArg 3 1] H0) = true := by kernel_rfl
theorem refarrays_run_2_2 : isTrue (evC env1 100000 1000 10 [andArg 31 2, remArg 3 2] H0) = true := by kernel_rfl
theorem refarrays_run_3_0 : isTrue (evC env1 100000 1000 10 [andArg 31 3, remArg 4 0] H0) = true := by kernel_rfl
theorem refarrays_run_3_1 : isTrue (evC env1 100000 1000 10 [andArg 31 3, remArg 4 1] H0) = true := by kernel_rfl
theorem refarrays_run_3_2 : isTrue (evC env1 100000 1000 10 [andArg 31 3, remArg 4 2] H0) = true := by kernel_rfl
theorem refarrays_run_3_3 : isTrue (evC env1 100000 1000 10 [andArg 31 3, remArg 4 3] H0) = true := by kernel_rfl
theorem refarrays_run_4_0 : isTrue (evC env1 100000 1000 10 [andArg 31 4, remArg 5 0] H0) = true := by kernel_rfl
theorem refarrays_run_4_1 : isTrue (evC env1 100000 1000 10 [andArg 31 4, remArg 5 1] H0) = true := by kernel_rfl
theorem refarrays_run_4_2 : isTrue (evC env1 100000 1000 10 [andArg 31 4, remArg 5 2] H0) = true := by kernel_rfl
theorem refarrays_run_4_3 : isTrue (evC env1 100000 1000 10 [andArg 31 4, remArg 5 3] H0) = true := by kernel_rfl
theorem refarrays_run_4_4 : isTrue (evC env1 100000 1000 10 [andArg 31 4, remArg 5 4] H0) = true := by kernel_rfl
theorem refarrays_run_5_0 : isTrue (evC env1 100000 1000 10 [andArg 31 5, remArg 6 0] H0) = true := by kernel_rfl
theorem refarrays_run_5_1 : isTrue (evC env1 100000 1000 10 [andArg 31 5, remArg 6 1] H0) = true := by kernel_rfl
theorem refarrays_run_5_2 : isTrue (evC env1 100000 1000 10 [andArg 31 5, remArg 6 2] H0) = true := by kernel_rfl
theorem refarrays_run_5_3 : isTrue (evC env1 100000 1000 10 [andArg 31 5, remArg 6 3] H0) = true := by kernel_rfl
theorem refarrays_run_5_4 : isTrue (evC env1 100000 1000 10 [andArg 31 5, remArg 6 4] H0) = true := by kernel_rfl
theorem refarrays_run_5_5 : isTrue (evC env1 100000 1000 10 [andArg 31 5, remArg 6 5] H0) = true := by kernel_rfl
theorem refarrays_run_6_0 : isTrue (evC env1 100000 1000 10 [andArg 31 6, remArg 7 0] H0) = true := by kernel_rfl
theorem refarrays_run_6_1 : isTrue (evC env1 100000 1000 10 [andArg 31 6, remArg 7 1] H0) = true := by kernel_rfl
theorem refarrays_run_6_2 : isTrue (evC env1 100000 1000 10 [andArg 31 6, remArg 7 2] H0) = true := by kernel_rfl
theorem refarrays_run_6_3 : isTrue (evC env1 100000 1000 10 [andArg 31 6, remArg 7 3] H0) = true := by kernel_rfl
theorem refarrays_run_6_4 : isTrue (evC env1 100000 1000 10 [andArg 31 6, remArg 7 4] H0) = true := by kernel_rfl
theorem refarrays_run_6_5 : isTrue (evC env1 100000 1000 10 [andArg 31 6, remArg 7 5] H0) = true := by kernel_rfl
theorem refarrays_run_6_6 : isTrue (evC env1 100000 1000 10 [andArg 31 6, remArg 7 6] H0) = true := by kernel_rfl
theorem refarrays_run_7_0 : isTrue (evC env1 100000 1000 10 [andArg 31 7, remArg 8 0] H0) = true := by kernel_rfl
theorem refarrays_run_7_1 : isTrue (evC env1 100000 1000 10 [andArg 31 7, remArg 8 1] H0) = true := by kernel_rfl
theorem refarrays_run_7_2 : isTrue (evC env1 100000 1000 10 [andArg 31 7, remArg 8 2] H0) = true := by kernel_rfl
theorem refarrays_run_7_3 : isTrue (evC env1 100000 1000 10 [andArg 31 7, remArg 8 3] H0) = true := by kernel_rfl
theorem refarrays_run_7_4 : isTrue (evC env1 100000 1000 10 [andArg 31 7, remArg 8 4] H0) = true := by kernel_rfl
theorem refarrays_run_7_5 : isTrue (evC env1 100000 1000 10 [andArg 31 7, remArg 8 5] H0) = true := by kernel_rfl
theorem refarrays_run_7_6 : isTrue (evC env1 100000 1000 10 [andArg 31 7, remArg 8 6] H0) = true := by kernel_rfl
theorem refarrays_run_7_7 : isTrue (evC env1 100000 1000 10 [andArg 31 7, remArg 8 7] H0) = true := by kernel_rfl
theorem refarrays_run_8_0 : isTrue (evC env1 100000 1000 10 [andArg 31 8, remArg 9 0] H0) = true := by kernel_rfl
theorem refarrays_run_8_1 : isTrue (evC env1 100000 1000 10 [andArg 31 8, remArg 9 1] H0) = true := by kernel_rfl
theorem refarrays_run_8_2 : isTrue (evC env1 100000 1000 10 [andArg 31 8, remArg 9 2] H0) = true := by kernel_rfl
theorem refarrays_run_8_3 : isTrue (evC env1 100000 1000 10 [andArg 31 8, remArg 9 3] H0) = true := by kernel_rfl
theorem refarrays_run_8_4 : isTrue (evC env1 100000 1000 10 [andArg 31 8, remArg 9 4] H0) = true := by kernel_rfl
theorem refarrays_run_8_5 : isTrue (evC env1 100000 1000 10 [andArg 31 8, remArg 9 5] H0) = true := by kernel_rfl
theorem refarrays_run_8_6 : isTrue (evC env1 100000 1000 10 [andArg 31 8, remArg 9 6] H0) = true := by kernel_rfl
theorem refarrays_run_8_7 : isTrue (evC env1 100000 1000 10 [andArg 31 8, remArg 9 7] H0) = true := by kernel_rfl
end Go.Ev
