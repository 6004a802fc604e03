/- 'RealRefArrays' returns true for every input and its arguments read behind the call as they read before. Conditions: the two listed package-level variables start as the program's text lays them (the card ties them to the text); a verified evaluator ('Go.Ev', EvDef .. EvTop) is run in the kernel once for each case of the input. -/
import Derived.Test.YthhfkiffnmiilaaGreatDoorEvRefArraysR0
import Derived.Test.YthhfkiffnmiilaaGreatDoorEvRefArraysR1
import Derived.Test.YthhfkiffnmiilaaGreatDoorEvRefArraysR2
import Derived.Test.YthhfkiffnmiilaaGreatDoorEvRefArraysR3
import Derived.Test.YthhfkiffnmiilaaGreatDoorEvRefArraysR4
import Derived.Test.YthhfkiffnmiilaaGreatDoorEvRefArraysR5
import Derived.Test.YthhfkiffnmiilaaGreatDoorEvRefArraysR6
import Derived.Test.YthhfkiffnmiilaaGreatDoorEvRefArraysR7
import Derived.Test.YthhfkiffnmiilaaGreatDoorEvRefArraysR8
import Derived.Test.YthhfkiffnmiilaaGreatDoorEvRefArraysR9
import Derived.Test.YthhfkiffnmiilaaGreatDoorEvRefArraysR10
import Derived.Test.YthhfkiffnmiilaaGreatDoorEvRefArraysR11
import Derived.Test.YthhfkiffnmiilaaGreatDoorCards
import Derived.SevenTiedAt
namespace Go.Ev
set_option maxRecDepth 100000
open Go.Proofs Go.Proofs.YthhfkiffnmiilaaGreatDoor Go.ChangeShapes Go.WideShapes Go.ChangeAt Go.WideMaps Go.WideElems Go.RowKit

theorem refarrays_all {x0 : Int} (w0 : (Lit.int .i64 x0).wf = true) {x1 : Int} (_w1 : (Lit.int .i64 x1).wf = true) : ∃ args, LRel inj0 args [.int .i64 x0, .int .i64 x1] ∧ isTrue (evC env1 100000 1000 10 args H0) = true := by
  obtain ⟨r0, h0, e0⟩ := and_rel (ι := inj0) 5 (by decide) w0
  obtain ⟨r1, h1, e1⟩ := rem_rel (ι := inj0) (r0 + 1) (by omega) (n := x1)
  refine ⟨_, .cons _ _ _ _ e0 (.cons _ _ _ _ e1 .nil), ?_⟩
  clear e0 e1
  match r0, h0, r1, h1 with
  | 0, _, 0, _ => exact refarrays_run_0_0
  | 1, _, 0, _ => exact refarrays_run_1_0
  | 1, _, 1, _ => exact refarrays_run_1_1
  | 2, _, 0, _ => exact refarrays_run_2_0
  | 2, _, 1, _ => exact refarrays_run_2_1
  | 2, _, 2, _ => exact refarrays_run_2_2
  | 3, _, 0, _ => exact refarrays_run_3_0
  | 3, _, 1, _ => exact refarrays_run_3_1
  | 3, _, 2, _ => exact refarrays_run_3_2
  | 3, _, 3, _ => exact refarrays_run_3_3
  | 4, _, 0, _ => exact refarrays_run_4_0
  | 4, _, 1, _ => exact refarrays_run_4_1
  | 4, _, 2, _ => exact refarrays_run_4_2
  | 4, _, 3, _ => exact refarrays_run_4_3
  | 4, _, 4, _ => exact refarrays_run_4_4
  | 5, _, 0, _ => exact refarrays_run_5_0
  | 5, _, 1, _ => exact refarrays_run_5_1
  | 5, _, 2, _ => exact refarrays_run_5_2
  | 5, _, 3, _ => exact refarrays_run_5_3
  | 5, _, 4, _ => exact refarrays_run_5_4
  | 5, _, 5, _ => exact refarrays_run_5_5
  | 6, _, 0, _ => exact refarrays_run_6_0
  | 6, _, 1, _ => exact refarrays_run_6_1
  | 6, _, 2, _ => exact refarrays_run_6_2
  | 6, _, 3, _ => exact refarrays_run_6_3
  | 6, _, 4, _ => exact refarrays_run_6_4
  | 6, _, 5, _ => exact refarrays_run_6_5
  | 6, _, 6, _ => exact refarrays_run_6_6
  | 7, _, 0, _ => exact refarrays_run_7_0
  | 7, _, 1, _ => exact refarrays_run_7_1
  | 7, _, 2, _ => exact refarrays_run_7_2
  | 7, _, 3, _ => exact refarrays_run_7_3
  | 7, _, 4, _ => exact refarrays_run_7_4
  | 7, _, 5, _ => exact refarrays_run_7_5
  | 7, _, 6, _ => exact refarrays_run_7_6
  | 7, _, 7, _ => exact refarrays_run_7_7
  | 8, _, 0, _ => exact refarrays_run_8_0
  | 8, _, 1, _ => exact refarrays_run_8_1
  | 8, _, 2, _ => exact refarrays_run_8_2
  | 8, _, 3, _ => exact refarrays_run_8_3
  | 8, _, 4, _ => exact refarrays_run_8_4
  | 8, _, 5, _ => exact refarrays_run_8_5
  | 8, _, 6, _ => exact refarrays_run_8_6
  | 8, _, 7, _ => exact refarrays_run_8_7
  | 8, _, 8, _ => exact refarrays_run_8_8
  | 9, _, 0, _ => exact refarrays_run_9_0
  | 9, _, 1, _ => exact refarrays_run_9_1
  | 9, _, 2, _ => exact refarrays_run_9_2
  | 9, _, 3, _ => exact refarrays_run_9_3
  | 9, _, 4, _ => exact refarrays_run_9_4
  | 9, _, 5, _ => exact refarrays_run_9_5
  | 9, _, 6, _ => exact refarrays_run_9_6
  | 9, _, 7, _ => exact refarrays_run_9_7
  | 9, _, 8, _ => exact refarrays_run_9_8
  | 9, _, 9, _ => exact refarrays_run_9_9
  | 10, _, 0, _ => exact refarrays_run_10_0
  | 10, _, 1, _ => exact refarrays_run_10_1
  | 10, _, 2, _ => exact refarrays_run_10_2
  | 10, _, 3, _ => exact refarrays_run_10_3
  | 10, _, 4, _ => exact refarrays_run_10_4
  | 10, _, 5, _ => exact refarrays_run_10_5
  | 10, _, 6, _ => exact refarrays_run_10_6
  | 10, _, 7, _ => exact refarrays_run_10_7
  | 10, _, 8, _ => exact refarrays_run_10_8
  | 10, _, 9, _ => exact refarrays_run_10_9
  | 10, _, 10, _ => exact refarrays_run_10_10
  | 11, _, 0, _ => exact refarrays_run_11_0
  | 11, _, 1, _ => exact refarrays_run_11_1
  | 11, _, 2, _ => exact refarrays_run_11_2
  | 11, _, 3, _ => exact refarrays_run_11_3
  | 11, _, 4, _ => exact refarrays_run_11_4
  | 11, _, 5, _ => exact refarrays_run_11_5
  | 11, _, 6, _ => exact refarrays_run_11_6
  | 11, _, 7, _ => exact refarrays_run_11_7
  | 11, _, 8, _ => exact refarrays_run_11_8
  | 11, _, 9, _ => exact refarrays_run_11_9
  | 11, _, 10, _ => exact refarrays_run_11_10
  | 11, _, 11, _ => exact refarrays_run_11_11
  | 12, _, 0, _ => exact refarrays_run_12_0
  | 12, _, 1, _ => exact refarrays_run_12_1
  | 12, _, 2, _ => exact refarrays_run_12_2
  | 12, _, 3, _ => exact refarrays_run_12_3
  | 12, _, 4, _ => exact refarrays_run_12_4
  | 12, _, 5, _ => exact refarrays_run_12_5
  | 12, _, 6, _ => exact refarrays_run_12_6
  | 12, _, 7, _ => exact refarrays_run_12_7
  | 12, _, 8, _ => exact refarrays_run_12_8
  | 12, _, 9, _ => exact refarrays_run_12_9
  | 12, _, 10, _ => exact refarrays_run_12_10
  | 12, _, 11, _ => exact refarrays_run_12_11
  | 12, _, 12, _ => exact refarrays_run_12_12
  | 13, _, 0, _ => exact refarrays_run_13_0
  | 13, _, 1, _ => exact refarrays_run_13_1
  | 13, _, 2, _ => exact refarrays_run_13_2
  | 13, _, 3, _ => exact refarrays_run_13_3
  | 13, _, 4, _ => exact refarrays_run_13_4
  | 13, _, 5, _ => exact refarrays_run_13_5
  | 13, _, 6, _ => exact refarrays_run_13_6
  | 13, _, 7, _ => exact refarrays_run_13_7
  | 13, _, 8, _ => exact refarrays_run_13_8
  | 13, _, 9, _ => exact refarrays_run_13_9
  | 13, _, 10, _ => exact refarrays_run_13_10
  | 13, _, 11, _ => exact refarrays_run_13_11
  | 13, _, 12, _ => exact refarrays_run_13_12
  | 13, _, 13, _ => exact refarrays_run_13_13
  | 14, _, 0, _ => exact refarrays_run_14_0
  | 14, _, 1, _ => exact refarrays_run_14_1
  | 14, _, 2, _ => exact refarrays_run_14_2
  | 14, _, 3, _ => exact refarrays_run_14_3
  | 14, _, 4, _ => exact refarrays_run_14_4
  | 14, _, 5, _ => exact refarrays_run_14_5
  | 14, _, 6, _ => exact refarrays_run_14_6
  | 14, _, 7, _ => exact refarrays_run_14_7
  | 14, _, 8, _ => exact refarrays_run_14_8
  | 14, _, 9, _ => exact refarrays_run_14_9
  | 14, _, 10, _ => exact refarrays_run_14_10
  | 14, _, 11, _ => exact refarrays_run_14_11
  | 14, _, 12, _ => exact refarrays_run_14_12
  | 14, _, 13, _ => exact refarrays_run_14_13
  | 14, _, 14, _ => exact refarrays_run_14_14
  | 15, _, 0, _ => exact refarrays_run_15_0
  | 15, _, 1, _ => exact refarrays_run_15_1
  | 15, _, 2, _ => exact refarrays_run_15_2
  | 15, _, 3, _ => exact refarrays_run_15_3
  | 15, _, 4, _ => exact refarrays_run_15_4
  | 15, _, 5, _ => exact refarrays_run_15_5
  | 15, _, 6, _ => exact refarrays_run_15_6
  | 15, _, 7, _ => exact refarrays_run_15_7
  | 15, _, 8, _ => exact refarrays_run_15_8
  | 15, _, 9, _ => exact refarrays_run_15_9
  | 15, _, 10, _ => exact refarrays_run_15_10
  | 15, _, 11, _ => exact refarrays_run_15_11
  | 15, _, 12, _ => exact refarrays_run_15_12
  | 15, _, 13, _ => exact refarrays_run_15_13
  | 15, _, 14, _ => exact refarrays_run_15_14
  | 15, _, 15, _ => exact refarrays_run_15_15
  | 16, _, 0, _ => exact refarrays_run_16_0
  | 16, _, 1, _ => exact refarrays_run_16_1
  | 16, _, 2, _ => exact refarrays_run_16_2
  | 16, _, 3, _ => exact refarrays_run_16_3
  | 16, _, 4, _ => exact refarrays_run_16_4
  | 16, _, 5, _ => exact refarrays_run_16_5
  | 16, _, 6, _ => exact refarrays_run_16_6
  | 16, _, 7, _ => exact refarrays_run_16_7
  | 16, _, 8, _ => exact refarrays_run_16_8
  | 16, _, 9, _ => exact refarrays_run_16_9
  | 16, _, 10, _ => exact refarrays_run_16_10
  | 16, _, 11, _ => exact refarrays_run_16_11
  | 16, _, 12, _ => exact refarrays_run_16_12
  | 16, _, 13, _ => exact refarrays_run_16_13
  | 16, _, 14, _ => exact refarrays_run_16_14
  | 16, _, 15, _ => exact refarrays_run_16_15
  | 16, _, 16, _ => exact refarrays_run_16_16
  | 17, _, 0, _ => exact refarrays_run_17_0
  | 17, _, 1, _ => exact refarrays_run_17_1
  | 17, _, 2, _ => exact refarrays_run_17_2
  | 17, _, 3, _ => exact refarrays_run_17_3
  | 17, _, 4, _ => exact refarrays_run_17_4
  | 17, _, 5, _ => exact refarrays_run_17_5
  | 17, _, 6, _ => exact refarrays_run_17_6
  | 17, _, 7, _ => exact refarrays_run_17_7
  | 17, _, 8, _ => exact refarrays_run_17_8
  | 17, _, 9, _ => exact refarrays_run_17_9
  | 17, _, 10, _ => exact refarrays_run_17_10
  | 17, _, 11, _ => exact refarrays_run_17_11
  | 17, _, 12, _ => exact refarrays_run_17_12
  | 17, _, 13, _ => exact refarrays_run_17_13
  | 17, _, 14, _ => exact refarrays_run_17_14
  | 17, _, 15, _ => exact refarrays_run_17_15
  | 17, _, 16, _ => exact refarrays_run_17_16
  | 17, _, 17, _ => exact refarrays_run_17_17
  | 18, _, 0, _ => exact refarrays_run_18_0
  | 18, _, 1, _ => exact refarrays_run_18_1
  | 18, _, 2, _ => exact refarrays_run_18_2
  | 18, _, 3, _ => exact refarrays_run_18_3
  | 18, _, 4, _ => exact refarrays_run_18_4
  | 18, _, 5, _ => exact refarrays_run_18_5
  | 18, _, 6, _ => exact refarrays_run_18_6
  | 18, _, 7, _ => exact refarrays_run_18_7
  | 18, _, 8, _ => exact refarrays_run_18_8
  | 18, _, 9, _ => exact refarrays_run_18_9
  | 18, _, 10, _ => exact refarrays_run_18_10
  | 18, _, 11, _ => exact refarrays_run_18_11
  | 18, _, 12, _ => exact refarrays_run_18_12
  | 18, _, 13, _ => exact refarrays_run_18_13
  | 18, _, 14, _ => exact refarrays_run_18_14
  | 18, _, 15, _ => exact refarrays_run_18_15
  | 18, _, 16, _ => exact refarrays_run_18_16
  | 18, _, 17, _ => exact refarrays_run_18_17
  | 18, _, 18, _ => exact refarrays_run_18_18
  | 19, _, 0, _ => exact refarrays_run_19_0
  | 19, _, 1, _ => exact refarrays_run_19_1
  | 19, _, 2, _ => exact refarrays_run_19_2
  | 19, _, 3, _ => exact refarrays_run_19_3
  | 19, _, 4, _ => exact refarrays_run_19_4
  | 19, _, 5, _ => exact refarrays_run_19_5
  | 19, _, 6, _ => exact refarrays_run_19_6
  | 19, _, 7, _ => exact refarrays_run_19_7
  | 19, _, 8, _ => exact refarrays_run_19_8
  | 19, _, 9, _ => exact refarrays_run_19_9
  | 19, _, 10, _ => exact refarrays_run_19_10
  | 19, _, 11, _ => exact refarrays_run_19_11
  | 19, _, 12, _ => exact refarrays_run_19_12
  | 19, _, 13, _ => exact refarrays_run_19_13
  | 19, _, 14, _ => exact refarrays_run_19_14
  | 19, _, 15, _ => exact refarrays_run_19_15
  | 19, _, 16, _ => exact refarrays_run_19_16
  | 19, _, 17, _ => exact refarrays_run_19_17
  | 19, _, 18, _ => exact refarrays_run_19_18
  | 19, _, 19, _ => exact refarrays_run_19_19
  | 20, _, 0, _ => exact refarrays_run_20_0
  | 20, _, 1, _ => exact refarrays_run_20_1
  | 20, _, 2, _ => exact refarrays_run_20_2
  | 20, _, 3, _ => exact refarrays_run_20_3
  | 20, _, 4, _ => exact refarrays_run_20_4
  | 20, _, 5, _ => exact refarrays_run_20_5
  | 20, _, 6, _ => exact refarrays_run_20_6
  | 20, _, 7, _ => exact refarrays_run_20_7
  | 20, _, 8, _ => exact refarrays_run_20_8
  | 20, _, 9, _ => exact refarrays_run_20_9
  | 20, _, 10, _ => exact refarrays_run_20_10
  | 20, _, 11, _ => exact refarrays_run_20_11
  | 20, _, 12, _ => exact refarrays_run_20_12
  | 20, _, 13, _ => exact refarrays_run_20_13
  | 20, _, 14, _ => exact refarrays_run_20_14
  | 20, _, 15, _ => exact refarrays_run_20_15
  | 20, _, 16, _ => exact refarrays_run_20_16
  | 20, _, 17, _ => exact refarrays_run_20_17
  | 20, _, 18, _ => exact refarrays_run_20_18
  | 20, _, 19, _ => exact refarrays_run_20_19
  | 20, _, 20, _ => exact refarrays_run_20_20
  | 21, _, 0, _ => exact refarrays_run_21_0
  | 21, _, 1, _ => exact refarrays_run_21_1
  | 21, _, 2, _ => exact refarrays_run_21_2
  | 21, _, 3, _ => exact refarrays_run_21_3
  | 21, _, 4, _ => exact refarrays_run_21_4
  | 21, _, 5, _ => exact refarrays_run_21_5
  | 21, _, 6, _ => exact refarrays_run_21_6
  | 21, _, 7, _ => exact refarrays_run_21_7
  | 21, _, 8, _ => exact refarrays_run_21_8
  | 21, _, 9, _ => exact refarrays_run_21_9
  | 21, _, 10, _ => exact refarrays_run_21_10
  | 21, _, 11, _ => exact refarrays_run_21_11
  | 21, _, 12, _ => exact refarrays_run_21_12
  | 21, _, 13, _ => exact refarrays_run_21_13
  | 21, _, 14, _ => exact refarrays_run_21_14
  | 21, _, 15, _ => exact refarrays_run_21_15
  | 21, _, 16, _ => exact refarrays_run_21_16
  | 21, _, 17, _ => exact refarrays_run_21_17
  | 21, _, 18, _ => exact refarrays_run_21_18
  | 21, _, 19, _ => exact refarrays_run_21_19
  | 21, _, 20, _ => exact refarrays_run_21_20
  | 21, _, 21, _ => exact refarrays_run_21_21
  | 22, _, 0, _ => exact refarrays_run_22_0
  | 22, _, 1, _ => exact refarrays_run_22_1
  | 22, _, 2, _ => exact refarrays_run_22_2
  | 22, _, 3, _ => exact refarrays_run_22_3
  | 22, _, 4, _ => exact refarrays_run_22_4
  | 22, _, 5, _ => exact refarrays_run_22_5
  | 22, _, 6, _ => exact refarrays_run_22_6
  | 22, _, 7, _ => exact refarrays_run_22_7
  | 22, _, 8, _ => exact refarrays_run_22_8
  | 22, _, 9, _ => exact refarrays_run_22_9
  | 22, _, 10, _ => exact refarrays_run_22_10
  | 22, _, 11, _ => exact refarrays_run_22_11
  | 22, _, 12, _ => exact refarrays_run_22_12
  | 22, _, 13, _ => exact refarrays_run_22_13
  | 22, _, 14, _ => exact refarrays_run_22_14
  | 22, _, 15, _ => exact refarrays_run_22_15
  | 22, _, 16, _ => exact refarrays_run_22_16
  | 22, _, 17, _ => exact refarrays_run_22_17
  | 22, _, 18, _ => exact refarrays_run_22_18
  | 22, _, 19, _ => exact refarrays_run_22_19
  | 22, _, 20, _ => exact refarrays_run_22_20
  | 22, _, 21, _ => exact refarrays_run_22_21
  | 22, _, 22, _ => exact refarrays_run_22_22
  | 23, _, 0, _ => exact refarrays_run_23_0
  | 23, _, 1, _ => exact refarrays_run_23_1
  | 23, _, 2, _ => exact refarrays_run_23_2
  | 23, _, 3, _ => exact refarrays_run_23_3
  | 23, _, 4, _ => exact refarrays_run_23_4
  | 23, _, 5, _ => exact refarrays_run_23_5
  | 23, _, 6, _ => exact refarrays_run_23_6
  | 23, _, 7, _ => exact refarrays_run_23_7
  | 23, _, 8, _ => exact refarrays_run_23_8
  | 23, _, 9, _ => exact refarrays_run_23_9
  | 23, _, 10, _ => exact refarrays_run_23_10
  | 23, _, 11, _ => exact refarrays_run_23_11
  | 23, _, 12, _ => exact refarrays_run_23_12
  | 23, _, 13, _ => exact refarrays_run_23_13
  | 23, _, 14, _ => exact refarrays_run_23_14
  | 23, _, 15, _ => exact refarrays_run_23_15
  | 23, _, 16, _ => exact refarrays_run_23_16
  | 23, _, 17, _ => exact refarrays_run_23_17
  | 23, _, 18, _ => exact refarrays_run_23_18
  | 23, _, 19, _ => exact refarrays_run_23_19
  | 23, _, 20, _ => exact refarrays_run_23_20
  | 23, _, 21, _ => exact refarrays_run_23_21
  | 23, _, 22, _ => exact refarrays_run_23_22
  | 23, _, 23, _ => exact refarrays_run_23_23
  | 24, _, 0, _ => exact refarrays_run_24_0
  | 24, _, 1, _ => exact refarrays_run_24_1
  | 24, _, 2, _ => exact refarrays_run_24_2
  | 24, _, 3, _ => exact refarrays_run_24_3
  | 24, _, 4, _ => exact refarrays_run_24_4
  | 24, _, 5, _ => exact refarrays_run_24_5
  | 24, _, 6, _ => exact refarrays_run_24_6
  | 24, _, 7, _ => exact refarrays_run_24_7
  | 24, _, 8, _ => exact refarrays_run_24_8
  | 24, _, 9, _ => exact refarrays_run_24_9
  | 24, _, 10, _ => exact refarrays_run_24_10
  | 24, _, 11, _ => exact refarrays_run_24_11
  | 24, _, 12, _ => exact refarrays_run_24_12
  | 24, _, 13, _ => exact refarrays_run_24_13
  | 24, _, 14, _ => exact refarrays_run_24_14
  | 24, _, 15, _ => exact refarrays_run_24_15
  | 24, _, 16, _ => exact refarrays_run_24_16
  | 24, _, 17, _ => exact refarrays_run_24_17
  | 24, _, 18, _ => exact refarrays_run_24_18
  | 24, _, 19, _ => exact refarrays_run_24_19
  | 24, _, 20, _ => exact refarrays_run_24_20
  | 24, _, 21, _ => exact refarrays_run_24_21
  | 24, _, 22, _ => exact refarrays_run_24_22
  | 24, _, 23, _ => exact refarrays_run_24_23
  | 24, _, 24, _ => exact refarrays_run_24_24
  | 25, _, 0, _ => exact refarrays_run_25_0
  | 25, _, 1, _ => exact refarrays_run_25_1
  | 25, _, 2, _ => exact refarrays_run_25_2
  | 25, _, 3, _ => exact refarrays_run_25_3
  | 25, _, 4, _ => exact refarrays_run_25_4
  | 25, _, 5, _ => exact refarrays_run_25_5
  | 25, _, 6, _ => exact refarrays_run_25_6
  | 25, _, 7, _ => exact refarrays_run_25_7
  | 25, _, 8, _ => exact refarrays_run_25_8
  | 25, _, 9, _ => exact refarrays_run_25_9
  | 25, _, 10, _ => exact refarrays_run_25_10
  | 25, _, 11, _ => exact refarrays_run_25_11
  | 25, _, 12, _ => exact refarrays_run_25_12
  | 25, _, 13, _ => exact refarrays_run_25_13
  | 25, _, 14, _ => exact refarrays_run_25_14
  | 25, _, 15, _ => exact refarrays_run_25_15
  | 25, _, 16, _ => exact refarrays_run_25_16
  | 25, _, 17, _ => exact refarrays_run_25_17
  | 25, _, 18, _ => exact refarrays_run_25_18
  | 25, _, 19, _ => exact refarrays_run_25_19
  | 25, _, 20, _ => exact refarrays_run_25_20
  | 25, _, 21, _ => exact refarrays_run_25_21
  | 25, _, 22, _ => exact refarrays_run_25_22
  | 25, _, 23, _ => exact refarrays_run_25_23
  | 25, _, 24, _ => exact refarrays_run_25_24
  | 25, _, 25, _ => exact refarrays_run_25_25
  | 26, _, 0, _ => exact refarrays_run_26_0
  | 26, _, 1, _ => exact refarrays_run_26_1
  | 26, _, 2, _ => exact refarrays_run_26_2
  | 26, _, 3, _ => exact refarrays_run_26_3
  | 26, _, 4, _ => exact refarrays_run_26_4
  | 26, _, 5, _ => exact refarrays_run_26_5
  | 26, _, 6, _ => exact refarrays_run_26_6
  | 26, _, 7, _ => exact refarrays_run_26_7
  | 26, _, 8, _ => exact refarrays_run_26_8
  | 26, _, 9, _ => exact refarrays_run_26_9
  | 26, _, 10, _ => exact refarrays_run_26_10
  | 26, _, 11, _ => exact refarrays_run_26_11
  | 26, _, 12, _ => exact refarrays_run_26_12
  | 26, _, 13, _ => exact refarrays_run_26_13
  | 26, _, 14, _ => exact refarrays_run_26_14
  | 26, _, 15, _ => exact refarrays_run_26_15
  | 26, _, 16, _ => exact refarrays_run_26_16
  | 26, _, 17, _ => exact refarrays_run_26_17
  | 26, _, 18, _ => exact refarrays_run_26_18
  | 26, _, 19, _ => exact refarrays_run_26_19
  | 26, _, 20, _ => exact refarrays_run_26_20
  | 26, _, 21, _ => exact refarrays_run_26_21
  | 26, _, 22, _ => exact refarrays_run_26_22
  | 26, _, 23, _ => exact refarrays_run_26_23
  | 26, _, 24, _ => exact refarrays_run_26_24
  | 26, _, 25, _ => exact refarrays_run_26_25
  | 26, _, 26, _ => exact refarrays_run_26_26
  | 27, _, 0, _ => exact refarrays_run_27_0
  | 27, _, 1, _ => exact refarrays_run_27_1
  | 27, _, 2, _ => exact refarrays_run_27_2
  | 27, _, 3, _ => exact refarrays_run_27_3
  | 27, _, 4, _ => exact refarrays_run_27_4
  | 27, _, 5, _ => exact refarrays_run_27_5
  | 27, _, 6, _ => exact refarrays_run_27_6
  | 27, _, 7, _ => exact refarrays_run_27_7
  | 27, _, 8, _ => exact refarrays_run_27_8
  | 27, _, 9, _ => exact refarrays_run_27_9
  | 27, _, 10, _ => exact refarrays_run_27_10
  | 27, _, 11, _ => exact refarrays_run_27_11
  | 27, _, 12, _ => exact refarrays_run_27_12
  | 27, _, 13, _ => exact refarrays_run_27_13
  | 27, _, 14, _ => exact refarrays_run_27_14
  | 27, _, 15, _ => exact refarrays_run_27_15
  | 27, _, 16, _ => exact refarrays_run_27_16
  | 27, _, 17, _ => exact refarrays_run_27_17
  | 27, _, 18, _ => exact refarrays_run_27_18
  | 27, _, 19, _ => exact refarrays_run_27_19
  | 27, _, 20, _ => exact refarrays_run_27_20
  | 27, _, 21, _ => exact refarrays_run_27_21
  | 27, _, 22, _ => exact refarrays_run_27_22
  | 27, _, 23, _ => exact refarrays_run_27_23
  | 27, _, 24, _ => exact refarrays_run_27_24
  | 27, _, 25, _ => exact refarrays_run_27_25
  | 27, _, 26, _ => exact refarrays_run_27_26
  | 27, _, 27, _ => exact refarrays_run_27_27
  | 28, _, 0, _ => exact refarrays_run_28_0
  | 28, _, 1, _ => exact refarrays_run_28_1
  | 28, _, 2, _ => exact refarrays_run_28_2
  | 28, _, 3, _ => exact refarrays_run_28_3
  | 28, _, 4, _ => exact refarrays_run_28_4
  | 28, _, 5, _ => exact refarrays_run_28_5
  | 28, _, 6, _ => exact refarrays_run_28_6
  | 28, _, 7, _ => exact refarrays_run_28_7
  | 28, _, 8, _ => exact refarrays_run_28_8
  | 28, _, 9, _ => exact refarrays_run_28_9
  | 28, _, 10, _ => exact refarrays_run_28_10
  | 28, _, 11, _ => exact refarrays_run_28_11
  | 28, _, 12, _ => exact refarrays_run_28_12
  | 28, _, 13, _ => exact refarrays_run_28_13
  | 28, _, 14, _ => exact refarrays_run_28_14
  | 28, _, 15, _ => exact refarrays_run_28_15
  | 28, _, 16, _ => exact refarrays_run_28_16
  | 28, _, 17, _ => exact refarrays_run_28_17
  | 28, _, 18, _ => exact refarrays_run_28_18
  | 28, _, 19, _ => exact refarrays_run_28_19
  | 28, _, 20, _ => exact refarrays_run_28_20
  | 28, _, 21, _ => exact refarrays_run_28_21
  | 28, _, 22, _ => exact refarrays_run_28_22
  | 28, _, 23, _ => exact refarrays_run_28_23
  | 28, _, 24, _ => exact refarrays_run_28_24
  | 28, _, 25, _ => exact refarrays_run_28_25
  | 28, _, 26, _ => exact refarrays_run_28_26
  | 28, _, 27, _ => exact refarrays_run_28_27
  | 28, _, 28, _ => exact refarrays_run_28_28
  | 29, _, 0, _ => exact refarrays_run_29_0
  | 29, _, 1, _ => exact refarrays_run_29_1
  | 29, _, 2, _ => exact refarrays_run_29_2
  | 29, _, 3, _ => exact refarrays_run_29_3
  | 29, _, 4, _ => exact refarrays_run_29_4
  | 29, _, 5, _ => exact refarrays_run_29_5
  | 29, _, 6, _ => exact refarrays_run_29_6
  | 29, _, 7, _ => exact refarrays_run_29_7
  | 29, _, 8, _ => exact refarrays_run_29_8
  | 29, _, 9, _ => exact refarrays_run_29_9
  | 29, _, 10, _ => exact refarrays_run_29_10
  | 29, _, 11, _ => exact refarrays_run_29_11
  | 29, _, 12, _ => exact refarrays_run_29_12
  | 29, _, 13, _ => exact refarrays_run_29_13
  | 29, _, 14, _ => exact refarrays_run_29_14
  | 29, _, 15, _ => exact refarrays_run_29_15
  | 29, _, 16, _ => exact refarrays_run_29_16
  | 29, _, 17, _ => exact refarrays_run_29_17
  | 29, _, 18, _ => exact refarrays_run_29_18
  | 29, _, 19, _ => exact refarrays_run_29_19
  | 29, _, 20, _ => exact refarrays_run_29_20
  | 29, _, 21, _ => exact refarrays_run_29_21
  | 29, _, 22, _ => exact refarrays_run_29_22
  | 29, _, 23, _ => exact refarrays_run_29_23
  | 29, _, 24, _ => exact refarrays_run_29_24
  | 29, _, 25, _ => exact refarrays_run_29_25
  | 29, _, 26, _ => exact refarrays_run_29_26
  | 29, _, 27, _ => exact refarrays_run_29_27
  | 29, _, 28, _ => exact refarrays_run_29_28
  | 29, _, 29, _ => exact refarrays_run_29_29
  | 30, _, 0, _ => exact refarrays_run_30_0
  | 30, _, 1, _ => exact refarrays_run_30_1
  | 30, _, 2, _ => exact refarrays_run_30_2
  | 30, _, 3, _ => exact refarrays_run_30_3
  | 30, _, 4, _ => exact refarrays_run_30_4
  | 30, _, 5, _ => exact refarrays_run_30_5
  | 30, _, 6, _ => exact refarrays_run_30_6
  | 30, _, 7, _ => exact refarrays_run_30_7
  | 30, _, 8, _ => exact refarrays_run_30_8
  | 30, _, 9, _ => exact refarrays_run_30_9
  | 30, _, 10, _ => exact refarrays_run_30_10
  | 30, _, 11, _ => exact refarrays_run_30_11
  | 30, _, 12, _ => exact refarrays_run_30_12
  | 30, _, 13, _ => exact refarrays_run_30_13
  | 30, _, 14, _ => exact refarrays_run_30_14
  | 30, _, 15, _ => exact refarrays_run_30_15
  | 30, _, 16, _ => exact refarrays_run_30_16
  | 30, _, 17, _ => exact refarrays_run_30_17
  | 30, _, 18, _ => exact refarrays_run_30_18
  | 30, _, 19, _ => exact refarrays_run_30_19
  | 30, _, 20, _ => exact refarrays_run_30_20
  | 30, _, 21, _ => exact refarrays_run_30_21
  | 30, _, 22, _ => exact refarrays_run_30_22
  | 30, _, 23, _ => exact refarrays_run_30_23
  | 30, _, 24, _ => exact refarrays_run_30_24
  | 30, _, 25, _ => exact refarrays_run_30_25
  | 30, _, 26, _ => exact refarrays_run_30_26
  | 30, _, 27, _ => exact refarrays_run_30_27
  | 30, _, 28, _ => exact refarrays_run_30_28
  | 30, _, 29, _ => exact refarrays_run_30_29
  | 30, _, 30, _ => exact refarrays_run_30_30
  | 31, _, 0, _ => exact refarrays_run_31_0
  | 31, _, 1, _ => exact refarrays_run_31_1
  | 31, _, 2, _ => exact refarrays_run_31_2
  | 31, _, 3, _ => exact refarrays_run_31_3
  | 31, _, 4, _ => exact refarrays_run_31_4
  | 31, _, 5, _ => exact refarrays_run_31_5
  | 31, _, 6, _ => exact refarrays_run_31_6
  | 31, _, 7, _ => exact refarrays_run_31_7
  | 31, _, 8, _ => exact refarrays_run_31_8
  | 31, _, 9, _ => exact refarrays_run_31_9
  | 31, _, 10, _ => exact refarrays_run_31_10
  | 31, _, 11, _ => exact refarrays_run_31_11
  | 31, _, 12, _ => exact refarrays_run_31_12
  | 31, _, 13, _ => exact refarrays_run_31_13
  | 31, _, 14, _ => exact refarrays_run_31_14
  | 31, _, 15, _ => exact refarrays_run_31_15
  | 31, _, 16, _ => exact refarrays_run_31_16
  | 31, _, 17, _ => exact refarrays_run_31_17
  | 31, _, 18, _ => exact refarrays_run_31_18
  | 31, _, 19, _ => exact refarrays_run_31_19
  | 31, _, 20, _ => exact refarrays_run_31_20
  | 31, _, 21, _ => exact refarrays_run_31_21
  | 31, _, 22, _ => exact refarrays_run_31_22
  | 31, _, 23, _ => exact refarrays_run_31_23
  | 31, _, 24, _ => exact refarrays_run_31_24
  | 31, _, 25, _ => exact refarrays_run_31_25
  | 31, _, 26, _ => exact refarrays_run_31_26
  | 31, _, 27, _ => exact refarrays_run_31_27
  | 31, _, 28, _ => exact refarrays_run_31_28
  | 31, _, 29, _ => exact refarrays_run_31_29
  | 31, _, 30, _ => exact refarrays_run_31_30
  | 31, _, 31, _ => exact refarrays_run_31_31
  | 0, _, r + 1, h =>
    have h' : r + 1 < 0 + 1 := h
    omega
  | 1, _, r + 2, h =>
    have h' : r + 2 < 1 + 1 := h
    omega
  | 2, _, r + 3, h =>
    have h' : r + 3 < 2 + 1 := h
    omega
  | 3, _, r + 4, h =>
    have h' : r + 4 < 3 + 1 := h
    omega
  | 4, _, r + 5, h =>
    have h' : r + 5 < 4 + 1 := h
    omega
  | 5, _, r + 6, h =>
    have h' : r + 6 < 5 + 1 := h
    omega
  | 6, _, r + 7, h =>
    have h' : r + 7 < 6 + 1 := h
    omega
  | 7, _, r + 8, h =>
    have h' : r + 8 < 7 + 1 := h
    omega
  | 8, _, r + 9, h =>
    have h' : r + 9 < 8 + 1 := h
    omega
  | 9, _, r + 10, h =>
    have h' : r + 10 < 9 + 1 := h
    omega
  | 10, _, r + 11, h =>
    have h' : r + 11 < 10 + 1 := h
    omega
  | 11, _, r + 12, h =>
    have h' : r + 12 < 11 + 1 := h
    omega
  | 12, _, r + 13, h =>
    have h' : r + 13 < 12 + 1 := h
    omega
  | 13, _, r + 14, h =>
    have h' : r + 14 < 13 + 1 := h
    omega
  | 14, _, r + 15, h =>
    have h' : r + 15 < 14 + 1 := h
    omega
  | 15, _, r + 16, h =>
    have h' : r + 16 < 15 + 1 := h
    omega
  | 16, _, r + 17, h =>
    have h' : r + 17 < 16 + 1 := h
    omega
  | 17, _, r + 18, h =>
    have h' : r + 18 < 17 + 1 := h
    omega
  | 18, _, r + 19, h =>
    have h' : r + 19 < 18 + 1 := h
    omega
  | 19, _, r + 20, h =>
    have h' : r + 20 < 19 + 1 := h
    omega
  | 20, _, r + 21, h =>
    have h' : r + 21 < 20 + 1 := h
    omega
  | 21, _, r + 22, h =>
    have h' : r + 22 < 21 + 1 := h
    omega
  | 22, _, r + 23, h =>
    have h' : r + 23 < 22 + 1 := h
    omega
  | 23, _, r + 24, h =>
    have h' : r + 24 < 23 + 1 := h
    omega
  | 24, _, r + 25, h =>
    have h' : r + 25 < 24 + 1 := h
    omega
  | 25, _, r + 26, h =>
    have h' : r + 26 < 25 + 1 := h
    omega
  | 26, _, r + 27, h =>
    have h' : r + 27 < 26 + 1 := h
    omega
  | 27, _, r + 28, h =>
    have h' : r + 28 < 27 + 1 := h
    omega
  | 28, _, r + 29, h =>
    have h' : r + 29 < 28 + 1 := h
    omega
  | 29, _, r + 30, h =>
    have h' : r + 30 < 29 + 1 := h
    omega
  | 30, _, r + 31, h =>
    have h' : r + 31 < 30 + 1 := h
    omega
  | 31, _, r + 32, h =>
    have h' : r + 32 < 31 + 1 := h
    omega
  | r + 32, h, _, _ =>
    have h' : r + 32 < 32 := h
    omega

theorem refarrays_lifted (os : Os) (started : os.Started) (H : Type) (enc : TypeId × Value → H) :
    ReturnsInHanded {} Tryz.checked os 10 .any (fun w args => (Rows.realRefArraysSpec.pre enc Tryz.prog Tryz.f10 [] false w args ∧ laidMetH Tryz.prog laid2 w) ∧ sizedMet enc Tryz.prog Tryz.f10 (OpenSpec.ofChange Rows.realRefArraysSpec) false w args)
      (Rows.realRefArraysSpec.post enc Tryz.prog Tryz.f10 false true false false) := by
  refine returnsInHanded_of_change_and (C := Tryz.checked) (X := fun w _ => laidMetH Tryz.prog laid2 w) (fun _ _ _ hh h => h.of_heap hh) own started (by kernel_rfl) Tryz.func10
    (ChangeSpec.witness_shaped (enc := enc) (C := Tryz.checked) (os := os) (X := fun w _ => laidMetH Tryz.prog laid2 w) false (World.doorLaid Tryz.prog 400 os) #[.int .i64 0, .int .i64 0] 8 rfl (World.shaped_of_RefB (by kernel_rfl) (by kernel_rfl)) (by kernel_rfl) (by kernel_rfl) (by kernel_rfl) (door_met os _)) ?_
  intro W base args ds gs before hval0 hW _ _ hL _
  have hval : ∀ (j : Nat) t v, Tryz.f10.params[j]? = some t → args[j]? = some v → Value.okWide Tryz.prog W .any base t v := hval0
  have hW' := hW
  obtain ⟨p, q, hA0, hV, rfl, hfz, hnd⟩ := hW
  have hA : DataW.TrodAll enc Tryz.prog W 0 (fun _ => true) true Tryz.f10.params.toList args.toList ds p := hA0
  rw [Tryz.params10] at hA hval
  obtain ⟨v0, v1, d0, d1, p0, p1, rfl, rfl, rfl, h0, h1⟩ := trodAll_two hA
  obtain ⟨rfl, rfl⟩ := trodVars_none hV
  obtain ⟨x0, rfl, rfl, rfl, w0⟩ := open_int Tryz.underlying3 (hval 0 3 v0 rfl rfl) h0
  obtain ⟨x1, rfl, rfl, rfl, w1⟩ := open_int Tryz.underlying3 (hval 1 3 v1 rfl rfl) h1
  clear hA0 hval0
  simp only [List.append_nil] at hW'
  obtain ⟨argsA, ha, hrun⟩ := refarrays_all w0 w1
  refine (run_true hrun hL ha).mono fun e W' ⟨he, hb⟩ => ?_
  subst he
  refine ⟨_, rfl, [.lit (.int .i64 x0), .lit (.int .i64 x1)], [], [], [], [], [], hW', ?_, ?_, rfl, hb.frame _, fun h => by cases h⟩
  · exact trodAll_mk1 (shut_bool Tryz.underlying4 _)
  · exact trodAll_mk2 (shut_int Tryz.underlying3 w0) (shut_int Tryz.underlying3 w1)

theorem refarrays_q1 : (Rows.realRefArraysRow.inPlace == Tryz.pinned.checked.prog.inPlace 10) = true := by kernel_rfl
theorem refarrays_q2 : (Rows.realRefArraysRow.unfollowed == Tryz.pinned.checked.prog.unfollowed 10) = true := by kernel_rfl
theorem refarrays_q3 : (Rows.realRefArraysRow.recurses == Tryz.pinned.checked.prog.recurses 10) = true := by kernel_rfl
theorem refarrays_q4 : (Rows.realRefArraysRow.named == Tryz.pinned.checked.prog.varsNamed 10) = true := by kernel_rfl
theorem refarrays_facts : joinedFacts Tryz.pinned.checked.prog 10 Tryz.f10 Rows.realRefArraysSpec Rows.realRefArraysRow = true := by
  unfold joinedFacts
  rw [refarrays_q1, refarrays_q2, refarrays_q3, refarrays_q4]
  kernel_rfl
theorem refarrays_holds : Rows.RealRefArraysSaid :=
  OpenClaim.holds_of_wide 10 Tryz.f10 rfl rfl rfl rfl rfl rfl rfl ⟨rfl, rfl, rfl, rfl, rfl⟩ rfl rfl rfl rfl rfl (by kernel_rfl) Tryz.func10 refarrays_facts
    (of_decide_eq_true (by kernel_rfl)) (by unfold Func.isWrapper; first | (rw [if_pos (by decide +kernel)]; kernel_rfl) | (rw [if_neg (by decide +kernel)]; exact ⟨rfl, rfl⟩))
    (fun os started H enc _ => refarrays_lifted os started H enc)

theorem refarrays_q5 : true = Tryz.pinned.checked.prog.looks [] := by kernel_rfl
theorem refarrays_q6 : false = Rows.realRefArraysRow.goesBy Tryz.pinned.checked.prog := by kernel_rfl
theorem refarrays_q7 : Tryz.pinned.checked.prog.mainIs = some ((true, "2c7b8122bf9629d35cde12ff020b26732298799ede7d57cf691079540f7bcff5").1, (true, "2c7b8122bf9629d35cde12ff020b26732298799ede7d57cf691079540f7bcff5").2.toList) := by kernel_rfl
theorem refarrays_card : Rows.RealRefArraysCardSaid :=
  Claim7.holds_tied_plain_at .later [] [.listed, .data] true (true, "2c7b8122bf9629d35cde12ff020b26732298799ede7d57cf691079540f7bcff5") true
    refarrays_holds (fun _ h => by cases h) (by kernel_rfl) (fun _ h => by cases h) realRefArrays_row_tie rfl ⟨rfl, rfl⟩ refarrays_q7 rfl
    (fun f fn hf hfn => by
      obtain rfl : f = 10 := Option.some.inj ((show Tryz.prog.funcNamed "gneiss/gneisslaw23.RealRefArrays" = some 10 by kernel_rfl).symm.trans hf) |>.symm
      obtain rfl : fn = Tryz.f10 := (Option.some.inj (Tryz.func10.symm.trans hfn)).symm
      exact ⟨refarrays_q5, fun j t ht => by
        rw [Tryz.params10] at ht
        have h3 : t = 3 := by
          rcases j with _ | _ | j
          · simpa using ht.symm
          · simpa using ht.symm
          · simp at ht
        subst h3
        exact (show Tryz.prog.wantsStandIn 3 = false by kernel_rfl)⟩)
    refarrays_q6
end Go.Ev
namespace Go.Proofs.YthhfkiffnmiilaaGreatDoor
theorem realRefArrays_card_holds : Rows.RealRefArraysCardSaid := Go.Ev.refarrays_card
#print axioms realRefArrays_card_holds
end Go.Proofs.YthhfkiffnmiilaaGreatDoor
