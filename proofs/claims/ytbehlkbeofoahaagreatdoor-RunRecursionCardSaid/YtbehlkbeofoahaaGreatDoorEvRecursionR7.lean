/- Runs of 'RunRecursion' in the kernel. -/
import Derived.Test.YtbehlkbeofoahaaGreatDoorEvRecursionT
namespace Go.Ev
set_option maxRecDepth 100000
theorem recursion_ok_14 : MemosOk (recM1 14 28) (recM2 14) := ⟨rfl, rfl, by kernel_rfl, by kernel_rfl, by kernel_rfl, by kernel_rfl⟩
theorem recursion_run_14 : isTrue (evC (envM (recM1 14 28) (recM2 14)) 100000 1000 8 [andArg 31 14] H0) = true := by kernel_rfl
theorem recursion_ok_15 : MemosOk (recM1 15 30) (recM2 15) := ⟨rfl, rfl, by kernel_rfl, by kernel_rfl, by kernel_rfl, by kernel_rfl⟩
theorem recursion_run_15 : isTrue (evC (envM (recM1 15 30) (recM2 15)) 100000 1000 8 [andArg 31 15] H0) = true := by kernel_rfl
end Go.Ev
