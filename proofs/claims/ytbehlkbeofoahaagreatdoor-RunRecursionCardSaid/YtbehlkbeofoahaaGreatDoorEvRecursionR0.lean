/- Runs of 'RunRecursion' in the kernel. -/
import Derived.Test.YtbehlkbeofoahaaGreatDoorEvRecursionT
namespace Go.Ev
set_option maxRecDepth 100000
theorem recursion_ok_0 : MemosOk (recM1 0 0) (recM2 0) := ⟨rfl, rfl, by kernel_rfl, by kernel_rfl, by kernel_rfl, by kernel_rfl⟩
theorem recursion_run_0 : isTrue (evC (envM (recM1 0 0) (recM2 0)) 100000 1000 8 [andArg 31 0] H0) = true := by kernel_rfl
theorem recursion_ok_1 : MemosOk (recM1 1 2) (recM2 1) := ⟨rfl, rfl, by kernel_rfl, by kernel_rfl, by kernel_rfl, by kernel_rfl⟩
theorem recursion_run_1 : isTrue (evC (envM (recM1 1 2) (recM2 1)) 100000 1000 8 [andArg 31 1] H0) = true := by kernel_rfl
end Go.Ev
