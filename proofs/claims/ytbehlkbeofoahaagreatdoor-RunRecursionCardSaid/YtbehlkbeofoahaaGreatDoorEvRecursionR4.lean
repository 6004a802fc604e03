/- Runs of 'RunRecursion' in the kernel. -/
import Derived.Test.YtbehlkbeofoahaaGreatDoorEvRecursionT
namespace Go.Ev
set_option maxRecDepth 100000
theorem recursion_ok_8 : MemosOk (recM1 8 16) (recM2 8) := ⟨rfl, rfl, by kernel_rfl, by kernel_rfl, by kernel_rfl, by kernel_rfl⟩
theorem recursion_run_8 : isTrue (evC (envM (recM1 8 16) (recM2 8)) 100000 1000 8 [andArg 31 8] H0) = true := by kernel_rfl
theorem recursion_ok_9 : MemosOk (recM1 9 18) (recM2 9) := ⟨rfl, rfl, by kernel_rfl, by kernel_rfl, by kernel_rfl, by kernel_rfl⟩
theorem recursion_run_9 : isTrue (evC (envM (recM1 9 18) (recM2 9)) 100000 1000 8 [andArg 31 9] H0) = true := by kernel_rfl
end Go.Ev
