/- Runs of 'RunRecursion' in the kernel. -/
import Derived.Test.YtbehlkbeofoahaaGreatDoorEvRecursionT
namespace Go.Ev
set_option maxRecDepth 100000
theorem recursion_ok_22 : MemosOk (recM1 22 44) (recM2 22) := ⟨rfl, rfl, by kernel_rfl, by kernel_rfl, by kernel_rfl, by kernel_rfl⟩
theorem recursion_run_22 : isTrue (evC (envM (recM1 22 44) (recM2 22)) 100000 1000 8 [andArg 31 22] H0) = true := by kernel_rfl
theorem recursion_ok_23 : MemosOk (recM1 23 46) (recM2 23) := ⟨rfl, rfl, by kernel_rfl, by kernel_rfl, by kernel_rfl, by kernel_rfl⟩
theorem recursion_run_23 : isTrue (evC (envM (recM1 23 46) (recM2 23)) 100000 1000 8 [andArg 31 23] H0) = true := by kernel_rfl
end Go.Ev
