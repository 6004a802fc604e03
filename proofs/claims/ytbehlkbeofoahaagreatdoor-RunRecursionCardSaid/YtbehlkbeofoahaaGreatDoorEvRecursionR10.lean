/- Runs of 'RunRecursion' in the kernel. -/
import Derived.Test.YtbehlkbeofoahaaGreatDoorEvRecursionT
namespace Go.Ev
set_option maxRecDepth 100000
theorem recursion_ok_20 : MemosOk (recM1 20 40) (recM2 20) := ⟨rfl, rfl, by kernel_rfl, by kernel_rfl, by kernel_rfl, by kernel_rfl⟩
theorem recursion_run_20 : isTrue (evC (envM (recM1 20 40) (recM2 20)) 100000 1000 8 [andArg 31 20] H0) = true := by kernel_rfl
theorem recursion_ok_21 : MemosOk (recM1 21 42) (recM2 21) := ⟨rfl, rfl, by kernel_rfl, by kernel_rfl, by kernel_rfl, by kernel_rfl⟩
theorem recursion_run_21 : isTrue (evC (envM (recM1 21 42) (recM2 21)) 100000 1000 8 [andArg 31 21] H0) = true := by kernel_rfl
end Go.Ev
