/- Runs of 'RunRecursion' in the kernel. -/
import Derived.Test.YtbehlkbeofoahaaGreatDoorEvRecursionT
namespace Go.Ev
set_option maxRecDepth 100000
theorem recursion_ok_16 : MemosOk (recM1 16 32) (recM2 16) := ⟨rfl, rfl, by kernel_rfl, by kernel_rfl, by kernel_rfl, by kernel_rfl⟩
theorem recursion_run_16 : isTrue (evC (envM (recM1 16 32) (recM2 16)) 100000 1000 8 [andArg 31 16] H0) = true := by kernel_rfl
theorem recursion_ok_17 : MemosOk (recM1 17 34) (recM2 17) := ⟨rfl, rfl, by kernel_rfl, by kernel_rfl, by kernel_rfl, by kernel_rfl⟩
theorem recursion_run_17 : isTrue (evC (envM (recM1 17 34) (recM2 17)) 100000 1000 8 [andArg 31 17] H0) = true := by kernel_rfl
end Go.Ev
