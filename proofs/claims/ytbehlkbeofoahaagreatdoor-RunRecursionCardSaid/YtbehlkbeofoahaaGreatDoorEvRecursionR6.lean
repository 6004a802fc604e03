/- Runs of 'RunRecursion' in the kernel. -/
import Derived.Test.YtbehlkbeofoahaaGreatDoorEvRecursionT
namespace Go.Ev
set_option maxRecDepth 100000
theorem recursion_ok_12 : MemosOk (recM1 12 24) (recM2 12) := ⟨rfl, rfl, by kernel_rfl, by kernel_rfl, by kernel_rfl, by kernel_rfl⟩
theorem recursion_run_12 : isTrue (evC (envM (recM1 12 24) (recM2 12)) 100000 1000 8 [andArg 31 12] H0) = true := by kernel_rfl
theorem recursion_ok_13 : MemosOk (recM1 13 26) (recM2 13) := ⟨rfl, rfl, by kernel_rfl, by kernel_rfl, by kernel_rfl, by kernel_rfl⟩
theorem recursion_run_13 : isTrue (evC (envM (recM1 13 26) (recM2 13)) 100000 1000 8 [andArg 31 13] H0) = true := by kernel_rfl
end Go.Ev
