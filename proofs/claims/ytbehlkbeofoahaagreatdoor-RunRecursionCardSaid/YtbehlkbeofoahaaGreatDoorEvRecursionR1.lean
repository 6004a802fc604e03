/- Runs of 'RunRecursion' in the kernel. -/
import Derived.Test.YtbehlkbeofoahaaGreatDoorEvRecursionT
namespace Go.Ev
set_option maxRecDepth 100000
theorem recursion_ok_2 : MemosOk (recM1 2 4) (recM2 2) := ⟨rfl, rfl, by kernel_rfl, by kernel_rfl, by kernel_rfl, by kernel_rfl⟩
theorem recursion_run_2 : isTrue (evC (envM (recM1 2 4) (recM2 2)) 100000 1000 8 [andArg 31 2] H0) = true := by kernel_rfl
theorem recursion_ok_3 : MemosOk (recM1 3 6) (recM2 3) := ⟨rfl, rfl, by kernel_rfl, by kernel_rfl, by kernel_rfl, by kernel_rfl⟩
theorem recursion_run_3 : isTrue (evC (envM (recM1 3 6) (recM2 3)) 100000 1000 8 [andArg 31 3] H0) = true := by kernel_rfl
end Go.Ev
