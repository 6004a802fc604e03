/- Runs of 'RunRecursion' in the kernel. -/
import Derived.Test.YtbehlkbeofoahaaGreatDoorEvRecursionT
namespace Go.Ev
set_option maxRecDepth 100000
theorem recursion_ok_4 : MemosOk (recM1 4 8) (recM2 4) := ⟨rfl, rfl, by kernel_rfl, by kernel_rfl, by kernel_rfl, by kernel_rfl⟩
theorem recursion_run_4 : isTrue (evC (envM (recM1 4 8) (recM2 4)) 100000 1000 8 [andArg 31 4] H0) = true := by kernel_rfl
theorem recursion_ok_5 : MemosOk (recM1 5 10) (recM2 5) := ⟨rfl, rfl, by kernel_rfl, by kernel_rfl, by kernel_rfl, by kernel_rfl⟩
theorem recursion_run_5 : isTrue (evC (envM (recM1 5 10) (recM2 5)) 100000 1000 8 [andArg 31 5] H0) = true := by kernel_rfl
end Go.Ev
