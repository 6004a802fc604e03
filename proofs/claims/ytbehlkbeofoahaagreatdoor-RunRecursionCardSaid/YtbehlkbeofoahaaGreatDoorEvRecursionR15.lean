/- Runs of 'RunRecursion' in the kernel. -/
import Derived.Test.YtbehlkbeofoahaaGreatDoorEvRecursionT
namespace Go.Ev
set_option maxRecDepth 100000
theorem recursion_ok_30 : MemosOk (recM1 30 60) (recM2 30) := ⟨rfl, rfl, by kernel_rfl, by kernel_rfl, by kernel_rfl, by kernel_rfl⟩
theorem recursion_run_30 : isTrue (evC (envM (recM1 30 60) (recM2 30)) 100000 1000 8 [andArg 31 30] H0) = true := by kernel_rfl
theorem recursion_ok_31 : MemosOk (recM1 31 62) (recM2 31) := ⟨rfl, rfl, by kernel_rfl, by kernel_rfl, by kernel_rfl, by kernel_rfl⟩
theorem recursion_run_31 : isTrue (evC (envM (recM1 31 62) (recM2 31)) 100000 1000 8 [andArg 31 31] H0) = true := by kernel_rfl
end Go.Ev
