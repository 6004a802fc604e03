/- Runs of 'RunRecursion' in the kernel. -/
import Derived.Test.YtbehlkbeofoahaaGreatDoorEvRecursionT
namespace Go.Ev
set_option maxRecDepth 100000
theorem recursion_ok_24 : MemosOk (recM1 24 48) (recM2 24) := ⟨rfl, rfl, by kernel_rfl, by kernel_rfl, by kernel_rfl, by kernel_rfl⟩
theorem recursion_run_24 : isTrue (evC (envM (recM1 24 48) (recM2 24)) 100000 1000 8 [andArg 31 24] H0) = true := by kernel_rfl
theorem recursion_ok_25 : MemosOk (recM1 25 50) (recM2 25) := ⟨rfl, rfl, by kernel_rfl, by kernel_rfl, by kernel_rfl, by kernel_rfl⟩
theorem recursion_run_25 : isTrue (evC (envM (recM1 25 50) (recM2 25)) 100000 1000 8 [andArg 31 25] H0) = true := by kernel_rfl
end Go.Ev
