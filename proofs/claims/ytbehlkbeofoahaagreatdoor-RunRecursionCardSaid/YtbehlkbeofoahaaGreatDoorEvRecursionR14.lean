/- Runs of 'RunRecursion' in the kernel. -/
import Derived.Test.YtbehlkbeofoahaaGreatDoorEvRecursionT
namespace Go.Ev
set_option maxRecDepth 100000
theorem recursion_ok_28 : MemosOk (recM1 28 56) (recM2 28) := ⟨rfl, rfl, by kernel_rfl, by kernel_rfl, by kernel_rfl, by kernel_rfl⟩
theorem recursion_run_28 : isTrue (evC (envM (recM1 28 56) (recM2 28)) 100000 1000 8 [andArg 31 28] H0) = true := by kernel_rfl
theorem recursion_ok_29 : MemosOk (recM1 29 58) (recM2 29) := ⟨rfl, rfl, by kernel_rfl, by kernel_rfl, by kernel_rfl, by kernel_rfl⟩
theorem recursion_run_29 : isTrue (evC (envM (recM1 29 58) (recM2 29)) 100000 1000 8 [andArg 31 29] H0) = true := by kernel_rfl
end Go.Ev
