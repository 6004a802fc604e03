/- Runs of 'RunRecursion' in the kernel. -/
import Derived.Test.YtbehlkbeofoahaaGreatDoorEvRecursionT
namespace Go.Ev
set_option maxRecDepth 100000
theorem recursion_ok_18 : MemosOk (recM1 18 36) (recM2 18) := ⟨rfl, rfl, by kernel_rfl, by kernel_rfl, by kernel_rfl, by kernel_rfl⟩
theorem recursion_run_18 : isTrue (evC (envM (recM1 18 36) (recM2 18)) 100000 1000 8 [andArg 31 18] H0) = true := by kernel_rfl
theorem recursion_ok_19 : MemosOk (recM1 19 38) (recM2 19) := ⟨rfl, rfl, by kernel_rfl, by kernel_rfl, by kernel_rfl, by kernel_rfl⟩
theorem recursion_run_19 : isTrue (evC (envM (recM1 19 38) (recM2 19)) 100000 1000 8 [andArg 31 19] H0) = true := by kernel_rfl
end Go.Ev
