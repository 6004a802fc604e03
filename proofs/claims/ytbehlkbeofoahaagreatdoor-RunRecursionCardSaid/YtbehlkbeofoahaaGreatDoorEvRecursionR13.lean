/- Runs of 'RunRecursion' in the kernel. -/
import Derived.Test.YtbehlkbeofoahaaGreatDoorEvRecursionT
namespace Go.Ev
set_option maxRecDepth 100000
theorem recursion_ok_26 : MemosOk (recM1 26 52) (recM2 26) := ⟨rfl, rfl, by kernel_rfl, by kernel_rfl, by kernel_rfl, by kernel_rfl⟩
theorem recursion_run_26 : isTrue (evC (envM (recM1 26 52) (recM2 26)) 100000 1000 8 [andArg 31 26] H0) = true := by kernel_rfl
theorem recursion_ok_27 : MemosOk (recM1 27 54) (recM2 27) := ⟨rfl, rfl, by kernel_rfl, by kernel_rfl, by kernel_rfl, by kernel_rfl⟩
theorem recursion_run_27 : isTrue (evC (envM (recM1 27 54) (recM2 27)) 100000 1000 8 [andArg 31 27] H0) = true := by kernel_rfl
end Go.Ev
