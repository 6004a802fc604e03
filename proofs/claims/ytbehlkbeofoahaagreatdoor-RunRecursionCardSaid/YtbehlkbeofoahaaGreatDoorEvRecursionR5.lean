/- Runs of 'RunRecursion' in the kernel. -/
import Derived.Test.YtbehlkbeofoahaaGreatDoorEvRecursionT
namespace Go.Ev
set_option maxRecDepth 100000
theorem recursion_ok_10 : MemosOk (recM1 10 20) (recM2 10) := ⟨rfl, rfl, by kernel_rfl, by kernel_rfl, by kernel_rfl, by kernel_rfl⟩
theorem recursion_run_10 : isTrue (evC (envM (recM1 10 20) (recM2 10)) 100000 1000 8 [andArg 31 10] H0) = true := by kernel_rfl
theorem recursion_ok_11 : MemosOk (recM1 11 22) (recM2 11) := ⟨rfl, rfl, by kernel_rfl, by kernel_rfl, by kernel_rfl, by kernel_rfl⟩
theorem recursion_run_11 : isTrue (evC (envM (recM1 11 22) (recM2 11)) 100000 1000 8 [andArg 31 11] H0) = true := by kernel_rfl
end Go.Ev
