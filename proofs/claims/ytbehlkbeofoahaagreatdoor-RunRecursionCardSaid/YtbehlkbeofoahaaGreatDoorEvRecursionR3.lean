/- Runs of 'RunRecursion' in the kernel. -/
import Derived.Test.YtbehlkbeofoahaaGreatDoorEvRecursionT
namespace Go.Ev
set_option maxRecDepth 100000
theorem recursion_ok_6 : MemosOk (recM1 6 12) (recM2 6) := ⟨rfl, rfl, by kernel_rfl, by kernel_rfl, by kernel_rfl, by kernel_rfl⟩
theorem recursion_run_6 : isTrue (evC (envM (recM1 6 12) (recM2 6)) 100000 1000 8 [andArg 31 6] H0) = true := by kernel_rfl
theorem recursion_ok_7 : MemosOk (recM1 7 14) (recM2 7) := ⟨rfl, rfl, by kernel_rfl, by kernel_rfl, by kernel_rfl, by kernel_rfl⟩
theorem recursion_run_7 : isTrue (evC (envM (recM1 7 14) (recM2 7)) 100000 1000 8 [andArg 31 7] H0) = true := by kernel_rfl
end Go.Ev
