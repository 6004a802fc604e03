/- Runs of 'RealAsks' in the kernel. -/
import Derived.Test.YtmbpojfjpiahiaaGreatDoorEvAsksT
namespace Go.Ev
set_option maxRecDepth 100000
theorem asks_run_7_mid : isTrue (evC env4 100000 1000 3 [andArg 7 7, .sy [.bin .and .i64 (.ofNat 31)] [.int .i64 11]] H0) = true := by kernel_rfl
theorem asks_run_7_hi : isTrue (evC env4 100000 1000 3 [andArg 7 7, .sy [.bin .and .i64 (.ofNat 31)] [.at 0 tbHi]] H0) = true := by kernel_rfl
end Go.Ev
