/- Runs of 'RealAsks' in the kernel. -/
import Derived.Test.YtmbpojfjpiahiaaGreatDoorEvAsksT
namespace Go.Ev
set_option maxRecDepth 100000
theorem asks_run_0_lo : isTrue (evC env4 100000 1000 3 [andArg 7 0, .sy [.bin .and .i64 (.ofNat 31)] [.at 0 tbLo]] H0) = true := by kernel_rfl
theorem asks_run_0_mid : isTrue (evC env4 100000 1000 3 [andArg 7 0, .sy [.bin .and .i64 (.ofNat 31)] [.int .i64 11]] H0) = true := by kernel_rfl
end Go.Ev
