/- Runs of 'RunConfigs' in the kernel. -/
import Derived.Test.YtbehlkbeofoahaaGreatDoorEvConfigsT
namespace Go.Ev
set_option maxRecDepth 100000
theorem configs_run_z_7 : isTrue (evC envR 100000 1000 3 [.at 0 tbCfz, .int .i64 7, .at 2 tbCfz] H0) = true := by kernel_rfl
theorem configs_run_f_7 : isTrue (evC envR 100000 1000 3 [.at 0 tbCff, .int .i64 7, .at 2 tbCff] H0) = true := by kernel_rfl
theorem configs_run_z_8 : isTrue (evC envR 100000 1000 3 [.at 0 tbCfz, .int .i64 8, .at 2 tbCfz] H0) = true := by kernel_rfl
theorem configs_run_f_8 : isTrue (evC envR 100000 1000 3 [.at 0 tbCff, .int .i64 8, .at 2 tbCff] H0) = true := by kernel_rfl
end Go.Ev
