/- Runs of 'RunConfigs' in the kernel. -/
import Derived.Test.YtbehlkbeofoahaaGreatDoorEvConfigsT
namespace Go.Ev
set_option maxRecDepth 100000
theorem configs_run_wl : isTrue (evC envR 100000 1000 3 [.at 0 tbCfwl, .at 1 tbCfwl, .at 2 tbCfwl] H0) = true := by kernel_rfl
theorem configs_run_wh : isTrue (evC envR 100000 1000 3 [.at 0 tbCfwh, .at 1 tbCfwh, .at 2 tbCfwh] H0) = true := by kernel_rfl
theorem configs_run_tl : isTrue (evC envR 100000 1000 3 [.at 0 tbCftl, .at 1 tbCftl, .at 2 tbCftl] H0) = true := by kernel_rfl
theorem configs_run_th : isTrue (evC envR 100000 1000 3 [.at 0 tbCfth, .at 1 tbCfth, .at 2 tbCfth] H0) = true := by kernel_rfl
theorem configs_run_kh : isTrue (evC envR 100000 1000 3 [.at 0 tbCfkh, .at 1 tbCfkh, .at 2 tbCfkh] H0) = true := by kernel_rfl
end Go.Ev
