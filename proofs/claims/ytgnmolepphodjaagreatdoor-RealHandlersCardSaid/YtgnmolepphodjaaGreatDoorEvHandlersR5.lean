/- Runs of 'RealHandlers' in the kernel. -/
import Derived.Test.YtgnmolepphodjaaGreatDoorEvRow
import Derived.Test.YtgnmolepphodjaaGreatDoorEvSy
namespace Go.Ev
set_option maxRecDepth 100000
theorem handlers_runs_5 : allB (fun a => isTrue (evC env1 100000 1000 6 a H0)) [[andArg 3 0, andArg 3 3, andArg 3 3], [andArg 3 1, andArg 3 0, andArg 3 0], [andArg 3 1, andArg 3 0, andArg 3 1]] = true := by kernel_rfl
theorem handlers_run_0_3_3 : isTrue (evC env1 100000 1000 6 [andArg 3 0, andArg 3 3, andArg 3 3] H0) = true := allB_eq (f := fun a => isTrue (evC env1 100000 1000 6 a H0)) handlers_runs_5 [andArg 3 0, andArg 3 3, andArg 3 3] (.head _)
theorem handlers_run_1_0_0 : isTrue (evC env1 100000 1000 6 [andArg 3 1, andArg 3 0, andArg 3 0] H0) = true := allB_eq (f := fun a => isTrue (evC env1 100000 1000 6 a H0)) handlers_runs_5 [andArg 3 1, andArg 3 0, andArg 3 0] (.tail _ (.head _))
theorem handlers_run_1_0_1 : isTrue (evC env1 100000 1000 6 [andArg 3 1, andArg 3 0, andArg 3 1] H0) = true := allB_eq (f := fun a => isTrue (evC env1 100000 1000 6 a H0)) handlers_runs_5 [andArg 3 1, andArg 3 0, andArg 3 1] (.tail _ (.tail _ (.head _)))
end Go.Ev
