/- Runs of 'RealHandlers' in the kernel. -/
import Derived.Test.YtgnmolepphodjaaGreatDoorEvRow
import Derived.Test.YtgnmolepphodjaaGreatDoorEvSy
namespace Go.Ev
set_option maxRecDepth 100000
theorem handlers_runs_18 : allB (fun a => isTrue (evC env1 100000 1000 6 a H0)) [[andArg 3 3, andArg 3 1, andArg 3 2], [andArg 3 3, andArg 3 1, andArg 3 3], [andArg 3 3, andArg 3 2, andArg 3 0]] = true := by kernel_rfl
theorem handlers_run_3_1_2 : isTrue (evC env1 100000 1000 6 [andArg 3 3, andArg 3 1, andArg 3 2] H0) = true := allB_eq (f := fun a => isTrue (evC env1 100000 1000 6 a H0)) handlers_runs_18 [andArg 3 3, andArg 3 1, andArg 3 2] (.head _)
theorem handlers_run_3_1_3 : isTrue (evC env1 100000 1000 6 [andArg 3 3, andArg 3 1, andArg 3 3] H0) = true := allB_eq (f := fun a => isTrue (evC env1 100000 1000 6 a H0)) handlers_runs_18 [andArg 3 3, andArg 3 1, andArg 3 3] (.tail _ (.head _))
theorem handlers_run_3_2_0 : isTrue (evC env1 100000 1000 6 [andArg 3 3, andArg 3 2, andArg 3 0] H0) = true := allB_eq (f := fun a => isTrue (evC env1 100000 1000 6 a H0)) handlers_runs_18 [andArg 3 3, andArg 3 2, andArg 3 0] (.tail _ (.tail _ (.head _)))
end Go.Ev
