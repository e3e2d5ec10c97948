/- The run of the law ReplicaNil, by the proved evaluator, ends in true; no condition. -/
import Derived.Test.YtjilbigenfhieaaGreatDoorRt
namespace Go.Ev
open Go Go.Ab Go.Proofs
set_option maxRecDepth 1000000
theorem run_true : isTrue (runX Tryz.prog (ctrTurn 252) 100000 3 [.u 0]) = true := by kernel_rfl
end Go.Ev
