/- Closed facts of the card of ReplicaNil, by the kernel; no condition. -/
import Derived.Test.YtjilbigenfhieaaGreatDoorCards
import Derived.Test.YtjilbigenfhieaaGreatDoorTie
import Derived.SevenTiedAt
import Derived.KernelRfl
namespace Go.Proofs.YtjilbigenfhieaaGreatDoor
open Go
set_option maxRecDepth 100000
theorem card_looks : true = Tryz.pinned.checked.prog.looks [] := by kernel_rfl
theorem card_wf : Rows.replicaNilRow.wfByText (OpenSpec.ofChange Rows.replicaNilSpec) = true := by kernel_rfl
theorem card_main : Tryz.pinned.checked.prog.mainIs = some (true, ( "149752919549b9a6d5821c1e56296182b6b57b9ff7a12706421c408e3228de02").toList) := by kernel_rfl
theorem card_named : Tryz.prog.funcNamed "consistory/consistorylaw23.ReplicaNil" = some 3 := by kernel_rfl
theorem card_stand : ([22].all fun u => !Tryz.prog.wantsStandIn u) = true := by kernel_rfl
end Go.Proofs.YtjilbigenfhieaaGreatDoor
