/- One closed fact of the row of ReplicaNil, by the kernel; no condition. -/
import Derived.Test.YtjilbigenfhieaaGreatDoorCards
import Derived.Test.YtjilbigenfhieaaGreatDoorTie
import Derived.JoinedOf
import Derived.KernelRfl
namespace Go.Proofs.YtjilbigenfhieaaGreatDoor
open Go
set_option maxRecDepth 100000
theorem fact11 : ((Rows.replicaNilRow.recurses == Tryz.pinned.checked.prog.recurses 3)) = true := by kernel_rfl
end Go.Proofs.YtjilbigenfhieaaGreatDoor
