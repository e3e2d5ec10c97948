/- A closed fact of the card of ReplicaNil, by the kernel; no condition. -/
import Derived.Test.YtjilbigenfhieaaGreatDoorCards
import Derived.Test.YtjilbigenfhieaaGreatDoorTie
import Derived.SevenTiedAt
import Derived.KernelRfl
namespace Go.Proofs.YtjilbigenfhieaaGreatDoor
open Go
set_option maxRecDepth 100000
theorem card_goes : false = Rows.replicaNilRow.goesBy Tryz.pinned.checked.prog := by kernel_rfl
end Go.Proofs.YtjilbigenfhieaaGreatDoor
