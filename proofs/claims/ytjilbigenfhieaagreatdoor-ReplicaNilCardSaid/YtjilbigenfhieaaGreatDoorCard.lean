/- For every text b the law ReplicaNil answers true, and b reads behind the call as it read before; the listed package variables, which the row takes to hold what it lists, are tied to the text of the program. -/
import Derived.Test.YtjilbigenfhieaaGreatDoorCards
import Derived.Test.YtjilbigenfhieaaGreatDoorTie
import Derived.SevenTiedAt
import Derived.Test.YtjilbigenfhieaaGreatDoorLaw
import Derived.Test.YtjilbigenfhieaaGreatDoorCa
import Derived.Test.YtjilbigenfhieaaGreatDoorCb
namespace Go.Proofs.YtjilbigenfhieaaGreatDoor
open Go
set_option maxRecDepth 100000
theorem card_holds : Rows.ReplicaNilCardSaid :=
  Claim7.holds_tied_plain_at .later [] [.data, .data, .data, .sentinel, .sentinel] true (true, "149752919549b9a6d5821c1e56296182b6b57b9ff7a12706421c408e3228de02") true
    replicaNil_holds (fun _ h => by cases h) card_wf (fun _ h => by cases h) replicaNil_row_tie rfl ⟨rfl, rfl⟩ card_main rfl
    (fun f fn hf hfn => by
      obtain rfl : f = 3 := Option.some.inj (card_named.symm.trans hf) |>.symm
      obtain rfl : fn = Tryz.f3 := (Option.some.inj (Tryz.func3.symm.trans hfn)).symm
      exact ⟨card_looks, fun j t ht => by
        rw [Tryz.params3] at ht
        have hm : t ∈ [22] := by simpa using Array.mem_of_getElem? ht
        exact (show Tryz.prog.wantsStandIn t = false by simpa using List.all_eq_true.1 card_stand t hm)⟩)
    card_goes
#print axioms card_holds
end Go.Proofs.YtjilbigenfhieaaGreatDoor
