/- Closed facts of the program that all cards ask. -/
import Derived.Test.YtmacbkjehjbjeaaGreatDoorRows
import Derived.SevenTiedAt
namespace Go.Proofs.YtmacbkjehjbjeaaGreatDoor
theorem fLooks:true=Tryz.pinned.checked.prog.looks []:=by kernel_rfl
theorem fMain : Tryz.pinned.checked.prog.mainIs = some (true, "67013176d7aea527e96d8053c1f71df1d02dd6074fe1728d7906a62a77733b26".toList) := by kernel_rfl
end Go.Proofs.YtmacbkjehjbjeaaGreatDoor
