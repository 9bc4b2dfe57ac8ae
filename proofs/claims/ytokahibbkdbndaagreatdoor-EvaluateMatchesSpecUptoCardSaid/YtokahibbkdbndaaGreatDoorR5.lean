/- Closed facts of the program that all cards ask. -/
import Derived.Test.YtokahibbkdbndaaGreatDoorRows
import Derived.SevenTiedAt
namespace Go.Proofs.YtokahibbkdbndaaGreatDoor
theorem fLooks:false=Tryz.pinned.checked.prog.looks []:=by kernel_rfl
theorem fMain : Tryz.pinned.checked.prog.mainIs = some (true, "b00a288ae26c19b1c69d48304217fb75c8ecdea4627290165c80941d2d673c9c".toList) := by kernel_rfl
end Go.Proofs.YtokahibbkdbndaaGreatDoor
