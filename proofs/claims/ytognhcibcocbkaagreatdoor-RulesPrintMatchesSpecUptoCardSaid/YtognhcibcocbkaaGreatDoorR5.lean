/- Closed facts of the program that all cards ask. -/
import Derived.Test.YtognhcibcocbkaaGreatDoorRows
import Derived.SevenTiedAt
namespace Go.Proofs.YtognhcibcocbkaaGreatDoor
theorem fLooks:true=Tryz.pinned.checked.prog.looks []:=by kernel_rfl
theorem fMain : Tryz.pinned.checked.prog.mainIs = some (true, "2b3a0f9d02742b67dbb8825627be8a443850f33596560507000e04c2522490ee".toList) := by kernel_rfl
end Go.Proofs.YtognhcibcocbkaaGreatDoor
