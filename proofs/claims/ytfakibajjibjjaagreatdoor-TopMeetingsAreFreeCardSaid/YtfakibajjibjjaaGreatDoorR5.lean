/- Closed facts of the program that all cards ask. -/
import Derived.Test.YtfakibajjibjjaaGreatDoorRows
import Derived.SevenTiedAt
namespace Go.Proofs.YtfakibajjibjjaaGreatDoor
theorem fLooks:true=Tryz.pinned.checked.prog.looks []:=by kernel_rfl
theorem fMain : Tryz.pinned.checked.prog.mainIs = some (true, "ea45fb5b0eaa8a17a3e2f0169f12f9a0dec60584fb3ad6871655cc71da9decec".toList) := by kernel_rfl
end Go.Proofs.YtfakibajjibjjaaGreatDoor
