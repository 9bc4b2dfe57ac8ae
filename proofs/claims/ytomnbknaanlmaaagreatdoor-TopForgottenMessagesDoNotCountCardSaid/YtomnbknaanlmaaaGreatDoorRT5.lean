/- Closed facts of the program that all cards ask. -/
import Derived.Test.YtomnbknaanlmaaaGreatDoorRows
import Derived.SevenTiedAt
namespace Go.Proofs.YtomnbknaanlmaaaGreatDoor
theorem fLooks : true = Tryz.pinned.checked.prog.looks [] := by kernel_rfl
theorem fMain : Tryz.pinned.checked.prog.mainIs = some (true, "d9811cc34a9964823f36e5986d13eb441c5ce35b596745ecca0c8d2b79b92d44".toList) := by kernel_rfl
end Go.Proofs.YtomnbknaanlmaaaGreatDoor
