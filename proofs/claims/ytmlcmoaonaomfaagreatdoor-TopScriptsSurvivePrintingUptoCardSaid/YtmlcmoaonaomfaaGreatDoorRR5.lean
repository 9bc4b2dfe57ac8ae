/- Closed facts of the program that all cards ask. -/
import Derived.Test.YtmlcmoaonaomfaaGreatDoorRows
import Derived.SevenTiedAt
namespace Go.Proofs.YtmlcmoaonaomfaaGreatDoor
theorem fLooks:true=Tryz.pinned.checked.prog.looks []:=by kernel_rfl
theorem fMain : Tryz.pinned.checked.prog.mainIs = some (true, "9c1910c18db6f584fd89a4afe83829bd6e1522bf54657120e4f4c82a059e8bb1".toList) := by kernel_rfl
end Go.Proofs.YtmlcmoaonaomfaaGreatDoor
