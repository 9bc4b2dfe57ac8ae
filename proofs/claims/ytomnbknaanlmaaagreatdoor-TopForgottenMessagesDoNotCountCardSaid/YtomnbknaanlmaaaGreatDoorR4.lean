/- Closed facts of the program that all rows ask. -/
import Derived.Test.YtomnbknaanlmaaaGreatDoorRows
import Derived.SevenTiedAt
namespace Go.Proofs.YtomnbknaanlmaaaGreatDoor
theorem fLift : (false == Tryz.pinned.checked.prog.liftsFinal) = true := by kernel_rfl
theorem fMake : (Tryz.pinned.checked.prog.make == some Make.cut) = true := by kernel_rfl
theorem fMay : Tryz.pinned.checked.prog.mayEnter = true := by kernel_rfl
end Go.Proofs.YtomnbknaanlmaaaGreatDoor
