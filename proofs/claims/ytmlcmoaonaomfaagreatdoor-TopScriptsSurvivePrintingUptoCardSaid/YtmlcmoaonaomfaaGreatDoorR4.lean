/- Closed facts of the program that all rows ask. -/
import Derived.Test.YtmlcmoaonaomfaaGreatDoorRows
import Derived.SevenTiedAt
namespace Go.Proofs.YtmlcmoaonaomfaaGreatDoor
theorem fLift:(false==Tryz.pinned.checked.prog.liftsFinal)=true:=by kernel_rfl
theorem fMake:(Tryz.pinned.checked.prog.make==some Make.cut)=true:=by kernel_rfl
theorem fMay:Tryz.pinned.checked.prog.mayEnter=true:=by kernel_rfl
end Go.Proofs.YtmlcmoaonaomfaaGreatDoor
