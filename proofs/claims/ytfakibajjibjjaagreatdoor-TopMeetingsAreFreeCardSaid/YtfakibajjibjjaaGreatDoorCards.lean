/-
  DERIVED. GIVEN WITH THE SEED: THE CARDS: each row of YtfakibajjibjjaaGreatDoorRows.lean that lists a variable, with what it lists TIED to the program's text (the seventh form; the later family's looks); each row that meets fmt, with fmt's text TOLD by the authors' own Lean function (tested against real Go, not proved from fmt's source: count such statements apart). THE CARD IS WHAT COUNTS. Prove the row's statement (the work); the ties are given (YtfakibajjibjjaaGreatDoorTie.lean); close each card by the builder's one call (the guide's Derived/Test/ToyasCard.lean, 'card_holds'). Laid BY PROGRAM, IN A SANDBOX (cutbox-door.mjs). By AI agents, Wed Nov 11 2026. No macro, syntax, notation, axiom, sorry.
-/
import Derived.Test.YtfakibajjibjjaaGreatDoorRows
import GoSem.ClaimSeven
namespace Go.Proofs.YtfakibajjibjjaaGreatDoor
namespace Rows

/-- THE TIED CARD OF 'posthousetop.TopMeetingsAreFree'. -/
def topMeetingsAreFreeCard : Claim7 := { stood := { row := topMeetingsAreFreeRow, standIns := [], harness := (true, "ea45fb5b0eaa8a17a3e2f0169f12f9a0dec60584fb3ad6871655cc71da9decec"), looks := true }, kinds := [], alts := [], laidByText := true, laidKinds := [.data, .data, .data, .data, .sentinel, .sentinel, .pinned], laidTests := true, laidLooks := .later }
def TopMeetingsAreFreeCardSaid : Prop := Claim7.holds Tryz.pinned (.plain (OpenSpec.ofChange topMeetingsAreFreeSpec)) topMeetingsAreFreeCard

/-- THE SECOND FORM's CARD OF 'posthousetop.TopMeetingsAreFree'. -/
def topMeetingsAreFreeUptoCard : Claim7 := { stood := { row := topMeetingsAreFreeUptoRow, standIns := [], harness := (true, "ea45fb5b0eaa8a17a3e2f0169f12f9a0dec60584fb3ad6871655cc71da9decec"), looks := true }, kinds := [], alts := [], laidByText := true, laidKinds := [.data, .data, .data, .data, .sentinel, .sentinel, .pinned], laidTests := true, laidLooks := .later }
def TopMeetingsAreFreeUptoCardSaid : Prop := Claim7.holds Tryz.pinned (.plain (OpenSpec.upto topMeetingsAreFreeSpec)) topMeetingsAreFreeUptoCard
end Rows
end Go.Proofs.YtfakibajjibjjaaGreatDoor
