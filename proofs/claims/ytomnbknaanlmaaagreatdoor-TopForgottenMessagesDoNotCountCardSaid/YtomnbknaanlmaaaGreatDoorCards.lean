/-
  DERIVED. GIVEN WITH THE SEED: THE CARDS: each row of YtomnbknaanlmaaaGreatDoorRows.lean that lists a variable, with what it lists TIED to the program's text (the seventh form; the later family's looks); each row that meets fmt, with fmt's text TOLD by the authors' own Lean function (tested against real Go, not proved from fmt's source: count such statements apart). THE CARD IS WHAT COUNTS. Prove the row's statement (the work); the ties are given (YtomnbknaanlmaaaGreatDoorTie.lean); close each card by the builder's one call (the guide's Derived/Test/ToyasCard.lean, 'card_holds'). Laid BY PROGRAM, IN A SANDBOX (cutbox-door.mjs). By AI agents, Wed Nov 11 2026. No macro, syntax, notation, axiom, sorry.
-/
import Derived.Test.YtomnbknaanlmaaaGreatDoorRows
import GoSem.ClaimSeven
namespace Go.Proofs.YtomnbknaanlmaaaGreatDoor
namespace Rows

/-- THE TIED CARD OF 'posthousetop.TopForgottenMessagesDoNotCount'. -/
def topForgottenMessagesDoNotCountCard : Claim7 := { stood := { row := topForgottenMessagesDoNotCountRow, standIns := [], harness := (true, "d9811cc34a9964823f36e5986d13eb441c5ce35b596745ecca0c8d2b79b92d44"), looks := true }, kinds := [], alts := [], laidByText := true, laidKinds := [.data, .data, .data, .data, .sentinel, .sentinel, .data, .pinned, .pinned, .pinned, .pinned], laidTests := true, laidLooks := .later }
def TopForgottenMessagesDoNotCountCardSaid : Prop := Claim7.holds Tryz.pinned (.plain (OpenSpec.ofChange topForgottenMessagesDoNotCountSpec)) topForgottenMessagesDoNotCountCard

/-- THE SECOND FORM's CARD OF 'posthousetop.TopForgottenMessagesDoNotCount'. -/
def topForgottenMessagesDoNotCountUptoCard : Claim7 := { stood := { row := topForgottenMessagesDoNotCountUptoRow, standIns := [], harness := (true, "d9811cc34a9964823f36e5986d13eb441c5ce35b596745ecca0c8d2b79b92d44"), looks := true }, kinds := [], alts := [], laidByText := true, laidKinds := [.data, .data, .data, .data, .sentinel, .sentinel, .data, .pinned, .pinned, .pinned, .pinned], laidTests := true, laidLooks := .later }
def TopForgottenMessagesDoNotCountUptoCardSaid : Prop := Claim7.holds Tryz.pinned (.plain (OpenSpec.upto topForgottenMessagesDoNotCountSpec)) topForgottenMessagesDoNotCountUptoCard
end Rows
end Go.Proofs.YtomnbknaanlmaaaGreatDoor
