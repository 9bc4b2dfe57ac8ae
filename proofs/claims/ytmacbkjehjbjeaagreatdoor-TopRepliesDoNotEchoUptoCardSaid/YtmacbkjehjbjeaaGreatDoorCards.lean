/-
  DERIVED. GIVEN WITH THE SEED: THE CARDS: each row of YtmacbkjehjbjeaaGreatDoorRows.lean that lists a variable, with what it lists TIED to the program's text (the seventh form; the later family's looks); each row that meets fmt, with fmt's text TOLD by the authors' own Lean function (tested against real Go, not proved from fmt's source: count such statements apart). THE CARD IS WHAT COUNTS. Prove the row's statement (the work); the ties are given (YtmacbkjehjbjeaaGreatDoorTie.lean); close each card by the builder's one call (the guide's Derived/Test/ToyasCard.lean, 'card_holds'). Laid BY PROGRAM, IN A SANDBOX (cutbox-door.mjs). By AI agents, Wed Nov 11 2026. No macro, syntax, notation, axiom, sorry.
-/
import Derived.Test.YtmacbkjehjbjeaaGreatDoorRows
import GoSem.ClaimSeven
namespace Go.Proofs.YtmacbkjehjbjeaaGreatDoor
namespace Rows

/-- THE TIED CARD OF 'posthousetop.TopRepliesDoNotEcho'. -/
def topRepliesDoNotEchoCard : Claim7 := { stood := { row := topRepliesDoNotEchoRow, standIns := [], harness := (true, "67013176d7aea527e96d8053c1f71df1d02dd6074fe1728d7906a62a77733b26"), looks := true }, kinds := [], alts := [], laidByText := true, laidKinds := [.data, .data, .data, .data, .sentinel, .sentinel, .pinned], laidTests := true, laidLooks := .later }
def TopRepliesDoNotEchoCardSaid : Prop := Claim7.holds Tryz.pinned (.plain (OpenSpec.ofChange topRepliesDoNotEchoSpec)) topRepliesDoNotEchoCard

/-- THE SECOND FORM's CARD OF 'posthousetop.TopRepliesDoNotEcho'. -/
def topRepliesDoNotEchoUptoCard : Claim7 := { stood := { row := topRepliesDoNotEchoUptoRow, standIns := [], harness := (true, "67013176d7aea527e96d8053c1f71df1d02dd6074fe1728d7906a62a77733b26"), looks := true }, kinds := [], alts := [], laidByText := true, laidKinds := [.data, .data, .data, .data, .sentinel, .sentinel, .pinned], laidTests := true, laidLooks := .later }
def TopRepliesDoNotEchoUptoCardSaid : Prop := Claim7.holds Tryz.pinned (.plain (OpenSpec.upto topRepliesDoNotEchoSpec)) topRepliesDoNotEchoUptoCard
end Rows
end Go.Proofs.YtmacbkjehjbjeaaGreatDoor
