/-
  DERIVED. GIVEN WITH THE SEED: THE CARDS: each row of YtmlcmoaonaomfaaGreatDoorRows.lean that lists a variable, with what it lists TIED to the program's text (the seventh form; the later family's looks); each row that meets fmt, with fmt's text TOLD by the authors' own Lean function (tested against real Go, not proved from fmt's source: count such statements apart). THE CARD IS WHAT COUNTS. Prove the row's statement (the work); the ties are given (YtmlcmoaonaomfaaGreatDoorTie.lean); close each card by the builder's one call (the guide's Derived/Test/ToyasCard.lean, 'card_holds'). Laid BY PROGRAM, IN A SANDBOX (cutbox-door.mjs). By AI agents, Wed Nov 11 2026. No macro, syntax, notation, axiom, sorry.
-/
import Derived.Test.YtmlcmoaonaomfaaGreatDoorRows
import GoSem.ClaimSeven
namespace Go.Proofs.YtmlcmoaonaomfaaGreatDoor
namespace Rows

/-- THE TIED CARD OF 'posthousetop.TopFiltersSeeSignatures'. -/
def topFiltersSeeSignaturesCard : Claim7 := { stood := { row := topFiltersSeeSignaturesRow, standIns := [], harness := (true, "9c1910c18db6f584fd89a4afe83829bd6e1522bf54657120e4f4c82a059e8bb1"), looks := true }, kinds := [], alts := [], laidByText := true, laidKinds := [.data, .data, .data, .data, .sentinel, .sentinel, .pinned], laidTests := true, laidLooks := .later }
def TopFiltersSeeSignaturesCardSaid : Prop := Claim7.holds Tryz.pinned (.plain (OpenSpec.ofChange topFiltersSeeSignaturesSpec)) topFiltersSeeSignaturesCard

/-- THE TIED CARD OF 'posthousetop.TopScriptsSurvivePrinting'. -/
def topScriptsSurvivePrintingCard : Claim7 := { stood := { row := topScriptsSurvivePrintingRow, standIns := [], harness := (true, "9c1910c18db6f584fd89a4afe83829bd6e1522bf54657120e4f4c82a059e8bb1"), looks := true }, kinds := [], alts := [], laidByText := true, laidKinds := [.data, .data, .data, .data, .sentinel, .sentinel, .pinned], laidTests := true, laidLooks := .later }
def TopScriptsSurvivePrintingCardSaid : Prop := Claim7.holds Tryz.pinned (.plain (OpenSpec.ofChange topScriptsSurvivePrintingSpec)) topScriptsSurvivePrintingCard

/-- THE SECOND FORM's CARD OF 'posthousetop.TopFiltersSeeSignatures'. -/
def topFiltersSeeSignaturesUptoCard : Claim7 := { stood := { row := topFiltersSeeSignaturesUptoRow, standIns := [], harness := (true, "9c1910c18db6f584fd89a4afe83829bd6e1522bf54657120e4f4c82a059e8bb1"), looks := true }, kinds := [], alts := [], laidByText := true, laidKinds := [.data, .data, .data, .data, .sentinel, .sentinel, .pinned], laidTests := true, laidLooks := .later }
def TopFiltersSeeSignaturesUptoCardSaid : Prop := Claim7.holds Tryz.pinned (.plain (OpenSpec.upto topFiltersSeeSignaturesSpec)) topFiltersSeeSignaturesUptoCard

/-- THE SECOND FORM's CARD OF 'posthousetop.TopScriptsSurvivePrinting'. -/
def topScriptsSurvivePrintingUptoCard : Claim7 := { stood := { row := topScriptsSurvivePrintingUptoRow, standIns := [], harness := (true, "9c1910c18db6f584fd89a4afe83829bd6e1522bf54657120e4f4c82a059e8bb1"), looks := true }, kinds := [], alts := [], laidByText := true, laidKinds := [.data, .data, .data, .data, .sentinel, .sentinel, .pinned], laidTests := true, laidLooks := .later }
def TopScriptsSurvivePrintingUptoCardSaid : Prop := Claim7.holds Tryz.pinned (.plain (OpenSpec.upto topScriptsSurvivePrintingSpec)) topScriptsSurvivePrintingUptoCard
end Rows
end Go.Proofs.YtmlcmoaonaomfaaGreatDoor
