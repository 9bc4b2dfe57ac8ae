/-
  DERIVED. GIVEN WITH THE SEED: THE CARDS: each row of YtognhcibcocbkaaGreatDoorRows.lean that lists a variable, with what it lists TIED to the program's text (the seventh form; the later family's looks); each row that meets fmt, with fmt's text TOLD by the authors' own Lean function (tested against real Go, not proved from fmt's source: count such statements apart). THE CARD IS WHAT COUNTS. Prove the row's statement (the work); the ties are given (YtognhcibcocbkaaGreatDoorTie.lean); close each card by the builder's one call (the guide's Derived/Test/ToyasCard.lean, 'card_holds'). Laid BY PROGRAM, IN A SANDBOX (cutbox-door.mjs). By AI agents, Wed Nov 11 2026. No macro, syntax, notation, axiom, sorry.
-/
import Derived.Test.YtognhcibcocbkaaGreatDoorRows
import GoSem.ClaimSeven
namespace Go.Proofs.YtognhcibcocbkaaGreatDoor
namespace Rows

/-- THE TIED CARD OF 'posthouselaw6.RulesParseMatchesSpec'. -/
def rulesParseMatchesSpecCard : Claim7 := { stood := { row := rulesParseMatchesSpecRow, standIns := [], harness := (true, "2b3a0f9d02742b67dbb8825627be8a443850f33596560507000e04c2522490ee"), looks := true }, kinds := [], alts := [], laidByText := true, laidKinds := [.data, .data, .data, .sentinel, .sentinel], laidTests := true, laidLooks := .later }
def RulesParseMatchesSpecCardSaid : Prop := Claim7.holds Tryz.pinned (.plain (OpenSpec.ofChange rulesParseMatchesSpecSpec)) rulesParseMatchesSpecCard

/-- THE TIED CARD OF 'posthouselaw6.RulesPrintMatchesSpec'. -/
def rulesPrintMatchesSpecCard : Claim7 := { stood := { row := rulesPrintMatchesSpecRow, standIns := [], harness := (true, "2b3a0f9d02742b67dbb8825627be8a443850f33596560507000e04c2522490ee"), looks := true }, kinds := [], alts := [], laidByText := true, laidKinds := [.data, .data, .data, .sentinel, .sentinel], laidTests := true, laidLooks := .later }
def RulesPrintMatchesSpecCardSaid : Prop := Claim7.holds Tryz.pinned (.plain (OpenSpec.ofChange rulesPrintMatchesSpecSpec)) rulesPrintMatchesSpecCard

/-- THE TIED CARD OF 'posthouselaw6.RulesReadWhatIsWritten'. -/
def rulesReadWhatIsWrittenCard : Claim7 := { stood := { row := rulesReadWhatIsWrittenRow, standIns := [], harness := (true, "2b3a0f9d02742b67dbb8825627be8a443850f33596560507000e04c2522490ee"), looks := true }, kinds := [], alts := [], laidByText := true, laidKinds := [.data, .data, .data, .sentinel, .sentinel], laidTests := true, laidLooks := .later }
def RulesReadWhatIsWrittenCardSaid : Prop := Claim7.holds Tryz.pinned (.plain (OpenSpec.ofChange rulesReadWhatIsWrittenSpec)) rulesReadWhatIsWrittenCard

/-- THE TIED CARD OF 'posthouselaw6.RulesPrintIsStable'. -/
def rulesPrintIsStableCard : Claim7 := { stood := { row := rulesPrintIsStableRow, standIns := [], harness := (true, "2b3a0f9d02742b67dbb8825627be8a443850f33596560507000e04c2522490ee"), looks := true }, kinds := [], alts := [], laidByText := true, laidKinds := [.data, .data, .data, .sentinel, .sentinel], laidTests := true, laidLooks := .later }
def RulesPrintIsStableCardSaid : Prop := Claim7.holds Tryz.pinned (.plain (OpenSpec.ofChange rulesPrintIsStableSpec)) rulesPrintIsStableCard

/-- THE TIED CARD OF 'posthouselaw6.RulesFollow'. -/
def rulesFollowCard : Claim7 := { stood := { row := rulesFollowRow, standIns := [], harness := (true, "2b3a0f9d02742b67dbb8825627be8a443850f33596560507000e04c2522490ee"), looks := true }, kinds := [], alts := [], laidByText := true, laidKinds := [.data, .data, .data, .sentinel, .sentinel], laidTests := true, laidLooks := .later }
def RulesFollowCardSaid : Prop := Claim7.holds Tryz.pinned (.plain (OpenSpec.ofChange rulesFollowSpec)) rulesFollowCard

/-- THE SECOND FORM's CARD OF 'posthouselaw6.RulesParseMatchesSpec'. -/
def rulesParseMatchesSpecUptoCard : Claim7 := { stood := { row := rulesParseMatchesSpecUptoRow, standIns := [], harness := (true, "2b3a0f9d02742b67dbb8825627be8a443850f33596560507000e04c2522490ee"), looks := true }, kinds := [], alts := [], laidByText := true, laidKinds := [.data, .data, .data, .sentinel, .sentinel], laidTests := true, laidLooks := .later }
def RulesParseMatchesSpecUptoCardSaid : Prop := Claim7.holds Tryz.pinned (.plain (OpenSpec.upto rulesParseMatchesSpecSpec)) rulesParseMatchesSpecUptoCard

/-- THE SECOND FORM's CARD OF 'posthouselaw6.RulesPrintMatchesSpec'. -/
def rulesPrintMatchesSpecUptoCard : Claim7 := { stood := { row := rulesPrintMatchesSpecUptoRow, standIns := [], harness := (true, "2b3a0f9d02742b67dbb8825627be8a443850f33596560507000e04c2522490ee"), looks := true }, kinds := [], alts := [], laidByText := true, laidKinds := [.data, .data, .data, .sentinel, .sentinel], laidTests := true, laidLooks := .later }
def RulesPrintMatchesSpecUptoCardSaid : Prop := Claim7.holds Tryz.pinned (.plain (OpenSpec.upto rulesPrintMatchesSpecSpec)) rulesPrintMatchesSpecUptoCard

/-- THE SECOND FORM's CARD OF 'posthouselaw6.RulesReadWhatIsWritten'. -/
def rulesReadWhatIsWrittenUptoCard : Claim7 := { stood := { row := rulesReadWhatIsWrittenUptoRow, standIns := [], harness := (true, "2b3a0f9d02742b67dbb8825627be8a443850f33596560507000e04c2522490ee"), looks := true }, kinds := [], alts := [], laidByText := true, laidKinds := [.data, .data, .data, .sentinel, .sentinel], laidTests := true, laidLooks := .later }
def RulesReadWhatIsWrittenUptoCardSaid : Prop := Claim7.holds Tryz.pinned (.plain (OpenSpec.upto rulesReadWhatIsWrittenSpec)) rulesReadWhatIsWrittenUptoCard

/-- THE SECOND FORM's CARD OF 'posthouselaw6.RulesPrintIsStable'. -/
def rulesPrintIsStableUptoCard : Claim7 := { stood := { row := rulesPrintIsStableUptoRow, standIns := [], harness := (true, "2b3a0f9d02742b67dbb8825627be8a443850f33596560507000e04c2522490ee"), looks := true }, kinds := [], alts := [], laidByText := true, laidKinds := [.data, .data, .data, .sentinel, .sentinel], laidTests := true, laidLooks := .later }
def RulesPrintIsStableUptoCardSaid : Prop := Claim7.holds Tryz.pinned (.plain (OpenSpec.upto rulesPrintIsStableSpec)) rulesPrintIsStableUptoCard

/-- THE SECOND FORM's CARD OF 'posthouselaw6.RulesFollow'. -/
def rulesFollowUptoCard : Claim7 := { stood := { row := rulesFollowUptoRow, standIns := [], harness := (true, "2b3a0f9d02742b67dbb8825627be8a443850f33596560507000e04c2522490ee"), looks := true }, kinds := [], alts := [], laidByText := true, laidKinds := [.data, .data, .data, .sentinel, .sentinel], laidTests := true, laidLooks := .later }
def RulesFollowUptoCardSaid : Prop := Claim7.holds Tryz.pinned (.plain (OpenSpec.upto rulesFollowSpec)) rulesFollowUptoCard
end Rows
end Go.Proofs.YtognhcibcocbkaaGreatDoor
