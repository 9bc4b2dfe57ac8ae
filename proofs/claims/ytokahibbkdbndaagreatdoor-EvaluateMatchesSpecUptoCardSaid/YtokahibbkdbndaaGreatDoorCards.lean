/-
  DERIVED. GIVEN WITH THE SEED: THE CARDS: each row of YtokahibbkdbndaaGreatDoorRows.lean that lists a variable, with what it lists TIED to the program's text (the seventh form; the later family's looks); each row that meets fmt, with fmt's text TOLD by the authors' own Lean function (tested against real Go, not proved from fmt's source: count such statements apart). THE CARD IS WHAT COUNTS. Prove the row's statement (the work); the ties are given (YtokahibbkdbndaaGreatDoorTie.lean); close each card by the builder's one call (the guide's Derived/Test/ToyasCard.lean, 'card_holds'). Laid BY PROGRAM, IN A SANDBOX (cutbox-door.mjs). By AI agents, Wed Nov 11 2026. No macro, syntax, notation, axiom, sorry.
-/
import Derived.Test.YtokahibbkdbndaaGreatDoorRows
import GoSem.ClaimSeven
namespace Go.Proofs.YtokahibbkdbndaaGreatDoor
namespace Rows

/-- THE TIED CARD OF 'posthouselaw6.EvaluateMatchesSpec'. -/
def evaluateMatchesSpecCard : Claim7 := { stood := { row := evaluateMatchesSpecRow, standIns := [], harness := (true, "b00a288ae26c19b1c69d48304217fb75c8ecdea4627290165c80941d2d673c9c"), looks := false }, kinds := [], alts := [], laidByText := true, laidKinds := [.data, .data, .data], laidTests := true, laidLooks := .later }
def EvaluateMatchesSpecCardSaid : Prop := Claim7.holds Tryz.pinned (.plain (OpenSpec.ofChange evaluateMatchesSpecSpec)) evaluateMatchesSpecCard

/-- THE TIED CARD OF 'posthouselaw6.EvaluateDecides'. -/
def evaluateDecidesCard : Claim7 := { stood := { row := evaluateDecidesRow, standIns := [], harness := (true, "b00a288ae26c19b1c69d48304217fb75c8ecdea4627290165c80941d2d673c9c"), looks := false }, kinds := [], alts := [], laidByText := true, laidKinds := [.data, .data, .data], laidTests := true, laidLooks := .later }
def EvaluateDecidesCardSaid : Prop := Claim7.holds Tryz.pinned (.plain (OpenSpec.ofChange evaluateDecidesSpec)) evaluateDecidesCard

/-- THE TIED CARD OF 'posthouselaw6.EvaluateStops'. -/
def evaluateStopsCard : Claim7 := { stood := { row := evaluateStopsRow, standIns := [], harness := (true, "b00a288ae26c19b1c69d48304217fb75c8ecdea4627290165c80941d2d673c9c"), looks := false }, kinds := [], alts := [], laidByText := true, laidKinds := [.data, .data, .data], laidTests := true, laidLooks := .later }
def EvaluateStopsCardSaid : Prop := Claim7.holds Tryz.pinned (.plain (OpenSpec.ofChange evaluateStopsSpec)) evaluateStopsCard

/-- THE TIED CARD OF 'posthouselaw6.EvaluateIgnoresTrace'. -/
def evaluateIgnoresTraceCard : Claim7 := { stood := { row := evaluateIgnoresTraceRow, standIns := [], harness := (true, "b00a288ae26c19b1c69d48304217fb75c8ecdea4627290165c80941d2d673c9c"), looks := false }, kinds := [], alts := [], laidByText := true, laidKinds := [.data, .data, .data], laidTests := true, laidLooks := .later }
def EvaluateIgnoresTraceCardSaid : Prop := Claim7.holds Tryz.pinned (.plain (OpenSpec.ofChange evaluateIgnoresTraceSpec)) evaluateIgnoresTraceCard

/-- THE TIED CARD OF 'posthouselaw6.ExplainGoesOn'. -/
def explainGoesOnCard : Claim7 := { stood := { row := explainGoesOnRow, standIns := [], harness := (true, "b00a288ae26c19b1c69d48304217fb75c8ecdea4627290165c80941d2d673c9c"), looks := false }, kinds := [], alts := [], laidByText := true, laidKinds := [.data, .data, .data], laidTests := true, laidLooks := .later }
def ExplainGoesOnCardSaid : Prop := Claim7.holds Tryz.pinned (.plain (OpenSpec.ofChange explainGoesOnSpec)) explainGoesOnCard

/-- THE TIED CARD OF 'posthouselaw6.ExplainDeterminesActions'. -/
def explainDeterminesActionsCard : Claim7 := { stood := { row := explainDeterminesActionsRow, standIns := [], harness := (true, "b00a288ae26c19b1c69d48304217fb75c8ecdea4627290165c80941d2d673c9c"), looks := false }, kinds := [], alts := [], laidByText := true, laidKinds := [.data, .data, .data], laidTests := true, laidLooks := .later }
def ExplainDeterminesActionsCardSaid : Prop := Claim7.holds Tryz.pinned (.plain (OpenSpec.ofChange explainDeterminesActionsSpec)) explainDeterminesActionsCard

/-- THE TIED CARD OF 'posthouselaw6.EvaluateOfBranches'. -/
def evaluateOfBranchesCard : Claim7 := { stood := { row := evaluateOfBranchesRow, standIns := [], harness := (true, "b00a288ae26c19b1c69d48304217fb75c8ecdea4627290165c80941d2d673c9c"), looks := false }, kinds := [], alts := [], laidByText := true, laidKinds := [.data, .data, .data], laidTests := true, laidLooks := .later }
def EvaluateOfBranchesCardSaid : Prop := Claim7.holds Tryz.pinned (.plain (OpenSpec.ofChange evaluateOfBranchesSpec)) evaluateOfBranchesCard

/-- THE TIED CARD OF 'posthouselaw6.ExplainMatchesSpec'. -/
def explainMatchesSpecCard : Claim7 := { stood := { row := explainMatchesSpecRow, standIns := [], harness := (true, "b00a288ae26c19b1c69d48304217fb75c8ecdea4627290165c80941d2d673c9c"), looks := false }, kinds := [], alts := [], laidByText := true, laidKinds := [.data, .data, .data], laidTests := true, laidLooks := .later }
def ExplainMatchesSpecCardSaid : Prop := Claim7.holds Tryz.pinned (.plain (OpenSpec.ofChange explainMatchesSpecSpec)) explainMatchesSpecCard

/-- THE TIED CARD OF 'posthouselaw6.ProveKeepsIsSound'. -/
def proveKeepsIsSoundCard : Claim7 := { stood := { row := proveKeepsIsSoundRow, standIns := [], harness := (true, "b00a288ae26c19b1c69d48304217fb75c8ecdea4627290165c80941d2d673c9c"), looks := false }, kinds := [], alts := [], laidByText := true, laidKinds := [.data, .data, .data], laidTests := true, laidLooks := .later }
def ProveKeepsIsSoundCardSaid : Prop := Claim7.holds Tryz.pinned (.plain (OpenSpec.ofChange proveKeepsIsSoundSpec)) proveKeepsIsSoundCard

/-- THE TIED CARD OF 'posthouselaw6.ProveReachableIsSound'. -/
def proveReachableIsSoundCard : Claim7 := { stood := { row := proveReachableIsSoundRow, standIns := [], harness := (true, "b00a288ae26c19b1c69d48304217fb75c8ecdea4627290165c80941d2d673c9c"), looks := false }, kinds := [], alts := [], laidByText := true, laidKinds := [.data, .data, .data], laidTests := true, laidLooks := .later }
def ProveReachableIsSoundCardSaid : Prop := Claim7.holds Tryz.pinned (.plain (OpenSpec.ofChange proveReachableIsSoundSpec)) proveReachableIsSoundCard

/-- THE TIED CARD OF 'posthouselaw6.ApplyKeepsMessages'. -/
def applyKeepsMessagesCard : Claim7 := { stood := { row := applyKeepsMessagesRow, standIns := [], harness := (true, "b00a288ae26c19b1c69d48304217fb75c8ecdea4627290165c80941d2d673c9c"), looks := false }, kinds := [], alts := [], laidByText := true, laidKinds := [.data, .data, .data], laidTests := true, laidLooks := .later }
def ApplyKeepsMessagesCardSaid : Prop := Claim7.holds Tryz.pinned (.plain (OpenSpec.ofChange applyKeepsMessagesSpec)) applyKeepsMessagesCard

/-- THE SECOND FORM's CARD OF 'posthouselaw6.EvaluateMatchesSpec'. -/
def evaluateMatchesSpecUptoCard : Claim7 := { stood := { row := evaluateMatchesSpecUptoRow, standIns := [], harness := (true, "b00a288ae26c19b1c69d48304217fb75c8ecdea4627290165c80941d2d673c9c"), looks := false }, kinds := [], alts := [], laidByText := true, laidKinds := [.data, .data, .data], laidTests := true, laidLooks := .later }
def EvaluateMatchesSpecUptoCardSaid : Prop := Claim7.holds Tryz.pinned (.plain (OpenSpec.upto evaluateMatchesSpecSpec)) evaluateMatchesSpecUptoCard

/-- THE SECOND FORM's CARD OF 'posthouselaw6.EvaluateDecides'. -/
def evaluateDecidesUptoCard : Claim7 := { stood := { row := evaluateDecidesUptoRow, standIns := [], harness := (true, "b00a288ae26c19b1c69d48304217fb75c8ecdea4627290165c80941d2d673c9c"), looks := false }, kinds := [], alts := [], laidByText := true, laidKinds := [.data, .data, .data], laidTests := true, laidLooks := .later }
def EvaluateDecidesUptoCardSaid : Prop := Claim7.holds Tryz.pinned (.plain (OpenSpec.upto evaluateDecidesSpec)) evaluateDecidesUptoCard

/-- THE SECOND FORM's CARD OF 'posthouselaw6.EvaluateStops'. -/
def evaluateStopsUptoCard : Claim7 := { stood := { row := evaluateStopsUptoRow, standIns := [], harness := (true, "b00a288ae26c19b1c69d48304217fb75c8ecdea4627290165c80941d2d673c9c"), looks := false }, kinds := [], alts := [], laidByText := true, laidKinds := [.data, .data, .data], laidTests := true, laidLooks := .later }
def EvaluateStopsUptoCardSaid : Prop := Claim7.holds Tryz.pinned (.plain (OpenSpec.upto evaluateStopsSpec)) evaluateStopsUptoCard

/-- THE SECOND FORM's CARD OF 'posthouselaw6.EvaluateIgnoresTrace'. -/
def evaluateIgnoresTraceUptoCard : Claim7 := { stood := { row := evaluateIgnoresTraceUptoRow, standIns := [], harness := (true, "b00a288ae26c19b1c69d48304217fb75c8ecdea4627290165c80941d2d673c9c"), looks := false }, kinds := [], alts := [], laidByText := true, laidKinds := [.data, .data, .data], laidTests := true, laidLooks := .later }
def EvaluateIgnoresTraceUptoCardSaid : Prop := Claim7.holds Tryz.pinned (.plain (OpenSpec.upto evaluateIgnoresTraceSpec)) evaluateIgnoresTraceUptoCard

/-- THE SECOND FORM's CARD OF 'posthouselaw6.ExplainGoesOn'. -/
def explainGoesOnUptoCard : Claim7 := { stood := { row := explainGoesOnUptoRow, standIns := [], harness := (true, "b00a288ae26c19b1c69d48304217fb75c8ecdea4627290165c80941d2d673c9c"), looks := false }, kinds := [], alts := [], laidByText := true, laidKinds := [.data, .data, .data], laidTests := true, laidLooks := .later }
def ExplainGoesOnUptoCardSaid : Prop := Claim7.holds Tryz.pinned (.plain (OpenSpec.upto explainGoesOnSpec)) explainGoesOnUptoCard

/-- THE SECOND FORM's CARD OF 'posthouselaw6.ExplainDeterminesActions'. -/
def explainDeterminesActionsUptoCard : Claim7 := { stood := { row := explainDeterminesActionsUptoRow, standIns := [], harness := (true, "b00a288ae26c19b1c69d48304217fb75c8ecdea4627290165c80941d2d673c9c"), looks := false }, kinds := [], alts := [], laidByText := true, laidKinds := [.data, .data, .data], laidTests := true, laidLooks := .later }
def ExplainDeterminesActionsUptoCardSaid : Prop := Claim7.holds Tryz.pinned (.plain (OpenSpec.upto explainDeterminesActionsSpec)) explainDeterminesActionsUptoCard

/-- THE SECOND FORM's CARD OF 'posthouselaw6.EvaluateOfBranches'. -/
def evaluateOfBranchesUptoCard : Claim7 := { stood := { row := evaluateOfBranchesUptoRow, standIns := [], harness := (true, "b00a288ae26c19b1c69d48304217fb75c8ecdea4627290165c80941d2d673c9c"), looks := false }, kinds := [], alts := [], laidByText := true, laidKinds := [.data, .data, .data], laidTests := true, laidLooks := .later }
def EvaluateOfBranchesUptoCardSaid : Prop := Claim7.holds Tryz.pinned (.plain (OpenSpec.upto evaluateOfBranchesSpec)) evaluateOfBranchesUptoCard

/-- THE SECOND FORM's CARD OF 'posthouselaw6.ExplainMatchesSpec'. -/
def explainMatchesSpecUptoCard : Claim7 := { stood := { row := explainMatchesSpecUptoRow, standIns := [], harness := (true, "b00a288ae26c19b1c69d48304217fb75c8ecdea4627290165c80941d2d673c9c"), looks := false }, kinds := [], alts := [], laidByText := true, laidKinds := [.data, .data, .data], laidTests := true, laidLooks := .later }
def ExplainMatchesSpecUptoCardSaid : Prop := Claim7.holds Tryz.pinned (.plain (OpenSpec.upto explainMatchesSpecSpec)) explainMatchesSpecUptoCard

/-- THE SECOND FORM's CARD OF 'posthouselaw6.ProveKeepsIsSound'. -/
def proveKeepsIsSoundUptoCard : Claim7 := { stood := { row := proveKeepsIsSoundUptoRow, standIns := [], harness := (true, "b00a288ae26c19b1c69d48304217fb75c8ecdea4627290165c80941d2d673c9c"), looks := false }, kinds := [], alts := [], laidByText := true, laidKinds := [.data, .data, .data], laidTests := true, laidLooks := .later }
def ProveKeepsIsSoundUptoCardSaid : Prop := Claim7.holds Tryz.pinned (.plain (OpenSpec.upto proveKeepsIsSoundSpec)) proveKeepsIsSoundUptoCard

/-- THE SECOND FORM's CARD OF 'posthouselaw6.ProveReachableIsSound'. -/
def proveReachableIsSoundUptoCard : Claim7 := { stood := { row := proveReachableIsSoundUptoRow, standIns := [], harness := (true, "b00a288ae26c19b1c69d48304217fb75c8ecdea4627290165c80941d2d673c9c"), looks := false }, kinds := [], alts := [], laidByText := true, laidKinds := [.data, .data, .data], laidTests := true, laidLooks := .later }
def ProveReachableIsSoundUptoCardSaid : Prop := Claim7.holds Tryz.pinned (.plain (OpenSpec.upto proveReachableIsSoundSpec)) proveReachableIsSoundUptoCard

/-- THE SECOND FORM's CARD OF 'posthouselaw6.ApplyKeepsMessages'. -/
def applyKeepsMessagesUptoCard : Claim7 := { stood := { row := applyKeepsMessagesUptoRow, standIns := [], harness := (true, "b00a288ae26c19b1c69d48304217fb75c8ecdea4627290165c80941d2d673c9c"), looks := false }, kinds := [], alts := [], laidByText := true, laidKinds := [.data, .data, .data], laidTests := true, laidLooks := .later }
def ApplyKeepsMessagesUptoCardSaid : Prop := Claim7.holds Tryz.pinned (.plain (OpenSpec.upto applyKeepsMessagesSpec)) applyKeepsMessagesUptoCard
end Rows
end Go.Proofs.YtokahibbkdbndaaGreatDoor
