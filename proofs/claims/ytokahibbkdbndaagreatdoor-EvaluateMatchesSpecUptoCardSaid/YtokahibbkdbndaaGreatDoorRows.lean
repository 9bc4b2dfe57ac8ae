/-
  NARROWER THAN 'FOR EVERY INPUT', by the rows' own cells (each row's printed sentence says how): EvaluateMatchesSpec: loops, laid · EvaluateDecides: loops, laid · EvaluateStops: loops, laid · EvaluateIgnoresTrace: loops, laid · ExplainGoesOn: loops, laid · ExplainDeterminesActions: loops, laid · EvaluateOfBranches: loops, laid · ExplainMatchesSpec: loops, laid · ProveKeepsIsSound: loops, laid · ProveReachableIsSound: loops, laid · ApplyKeepsMessages: loops, laid.
  DERIVED. THE GIVEN ROWS OF THIS SEAT. 11 by the template 'for every input the law returns true; each argument reads behind the call as it read before'; 0 by the template 'total and deterministic' (their statements: YtokahibbkdbndaaGreatDoorTotals.lean).
  GIVEN WITH THE SEED: the statements are not yours to turn. If you find one false, say at which input.
  Laid BY PROGRAM, IN A SANDBOX (cutbox-rows.mjs): the forced cells as the released guide's own fill.sh prints them over the translation 5bcb103cbc3ff585… (all of the seat's roots in one cut). By AI agents, Wed Nov 11 2026. No macro, syntax, notation, axiom, sorry.
-/
import Derived.Test.YtokahibbkdbndaaGreatDoorChecked
import GoSem.Claim
import GoSem.ClaimJoined
import GoSem.ClaimMapViews
import Derived.JoinedTies
import Derived.KernelRfl
namespace Go.Proofs.YtokahibbkdbndaaGreatDoor
/- THE CELL 'sum', in the pinned program and in every row, IS THE sha256 OF THE DUMP (.gsa) THAT YtokahibbkdbndaaGreatDoorProg.lean LOADS. Nothing in Lean hashes anything: it is a label: what it is worth is what the hold of that sum in a sandbox is worth. -/
noncomputable def Tryz.pinned : Pinned := { name := "ytokahibbkdbndaagreatdoor", sum := "5bcb103cbc3ff58549a71163582cb7cacb761dc1868f0c5747738a3633d001a1", checked := Tryz.checked }
namespace Rows
def none {H : Type} : Left H := { results := [], args := [] }

/- WHAT THE LISTED PACKAGE-LEVEL VARIABLES READ AS WHEN THE CALL BEGINS. Each datum BY PROGRAM (the guide's laid-datum.mjs) off the statement by which the dump's own 'gosem.cut.vars' lays the variable. In a bare row this is a premise. The card (YtokahibbkdbndaaGreatDoorCards.lean) ties it to the program's text. -/
def laid_math_bits_deBruijn32tab {H : Type} : DataW H := .agg [.lit (.int .u8 0), .lit (.int .u8 1), .lit (.int .u8 28), .lit (.int .u8 2), .lit (.int .u8 29), .lit (.int .u8 14), .lit (.int .u8 24), .lit (.int .u8 3), .lit (.int .u8 30), .lit (.int .u8 22), .lit (.int .u8 20), .lit (.int .u8 15), .lit (.int .u8 25), .lit (.int .u8 17), .lit (.int .u8 4), .lit (.int .u8 8), .lit (.int .u8 31), .lit (.int .u8 27), .lit (.int .u8 13), .lit (.int .u8 23), .lit (.int .u8 21), .lit (.int .u8 19), .lit (.int .u8 16), .lit (.int .u8 7), .lit (.int .u8 26), .lit (.int .u8 12), .lit (.int .u8 18), .lit (.int .u8 6), .lit (.int .u8 11), .lit (.int .u8 5), .lit (.int .u8 10), .lit (.int .u8 9)]
def laid_math_bits_deBruijn64tab {H : Type} : DataW H := .agg [.lit (.int .u8 0), .lit (.int .u8 1), .lit (.int .u8 56), .lit (.int .u8 2), .lit (.int .u8 57), .lit (.int .u8 49), .lit (.int .u8 28), .lit (.int .u8 3), .lit (.int .u8 61), .lit (.int .u8 58), .lit (.int .u8 42), .lit (.int .u8 50), .lit (.int .u8 38), .lit (.int .u8 29), .lit (.int .u8 17), .lit (.int .u8 4), .lit (.int .u8 62), .lit (.int .u8 47), .lit (.int .u8 59), .lit (.int .u8 36), .lit (.int .u8 45), .lit (.int .u8 43), .lit (.int .u8 51), .lit (.int .u8 22), .lit (.int .u8 53), .lit (.int .u8 39), .lit (.int .u8 33), .lit (.int .u8 30), .lit (.int .u8 24), .lit (.int .u8 18), .lit (.int .u8 12), .lit (.int .u8 5), .lit (.int .u8 63), .lit (.int .u8 55), .lit (.int .u8 48), .lit (.int .u8 27), .lit (.int .u8 60), .lit (.int .u8 41), .lit (.int .u8 37), .lit (.int .u8 16), .lit (.int .u8 46), .lit (.int .u8 35), .lit (.int .u8 44), .lit (.int .u8 21), .lit (.int .u8 52), .lit (.int .u8 32), .lit (.int .u8 23), .lit (.int .u8 11), .lit (.int .u8 54), .lit (.int .u8 26), .lit (.int .u8 40), .lit (.int .u8 15), .lit (.int .u8 34), .lit (.int .u8 20), .lit (.int .u8 31), .lit (.int .u8 10), .lit (.int .u8 25), .lit (.int .u8 14), .lit (.int .u8 19), .lit (.int .u8 9), .lit (.int .u8 13), .lit (.int .u8 8), .lit (.int .u8 7), .lit (.int .u8 6)]
def laid_internal_strconv_uint64pow10 {H : Type} : DataW H := .agg [.lit (.int .u64 1), .lit (.int .u64 10), .lit (.int .u64 100), .lit (.int .u64 1000), .lit (.int .u64 10000), .lit (.int .u64 100000), .lit (.int .u64 1000000), .lit (.int .u64 10000000), .lit (.int .u64 100000000), .lit (.int .u64 1000000000), .lit (.int .u64 10000000000), .lit (.int .u64 100000000000), .lit (.int .u64 1000000000000), .lit (.int .u64 10000000000000), .lit (.int .u64 100000000000000), .lit (.int .u64 1000000000000000), .lit (.int .u64 10000000000000000), .lit (.int .u64 100000000000000000), .lit (.int .u64 1000000000000000000), .lit (.int .u64 10000000000000000000)]

/-- 'posthouselaw6.EvaluateMatchesSpec': WHATEVER THE INPUT: true; the input reads as it did. -/
def evaluateMatchesSpecSpec : ChangeSpec := { name := "evaluateMatchesSpec", fn := fun _ => fun
  | [d1, d2] => { results := [.lit (.bool true)], args := [d1, d2] }
  | _ => none }
def evaluateMatchesSpecRow : OpenClaim := { program := "ytokahibbkdbndaagreatdoor", sum := "5bcb103cbc3ff58549a71163582cb7cacb761dc1868f0c5747738a3633d001a1", func := "posthouse/posthouselaw6.EvaluateMatchesSpec", spec := "evaluateMatchesSpec", inPlace := ["internal/bytealg.IndexByteString", "internal/bytealg.IndexString", "internal/abi.NoEscape"], unfollowed := true, recurses := true, named := ["internal/bytealg.MaxLen", "internal/strconv.uint64pow10", "math/bits.deBruijn32tab", "math/bits.deBruijn64tab"], loops := true, apart := false, laid := [("math/bits.deBruijn32tab", laid_math_bits_deBruijn32tab), ("math/bits.deBruijn64tab", laid_math_bits_deBruijn64tab), ("internal/strconv.uint64pow10", laid_internal_strconv_uint64pow10)] }
def EvaluateMatchesSpecSaid : Prop := evaluateMatchesSpecRow.holds Tryz.pinned (OpenSpec.ofChange evaluateMatchesSpecSpec)

/-- ITS FALSE NEIGHBOUR: 'it returns false'. Refute it at one input. -/
def evaluateMatchesSpecWrong : ChangeSpec := { name := "evaluateMatchesSpec", fn := fun _ => fun
  | [d1, d2] => { results := [.lit (.bool false)], args := [d1, d2] }
  | _ => none }
def EvaluateMatchesSpecWrongFalsely : Prop := evaluateMatchesSpecRow.holds Tryz.pinned (OpenSpec.ofChange evaluateMatchesSpecWrong)

/-- 'posthouselaw6.EvaluateDecides': WHATEVER THE INPUT: true; the input reads as it did. -/
def evaluateDecidesSpec : ChangeSpec := { name := "evaluateDecides", fn := fun _ => fun
  | [d1, d2] => { results := [.lit (.bool true)], args := [d1, d2] }
  | _ => none }
def evaluateDecidesRow : OpenClaim := { program := "ytokahibbkdbndaagreatdoor", sum := "5bcb103cbc3ff58549a71163582cb7cacb761dc1868f0c5747738a3633d001a1", func := "posthouse/posthouselaw6.EvaluateDecides", spec := "evaluateDecides", inPlace := ["internal/bytealg.IndexByteString", "internal/bytealg.IndexString", "internal/abi.NoEscape"], unfollowed := true, recurses := true, named := ["internal/bytealg.MaxLen", "internal/strconv.uint64pow10", "math/bits.deBruijn32tab", "math/bits.deBruijn64tab"], loops := true, apart := false, laid := [("math/bits.deBruijn32tab", laid_math_bits_deBruijn32tab), ("math/bits.deBruijn64tab", laid_math_bits_deBruijn64tab), ("internal/strconv.uint64pow10", laid_internal_strconv_uint64pow10)] }
def EvaluateDecidesSaid : Prop := evaluateDecidesRow.holds Tryz.pinned (OpenSpec.ofChange evaluateDecidesSpec)

/-- ITS FALSE NEIGHBOUR: 'it returns false'. Refute it at one input. -/
def evaluateDecidesWrong : ChangeSpec := { name := "evaluateDecides", fn := fun _ => fun
  | [d1, d2] => { results := [.lit (.bool false)], args := [d1, d2] }
  | _ => none }
def EvaluateDecidesWrongFalsely : Prop := evaluateDecidesRow.holds Tryz.pinned (OpenSpec.ofChange evaluateDecidesWrong)

/-- 'posthouselaw6.EvaluateStops': WHATEVER THE INPUT: true; the input reads as it did. -/
def evaluateStopsSpec : ChangeSpec := { name := "evaluateStops", fn := fun _ => fun
  | [d1, d2, d3] => { results := [.lit (.bool true)], args := [d1, d2, d3] }
  | _ => none }
def evaluateStopsRow : OpenClaim := { program := "ytokahibbkdbndaagreatdoor", sum := "5bcb103cbc3ff58549a71163582cb7cacb761dc1868f0c5747738a3633d001a1", func := "posthouse/posthouselaw6.EvaluateStops", spec := "evaluateStops", inPlace := ["internal/bytealg.IndexByteString", "internal/bytealg.IndexString", "internal/abi.NoEscape"], unfollowed := true, recurses := true, named := ["internal/bytealg.MaxLen", "internal/strconv.uint64pow10", "math/bits.deBruijn32tab", "math/bits.deBruijn64tab"], loops := true, apart := false, laid := [("math/bits.deBruijn32tab", laid_math_bits_deBruijn32tab), ("math/bits.deBruijn64tab", laid_math_bits_deBruijn64tab), ("internal/strconv.uint64pow10", laid_internal_strconv_uint64pow10)] }
def EvaluateStopsSaid : Prop := evaluateStopsRow.holds Tryz.pinned (OpenSpec.ofChange evaluateStopsSpec)

/-- ITS FALSE NEIGHBOUR: 'it returns false'. Refute it at one input. -/
def evaluateStopsWrong : ChangeSpec := { name := "evaluateStops", fn := fun _ => fun
  | [d1, d2, d3] => { results := [.lit (.bool false)], args := [d1, d2, d3] }
  | _ => none }
def EvaluateStopsWrongFalsely : Prop := evaluateStopsRow.holds Tryz.pinned (OpenSpec.ofChange evaluateStopsWrong)

/-- 'posthouselaw6.EvaluateIgnoresTrace': WHATEVER THE INPUT: true; the input reads as it did. -/
def evaluateIgnoresTraceSpec : ChangeSpec := { name := "evaluateIgnoresTrace", fn := fun _ => fun
  | [d1, d2, d3, d4] => { results := [.lit (.bool true)], args := [d1, d2, d3, d4] }
  | _ => none }
def evaluateIgnoresTraceRow : OpenClaim := { program := "ytokahibbkdbndaagreatdoor", sum := "5bcb103cbc3ff58549a71163582cb7cacb761dc1868f0c5747738a3633d001a1", func := "posthouse/posthouselaw6.EvaluateIgnoresTrace", spec := "evaluateIgnoresTrace", inPlace := ["internal/bytealg.IndexByteString", "internal/bytealg.IndexString", "internal/abi.NoEscape"], unfollowed := true, recurses := true, named := ["internal/bytealg.MaxLen", "internal/strconv.uint64pow10", "math/bits.deBruijn32tab", "math/bits.deBruijn64tab"], loops := true, apart := false, laid := [("math/bits.deBruijn32tab", laid_math_bits_deBruijn32tab), ("math/bits.deBruijn64tab", laid_math_bits_deBruijn64tab), ("internal/strconv.uint64pow10", laid_internal_strconv_uint64pow10)] }
def EvaluateIgnoresTraceSaid : Prop := evaluateIgnoresTraceRow.holds Tryz.pinned (OpenSpec.ofChange evaluateIgnoresTraceSpec)

/-- ITS FALSE NEIGHBOUR: 'it returns false'. Refute it at one input. -/
def evaluateIgnoresTraceWrong : ChangeSpec := { name := "evaluateIgnoresTrace", fn := fun _ => fun
  | [d1, d2, d3, d4] => { results := [.lit (.bool false)], args := [d1, d2, d3, d4] }
  | _ => none }
def EvaluateIgnoresTraceWrongFalsely : Prop := evaluateIgnoresTraceRow.holds Tryz.pinned (OpenSpec.ofChange evaluateIgnoresTraceWrong)

/-- 'posthouselaw6.ExplainGoesOn': WHATEVER THE INPUT: true; the input reads as it did. -/
def explainGoesOnSpec : ChangeSpec := { name := "explainGoesOn", fn := fun _ => fun
  | [d1, d2] => { results := [.lit (.bool true)], args := [d1, d2] }
  | _ => none }
def explainGoesOnRow : OpenClaim := { program := "ytokahibbkdbndaagreatdoor", sum := "5bcb103cbc3ff58549a71163582cb7cacb761dc1868f0c5747738a3633d001a1", func := "posthouse/posthouselaw6.ExplainGoesOn", spec := "explainGoesOn", inPlace := ["internal/bytealg.IndexByteString", "internal/bytealg.IndexString", "internal/abi.NoEscape"], unfollowed := true, recurses := true, named := ["internal/bytealg.MaxLen", "internal/strconv.uint64pow10", "math/bits.deBruijn32tab", "math/bits.deBruijn64tab"], loops := true, apart := false, laid := [("math/bits.deBruijn32tab", laid_math_bits_deBruijn32tab), ("math/bits.deBruijn64tab", laid_math_bits_deBruijn64tab), ("internal/strconv.uint64pow10", laid_internal_strconv_uint64pow10)] }
def ExplainGoesOnSaid : Prop := explainGoesOnRow.holds Tryz.pinned (OpenSpec.ofChange explainGoesOnSpec)

/-- ITS FALSE NEIGHBOUR: 'it returns false'. Refute it at one input. -/
def explainGoesOnWrong : ChangeSpec := { name := "explainGoesOn", fn := fun _ => fun
  | [d1, d2] => { results := [.lit (.bool false)], args := [d1, d2] }
  | _ => none }
def ExplainGoesOnWrongFalsely : Prop := explainGoesOnRow.holds Tryz.pinned (OpenSpec.ofChange explainGoesOnWrong)

/-- 'posthouselaw6.ExplainDeterminesActions': WHATEVER THE INPUT: true; the input reads as it did. -/
def explainDeterminesActionsSpec : ChangeSpec := { name := "explainDeterminesActions", fn := fun _ => fun
  | [d1, d2] => { results := [.lit (.bool true)], args := [d1, d2] }
  | _ => none }
def explainDeterminesActionsRow : OpenClaim := { program := "ytokahibbkdbndaagreatdoor", sum := "5bcb103cbc3ff58549a71163582cb7cacb761dc1868f0c5747738a3633d001a1", func := "posthouse/posthouselaw6.ExplainDeterminesActions", spec := "explainDeterminesActions", inPlace := ["internal/bytealg.IndexByteString", "internal/bytealg.IndexString", "internal/abi.NoEscape"], unfollowed := true, recurses := true, named := ["internal/bytealg.MaxLen", "internal/strconv.uint64pow10", "math/bits.deBruijn32tab", "math/bits.deBruijn64tab"], loops := true, apart := false, laid := [("math/bits.deBruijn32tab", laid_math_bits_deBruijn32tab), ("math/bits.deBruijn64tab", laid_math_bits_deBruijn64tab), ("internal/strconv.uint64pow10", laid_internal_strconv_uint64pow10)] }
def ExplainDeterminesActionsSaid : Prop := explainDeterminesActionsRow.holds Tryz.pinned (OpenSpec.ofChange explainDeterminesActionsSpec)

/-- ITS FALSE NEIGHBOUR: 'it returns false'. Refute it at one input. -/
def explainDeterminesActionsWrong : ChangeSpec := { name := "explainDeterminesActions", fn := fun _ => fun
  | [d1, d2] => { results := [.lit (.bool false)], args := [d1, d2] }
  | _ => none }
def ExplainDeterminesActionsWrongFalsely : Prop := explainDeterminesActionsRow.holds Tryz.pinned (OpenSpec.ofChange explainDeterminesActionsWrong)

/-- 'posthouselaw6.EvaluateOfBranches': WHATEVER THE INPUT: true; the input reads as it did. -/
def evaluateOfBranchesSpec : ChangeSpec := { name := "evaluateOfBranches", fn := fun _ => fun
  | [d1, d2, d3, d4] => { results := [.lit (.bool true)], args := [d1, d2, d3, d4] }
  | _ => none }
def evaluateOfBranchesRow : OpenClaim := { program := "ytokahibbkdbndaagreatdoor", sum := "5bcb103cbc3ff58549a71163582cb7cacb761dc1868f0c5747738a3633d001a1", func := "posthouse/posthouselaw6.EvaluateOfBranches", spec := "evaluateOfBranches", inPlace := ["internal/bytealg.IndexByteString", "internal/bytealg.IndexString", "internal/abi.NoEscape"], unfollowed := true, recurses := true, named := ["internal/bytealg.MaxLen", "internal/strconv.uint64pow10", "math/bits.deBruijn32tab", "math/bits.deBruijn64tab"], loops := true, apart := false, laid := [("math/bits.deBruijn32tab", laid_math_bits_deBruijn32tab), ("math/bits.deBruijn64tab", laid_math_bits_deBruijn64tab), ("internal/strconv.uint64pow10", laid_internal_strconv_uint64pow10)] }
def EvaluateOfBranchesSaid : Prop := evaluateOfBranchesRow.holds Tryz.pinned (OpenSpec.ofChange evaluateOfBranchesSpec)

/-- ITS FALSE NEIGHBOUR: 'it returns false'. Refute it at one input. -/
def evaluateOfBranchesWrong : ChangeSpec := { name := "evaluateOfBranches", fn := fun _ => fun
  | [d1, d2, d3, d4] => { results := [.lit (.bool false)], args := [d1, d2, d3, d4] }
  | _ => none }
def EvaluateOfBranchesWrongFalsely : Prop := evaluateOfBranchesRow.holds Tryz.pinned (OpenSpec.ofChange evaluateOfBranchesWrong)

/-- 'posthouselaw6.ExplainMatchesSpec': WHATEVER THE INPUT: true; the input reads as it did. -/
def explainMatchesSpecSpec : ChangeSpec := { name := "explainMatchesSpec", fn := fun _ => fun
  | [d1, d2] => { results := [.lit (.bool true)], args := [d1, d2] }
  | _ => none }
def explainMatchesSpecRow : OpenClaim := { program := "ytokahibbkdbndaagreatdoor", sum := "5bcb103cbc3ff58549a71163582cb7cacb761dc1868f0c5747738a3633d001a1", func := "posthouse/posthouselaw6.ExplainMatchesSpec", spec := "explainMatchesSpec", inPlace := ["internal/bytealg.IndexByteString", "internal/bytealg.IndexString", "internal/abi.NoEscape"], unfollowed := true, recurses := true, named := ["internal/bytealg.MaxLen", "internal/strconv.uint64pow10", "math/bits.deBruijn32tab", "math/bits.deBruijn64tab"], loops := true, apart := false, laid := [("math/bits.deBruijn32tab", laid_math_bits_deBruijn32tab), ("math/bits.deBruijn64tab", laid_math_bits_deBruijn64tab), ("internal/strconv.uint64pow10", laid_internal_strconv_uint64pow10)] }
def ExplainMatchesSpecSaid : Prop := explainMatchesSpecRow.holds Tryz.pinned (OpenSpec.ofChange explainMatchesSpecSpec)

/-- ITS FALSE NEIGHBOUR: 'it returns false'. Refute it at one input. -/
def explainMatchesSpecWrong : ChangeSpec := { name := "explainMatchesSpec", fn := fun _ => fun
  | [d1, d2] => { results := [.lit (.bool false)], args := [d1, d2] }
  | _ => none }
def ExplainMatchesSpecWrongFalsely : Prop := explainMatchesSpecRow.holds Tryz.pinned (OpenSpec.ofChange explainMatchesSpecWrong)

/-- 'posthouselaw6.ProveKeepsIsSound': WHATEVER THE INPUT: true; the input reads as it did. -/
def proveKeepsIsSoundSpec : ChangeSpec := { name := "proveKeepsIsSound", fn := fun _ => fun
  | [d1, d2] => { results := [.lit (.bool true)], args := [d1, d2] }
  | _ => none }
def proveKeepsIsSoundRow : OpenClaim := { program := "ytokahibbkdbndaagreatdoor", sum := "5bcb103cbc3ff58549a71163582cb7cacb761dc1868f0c5747738a3633d001a1", func := "posthouse/posthouselaw6.ProveKeepsIsSound", spec := "proveKeepsIsSound", inPlace := ["internal/bytealg.IndexByteString", "internal/bytealg.IndexString", "internal/abi.NoEscape"], unfollowed := true, recurses := true, named := ["internal/bytealg.MaxLen", "internal/strconv.uint64pow10", "math/bits.deBruijn32tab", "math/bits.deBruijn64tab"], loops := true, apart := false, laid := [("math/bits.deBruijn32tab", laid_math_bits_deBruijn32tab), ("math/bits.deBruijn64tab", laid_math_bits_deBruijn64tab), ("internal/strconv.uint64pow10", laid_internal_strconv_uint64pow10)] }
def ProveKeepsIsSoundSaid : Prop := proveKeepsIsSoundRow.holds Tryz.pinned (OpenSpec.ofChange proveKeepsIsSoundSpec)

/-- ITS FALSE NEIGHBOUR: 'it returns false'. Refute it at one input. -/
def proveKeepsIsSoundWrong : ChangeSpec := { name := "proveKeepsIsSound", fn := fun _ => fun
  | [d1, d2] => { results := [.lit (.bool false)], args := [d1, d2] }
  | _ => none }
def ProveKeepsIsSoundWrongFalsely : Prop := proveKeepsIsSoundRow.holds Tryz.pinned (OpenSpec.ofChange proveKeepsIsSoundWrong)

/-- 'posthouselaw6.ProveReachableIsSound': WHATEVER THE INPUT: true; the input reads as it did. -/
def proveReachableIsSoundSpec : ChangeSpec := { name := "proveReachableIsSound", fn := fun _ => fun
  | [d1, d2] => { results := [.lit (.bool true)], args := [d1, d2] }
  | _ => none }
def proveReachableIsSoundRow : OpenClaim := { program := "ytokahibbkdbndaagreatdoor", sum := "5bcb103cbc3ff58549a71163582cb7cacb761dc1868f0c5747738a3633d001a1", func := "posthouse/posthouselaw6.ProveReachableIsSound", spec := "proveReachableIsSound", inPlace := ["internal/bytealg.IndexByteString", "internal/bytealg.IndexString", "internal/abi.NoEscape"], unfollowed := true, recurses := true, named := ["internal/bytealg.MaxLen", "internal/strconv.uint64pow10", "math/bits.deBruijn32tab", "math/bits.deBruijn64tab"], loops := true, apart := false, laid := [("math/bits.deBruijn32tab", laid_math_bits_deBruijn32tab), ("math/bits.deBruijn64tab", laid_math_bits_deBruijn64tab), ("internal/strconv.uint64pow10", laid_internal_strconv_uint64pow10)] }
def ProveReachableIsSoundSaid : Prop := proveReachableIsSoundRow.holds Tryz.pinned (OpenSpec.ofChange proveReachableIsSoundSpec)

/-- ITS FALSE NEIGHBOUR: 'it returns false'. Refute it at one input. -/
def proveReachableIsSoundWrong : ChangeSpec := { name := "proveReachableIsSound", fn := fun _ => fun
  | [d1, d2] => { results := [.lit (.bool false)], args := [d1, d2] }
  | _ => none }
def ProveReachableIsSoundWrongFalsely : Prop := proveReachableIsSoundRow.holds Tryz.pinned (OpenSpec.ofChange proveReachableIsSoundWrong)

/-- 'posthouselaw6.ApplyKeepsMessages': WHATEVER THE INPUT: true; the input reads as it did. -/
def applyKeepsMessagesSpec : ChangeSpec := { name := "applyKeepsMessages", fn := fun _ => fun
  | [d1, d2] => { results := [.lit (.bool true)], args := [d1, d2] }
  | _ => none }
def applyKeepsMessagesRow : OpenClaim := { program := "ytokahibbkdbndaagreatdoor", sum := "5bcb103cbc3ff58549a71163582cb7cacb761dc1868f0c5747738a3633d001a1", func := "posthouse/posthouselaw6.ApplyKeepsMessages", spec := "applyKeepsMessages", inPlace := ["internal/bytealg.IndexByteString", "internal/bytealg.IndexString", "internal/abi.NoEscape"], unfollowed := true, recurses := true, named := ["internal/bytealg.MaxLen", "internal/strconv.uint64pow10", "math/bits.deBruijn32tab", "math/bits.deBruijn64tab"], loops := true, apart := false, laid := [("math/bits.deBruijn32tab", laid_math_bits_deBruijn32tab), ("math/bits.deBruijn64tab", laid_math_bits_deBruijn64tab), ("internal/strconv.uint64pow10", laid_internal_strconv_uint64pow10)] }
def ApplyKeepsMessagesSaid : Prop := applyKeepsMessagesRow.holds Tryz.pinned (OpenSpec.ofChange applyKeepsMessagesSpec)

/-- ITS FALSE NEIGHBOUR: 'it returns false'. Refute it at one input. -/
def applyKeepsMessagesWrong : ChangeSpec := { name := "applyKeepsMessages", fn := fun _ => fun
  | [d1, d2] => { results := [.lit (.bool false)], args := [d1, d2] }
  | _ => none }
def ApplyKeepsMessagesWrongFalsely : Prop := applyKeepsMessagesRow.holds Tryz.pinned (OpenSpec.ofChange applyKeepsMessagesWrong)

/- THE SECOND FORM. 'bulk': how many values and letters a reading holds, each counted each time it is reached (what is shared counts as often as it is met; a slice's spare places count too). A statement '..UptoSaid' is the law's where the arguments, and the package variables that the reading takes, are together of bulk at most 1048576: NARROWER than '..Said'. Prove '..Said' where nothing that the law and all that it calls make is longer than what came in: it says more and counts as full. Else prove '..UptoSaid'. A law counts once. -/
mutual
def uptoBulk {H : Type} : DataW H → Nat
  | .lit (.string bytes) => bytes.length + 1
  | .lit _ => 1
  | .nil => 1
  | .ptr d => uptoBulk d + 1
  | .slice elems spare => uptoBulkAll elems + uptoBulkAll spare + 1
  | .agg parts => uptoBulkAll parts + 1
  | .iface _ d => uptoBulk d + 1
  | .map entries => uptoBulkEntries entries + 1
  | .held _ => 1
def uptoBulkAll {H : Type} : List (DataW H) → Nat
  | [] => 0
  | d :: r => uptoBulk d + uptoBulkAll r
def uptoBulkEntries {H : Type} : List (Lit × DataW H) → Nat
  | [] => 0
  | x :: r => uptoBulkEntry x + uptoBulkEntries r
def uptoBulkEntry {H : Type} : Lit × DataW H → Nat
  | (.string bytes, d) => bytes.length + uptoBulk d + 1
  | (_, d) => uptoBulk d + 1
 end
def uptoSmall : (H : Type) → List (DataW H) → Bool := fun _ ds => decide (uptoBulkAll ds ≤ 1048576)
def OpenSpec.upto (s : _root_.Go.ChangeSpec) : _root_.Go.OpenSpec := { _root_.Go.OpenSpec.ofChange s with cond := some uptoSmall }

/-- 'posthouselaw6.EvaluateMatchesSpec', WHERE WHAT IT READS IS OF BULK AT MOST 1048576: true; the input reads as it did. -/
def evaluateMatchesSpecUptoRow : OpenClaim := { program := "ytokahibbkdbndaagreatdoor", sum := "5bcb103cbc3ff58549a71163582cb7cacb761dc1868f0c5747738a3633d001a1", func := "posthouse/posthouselaw6.EvaluateMatchesSpec", spec := "evaluateMatchesSpec", inPlace := ["internal/bytealg.IndexByteString", "internal/bytealg.IndexString", "internal/abi.NoEscape"], unfollowed := true, recurses := true, named := ["internal/bytealg.MaxLen", "internal/strconv.uint64pow10", "math/bits.deBruijn32tab", "math/bits.deBruijn64tab"], loops := true, apart := false, laid := [("math/bits.deBruijn32tab", laid_math_bits_deBruijn32tab), ("math/bits.deBruijn64tab", laid_math_bits_deBruijn64tab), ("internal/strconv.uint64pow10", laid_internal_strconv_uint64pow10)], narrowed := true }
def EvaluateMatchesSpecUptoSaid : Prop := evaluateMatchesSpecUptoRow.holds Tryz.pinned (OpenSpec.upto evaluateMatchesSpecSpec)

/-- 'posthouselaw6.EvaluateDecides', WHERE WHAT IT READS IS OF BULK AT MOST 1048576: true; the input reads as it did. -/
def evaluateDecidesUptoRow : OpenClaim := { program := "ytokahibbkdbndaagreatdoor", sum := "5bcb103cbc3ff58549a71163582cb7cacb761dc1868f0c5747738a3633d001a1", func := "posthouse/posthouselaw6.EvaluateDecides", spec := "evaluateDecides", inPlace := ["internal/bytealg.IndexByteString", "internal/bytealg.IndexString", "internal/abi.NoEscape"], unfollowed := true, recurses := true, named := ["internal/bytealg.MaxLen", "internal/strconv.uint64pow10", "math/bits.deBruijn32tab", "math/bits.deBruijn64tab"], loops := true, apart := false, laid := [("math/bits.deBruijn32tab", laid_math_bits_deBruijn32tab), ("math/bits.deBruijn64tab", laid_math_bits_deBruijn64tab), ("internal/strconv.uint64pow10", laid_internal_strconv_uint64pow10)], narrowed := true }
def EvaluateDecidesUptoSaid : Prop := evaluateDecidesUptoRow.holds Tryz.pinned (OpenSpec.upto evaluateDecidesSpec)

/-- 'posthouselaw6.EvaluateStops', WHERE WHAT IT READS IS OF BULK AT MOST 1048576: true; the input reads as it did. -/
def evaluateStopsUptoRow : OpenClaim := { program := "ytokahibbkdbndaagreatdoor", sum := "5bcb103cbc3ff58549a71163582cb7cacb761dc1868f0c5747738a3633d001a1", func := "posthouse/posthouselaw6.EvaluateStops", spec := "evaluateStops", inPlace := ["internal/bytealg.IndexByteString", "internal/bytealg.IndexString", "internal/abi.NoEscape"], unfollowed := true, recurses := true, named := ["internal/bytealg.MaxLen", "internal/strconv.uint64pow10", "math/bits.deBruijn32tab", "math/bits.deBruijn64tab"], loops := true, apart := false, laid := [("math/bits.deBruijn32tab", laid_math_bits_deBruijn32tab), ("math/bits.deBruijn64tab", laid_math_bits_deBruijn64tab), ("internal/strconv.uint64pow10", laid_internal_strconv_uint64pow10)], narrowed := true }
def EvaluateStopsUptoSaid : Prop := evaluateStopsUptoRow.holds Tryz.pinned (OpenSpec.upto evaluateStopsSpec)

/-- 'posthouselaw6.EvaluateIgnoresTrace', WHERE WHAT IT READS IS OF BULK AT MOST 1048576: true; the input reads as it did. -/
def evaluateIgnoresTraceUptoRow : OpenClaim := { program := "ytokahibbkdbndaagreatdoor", sum := "5bcb103cbc3ff58549a71163582cb7cacb761dc1868f0c5747738a3633d001a1", func := "posthouse/posthouselaw6.EvaluateIgnoresTrace", spec := "evaluateIgnoresTrace", inPlace := ["internal/bytealg.IndexByteString", "internal/bytealg.IndexString", "internal/abi.NoEscape"], unfollowed := true, recurses := true, named := ["internal/bytealg.MaxLen", "internal/strconv.uint64pow10", "math/bits.deBruijn32tab", "math/bits.deBruijn64tab"], loops := true, apart := false, laid := [("math/bits.deBruijn32tab", laid_math_bits_deBruijn32tab), ("math/bits.deBruijn64tab", laid_math_bits_deBruijn64tab), ("internal/strconv.uint64pow10", laid_internal_strconv_uint64pow10)], narrowed := true }
def EvaluateIgnoresTraceUptoSaid : Prop := evaluateIgnoresTraceUptoRow.holds Tryz.pinned (OpenSpec.upto evaluateIgnoresTraceSpec)

/-- 'posthouselaw6.ExplainGoesOn', WHERE WHAT IT READS IS OF BULK AT MOST 1048576: true; the input reads as it did. -/
def explainGoesOnUptoRow : OpenClaim := { program := "ytokahibbkdbndaagreatdoor", sum := "5bcb103cbc3ff58549a71163582cb7cacb761dc1868f0c5747738a3633d001a1", func := "posthouse/posthouselaw6.ExplainGoesOn", spec := "explainGoesOn", inPlace := ["internal/bytealg.IndexByteString", "internal/bytealg.IndexString", "internal/abi.NoEscape"], unfollowed := true, recurses := true, named := ["internal/bytealg.MaxLen", "internal/strconv.uint64pow10", "math/bits.deBruijn32tab", "math/bits.deBruijn64tab"], loops := true, apart := false, laid := [("math/bits.deBruijn32tab", laid_math_bits_deBruijn32tab), ("math/bits.deBruijn64tab", laid_math_bits_deBruijn64tab), ("internal/strconv.uint64pow10", laid_internal_strconv_uint64pow10)], narrowed := true }
def ExplainGoesOnUptoSaid : Prop := explainGoesOnUptoRow.holds Tryz.pinned (OpenSpec.upto explainGoesOnSpec)

/-- 'posthouselaw6.ExplainDeterminesActions', WHERE WHAT IT READS IS OF BULK AT MOST 1048576: true; the input reads as it did. -/
def explainDeterminesActionsUptoRow : OpenClaim := { program := "ytokahibbkdbndaagreatdoor", sum := "5bcb103cbc3ff58549a71163582cb7cacb761dc1868f0c5747738a3633d001a1", func := "posthouse/posthouselaw6.ExplainDeterminesActions", spec := "explainDeterminesActions", inPlace := ["internal/bytealg.IndexByteString", "internal/bytealg.IndexString", "internal/abi.NoEscape"], unfollowed := true, recurses := true, named := ["internal/bytealg.MaxLen", "internal/strconv.uint64pow10", "math/bits.deBruijn32tab", "math/bits.deBruijn64tab"], loops := true, apart := false, laid := [("math/bits.deBruijn32tab", laid_math_bits_deBruijn32tab), ("math/bits.deBruijn64tab", laid_math_bits_deBruijn64tab), ("internal/strconv.uint64pow10", laid_internal_strconv_uint64pow10)], narrowed := true }
def ExplainDeterminesActionsUptoSaid : Prop := explainDeterminesActionsUptoRow.holds Tryz.pinned (OpenSpec.upto explainDeterminesActionsSpec)

/-- 'posthouselaw6.EvaluateOfBranches', WHERE WHAT IT READS IS OF BULK AT MOST 1048576: true; the input reads as it did. -/
def evaluateOfBranchesUptoRow : OpenClaim := { program := "ytokahibbkdbndaagreatdoor", sum := "5bcb103cbc3ff58549a71163582cb7cacb761dc1868f0c5747738a3633d001a1", func := "posthouse/posthouselaw6.EvaluateOfBranches", spec := "evaluateOfBranches", inPlace := ["internal/bytealg.IndexByteString", "internal/bytealg.IndexString", "internal/abi.NoEscape"], unfollowed := true, recurses := true, named := ["internal/bytealg.MaxLen", "internal/strconv.uint64pow10", "math/bits.deBruijn32tab", "math/bits.deBruijn64tab"], loops := true, apart := false, laid := [("math/bits.deBruijn32tab", laid_math_bits_deBruijn32tab), ("math/bits.deBruijn64tab", laid_math_bits_deBruijn64tab), ("internal/strconv.uint64pow10", laid_internal_strconv_uint64pow10)], narrowed := true }
def EvaluateOfBranchesUptoSaid : Prop := evaluateOfBranchesUptoRow.holds Tryz.pinned (OpenSpec.upto evaluateOfBranchesSpec)

/-- 'posthouselaw6.ExplainMatchesSpec', WHERE WHAT IT READS IS OF BULK AT MOST 1048576: true; the input reads as it did. -/
def explainMatchesSpecUptoRow : OpenClaim := { program := "ytokahibbkdbndaagreatdoor", sum := "5bcb103cbc3ff58549a71163582cb7cacb761dc1868f0c5747738a3633d001a1", func := "posthouse/posthouselaw6.ExplainMatchesSpec", spec := "explainMatchesSpec", inPlace := ["internal/bytealg.IndexByteString", "internal/bytealg.IndexString", "internal/abi.NoEscape"], unfollowed := true, recurses := true, named := ["internal/bytealg.MaxLen", "internal/strconv.uint64pow10", "math/bits.deBruijn32tab", "math/bits.deBruijn64tab"], loops := true, apart := false, laid := [("math/bits.deBruijn32tab", laid_math_bits_deBruijn32tab), ("math/bits.deBruijn64tab", laid_math_bits_deBruijn64tab), ("internal/strconv.uint64pow10", laid_internal_strconv_uint64pow10)], narrowed := true }
def ExplainMatchesSpecUptoSaid : Prop := explainMatchesSpecUptoRow.holds Tryz.pinned (OpenSpec.upto explainMatchesSpecSpec)

/-- 'posthouselaw6.ProveKeepsIsSound', WHERE WHAT IT READS IS OF BULK AT MOST 1048576: true; the input reads as it did. -/
def proveKeepsIsSoundUptoRow : OpenClaim := { program := "ytokahibbkdbndaagreatdoor", sum := "5bcb103cbc3ff58549a71163582cb7cacb761dc1868f0c5747738a3633d001a1", func := "posthouse/posthouselaw6.ProveKeepsIsSound", spec := "proveKeepsIsSound", inPlace := ["internal/bytealg.IndexByteString", "internal/bytealg.IndexString", "internal/abi.NoEscape"], unfollowed := true, recurses := true, named := ["internal/bytealg.MaxLen", "internal/strconv.uint64pow10", "math/bits.deBruijn32tab", "math/bits.deBruijn64tab"], loops := true, apart := false, laid := [("math/bits.deBruijn32tab", laid_math_bits_deBruijn32tab), ("math/bits.deBruijn64tab", laid_math_bits_deBruijn64tab), ("internal/strconv.uint64pow10", laid_internal_strconv_uint64pow10)], narrowed := true }
def ProveKeepsIsSoundUptoSaid : Prop := proveKeepsIsSoundUptoRow.holds Tryz.pinned (OpenSpec.upto proveKeepsIsSoundSpec)

/-- 'posthouselaw6.ProveReachableIsSound', WHERE WHAT IT READS IS OF BULK AT MOST 1048576: true; the input reads as it did. -/
def proveReachableIsSoundUptoRow : OpenClaim := { program := "ytokahibbkdbndaagreatdoor", sum := "5bcb103cbc3ff58549a71163582cb7cacb761dc1868f0c5747738a3633d001a1", func := "posthouse/posthouselaw6.ProveReachableIsSound", spec := "proveReachableIsSound", inPlace := ["internal/bytealg.IndexByteString", "internal/bytealg.IndexString", "internal/abi.NoEscape"], unfollowed := true, recurses := true, named := ["internal/bytealg.MaxLen", "internal/strconv.uint64pow10", "math/bits.deBruijn32tab", "math/bits.deBruijn64tab"], loops := true, apart := false, laid := [("math/bits.deBruijn32tab", laid_math_bits_deBruijn32tab), ("math/bits.deBruijn64tab", laid_math_bits_deBruijn64tab), ("internal/strconv.uint64pow10", laid_internal_strconv_uint64pow10)], narrowed := true }
def ProveReachableIsSoundUptoSaid : Prop := proveReachableIsSoundUptoRow.holds Tryz.pinned (OpenSpec.upto proveReachableIsSoundSpec)

/-- 'posthouselaw6.ApplyKeepsMessages', WHERE WHAT IT READS IS OF BULK AT MOST 1048576: true; the input reads as it did. -/
def applyKeepsMessagesUptoRow : OpenClaim := { program := "ytokahibbkdbndaagreatdoor", sum := "5bcb103cbc3ff58549a71163582cb7cacb761dc1868f0c5747738a3633d001a1", func := "posthouse/posthouselaw6.ApplyKeepsMessages", spec := "applyKeepsMessages", inPlace := ["internal/bytealg.IndexByteString", "internal/bytealg.IndexString", "internal/abi.NoEscape"], unfollowed := true, recurses := true, named := ["internal/bytealg.MaxLen", "internal/strconv.uint64pow10", "math/bits.deBruijn32tab", "math/bits.deBruijn64tab"], loops := true, apart := false, laid := [("math/bits.deBruijn32tab", laid_math_bits_deBruijn32tab), ("math/bits.deBruijn64tab", laid_math_bits_deBruijn64tab), ("internal/strconv.uint64pow10", laid_internal_strconv_uint64pow10)], narrowed := true }
def ApplyKeepsMessagesUptoSaid : Prop := applyKeepsMessagesUptoRow.holds Tryz.pinned (OpenSpec.upto applyKeepsMessagesSpec)

end Rows
end Go.Proofs.YtokahibbkdbndaaGreatDoor
