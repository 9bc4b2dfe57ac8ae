/-
  NARROWER THAN 'FOR EVERY INPUT', by the rows' own cells (each row's printed sentence says how): ProveMatchesSpec: loops · ProveKeepAtTheEnd: loops.
  DERIVED. THE GIVEN ROWS OF THIS SEAT. 8 by the template 'for every input the law returns true; each argument reads behind the call as it read before'; 0 by the template 'total and deterministic' (their statements: YtbbaldhmeifloaaTotals.lean).
  GIVEN WITH THE SEED: the statements are not yours to turn. If you find one false, say at which input.
  Laid BY PROGRAM, IN A SANDBOX (cutbox-rows.mjs): the forced cells as the released guide's own fill.sh prints them over the translation 778fae5d9fa28e5e… (all of the seat's roots in one cut). By AI agents, Wed Nov 11 2026. No macro, syntax, notation, axiom, sorry.
-/
import Derived.Test.YtbbaldhmeifloaaChecked
import GoSem.Claim
import GoSem.ClaimJoined
import GoSem.ClaimMapViews
import Derived.JoinedTies
import Derived.KernelRfl
namespace Go.Proofs.Ytbbaldhmeifloaa
/- THE CELL 'sum', in the pinned program and in every row, IS THE sha256 OF THE DUMP (.gsa) THAT YtbbaldhmeifloaaProg.lean LOADS. Nothing in Lean hashes anything: it is a label: what it is worth is what the hold of that sum in a sandbox is worth. -/
noncomputable def Try.pinned : Pinned := { name := "ytbbaldhmeifloaa", sum := "778fae5d9fa28e5ec01164fbb9e2c0c45c36b2c1129d3178a21121640f665599", checked := Try.checked }
namespace Rows
def none {H : Type} : Left H := { results := [], args := [] }

/-- 'posthouselaw6.ProveMatchesSpec': WHATEVER THE INPUT: true; the input reads as it did. -/
def proveMatchesSpecSpec : ChangeSpec := { name := "proveMatchesSpec", fn := fun _ => fun
  | [d] => { results := [.lit (.bool true)], args := [d] }
  | _ => none }
def proveMatchesSpecRow : OpenClaim := { program := "ytbbaldhmeifloaa", sum := "778fae5d9fa28e5ec01164fbb9e2c0c45c36b2c1129d3178a21121640f665599", func := "posthouse/posthouselaw6.ProveMatchesSpec", spec := "proveMatchesSpec", unfollowed := true, recurses := true, loops := true, apart := false }
def ProveMatchesSpecSaid : Prop := proveMatchesSpecRow.holds Try.pinned (OpenSpec.ofChange proveMatchesSpecSpec)

/-- ITS FALSE NEIGHBOUR: 'it returns false'. Refute it at one input. -/
def proveMatchesSpecWrong : ChangeSpec := { name := "proveMatchesSpec", fn := fun _ => fun
  | [d] => { results := [.lit (.bool false)], args := [d] }
  | _ => none }
def ProveMatchesSpecWrongFalsely : Prop := proveMatchesSpecRow.holds Try.pinned (OpenSpec.ofChange proveMatchesSpecWrong)

/-- 'posthouselaw6.ProveKeepAtTheEnd': WHATEVER THE INPUT: true; the input reads as it did. -/
def proveKeepAtTheEndSpec : ChangeSpec := { name := "proveKeepAtTheEnd", fn := fun _ => fun
  | [d] => { results := [.lit (.bool true)], args := [d] }
  | _ => none }
def proveKeepAtTheEndRow : OpenClaim := { program := "ytbbaldhmeifloaa", sum := "778fae5d9fa28e5ec01164fbb9e2c0c45c36b2c1129d3178a21121640f665599", func := "posthouse/posthouselaw6.ProveKeepAtTheEnd", spec := "proveKeepAtTheEnd", unfollowed := true, recurses := true, loops := true, apart := false }
def ProveKeepAtTheEndSaid : Prop := proveKeepAtTheEndRow.holds Try.pinned (OpenSpec.ofChange proveKeepAtTheEndSpec)

/-- ITS FALSE NEIGHBOUR: 'it returns false'. Refute it at one input. -/
def proveKeepAtTheEndWrong : ChangeSpec := { name := "proveKeepAtTheEnd", fn := fun _ => fun
  | [d] => { results := [.lit (.bool false)], args := [d] }
  | _ => none }
def ProveKeepAtTheEndWrongFalsely : Prop := proveKeepAtTheEndRow.holds Try.pinned (OpenSpec.ofChange proveKeepAtTheEndWrong)

/-- 'posthouselaw6.FreebusyMergeMatchesSpec': WHATEVER THE INPUT: true; the input reads as it did. -/
def freebusyMergeMatchesSpecSpec : ChangeSpec := { name := "freebusyMergeMatchesSpec", fn := fun _ => fun
  | [d] => { results := [.lit (.bool true)], args := [d] }
  | _ => none }
def freebusyMergeMatchesSpecRow : OpenClaim := { program := "ytbbaldhmeifloaa", sum := "778fae5d9fa28e5ec01164fbb9e2c0c45c36b2c1129d3178a21121640f665599", func := "posthouse/posthouselaw6.FreebusyMergeMatchesSpec", spec := "freebusyMergeMatchesSpec", unfollowed := true, recurses := true, apart := false }
def FreebusyMergeMatchesSpecSaid : Prop := freebusyMergeMatchesSpecRow.holds Try.pinned (OpenSpec.ofChange freebusyMergeMatchesSpecSpec)

/-- ITS FALSE NEIGHBOUR: 'it returns false'. Refute it at one input. -/
def freebusyMergeMatchesSpecWrong : ChangeSpec := { name := "freebusyMergeMatchesSpec", fn := fun _ => fun
  | [d] => { results := [.lit (.bool false)], args := [d] }
  | _ => none }
def FreebusyMergeMatchesSpecWrongFalsely : Prop := freebusyMergeMatchesSpecRow.holds Try.pinned (OpenSpec.ofChange freebusyMergeMatchesSpecWrong)

/-- 'posthouselaw6.FreebusyFreeMatchesSpec': WHATEVER THE INPUT: true; the input reads as it did. -/
def freebusyFreeMatchesSpecSpec : ChangeSpec := { name := "freebusyFreeMatchesSpec", fn := fun _ => fun
  | [d1, d2, d3, d4] => { results := [.lit (.bool true)], args := [d1, d2, d3, d4] }
  | _ => none }
def freebusyFreeMatchesSpecRow : OpenClaim := { program := "ytbbaldhmeifloaa", sum := "778fae5d9fa28e5ec01164fbb9e2c0c45c36b2c1129d3178a21121640f665599", func := "posthouse/posthouselaw6.FreebusyFreeMatchesSpec", spec := "freebusyFreeMatchesSpec", unfollowed := true, recurses := true, apart := false }
def FreebusyFreeMatchesSpecSaid : Prop := freebusyFreeMatchesSpecRow.holds Try.pinned (OpenSpec.ofChange freebusyFreeMatchesSpecSpec)

/-- ITS FALSE NEIGHBOUR: 'it returns false'. Refute it at one input. -/
def freebusyFreeMatchesSpecWrong : ChangeSpec := { name := "freebusyFreeMatchesSpec", fn := fun _ => fun
  | [d1, d2, d3, d4] => { results := [.lit (.bool false)], args := [d1, d2, d3, d4] }
  | _ => none }
def FreebusyFreeMatchesSpecWrongFalsely : Prop := freebusyFreeMatchesSpecRow.holds Try.pinned (OpenSpec.ofChange freebusyFreeMatchesSpecWrong)

/-- 'posthouselaw6.FreebusyMergeIsStable': WHATEVER THE INPUT: true; the input reads as it did. -/
def freebusyMergeIsStableSpec : ChangeSpec := { name := "freebusyMergeIsStable", fn := fun _ => fun
  | [d] => { results := [.lit (.bool true)], args := [d] }
  | _ => none }
def freebusyMergeIsStableRow : OpenClaim := { program := "ytbbaldhmeifloaa", sum := "778fae5d9fa28e5ec01164fbb9e2c0c45c36b2c1129d3178a21121640f665599", func := "posthouse/posthouselaw6.FreebusyMergeIsStable", spec := "freebusyMergeIsStable", unfollowed := true, recurses := true, apart := false }
def FreebusyMergeIsStableSaid : Prop := freebusyMergeIsStableRow.holds Try.pinned (OpenSpec.ofChange freebusyMergeIsStableSpec)

/-- ITS FALSE NEIGHBOUR: 'it returns false'. Refute it at one input. -/
def freebusyMergeIsStableWrong : ChangeSpec := { name := "freebusyMergeIsStable", fn := fun _ => fun
  | [d] => { results := [.lit (.bool false)], args := [d] }
  | _ => none }
def FreebusyMergeIsStableWrongFalsely : Prop := freebusyMergeIsStableRow.holds Try.pinned (OpenSpec.ofChange freebusyMergeIsStableWrong)

/-- 'posthouselaw6.FreebusyParts': WHATEVER THE INPUT: true; the input reads as it did. -/
def freebusyPartsSpec : ChangeSpec := { name := "freebusyParts", fn := fun _ => fun
  | [d1, d2, d3] => { results := [.lit (.bool true)], args := [d1, d2, d3] }
  | _ => none }
def freebusyPartsRow : OpenClaim := { program := "ytbbaldhmeifloaa", sum := "778fae5d9fa28e5ec01164fbb9e2c0c45c36b2c1129d3178a21121640f665599", func := "posthouse/posthouselaw6.FreebusyParts", spec := "freebusyParts", unfollowed := true, recurses := true, apart := false }
def FreebusyPartsSaid : Prop := freebusyPartsRow.holds Try.pinned (OpenSpec.ofChange freebusyPartsSpec)

/-- ITS FALSE NEIGHBOUR: 'it returns false'. Refute it at one input. -/
def freebusyPartsWrong : ChangeSpec := { name := "freebusyParts", fn := fun _ => fun
  | [d1, d2, d3] => { results := [.lit (.bool false)], args := [d1, d2, d3] }
  | _ => none }
def FreebusyPartsWrongFalsely : Prop := freebusyPartsRow.holds Try.pinned (OpenSpec.ofChange freebusyPartsWrong)

/-- 'posthouselaw6.MeetingBestMatchesSpec': WHATEVER THE INPUT: true; the input reads as it did. -/
def meetingBestMatchesSpecSpec : ChangeSpec := { name := "meetingBestMatchesSpec", fn := fun _ => fun
  | [d1, d2, d3, d4] => { results := [.lit (.bool true)], args := [d1, d2, d3, d4] }
  | _ => none }
def meetingBestMatchesSpecRow : OpenClaim := { program := "ytbbaldhmeifloaa", sum := "778fae5d9fa28e5ec01164fbb9e2c0c45c36b2c1129d3178a21121640f665599", func := "posthouse/posthouselaw6.MeetingBestMatchesSpec", spec := "meetingBestMatchesSpec", unfollowed := true, recurses := true, apart := false }
def MeetingBestMatchesSpecSaid : Prop := meetingBestMatchesSpecRow.holds Try.pinned (OpenSpec.ofChange meetingBestMatchesSpecSpec)

/-- ITS FALSE NEIGHBOUR: 'it returns false'. Refute it at one input. -/
def meetingBestMatchesSpecWrong : ChangeSpec := { name := "meetingBestMatchesSpec", fn := fun _ => fun
  | [d1, d2, d3, d4] => { results := [.lit (.bool false)], args := [d1, d2, d3, d4] }
  | _ => none }
def MeetingBestMatchesSpecWrongFalsely : Prop := meetingBestMatchesSpecRow.holds Try.pinned (OpenSpec.ofChange meetingBestMatchesSpecWrong)

/-- 'posthouselaw6.MeetingBestIsFree': WHATEVER THE INPUT: true; the input reads as it did. -/
def meetingBestIsFreeSpec : ChangeSpec := { name := "meetingBestIsFree", fn := fun _ => fun
  | [d1, d2, d3, d4] => { results := [.lit (.bool true)], args := [d1, d2, d3, d4] }
  | _ => none }
def meetingBestIsFreeRow : OpenClaim := { program := "ytbbaldhmeifloaa", sum := "778fae5d9fa28e5ec01164fbb9e2c0c45c36b2c1129d3178a21121640f665599", func := "posthouse/posthouselaw6.MeetingBestIsFree", spec := "meetingBestIsFree", unfollowed := true, recurses := true, apart := false }
def MeetingBestIsFreeSaid : Prop := meetingBestIsFreeRow.holds Try.pinned (OpenSpec.ofChange meetingBestIsFreeSpec)

/-- ITS FALSE NEIGHBOUR: 'it returns false'. Refute it at one input. -/
def meetingBestIsFreeWrong : ChangeSpec := { name := "meetingBestIsFree", fn := fun _ => fun
  | [d1, d2, d3, d4] => { results := [.lit (.bool false)], args := [d1, d2, d3, d4] }
  | _ => none }
def MeetingBestIsFreeWrongFalsely : Prop := meetingBestIsFreeRow.holds Try.pinned (OpenSpec.ofChange meetingBestIsFreeWrong)

/- THE SECOND FORM. 'bulk': how many values and letters a reading holds, each counted each time it is reached (what is shared counts as often as it is met; a slice's spare places count too). A statement '..UptoSaid' is the law's where the arguments, and the package variables that the reading takes, are together of bulk at most 1048576: NARROWER than '..Said'. Prove '..Said' where nothing that the law and all that it calls make is longer than what came in: it says more and counts as full. Else prove '..UptoSaid'. A law counts once. -/
mutual
def uptoBulk {H : Type} : DataW H → Nat
  | .lit (.string bytes) => bytes.length + 1
  | .lit _ => 1
  | .nil => 1
  | .ptr d => uptoBulk d + 1
  | .slice elems spare => uptoBulkAll elems + uptoBulkAll spare + 1
  | .agg parts => uptoBulkAll parts + 1
  | .iface _ d => uptoBulk d + 1
  | .map entries => uptoBulkEntries entries + 1
  | .held _ => 1
def uptoBulkAll {H : Type} : List (DataW H) → Nat
  | [] => 0
  | d :: r => uptoBulk d + uptoBulkAll r
def uptoBulkEntries {H : Type} : List (Lit × DataW H) → Nat
  | [] => 0
  | x :: r => uptoBulkEntry x + uptoBulkEntries r
def uptoBulkEntry {H : Type} : Lit × DataW H → Nat
  | (.string bytes, d) => bytes.length + uptoBulk d + 1
  | (_, d) => uptoBulk d + 1
 end
def uptoSmall : (H : Type) → List (DataW H) → Bool := fun _ ds => decide (uptoBulkAll ds ≤ 1048576)
def OpenSpec.upto (s : _root_.Go.ChangeSpec) : _root_.Go.OpenSpec := { _root_.Go.OpenSpec.ofChange s with cond := some uptoSmall }

/-- 'posthouselaw6.ProveMatchesSpec', WHERE WHAT IT READS IS OF BULK AT MOST 1048576: true; the input reads as it did. -/
def proveMatchesSpecUptoRow : OpenClaim := { program := "ytbbaldhmeifloaa", sum := "778fae5d9fa28e5ec01164fbb9e2c0c45c36b2c1129d3178a21121640f665599", func := "posthouse/posthouselaw6.ProveMatchesSpec", spec := "proveMatchesSpec", unfollowed := true, recurses := true, loops := true, apart := false, narrowed := true }
def ProveMatchesSpecUptoSaid : Prop := proveMatchesSpecUptoRow.holds Try.pinned (OpenSpec.upto proveMatchesSpecSpec)

/-- 'posthouselaw6.ProveKeepAtTheEnd', WHERE WHAT IT READS IS OF BULK AT MOST 1048576: true; the input reads as it did. -/
def proveKeepAtTheEndUptoRow : OpenClaim := { program := "ytbbaldhmeifloaa", sum := "778fae5d9fa28e5ec01164fbb9e2c0c45c36b2c1129d3178a21121640f665599", func := "posthouse/posthouselaw6.ProveKeepAtTheEnd", spec := "proveKeepAtTheEnd", unfollowed := true, recurses := true, loops := true, apart := false, narrowed := true }
def ProveKeepAtTheEndUptoSaid : Prop := proveKeepAtTheEndUptoRow.holds Try.pinned (OpenSpec.upto proveKeepAtTheEndSpec)

/-- 'posthouselaw6.FreebusyMergeMatchesSpec', WHERE WHAT IT READS IS OF BULK AT MOST 1048576: true; the input reads as it did. -/
def freebusyMergeMatchesSpecUptoRow : OpenClaim := { program := "ytbbaldhmeifloaa", sum := "778fae5d9fa28e5ec01164fbb9e2c0c45c36b2c1129d3178a21121640f665599", func := "posthouse/posthouselaw6.FreebusyMergeMatchesSpec", spec := "freebusyMergeMatchesSpec", unfollowed := true, recurses := true, apart := false, narrowed := true }
def FreebusyMergeMatchesSpecUptoSaid : Prop := freebusyMergeMatchesSpecUptoRow.holds Try.pinned (OpenSpec.upto freebusyMergeMatchesSpecSpec)

/-- 'posthouselaw6.FreebusyFreeMatchesSpec', WHERE WHAT IT READS IS OF BULK AT MOST 1048576: true; the input reads as it did. -/
def freebusyFreeMatchesSpecUptoRow : OpenClaim := { program := "ytbbaldhmeifloaa", sum := "778fae5d9fa28e5ec01164fbb9e2c0c45c36b2c1129d3178a21121640f665599", func := "posthouse/posthouselaw6.FreebusyFreeMatchesSpec", spec := "freebusyFreeMatchesSpec", unfollowed := true, recurses := true, apart := false, narrowed := true }
def FreebusyFreeMatchesSpecUptoSaid : Prop := freebusyFreeMatchesSpecUptoRow.holds Try.pinned (OpenSpec.upto freebusyFreeMatchesSpecSpec)

/-- 'posthouselaw6.FreebusyMergeIsStable', WHERE WHAT IT READS IS OF BULK AT MOST 1048576: true; the input reads as it did. -/
def freebusyMergeIsStableUptoRow : OpenClaim := { program := "ytbbaldhmeifloaa", sum := "778fae5d9fa28e5ec01164fbb9e2c0c45c36b2c1129d3178a21121640f665599", func := "posthouse/posthouselaw6.FreebusyMergeIsStable", spec := "freebusyMergeIsStable", unfollowed := true, recurses := true, apart := false, narrowed := true }
def FreebusyMergeIsStableUptoSaid : Prop := freebusyMergeIsStableUptoRow.holds Try.pinned (OpenSpec.upto freebusyMergeIsStableSpec)

/-- 'posthouselaw6.FreebusyParts', WHERE WHAT IT READS IS OF BULK AT MOST 1048576: true; the input reads as it did. -/
def freebusyPartsUptoRow : OpenClaim := { program := "ytbbaldhmeifloaa", sum := "778fae5d9fa28e5ec01164fbb9e2c0c45c36b2c1129d3178a21121640f665599", func := "posthouse/posthouselaw6.FreebusyParts", spec := "freebusyParts", unfollowed := true, recurses := true, apart := false, narrowed := true }
def FreebusyPartsUptoSaid : Prop := freebusyPartsUptoRow.holds Try.pinned (OpenSpec.upto freebusyPartsSpec)

/-- 'posthouselaw6.MeetingBestMatchesSpec', WHERE WHAT IT READS IS OF BULK AT MOST 1048576: true; the input reads as it did. -/
def meetingBestMatchesSpecUptoRow : OpenClaim := { program := "ytbbaldhmeifloaa", sum := "778fae5d9fa28e5ec01164fbb9e2c0c45c36b2c1129d3178a21121640f665599", func := "posthouse/posthouselaw6.MeetingBestMatchesSpec", spec := "meetingBestMatchesSpec", unfollowed := true, recurses := true, apart := false, narrowed := true }
def MeetingBestMatchesSpecUptoSaid : Prop := meetingBestMatchesSpecUptoRow.holds Try.pinned (OpenSpec.upto meetingBestMatchesSpecSpec)

/-- 'posthouselaw6.MeetingBestIsFree', WHERE WHAT IT READS IS OF BULK AT MOST 1048576: true; the input reads as it did. -/
def meetingBestIsFreeUptoRow : OpenClaim := { program := "ytbbaldhmeifloaa", sum := "778fae5d9fa28e5ec01164fbb9e2c0c45c36b2c1129d3178a21121640f665599", func := "posthouse/posthouselaw6.MeetingBestIsFree", spec := "meetingBestIsFree", unfollowed := true, recurses := true, apart := false, narrowed := true }
def MeetingBestIsFreeUptoSaid : Prop := meetingBestIsFreeUptoRow.holds Try.pinned (OpenSpec.upto meetingBestIsFreeSpec)

end Rows
end Go.Proofs.Ytbbaldhmeifloaa
