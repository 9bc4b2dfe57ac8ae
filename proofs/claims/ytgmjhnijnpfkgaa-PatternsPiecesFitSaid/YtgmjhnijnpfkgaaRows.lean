/-
  No cell of these rows narrows 'for every input' (looked for: loops, veiled, ifaces, maps, wideKeys, modest, calm, conditions, laid).
  DERIVED. THE GIVEN ROWS OF THIS SEAT. 11 by the template 'for every input the law returns true; each argument reads behind the call as it read before'; 0 by the template 'total and deterministic' (their statements: YtgmjhnijnpfkgaaTotals.lean).
  GIVEN WITH THE SEED: the statements are not yours to turn. If you find one false, say at which input.
  Laid BY PROGRAM, IN A SANDBOX (cutbox-rows.mjs): the forced cells as the released guide's own fill.sh prints them over the translation 2969fd5370ba6717… (all of the seat's roots in one cut). By AI agents, Wed Nov 11 2026. No macro, syntax, notation, axiom, sorry.
-/
import Derived.Test.YtgmjhnijnpfkgaaChecked
import GoSem.Claim
import GoSem.ClaimJoined
import GoSem.ClaimMapViews
import Derived.JoinedTies
import Derived.KernelRfl
namespace Go.Proofs.Ytgmjhnijnpfkgaa
/- THE CELL 'sum', in the pinned program and in every row, IS THE sha256 OF THE DUMP (.gsa) THAT YtgmjhnijnpfkgaaProg.lean LOADS. Nothing in Lean hashes anything: it is a label: what it is worth is what the hold of that sum in a sandbox is worth. -/
noncomputable def Try.pinned : Pinned := { name := "ytgmjhnijnpfkgaa", sum := "2969fd5370ba6717c74c8f1e2533b97c9640e6e0988c305c28d0bda8edb1c085", checked := Try.checked }
namespace Rows
def none {H : Type} : Left H := { results := [], args := [] }

/-- 'posthouselaw6.ApplyMatchesSpec': WHATEVER THE INPUT: true; the input reads as it did. -/
def applyMatchesSpecSpec : ChangeSpec := { name := "applyMatchesSpec", fn := fun _ => fun
  | [d] => { results := [.lit (.bool true)], args := [d] }
  | _ => none }
def applyMatchesSpecRow : OpenClaim := { program := "ytgmjhnijnpfkgaa", sum := "2969fd5370ba6717c74c8f1e2533b97c9640e6e0988c305c28d0bda8edb1c085", func := "posthouse/posthouselaw6.ApplyMatchesSpec", spec := "applyMatchesSpec", apart := false }
def ApplyMatchesSpecSaid : Prop := applyMatchesSpecRow.holds Try.pinned (OpenSpec.ofChange applyMatchesSpecSpec)

/-- ITS FALSE NEIGHBOUR: 'it returns false'. Refute it at one input. -/
def applyMatchesSpecWrong : ChangeSpec := { name := "applyMatchesSpec", fn := fun _ => fun
  | [d] => { results := [.lit (.bool false)], args := [d] }
  | _ => none }
def ApplyMatchesSpecWrongFalsely : Prop := applyMatchesSpecRow.holds Try.pinned (OpenSpec.ofChange applyMatchesSpecWrong)

/-- 'posthouselaw6.ApplyTwice': WHATEVER THE INPUT: true; the input reads as it did. -/
def applyTwiceSpec : ChangeSpec := { name := "applyTwice", fn := fun _ => fun
  | [d] => { results := [.lit (.bool true)], args := [d] }
  | _ => none }
def applyTwiceRow : OpenClaim := { program := "ytgmjhnijnpfkgaa", sum := "2969fd5370ba6717c74c8f1e2533b97c9640e6e0988c305c28d0bda8edb1c085", func := "posthouse/posthouselaw6.ApplyTwice", spec := "applyTwice", apart := false }
def ApplyTwiceSaid : Prop := applyTwiceRow.holds Try.pinned (OpenSpec.ofChange applyTwiceSpec)

/-- ITS FALSE NEIGHBOUR: 'it returns false'. Refute it at one input. -/
def applyTwiceWrong : ChangeSpec := { name := "applyTwice", fn := fun _ => fun
  | [d] => { results := [.lit (.bool false)], args := [d] }
  | _ => none }
def ApplyTwiceWrongFalsely : Prop := applyTwiceRow.holds Try.pinned (OpenSpec.ofChange applyTwiceWrong)

/-- 'posthouselaw6.ApplyFilesOnce': WHATEVER THE INPUT: true; the input reads as it did. -/
def applyFilesOnceSpec : ChangeSpec := { name := "applyFilesOnce", fn := fun _ => fun
  | [d] => { results := [.lit (.bool true)], args := [d] }
  | _ => none }
def applyFilesOnceRow : OpenClaim := { program := "ytgmjhnijnpfkgaa", sum := "2969fd5370ba6717c74c8f1e2533b97c9640e6e0988c305c28d0bda8edb1c085", func := "posthouse/posthouselaw6.ApplyFilesOnce", spec := "applyFilesOnce", apart := false }
def ApplyFilesOnceSaid : Prop := applyFilesOnceRow.holds Try.pinned (OpenSpec.ofChange applyFilesOnceSpec)

/-- ITS FALSE NEIGHBOUR: 'it returns false'. Refute it at one input. -/
def applyFilesOnceWrong : ChangeSpec := { name := "applyFilesOnce", fn := fun _ => fun
  | [d] => { results := [.lit (.bool false)], args := [d] }
  | _ => none }
def ApplyFilesOnceWrongFalsely : Prop := applyFilesOnceRow.holds Try.pinned (OpenSpec.ofChange applyFilesOnceWrong)

/-- 'posthouselaw6.MeetingAnswerMatchesSpec': WHATEVER THE INPUT: true; the input reads as it did. -/
def meetingAnswerMatchesSpecSpec : ChangeSpec := { name := "meetingAnswerMatchesSpec", fn := fun _ => fun
  | [d1, d2, d3, d4] => { results := [.lit (.bool true)], args := [d1, d2, d3, d4] }
  | _ => none }
def meetingAnswerMatchesSpecRow : OpenClaim := { program := "ytgmjhnijnpfkgaa", sum := "2969fd5370ba6717c74c8f1e2533b97c9640e6e0988c305c28d0bda8edb1c085", func := "posthouse/posthouselaw6.MeetingAnswerMatchesSpec", spec := "meetingAnswerMatchesSpec", unfollowed := true, recurses := true, apart := false }
def MeetingAnswerMatchesSpecSaid : Prop := meetingAnswerMatchesSpecRow.holds Try.pinned (OpenSpec.ofChange meetingAnswerMatchesSpecSpec)

/-- ITS FALSE NEIGHBOUR: 'it returns false'. Refute it at one input. -/
def meetingAnswerMatchesSpecWrong : ChangeSpec := { name := "meetingAnswerMatchesSpec", fn := fun _ => fun
  | [d1, d2, d3, d4] => { results := [.lit (.bool false)], args := [d1, d2, d3, d4] }
  | _ => none }
def MeetingAnswerMatchesSpecWrongFalsely : Prop := meetingAnswerMatchesSpecRow.holds Try.pinned (OpenSpec.ofChange meetingAnswerMatchesSpecWrong)

/-- 'posthouselaw6.MeetingNeedsAll': WHATEVER THE INPUT: true; the input reads as it did. -/
def meetingNeedsAllSpec : ChangeSpec := { name := "meetingNeedsAll", fn := fun _ => fun
  | [d1, d2, d3, d4] => { results := [.lit (.bool true)], args := [d1, d2, d3, d4] }
  | _ => none }
def meetingNeedsAllRow : OpenClaim := { program := "ytgmjhnijnpfkgaa", sum := "2969fd5370ba6717c74c8f1e2533b97c9640e6e0988c305c28d0bda8edb1c085", func := "posthouse/posthouselaw6.MeetingNeedsAll", spec := "meetingNeedsAll", unfollowed := true, recurses := true, apart := false }
def MeetingNeedsAllSaid : Prop := meetingNeedsAllRow.holds Try.pinned (OpenSpec.ofChange meetingNeedsAllSpec)

/-- ITS FALSE NEIGHBOUR: 'it returns false'. Refute it at one input. -/
def meetingNeedsAllWrong : ChangeSpec := { name := "meetingNeedsAll", fn := fun _ => fun
  | [d1, d2, d3, d4] => { results := [.lit (.bool false)], args := [d1, d2, d3, d4] }
  | _ => none }
def MeetingNeedsAllWrongFalsely : Prop := meetingNeedsAllRow.holds Try.pinned (OpenSpec.ofChange meetingNeedsAllWrong)

/-- 'posthouselaw6.MeetingProposeMatchesSpec': WHATEVER THE INPUT: true; the input reads as it did. -/
def meetingProposeMatchesSpecSpec : ChangeSpec := { name := "meetingProposeMatchesSpec", fn := fun _ => fun
  | [d1, d2] => { results := [.lit (.bool true)], args := [d1, d2] }
  | _ => none }
def meetingProposeMatchesSpecRow : OpenClaim := { program := "ytgmjhnijnpfkgaa", sum := "2969fd5370ba6717c74c8f1e2533b97c9640e6e0988c305c28d0bda8edb1c085", func := "posthouse/posthouselaw6.MeetingProposeMatchesSpec", spec := "meetingProposeMatchesSpec", unfollowed := true, recurses := true, apart := false }
def MeetingProposeMatchesSpecSaid : Prop := meetingProposeMatchesSpecRow.holds Try.pinned (OpenSpec.ofChange meetingProposeMatchesSpecSpec)

/-- ITS FALSE NEIGHBOUR: 'it returns false'. Refute it at one input. -/
def meetingProposeMatchesSpecWrong : ChangeSpec := { name := "meetingProposeMatchesSpec", fn := fun _ => fun
  | [d1, d2] => { results := [.lit (.bool false)], args := [d1, d2] }
  | _ => none }
def MeetingProposeMatchesSpecWrongFalsely : Prop := meetingProposeMatchesSpecRow.holds Try.pinned (OpenSpec.ofChange meetingProposeMatchesSpecWrong)

/-- 'posthouselaw6.MeetingReviseMatchesSpec': WHATEVER THE INPUT: true; the input reads as it did. -/
def meetingReviseMatchesSpecSpec : ChangeSpec := { name := "meetingReviseMatchesSpec", fn := fun _ => fun
  | [d] => { results := [.lit (.bool true)], args := [d] }
  | _ => none }
def meetingReviseMatchesSpecRow : OpenClaim := { program := "ytgmjhnijnpfkgaa", sum := "2969fd5370ba6717c74c8f1e2533b97c9640e6e0988c305c28d0bda8edb1c085", func := "posthouse/posthouselaw6.MeetingReviseMatchesSpec", spec := "meetingReviseMatchesSpec", unfollowed := true, recurses := true, apart := false }
def MeetingReviseMatchesSpecSaid : Prop := meetingReviseMatchesSpecRow.holds Try.pinned (OpenSpec.ofChange meetingReviseMatchesSpecSpec)

/-- ITS FALSE NEIGHBOUR: 'it returns false'. Refute it at one input. -/
def meetingReviseMatchesSpecWrong : ChangeSpec := { name := "meetingReviseMatchesSpec", fn := fun _ => fun
  | [d] => { results := [.lit (.bool false)], args := [d] }
  | _ => none }
def MeetingReviseMatchesSpecWrongFalsely : Prop := meetingReviseMatchesSpecRow.holds Try.pinned (OpenSpec.ofChange meetingReviseMatchesSpecWrong)

/-- 'posthouselaw6.PatternsMatchSpec': WHATEVER THE INPUT: true; the input reads as it did. -/
def patternsMatchSpecSpec : ChangeSpec := { name := "patternsMatchSpec", fn := fun _ => fun
  | [d1, d2, d3] => { results := [.lit (.bool true)], args := [d1, d2, d3] }
  | _ => none }
def patternsMatchSpecRow : OpenClaim := { program := "ytgmjhnijnpfkgaa", sum := "2969fd5370ba6717c74c8f1e2533b97c9640e6e0988c305c28d0bda8edb1c085", func := "posthouse/posthouselaw6.PatternsMatchSpec", spec := "patternsMatchSpec", inPlace := ["internal/bytealg.IndexByteString", "internal/bytealg.IndexString"], unfollowed := true, recurses := true, named := ["internal/bytealg.MaxLen"], apart := false }
def PatternsMatchSpecSaid : Prop := patternsMatchSpecRow.holds Try.pinned (OpenSpec.ofChange patternsMatchSpecSpec)

/-- ITS FALSE NEIGHBOUR: 'it returns false'. Refute it at one input. -/
def patternsMatchSpecWrong : ChangeSpec := { name := "patternsMatchSpec", fn := fun _ => fun
  | [d1, d2, d3] => { results := [.lit (.bool false)], args := [d1, d2, d3] }
  | _ => none }
def PatternsMatchSpecWrongFalsely : Prop := patternsMatchSpecRow.holds Try.pinned (OpenSpec.ofChange patternsMatchSpecWrong)

/-- 'posthouselaw6.PatternsIgnoreCase': WHATEVER THE INPUT: true; the input reads as it did. -/
def patternsIgnoreCaseSpec : ChangeSpec := { name := "patternsIgnoreCase", fn := fun _ => fun
  | [d1, d2, d3] => { results := [.lit (.bool true)], args := [d1, d2, d3] }
  | _ => none }
def patternsIgnoreCaseRow : OpenClaim := { program := "ytgmjhnijnpfkgaa", sum := "2969fd5370ba6717c74c8f1e2533b97c9640e6e0988c305c28d0bda8edb1c085", func := "posthouse/posthouselaw6.PatternsIgnoreCase", spec := "patternsIgnoreCase", inPlace := ["internal/bytealg.IndexByteString", "internal/bytealg.IndexString"], unfollowed := true, recurses := true, named := ["internal/bytealg.MaxLen"], apart := false }
def PatternsIgnoreCaseSaid : Prop := patternsIgnoreCaseRow.holds Try.pinned (OpenSpec.ofChange patternsIgnoreCaseSpec)

/-- ITS FALSE NEIGHBOUR: 'it returns false'. Refute it at one input. -/
def patternsIgnoreCaseWrong : ChangeSpec := { name := "patternsIgnoreCase", fn := fun _ => fun
  | [d1, d2, d3] => { results := [.lit (.bool false)], args := [d1, d2, d3] }
  | _ => none }
def PatternsIgnoreCaseWrongFalsely : Prop := patternsIgnoreCaseRow.holds Try.pinned (OpenSpec.ofChange patternsIgnoreCaseWrong)

/-- 'posthouselaw6.PatternsWithStars': WHATEVER THE INPUT: true; the input reads as it did. -/
def patternsWithStarsSpec : ChangeSpec := { name := "patternsWithStars", fn := fun _ => fun
  | [d1, d2] => { results := [.lit (.bool true)], args := [d1, d2] }
  | _ => none }
def patternsWithStarsRow : OpenClaim := { program := "ytgmjhnijnpfkgaa", sum := "2969fd5370ba6717c74c8f1e2533b97c9640e6e0988c305c28d0bda8edb1c085", func := "posthouse/posthouselaw6.PatternsWithStars", spec := "patternsWithStars", inPlace := ["internal/bytealg.IndexByteString", "internal/bytealg.IndexString"], unfollowed := true, recurses := true, named := ["internal/bytealg.MaxLen"], apart := false }
def PatternsWithStarsSaid : Prop := patternsWithStarsRow.holds Try.pinned (OpenSpec.ofChange patternsWithStarsSpec)

/-- ITS FALSE NEIGHBOUR: 'it returns false'. Refute it at one input. -/
def patternsWithStarsWrong : ChangeSpec := { name := "patternsWithStars", fn := fun _ => fun
  | [d1, d2] => { results := [.lit (.bool false)], args := [d1, d2] }
  | _ => none }
def PatternsWithStarsWrongFalsely : Prop := patternsWithStarsRow.holds Try.pinned (OpenSpec.ofChange patternsWithStarsWrong)

/-- 'posthouselaw6.PatternsPiecesFit': WHATEVER THE INPUT: true; the input reads as it did. -/
def patternsPiecesFitSpec : ChangeSpec := { name := "patternsPiecesFit", fn := fun _ => fun
  | [d1, d2] => { results := [.lit (.bool true)], args := [d1, d2] }
  | _ => none }
def patternsPiecesFitRow : OpenClaim := { program := "ytgmjhnijnpfkgaa", sum := "2969fd5370ba6717c74c8f1e2533b97c9640e6e0988c305c28d0bda8edb1c085", func := "posthouse/posthouselaw6.PatternsPiecesFit", spec := "patternsPiecesFit", inPlace := ["internal/bytealg.IndexByteString", "internal/bytealg.IndexString"], unfollowed := true, recurses := true, named := ["internal/bytealg.MaxLen"], apart := false }
def PatternsPiecesFitSaid : Prop := patternsPiecesFitRow.holds Try.pinned (OpenSpec.ofChange patternsPiecesFitSpec)

/-- ITS FALSE NEIGHBOUR: 'it returns false'. Refute it at one input. -/
def patternsPiecesFitWrong : ChangeSpec := { name := "patternsPiecesFit", fn := fun _ => fun
  | [d1, d2] => { results := [.lit (.bool false)], args := [d1, d2] }
  | _ => none }
def PatternsPiecesFitWrongFalsely : Prop := patternsPiecesFitRow.holds Try.pinned (OpenSpec.ofChange patternsPiecesFitWrong)

/- THE SECOND FORM. 'bulk': how many values and letters a reading holds, each counted each time it is reached (what is shared counts as often as it is met; a slice's spare places count too). A statement '..UptoSaid' is the law's where the arguments, and the package variables that the reading takes, are together of bulk at most 1048576: NARROWER than '..Said'. Prove '..Said' where nothing that the law and all that it calls make is longer than what came in: it says more and counts as full. Else prove '..UptoSaid'. A law counts once. -/
mutual
def uptoBulk {H : Type} : DataW H → Nat
  | .lit (.string bytes) => bytes.length + 1
  | .lit _ => 1
  | .nil => 1
  | .ptr d => uptoBulk d + 1
  | .slice elems spare => uptoBulkAll elems + uptoBulkAll spare + 1
  | .agg parts => uptoBulkAll parts + 1
  | .iface _ d => uptoBulk d + 1
  | .map entries => uptoBulkEntries entries + 1
  | .held _ => 1
def uptoBulkAll {H : Type} : List (DataW H) → Nat
  | [] => 0
  | d :: r => uptoBulk d + uptoBulkAll r
def uptoBulkEntries {H : Type} : List (Lit × DataW H) → Nat
  | [] => 0
  | x :: r => uptoBulkEntry x + uptoBulkEntries r
def uptoBulkEntry {H : Type} : Lit × DataW H → Nat
  | (.string bytes, d) => bytes.length + uptoBulk d + 1
  | (_, d) => uptoBulk d + 1
 end
def uptoSmall : (H : Type) → List (DataW H) → Bool := fun _ ds => decide (uptoBulkAll ds ≤ 1048576)
def OpenSpec.upto (s : _root_.Go.ChangeSpec) : _root_.Go.OpenSpec := { _root_.Go.OpenSpec.ofChange s with cond := some uptoSmall }

/-- 'posthouselaw6.ApplyMatchesSpec', WHERE WHAT IT READS IS OF BULK AT MOST 1048576: true; the input reads as it did. -/
def applyMatchesSpecUptoRow : OpenClaim := { program := "ytgmjhnijnpfkgaa", sum := "2969fd5370ba6717c74c8f1e2533b97c9640e6e0988c305c28d0bda8edb1c085", func := "posthouse/posthouselaw6.ApplyMatchesSpec", spec := "applyMatchesSpec", apart := false, narrowed := true }
def ApplyMatchesSpecUptoSaid : Prop := applyMatchesSpecUptoRow.holds Try.pinned (OpenSpec.upto applyMatchesSpecSpec)

/-- 'posthouselaw6.ApplyTwice', WHERE WHAT IT READS IS OF BULK AT MOST 1048576: true; the input reads as it did. -/
def applyTwiceUptoRow : OpenClaim := { program := "ytgmjhnijnpfkgaa", sum := "2969fd5370ba6717c74c8f1e2533b97c9640e6e0988c305c28d0bda8edb1c085", func := "posthouse/posthouselaw6.ApplyTwice", spec := "applyTwice", apart := false, narrowed := true }
def ApplyTwiceUptoSaid : Prop := applyTwiceUptoRow.holds Try.pinned (OpenSpec.upto applyTwiceSpec)

/-- 'posthouselaw6.ApplyFilesOnce', WHERE WHAT IT READS IS OF BULK AT MOST 1048576: true; the input reads as it did. -/
def applyFilesOnceUptoRow : OpenClaim := { program := "ytgmjhnijnpfkgaa", sum := "2969fd5370ba6717c74c8f1e2533b97c9640e6e0988c305c28d0bda8edb1c085", func := "posthouse/posthouselaw6.ApplyFilesOnce", spec := "applyFilesOnce", apart := false, narrowed := true }
def ApplyFilesOnceUptoSaid : Prop := applyFilesOnceUptoRow.holds Try.pinned (OpenSpec.upto applyFilesOnceSpec)

/-- 'posthouselaw6.MeetingAnswerMatchesSpec', WHERE WHAT IT READS IS OF BULK AT MOST 1048576: true; the input reads as it did. -/
def meetingAnswerMatchesSpecUptoRow : OpenClaim := { program := "ytgmjhnijnpfkgaa", sum := "2969fd5370ba6717c74c8f1e2533b97c9640e6e0988c305c28d0bda8edb1c085", func := "posthouse/posthouselaw6.MeetingAnswerMatchesSpec", spec := "meetingAnswerMatchesSpec", unfollowed := true, recurses := true, apart := false, narrowed := true }
def MeetingAnswerMatchesSpecUptoSaid : Prop := meetingAnswerMatchesSpecUptoRow.holds Try.pinned (OpenSpec.upto meetingAnswerMatchesSpecSpec)

/-- 'posthouselaw6.MeetingNeedsAll', WHERE WHAT IT READS IS OF BULK AT MOST 1048576: true; the input reads as it did. -/
def meetingNeedsAllUptoRow : OpenClaim := { program := "ytgmjhnijnpfkgaa", sum := "2969fd5370ba6717c74c8f1e2533b97c9640e6e0988c305c28d0bda8edb1c085", func := "posthouse/posthouselaw6.MeetingNeedsAll", spec := "meetingNeedsAll", unfollowed := true, recurses := true, apart := false, narrowed := true }
def MeetingNeedsAllUptoSaid : Prop := meetingNeedsAllUptoRow.holds Try.pinned (OpenSpec.upto meetingNeedsAllSpec)

/-- 'posthouselaw6.MeetingProposeMatchesSpec', WHERE WHAT IT READS IS OF BULK AT MOST 1048576: true; the input reads as it did. -/
def meetingProposeMatchesSpecUptoRow : OpenClaim := { program := "ytgmjhnijnpfkgaa", sum := "2969fd5370ba6717c74c8f1e2533b97c9640e6e0988c305c28d0bda8edb1c085", func := "posthouse/posthouselaw6.MeetingProposeMatchesSpec", spec := "meetingProposeMatchesSpec", unfollowed := true, recurses := true, apart := false, narrowed := true }
def MeetingProposeMatchesSpecUptoSaid : Prop := meetingProposeMatchesSpecUptoRow.holds Try.pinned (OpenSpec.upto meetingProposeMatchesSpecSpec)

/-- 'posthouselaw6.MeetingReviseMatchesSpec', WHERE WHAT IT READS IS OF BULK AT MOST 1048576: true; the input reads as it did. -/
def meetingReviseMatchesSpecUptoRow : OpenClaim := { program := "ytgmjhnijnpfkgaa", sum := "2969fd5370ba6717c74c8f1e2533b97c9640e6e0988c305c28d0bda8edb1c085", func := "posthouse/posthouselaw6.MeetingReviseMatchesSpec", spec := "meetingReviseMatchesSpec", unfollowed := true, recurses := true, apart := false, narrowed := true }
def MeetingReviseMatchesSpecUptoSaid : Prop := meetingReviseMatchesSpecUptoRow.holds Try.pinned (OpenSpec.upto meetingReviseMatchesSpecSpec)

/-- 'posthouselaw6.PatternsMatchSpec', WHERE WHAT IT READS IS OF BULK AT MOST 1048576: true; the input reads as it did. -/
def patternsMatchSpecUptoRow : OpenClaim := { program := "ytgmjhnijnpfkgaa", sum := "2969fd5370ba6717c74c8f1e2533b97c9640e6e0988c305c28d0bda8edb1c085", func := "posthouse/posthouselaw6.PatternsMatchSpec", spec := "patternsMatchSpec", inPlace := ["internal/bytealg.IndexByteString", "internal/bytealg.IndexString"], unfollowed := true, recurses := true, named := ["internal/bytealg.MaxLen"], apart := false, narrowed := true }
def PatternsMatchSpecUptoSaid : Prop := patternsMatchSpecUptoRow.holds Try.pinned (OpenSpec.upto patternsMatchSpecSpec)

/-- 'posthouselaw6.PatternsIgnoreCase', WHERE WHAT IT READS IS OF BULK AT MOST 1048576: true; the input reads as it did. -/
def patternsIgnoreCaseUptoRow : OpenClaim := { program := "ytgmjhnijnpfkgaa", sum := "2969fd5370ba6717c74c8f1e2533b97c9640e6e0988c305c28d0bda8edb1c085", func := "posthouse/posthouselaw6.PatternsIgnoreCase", spec := "patternsIgnoreCase", inPlace := ["internal/bytealg.IndexByteString", "internal/bytealg.IndexString"], unfollowed := true, recurses := true, named := ["internal/bytealg.MaxLen"], apart := false, narrowed := true }
def PatternsIgnoreCaseUptoSaid : Prop := patternsIgnoreCaseUptoRow.holds Try.pinned (OpenSpec.upto patternsIgnoreCaseSpec)

/-- 'posthouselaw6.PatternsWithStars', WHERE WHAT IT READS IS OF BULK AT MOST 1048576: true; the input reads as it did. -/
def patternsWithStarsUptoRow : OpenClaim := { program := "ytgmjhnijnpfkgaa", sum := "2969fd5370ba6717c74c8f1e2533b97c9640e6e0988c305c28d0bda8edb1c085", func := "posthouse/posthouselaw6.PatternsWithStars", spec := "patternsWithStars", inPlace := ["internal/bytealg.IndexByteString", "internal/bytealg.IndexString"], unfollowed := true, recurses := true, named := ["internal/bytealg.MaxLen"], apart := false, narrowed := true }
def PatternsWithStarsUptoSaid : Prop := patternsWithStarsUptoRow.holds Try.pinned (OpenSpec.upto patternsWithStarsSpec)

/-- 'posthouselaw6.PatternsPiecesFit', WHERE WHAT IT READS IS OF BULK AT MOST 1048576: true; the input reads as it did. -/
def patternsPiecesFitUptoRow : OpenClaim := { program := "ytgmjhnijnpfkgaa", sum := "2969fd5370ba6717c74c8f1e2533b97c9640e6e0988c305c28d0bda8edb1c085", func := "posthouse/posthouselaw6.PatternsPiecesFit", spec := "patternsPiecesFit", inPlace := ["internal/bytealg.IndexByteString", "internal/bytealg.IndexString"], unfollowed := true, recurses := true, named := ["internal/bytealg.MaxLen"], apart := false, narrowed := true }
def PatternsPiecesFitUptoSaid : Prop := patternsPiecesFitUptoRow.holds Try.pinned (OpenSpec.upto patternsPiecesFitSpec)

end Rows
end Go.Proofs.Ytgmjhnijnpfkgaa
