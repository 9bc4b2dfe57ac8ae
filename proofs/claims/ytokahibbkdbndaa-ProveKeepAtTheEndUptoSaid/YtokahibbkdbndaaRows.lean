/-
  NARROWER THAN 'FOR EVERY INPUT', by the rows' own cells (each row's printed sentence says how): ProveMatchesSpec: loops · ProveKeepAtTheEnd: loops.
  DERIVED. THE GIVEN ROWS OF THIS SEAT. 2 by the template 'for every input the law returns true; each argument reads behind the call as it read before'; 0 by the template 'total and deterministic' (their statements: YtokahibbkdbndaaTotals.lean).
  GIVEN WITH THE SEED: the statements are not yours to turn. If you find one false, say at which input.
  Laid BY PROGRAM, IN A SANDBOX (cutbox-rows.mjs): the forced cells as the released guide's own fill.sh prints them over the translation d7d2a7c96312fd81… (all of the seat's roots in one cut). By AI agents, Wed Nov 11 2026. No macro, syntax, notation, axiom, sorry.
-/
import Derived.Test.YtokahibbkdbndaaChecked
import GoSem.Claim
import GoSem.ClaimJoined
import GoSem.ClaimMapViews
import Derived.JoinedTies
import Derived.KernelRfl
namespace Go.Proofs.Ytokahibbkdbndaa
/- THE CELL 'sum', in the pinned program and in every row, IS THE sha256 OF THE DUMP (.gsa) THAT YtokahibbkdbndaaProg.lean LOADS. Nothing in Lean hashes anything: it is a label: what it is worth is what the hold of that sum in a sandbox is worth. -/
noncomputable def Try.pinned : Pinned := { name := "ytokahibbkdbndaa", sum := "d7d2a7c96312fd81134974307a6099cbc783099f466a729a284f84842dbd3309", checked := Try.checked }
namespace Rows
def none {H : Type} : Left H := { results := [], args := [] }

/-- 'posthouselaw6.ProveMatchesSpec': WHATEVER THE INPUT: true; the input reads as it did. -/
def proveMatchesSpecSpec : ChangeSpec := { name := "proveMatchesSpec", fn := fun _ => fun
  | [d] => { results := [.lit (.bool true)], args := [d] }
  | _ => none }
def proveMatchesSpecRow : OpenClaim := { program := "ytokahibbkdbndaa", sum := "d7d2a7c96312fd81134974307a6099cbc783099f466a729a284f84842dbd3309", func := "posthouse/posthouselaw6.ProveMatchesSpec", spec := "proveMatchesSpec", unfollowed := true, recurses := true, loops := true, apart := false }
def ProveMatchesSpecSaid : Prop := proveMatchesSpecRow.holds Try.pinned (OpenSpec.ofChange proveMatchesSpecSpec)

/-- ITS FALSE NEIGHBOUR: 'it returns false'. Refute it at one input. -/
def proveMatchesSpecWrong : ChangeSpec := { name := "proveMatchesSpec", fn := fun _ => fun
  | [d] => { results := [.lit (.bool false)], args := [d] }
  | _ => none }
def ProveMatchesSpecWrongFalsely : Prop := proveMatchesSpecRow.holds Try.pinned (OpenSpec.ofChange proveMatchesSpecWrong)

/-- 'posthouselaw6.ProveKeepAtTheEnd': WHATEVER THE INPUT: true; the input reads as it did. -/
def proveKeepAtTheEndSpec : ChangeSpec := { name := "proveKeepAtTheEnd", fn := fun _ => fun
  | [d] => { results := [.lit (.bool true)], args := [d] }
  | _ => none }
def proveKeepAtTheEndRow : OpenClaim := { program := "ytokahibbkdbndaa", sum := "d7d2a7c96312fd81134974307a6099cbc783099f466a729a284f84842dbd3309", func := "posthouse/posthouselaw6.ProveKeepAtTheEnd", spec := "proveKeepAtTheEnd", unfollowed := true, recurses := true, loops := true, apart := false }
def ProveKeepAtTheEndSaid : Prop := proveKeepAtTheEndRow.holds Try.pinned (OpenSpec.ofChange proveKeepAtTheEndSpec)

/-- ITS FALSE NEIGHBOUR: 'it returns false'. Refute it at one input. -/
def proveKeepAtTheEndWrong : ChangeSpec := { name := "proveKeepAtTheEnd", fn := fun _ => fun
  | [d] => { results := [.lit (.bool false)], args := [d] }
  | _ => none }
def ProveKeepAtTheEndWrongFalsely : Prop := proveKeepAtTheEndRow.holds Try.pinned (OpenSpec.ofChange proveKeepAtTheEndWrong)

/- THE SECOND FORM. 'bulk': how many values and letters a reading holds, each counted each time it is reached (what is shared counts as often as it is met; a slice's spare places count too). A statement '..UptoSaid' is the law's where the arguments, and the package variables that the reading takes, are together of bulk at most 1048576: NARROWER than '..Said'. Prove '..Said' where nothing that the law and all that it calls make is longer than what came in: it says more and counts as full. Else prove '..UptoSaid'. A law counts once. -/
mutual
def uptoBulk {H : Type} : DataW H → Nat
  | .lit (.string bytes) => bytes.length + 1
  | .lit _ => 1
  | .nil => 1
  | .ptr d => uptoBulk d + 1
  | .slice elems spare => uptoBulkAll elems + uptoBulkAll spare + 1
  | .agg parts => uptoBulkAll parts + 1
  | .iface _ d => uptoBulk d + 1
  | .map entries => uptoBulkEntries entries + 1
  | .held _ => 1
def uptoBulkAll {H : Type} : List (DataW H) → Nat
  | [] => 0
  | d :: r => uptoBulk d + uptoBulkAll r
def uptoBulkEntries {H : Type} : List (Lit × DataW H) → Nat
  | [] => 0
  | x :: r => uptoBulkEntry x + uptoBulkEntries r
def uptoBulkEntry {H : Type} : Lit × DataW H → Nat
  | (.string bytes, d) => bytes.length + uptoBulk d + 1
  | (_, d) => uptoBulk d + 1
 end
def uptoSmall : (H : Type) → List (DataW H) → Bool := fun _ ds => decide (uptoBulkAll ds ≤ 1048576)
def OpenSpec.upto (s : _root_.Go.ChangeSpec) : _root_.Go.OpenSpec := { _root_.Go.OpenSpec.ofChange s with cond := some uptoSmall }

/-- 'posthouselaw6.ProveMatchesSpec', WHERE WHAT IT READS IS OF BULK AT MOST 1048576: true; the input reads as it did. -/
def proveMatchesSpecUptoRow : OpenClaim := { program := "ytokahibbkdbndaa", sum := "d7d2a7c96312fd81134974307a6099cbc783099f466a729a284f84842dbd3309", func := "posthouse/posthouselaw6.ProveMatchesSpec", spec := "proveMatchesSpec", unfollowed := true, recurses := true, loops := true, apart := false, narrowed := true }
def ProveMatchesSpecUptoSaid : Prop := proveMatchesSpecUptoRow.holds Try.pinned (OpenSpec.upto proveMatchesSpecSpec)

/-- 'posthouselaw6.ProveKeepAtTheEnd', WHERE WHAT IT READS IS OF BULK AT MOST 1048576: true; the input reads as it did. -/
def proveKeepAtTheEndUptoRow : OpenClaim := { program := "ytokahibbkdbndaa", sum := "d7d2a7c96312fd81134974307a6099cbc783099f466a729a284f84842dbd3309", func := "posthouse/posthouselaw6.ProveKeepAtTheEnd", spec := "proveKeepAtTheEnd", unfollowed := true, recurses := true, loops := true, apart := false, narrowed := true }
def ProveKeepAtTheEndUptoSaid : Prop := proveKeepAtTheEndUptoRow.holds Try.pinned (OpenSpec.upto proveKeepAtTheEndSpec)

end Rows
end Go.Proofs.Ytokahibbkdbndaa
