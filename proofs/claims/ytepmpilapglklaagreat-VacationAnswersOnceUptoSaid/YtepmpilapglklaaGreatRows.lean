/-
  No cell of these rows narrows 'for every input' (looked for: loops, veiled, ifaces, maps, wideKeys, modest, calm, conditions, laid).
  DERIVED. THE GIVEN ROWS OF THIS SEAT. 4 by the template 'for every input the law returns true; each argument reads behind the call as it read before'; 0 by the template 'total and deterministic' (their statements: YtepmpilapglklaaGreatTotals.lean).
  GIVEN WITH THE SEED: the statements are not yours to turn. If you find one false, say at which input.
  Laid BY PROGRAM, IN A SANDBOX (cutbox-rows.mjs): the forced cells as the released guide's own fill.sh prints them over the translation 2b1ad7deaf6a6373… (all of the seat's roots in one cut). By AI agents, Wed Nov 11 2026. No macro, syntax, notation, axiom, sorry.
-/
import Derived.Test.YtepmpilapglklaaGreatChecked
import GoSem.Claim
import GoSem.ClaimJoined
import GoSem.ClaimMapViews
import Derived.JoinedTies
import Derived.KernelRfl
namespace Go.Proofs.YtepmpilapglklaaGreat
/- THE CELL 'sum', in the pinned program and in every row, IS THE sha256 OF THE DUMP (.gsa) THAT YtepmpilapglklaaGreatProg.lean LOADS. Nothing in Lean hashes anything: it is a label: what it is worth is what the hold of that sum in a sandbox is worth. -/
noncomputable def Tryz.pinned : Pinned := { name := "ytepmpilapglklaagreat", sum := "2b1ad7deaf6a6373de8faa96a2e7796e7ac11b8f4033ec5c68ee0c55ac9192d8", checked := Tryz.checked }
namespace Rows
def none {H : Type} : Left H := { results := [], args := [] }

/-- 'posthouselaw6.VacationMatchesSpec': WHATEVER THE INPUT: true; the input reads as it did. -/
def vacationMatchesSpecSpec : ChangeSpec := { name := "vacationMatchesSpec", fn := fun _ => fun
  | [d1, d2, d3, d4, d5] => { results := [.lit (.bool true)], args := [d1, d2, d3, d4, d5] }
  | _ => none }
def vacationMatchesSpecRow : OpenClaim := { program := "ytepmpilapglklaagreat", sum := "2b1ad7deaf6a6373de8faa96a2e7796e7ac11b8f4033ec5c68ee0c55ac9192d8", func := "posthouse/posthouselaw6.VacationMatchesSpec", spec := "vacationMatchesSpec", inPlace := ["internal/bytealg.IndexByteString", "internal/bytealg.IndexString", "internal/bytealg.abigen_runtime_cmpstring", "sync/atomic.LoadUint32", "(*internal/sync.Mutex).Lock", "internal/race.Disable", "sync/atomic.CompareAndSwapInt32", "internal/race.Enable", "internal/race.Acquire", "(*internal/sync.Mutex).lockSlow", "internal/sync.runtime_canSpin", "internal/sync.runtime_doSpin", "internal/sync.throw", "internal/sync.runtime_nanotime", "internal/sync.runtime_SemacquireMutex", "sync/atomic.AddInt32", "(*internal/sync.Mutex).Unlock", "internal/race.ReleaseMerge", "(*internal/sync.Mutex).unlockSlow", "internal/sync.fatal", "internal/sync.runtime_Semrelease", "sync/atomic.StoreUint32", "slices.overlaps[posthouse/api.Replied]"], unfollowed := true, recurses := true, named := ["internal/bytealg.MaxLen"], apart := false }
def VacationMatchesSpecSaid : Prop := vacationMatchesSpecRow.holds Tryz.pinned (OpenSpec.ofChange vacationMatchesSpecSpec)

/-- ITS FALSE NEIGHBOUR: 'it returns false'. Refute it at one input. -/
def vacationMatchesSpecWrong : ChangeSpec := { name := "vacationMatchesSpec", fn := fun _ => fun
  | [d1, d2, d3, d4, d5] => { results := [.lit (.bool false)], args := [d1, d2, d3, d4, d5] }
  | _ => none }
def VacationMatchesSpecWrongFalsely : Prop := vacationMatchesSpecRow.holds Tryz.pinned (OpenSpec.ofChange vacationMatchesSpecWrong)

/-- 'posthouselaw6.VacationAnswersOnce': WHATEVER THE INPUT: true; the input reads as it did. -/
def vacationAnswersOnceSpec : ChangeSpec := { name := "vacationAnswersOnce", fn := fun _ => fun
  | [d1, d2, d3, d4, d5, d6, d7] => { results := [.lit (.bool true)], args := [d1, d2, d3, d4, d5, d6, d7] }
  | _ => none }
def vacationAnswersOnceRow : OpenClaim := { program := "ytepmpilapglklaagreat", sum := "2b1ad7deaf6a6373de8faa96a2e7796e7ac11b8f4033ec5c68ee0c55ac9192d8", func := "posthouse/posthouselaw6.VacationAnswersOnce", spec := "vacationAnswersOnce", inPlace := ["internal/bytealg.IndexByteString", "internal/bytealg.IndexString", "internal/bytealg.abigen_runtime_cmpstring", "sync/atomic.LoadUint32", "(*internal/sync.Mutex).Lock", "internal/race.Disable", "sync/atomic.CompareAndSwapInt32", "internal/race.Enable", "internal/race.Acquire", "(*internal/sync.Mutex).lockSlow", "internal/sync.runtime_canSpin", "internal/sync.runtime_doSpin", "internal/sync.throw", "internal/sync.runtime_nanotime", "internal/sync.runtime_SemacquireMutex", "sync/atomic.AddInt32", "(*internal/sync.Mutex).Unlock", "internal/race.ReleaseMerge", "(*internal/sync.Mutex).unlockSlow", "internal/sync.fatal", "internal/sync.runtime_Semrelease", "sync/atomic.StoreUint32", "slices.overlaps[posthouse/api.Replied]"], unfollowed := true, recurses := true, named := ["internal/bytealg.MaxLen"], apart := false }
def VacationAnswersOnceSaid : Prop := vacationAnswersOnceRow.holds Tryz.pinned (OpenSpec.ofChange vacationAnswersOnceSpec)

/-- ITS FALSE NEIGHBOUR: 'it returns false'. Refute it at one input. -/
def vacationAnswersOnceWrong : ChangeSpec := { name := "vacationAnswersOnce", fn := fun _ => fun
  | [d1, d2, d3, d4, d5, d6, d7] => { results := [.lit (.bool false)], args := [d1, d2, d3, d4, d5, d6, d7] }
  | _ => none }
def VacationAnswersOnceWrongFalsely : Prop := vacationAnswersOnceRow.holds Tryz.pinned (OpenSpec.ofChange vacationAnswersOnceWrong)

/-- 'posthouselaw6.VacationNeverAnswersReplies': WHATEVER THE INPUT: true; the input reads as it did. -/
def vacationNeverAnswersRepliesSpec : ChangeSpec := { name := "vacationNeverAnswersReplies", fn := fun _ => fun
  | [d1, d2, d3, d4, d5, d6, d7] => { results := [.lit (.bool true)], args := [d1, d2, d3, d4, d5, d6, d7] }
  | _ => none }
def vacationNeverAnswersRepliesRow : OpenClaim := { program := "ytepmpilapglklaagreat", sum := "2b1ad7deaf6a6373de8faa96a2e7796e7ac11b8f4033ec5c68ee0c55ac9192d8", func := "posthouse/posthouselaw6.VacationNeverAnswersReplies", spec := "vacationNeverAnswersReplies", inPlace := ["internal/bytealg.IndexByteString", "internal/bytealg.IndexString", "internal/bytealg.abigen_runtime_cmpstring", "sync/atomic.LoadUint32", "(*internal/sync.Mutex).Lock", "internal/race.Disable", "sync/atomic.CompareAndSwapInt32", "internal/race.Enable", "internal/race.Acquire", "(*internal/sync.Mutex).lockSlow", "internal/sync.runtime_canSpin", "internal/sync.runtime_doSpin", "internal/sync.throw", "internal/sync.runtime_nanotime", "internal/sync.runtime_SemacquireMutex", "sync/atomic.AddInt32", "(*internal/sync.Mutex).Unlock", "internal/race.ReleaseMerge", "(*internal/sync.Mutex).unlockSlow", "internal/sync.fatal", "internal/sync.runtime_Semrelease", "sync/atomic.StoreUint32", "slices.overlaps[posthouse/api.Replied]"], unfollowed := true, recurses := true, named := ["internal/bytealg.MaxLen"], apart := false }
def VacationNeverAnswersRepliesSaid : Prop := vacationNeverAnswersRepliesRow.holds Tryz.pinned (OpenSpec.ofChange vacationNeverAnswersRepliesSpec)

/-- ITS FALSE NEIGHBOUR: 'it returns false'. Refute it at one input. -/
def vacationNeverAnswersRepliesWrong : ChangeSpec := { name := "vacationNeverAnswersReplies", fn := fun _ => fun
  | [d1, d2, d3, d4, d5, d6, d7] => { results := [.lit (.bool false)], args := [d1, d2, d3, d4, d5, d6, d7] }
  | _ => none }
def VacationNeverAnswersRepliesWrongFalsely : Prop := vacationNeverAnswersRepliesRow.holds Tryz.pinned (OpenSpec.ofChange vacationNeverAnswersRepliesWrong)

/-- 'posthouselaw6.VacationLeavesListsAlone': WHATEVER THE INPUT: true; the input reads as it did. -/
def vacationLeavesListsAloneSpec : ChangeSpec := { name := "vacationLeavesListsAlone", fn := fun _ => fun
  | [d1, d2, d3, d4, d5, d6] => { results := [.lit (.bool true)], args := [d1, d2, d3, d4, d5, d6] }
  | _ => none }
def vacationLeavesListsAloneRow : OpenClaim := { program := "ytepmpilapglklaagreat", sum := "2b1ad7deaf6a6373de8faa96a2e7796e7ac11b8f4033ec5c68ee0c55ac9192d8", func := "posthouse/posthouselaw6.VacationLeavesListsAlone", spec := "vacationLeavesListsAlone", inPlace := ["internal/bytealg.IndexByteString", "internal/bytealg.IndexString", "internal/bytealg.abigen_runtime_cmpstring", "sync/atomic.LoadUint32", "(*internal/sync.Mutex).Lock", "internal/race.Disable", "sync/atomic.CompareAndSwapInt32", "internal/race.Enable", "internal/race.Acquire", "(*internal/sync.Mutex).lockSlow", "internal/sync.runtime_canSpin", "internal/sync.runtime_doSpin", "internal/sync.throw", "internal/sync.runtime_nanotime", "internal/sync.runtime_SemacquireMutex", "sync/atomic.AddInt32", "(*internal/sync.Mutex).Unlock", "internal/race.ReleaseMerge", "(*internal/sync.Mutex).unlockSlow", "internal/sync.fatal", "internal/sync.runtime_Semrelease", "sync/atomic.StoreUint32", "slices.overlaps[posthouse/api.Replied]"], unfollowed := true, recurses := true, named := ["internal/bytealg.MaxLen"], apart := false }
def VacationLeavesListsAloneSaid : Prop := vacationLeavesListsAloneRow.holds Tryz.pinned (OpenSpec.ofChange vacationLeavesListsAloneSpec)

/-- ITS FALSE NEIGHBOUR: 'it returns false'. Refute it at one input. -/
def vacationLeavesListsAloneWrong : ChangeSpec := { name := "vacationLeavesListsAlone", fn := fun _ => fun
  | [d1, d2, d3, d4, d5, d6] => { results := [.lit (.bool false)], args := [d1, d2, d3, d4, d5, d6] }
  | _ => none }
def VacationLeavesListsAloneWrongFalsely : Prop := vacationLeavesListsAloneRow.holds Tryz.pinned (OpenSpec.ofChange vacationLeavesListsAloneWrong)

/- THE SECOND FORM. 'bulk': how many values and letters a reading holds, each counted each time it is reached (what is shared counts as often as it is met; a slice's spare places count too). A statement '..UptoSaid' is the law's where the arguments, and the package variables that the reading takes, are together of bulk at most 1048576: NARROWER than '..Said'. Prove '..Said' where nothing that the law and all that it calls make is longer than what came in: it says more and counts as full. Else prove '..UptoSaid'. A law counts once. -/
mutual
def uptoBulk {H : Type} : DataW H → Nat
  | .lit (.string bytes) => bytes.length + 1
  | .lit _ => 1
  | .nil => 1
  | .ptr d => uptoBulk d + 1
  | .slice elems spare => uptoBulkAll elems + uptoBulkAll spare + 1
  | .agg parts => uptoBulkAll parts + 1
  | .iface _ d => uptoBulk d + 1
  | .map entries => uptoBulkEntries entries + 1
  | .held _ => 1
def uptoBulkAll {H : Type} : List (DataW H) → Nat
  | [] => 0
  | d :: r => uptoBulk d + uptoBulkAll r
def uptoBulkEntries {H : Type} : List (Lit × DataW H) → Nat
  | [] => 0
  | x :: r => uptoBulkEntry x + uptoBulkEntries r
def uptoBulkEntry {H : Type} : Lit × DataW H → Nat
  | (.string bytes, d) => bytes.length + uptoBulk d + 1
  | (_, d) => uptoBulk d + 1
 end
def uptoSmall : (H : Type) → List (DataW H) → Bool := fun _ ds => decide (uptoBulkAll ds ≤ 1048576)
def OpenSpec.upto (s : _root_.Go.ChangeSpec) : _root_.Go.OpenSpec := { _root_.Go.OpenSpec.ofChange s with cond := some uptoSmall }

/-- 'posthouselaw6.VacationMatchesSpec', WHERE WHAT IT READS IS OF BULK AT MOST 1048576: true; the input reads as it did. -/
def vacationMatchesSpecUptoRow : OpenClaim := { program := "ytepmpilapglklaagreat", sum := "2b1ad7deaf6a6373de8faa96a2e7796e7ac11b8f4033ec5c68ee0c55ac9192d8", func := "posthouse/posthouselaw6.VacationMatchesSpec", spec := "vacationMatchesSpec", inPlace := ["internal/bytealg.IndexByteString", "internal/bytealg.IndexString", "internal/bytealg.abigen_runtime_cmpstring", "sync/atomic.LoadUint32", "(*internal/sync.Mutex).Lock", "internal/race.Disable", "sync/atomic.CompareAndSwapInt32", "internal/race.Enable", "internal/race.Acquire", "(*internal/sync.Mutex).lockSlow", "internal/sync.runtime_canSpin", "internal/sync.runtime_doSpin", "internal/sync.throw", "internal/sync.runtime_nanotime", "internal/sync.runtime_SemacquireMutex", "sync/atomic.AddInt32", "(*internal/sync.Mutex).Unlock", "internal/race.ReleaseMerge", "(*internal/sync.Mutex).unlockSlow", "internal/sync.fatal", "internal/sync.runtime_Semrelease", "sync/atomic.StoreUint32", "slices.overlaps[posthouse/api.Replied]"], unfollowed := true, recurses := true, named := ["internal/bytealg.MaxLen"], apart := false, narrowed := true }
def VacationMatchesSpecUptoSaid : Prop := vacationMatchesSpecUptoRow.holds Tryz.pinned (OpenSpec.upto vacationMatchesSpecSpec)

/-- 'posthouselaw6.VacationAnswersOnce', WHERE WHAT IT READS IS OF BULK AT MOST 1048576: true; the input reads as it did. -/
def vacationAnswersOnceUptoRow : OpenClaim := { program := "ytepmpilapglklaagreat", sum := "2b1ad7deaf6a6373de8faa96a2e7796e7ac11b8f4033ec5c68ee0c55ac9192d8", func := "posthouse/posthouselaw6.VacationAnswersOnce", spec := "vacationAnswersOnce", inPlace := ["internal/bytealg.IndexByteString", "internal/bytealg.IndexString", "internal/bytealg.abigen_runtime_cmpstring", "sync/atomic.LoadUint32", "(*internal/sync.Mutex).Lock", "internal/race.Disable", "sync/atomic.CompareAndSwapInt32", "internal/race.Enable", "internal/race.Acquire", "(*internal/sync.Mutex).lockSlow", "internal/sync.runtime_canSpin", "internal/sync.runtime_doSpin", "internal/sync.throw", "internal/sync.runtime_nanotime", "internal/sync.runtime_SemacquireMutex", "sync/atomic.AddInt32", "(*internal/sync.Mutex).Unlock", "internal/race.ReleaseMerge", "(*internal/sync.Mutex).unlockSlow", "internal/sync.fatal", "internal/sync.runtime_Semrelease", "sync/atomic.StoreUint32", "slices.overlaps[posthouse/api.Replied]"], unfollowed := true, recurses := true, named := ["internal/bytealg.MaxLen"], apart := false, narrowed := true }
def VacationAnswersOnceUptoSaid : Prop := vacationAnswersOnceUptoRow.holds Tryz.pinned (OpenSpec.upto vacationAnswersOnceSpec)

/-- 'posthouselaw6.VacationNeverAnswersReplies', WHERE WHAT IT READS IS OF BULK AT MOST 1048576: true; the input reads as it did. -/
def vacationNeverAnswersRepliesUptoRow : OpenClaim := { program := "ytepmpilapglklaagreat", sum := "2b1ad7deaf6a6373de8faa96a2e7796e7ac11b8f4033ec5c68ee0c55ac9192d8", func := "posthouse/posthouselaw6.VacationNeverAnswersReplies", spec := "vacationNeverAnswersReplies", inPlace := ["internal/bytealg.IndexByteString", "internal/bytealg.IndexString", "internal/bytealg.abigen_runtime_cmpstring", "sync/atomic.LoadUint32", "(*internal/sync.Mutex).Lock", "internal/race.Disable", "sync/atomic.CompareAndSwapInt32", "internal/race.Enable", "internal/race.Acquire", "(*internal/sync.Mutex).lockSlow", "internal/sync.runtime_canSpin", "internal/sync.runtime_doSpin", "internal/sync.throw", "internal/sync.runtime_nanotime", "internal/sync.runtime_SemacquireMutex", "sync/atomic.AddInt32", "(*internal/sync.Mutex).Unlock", "internal/race.ReleaseMerge", "(*internal/sync.Mutex).unlockSlow", "internal/sync.fatal", "internal/sync.runtime_Semrelease", "sync/atomic.StoreUint32", "slices.overlaps[posthouse/api.Replied]"], unfollowed := true, recurses := true, named := ["internal/bytealg.MaxLen"], apart := false, narrowed := true }
def VacationNeverAnswersRepliesUptoSaid : Prop := vacationNeverAnswersRepliesUptoRow.holds Tryz.pinned (OpenSpec.upto vacationNeverAnswersRepliesSpec)

/-- 'posthouselaw6.VacationLeavesListsAlone', WHERE WHAT IT READS IS OF BULK AT MOST 1048576: true; the input reads as it did. -/
def vacationLeavesListsAloneUptoRow : OpenClaim := { program := "ytepmpilapglklaagreat", sum := "2b1ad7deaf6a6373de8faa96a2e7796e7ac11b8f4033ec5c68ee0c55ac9192d8", func := "posthouse/posthouselaw6.VacationLeavesListsAlone", spec := "vacationLeavesListsAlone", inPlace := ["internal/bytealg.IndexByteString", "internal/bytealg.IndexString", "internal/bytealg.abigen_runtime_cmpstring", "sync/atomic.LoadUint32", "(*internal/sync.Mutex).Lock", "internal/race.Disable", "sync/atomic.CompareAndSwapInt32", "internal/race.Enable", "internal/race.Acquire", "(*internal/sync.Mutex).lockSlow", "internal/sync.runtime_canSpin", "internal/sync.runtime_doSpin", "internal/sync.throw", "internal/sync.runtime_nanotime", "internal/sync.runtime_SemacquireMutex", "sync/atomic.AddInt32", "(*internal/sync.Mutex).Unlock", "internal/race.ReleaseMerge", "(*internal/sync.Mutex).unlockSlow", "internal/sync.fatal", "internal/sync.runtime_Semrelease", "sync/atomic.StoreUint32", "slices.overlaps[posthouse/api.Replied]"], unfollowed := true, recurses := true, named := ["internal/bytealg.MaxLen"], apart := false, narrowed := true }
def VacationLeavesListsAloneUptoSaid : Prop := vacationLeavesListsAloneUptoRow.holds Tryz.pinned (OpenSpec.upto vacationLeavesListsAloneSpec)

end Rows
end Go.Proofs.YtepmpilapglklaaGreat
