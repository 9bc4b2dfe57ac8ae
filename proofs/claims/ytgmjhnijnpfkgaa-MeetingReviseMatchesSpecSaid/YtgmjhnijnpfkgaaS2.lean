/- What the functions of meetings answer, in plain words: proposals. -/
import Derived.Test.YtgmjhnijnpfkgaaS1
namespace Go.Proofs.Ytgmjhnijnpfkgaa
open Go.RowKit

theorem lenb_g (xs : List G) (n : Nat) : (((ec_48.encL xs).getD n []).length == 4) = decide (n < xs.length) := by
  by_cases h : n < xs.length
  · rw [len_48 _ _ h]; simp [h]
  · rw [EC.getD_ge _ _ (Nat.not_lt.1 h)]; simp [h]
theorem clone_s (l : List G) (h : l.length ≤ 1000000) : cloneG_s l = some (l.length, l) := by
  cases l with
  | nil => exact cloneG_nil
  | cons x xs =>
    refine cloneG_eq ?_
    simp only [cloneG_t, gdE_if, EC.decL_encL, EC.isL_encL, EC.encL_length, all_48, EC_empty, List.nil_append, Nat.zero_add]
    have h1 : (x :: xs).length * 40 ≤ 140737488355328 := by omega
    have h2 : (x :: xs).length ≤ 9223372036854775807 := by omega
    simp only [h1, h2]
    simp

def clr (g : G) : G := ⟨g.Address, 0, 0, 0⟩
theorem propose_loop (b0 : ByteArray) (b02 b03 b04 : Int) (b05 : Bool) (b1 b11 : Int) (b2 : ByteArray) (b21 : Nat) (b22 b23 b24 : Int) (b25 : Bool) (b4 : List G) (n : Nat) (hn : n ≤ 9223372036854775807) : ∀ (q k : Nat) (L : List G), L.length = n → k + q = n →
    meeting_propose_l3 n k b0 n b02 b03 b04 b05 b1 b11 b2 b21 b22 b23 b24 b25 L b4 = some (((), (), (), (n : Int), (n : Int), false), ((b0, n, b02, b03, b04, b05), (b1, b11), (b2, b21, b22, b23, b24, b25), L.take k ++ (L.drop k).map clr, b4)) := by
  intro q
  induction q with
  | zero =>
    intro k L hL hk
    have : k = n := by omega
    subst this
    refine meeting_propose_l3_eq ?_
    simp only [meeting_propose_l3_t, brE_if, gdE_if, EC.decL_encL, EC.isL_encL, EC.encL_length, set_48_1_1, set_48_2_2]
    simp [← hL]
  | succ q ih =>
    intro k L hL hk
    have hlt : k < L.length := by omega
    have hkn : k < n := by omega
    have hk' : (k : Int) < (n : Int) := by omega
    refine meeting_propose_l3_eq ?_
    simp only [meeting_propose_l3_t, brE_if, gdE_if, EC.decL_encL, EC.isL_encL, EC.encL_length, set_48_1_1, set_48_2_2, lenb_g, Int.toNat_natCast, getD_in hlt, List.length_set, wrap_nat hkn hn, hlt, hk', Int.natCast_nonneg, decide_true, Bool.and_self, if_true]
    rw [ih (k + 1) _ (by simpa using hL) (by omega)]
    congr 6
    rw [List.drop_eq_getElem_cons hlt]
    simp only [List.set_set, List.map_cons]
    have e : ∀ g : G, (L.set k g).take (k + 1) = L.take k ++ [g] := fun g => by
      rw [List.take_add_one, List.take_set_of_le (Nat.le_refl _)]
      simp [hlt]
    rw [e]
    rw [List.drop_set_of_lt (Nat.lt_succ_self k)]
    simp [clr, List.getD_eq_getElem?_getD, hlt]
theorem propose_s (m : Mtg) (f t : Int) (hn : m.guests.length ≤ 1000000) (h0 : 0 ≤ m.round) (h1 : m.round ≤ 1000000) : meeting_propose_s m.org m.guests m.round m.pf m.pt m.can f t = some ((m.org, m.guests.length, m.round + 1, f, t, m.can), m.guests.map clr) := meeting_propose_eq (by
  have hw : IntKind.i64.wrap (m.round + 1) = m.round + 1 := IntWalk.i64_in _ (by omega)
  have hl := propose_loop m.org m.round m.pf m.pt m.can f t ⟨#[]⟩ 0 0 0 0 false [] m.guests.length (by omega) m.guests.length 0 m.guests rfl (by omega)
  simp only [Int.natCast_zero] at hl
  simp only [meeting_propose_t, gdE_if, EC.decL_encL, EC.isL_encL, clone_s _ hn, Option.bind_some, if_true, EC_nilD]
  rw [hl]
  simp only [Option.bind_some, hw, List.take_zero, List.drop_zero, List.nil_append])

def runFault (m : Mtg) : Int × Int := if (mtgFault m).1 ≠ 0 then mtgFault m else if m.can = true ∨ m.round = 1000000 then (8, -4) else (0, 0)
theorem running_s (m : Mtg) (hn : m.guests.length ≤ 9223372036854775807) : meeting_running_s m.org m.guests m.round m.pf m.pt m.can = some (runFault m) := meeting_running_eq (by
  simp only [meeting_running_t, brE_if, gdE_if, EC.decL_encL, EC.isL_encL, if_true, validate_s m hn, failed_s, fault_s, none_s, Option.bind_some, beq_f]
  unfold runFault
  by_cases h : (mtgFault m).1 = 0 <;> cases m.can <;> by_cases h2 : m.round = 1000000 <;> simp [h, h2])
/-- what a valid meeting is -/
theorem fault_ok {m : Mtg} (h : (mtgFault m).1 = 0) : 1 ≤ m.guests.length ∧ m.guests.length ≤ 30 ∧ 0 ≤ m.round ∧ m.round ≤ 1000000 := by
  unfold mtgFault at h
  split at h
  · cases h
  · split at h
    · cases h
    · split at h
      · cases h
      · omega
theorem run_ok {m : Mtg} (h : (runFault m).1 = 0) : (mtgFault m).1 = 0 ∧ m.can = false ∧ m.round ≠ 1000000 := by
  unfold runFault at h
  split at h
  · rename_i h'; exact absurd h h'
  · rename_i h'
    split at h
    · cases h
    · rename_i h2
      refine ⟨by simpa using h', ?_, ?_⟩
      · cases hc : m.can with | true => exact absurd (.inl hc) h2 | false => rfl
      · intro e; exact h2 (.inr e)
abbrev MR := (ByteArray × Nat × Int × Int × Int × Bool) × (Int × Int)
def zrow : ByteArray × Nat × Int × Int × Int × Bool := (⟨#[]⟩, 0, 0, 0, 0, false)
def propOf (m : Mtg) (f t : Int) : MR × List G :=
  if (runFault m).1 ≠ 0 then ((zrow, runFault m), []) else if possB f t = false then ((zrow, (3, -5)), []) else (((m.org, m.guests.length, m.round + 1, f, t, m.can), (0, 0)), m.guests.map clr)
theorem Propose_s (m : Mtg) (f t : Int) (hn : m.guests.length ≤ 9223372036854775807) : meeting_Propose_s m.org m.guests m.round m.pf m.pt m.can f t = some (propOf m f t) := meeting_Propose_eq (by
  simp only [meeting_Propose_t, brE_if, gdE_if, EC.decL_encL, EC.isL_encL, if_true, running_s m hn, failed_s, fault_s, none_s, poss_s, Option.bind_some, EC_nilD]
  unfold propOf
  by_cases h : (runFault m).1 = 0
  · obtain ⟨h1, _, _⟩ := run_ok h
    obtain ⟨_, h2, h3, h4⟩ := fault_ok h1
    rw [propose_s m f t (by omega) h3 h4]
    cases possB f t <;> simp [h, zrow]
  · simp [h, zrow])
def cancelOf (m : Mtg) : MR × List G :=
  if (mtgFault m).1 ≠ 0 then ((zrow, mtgFault m), []) else if m.can = true then ((zrow, (8, -4)), []) else (((m.org, m.guests.length, m.round, m.pf, m.pt, true), (0, 0)), m.guests)
theorem Cancel_s (m : Mtg) (hn : m.guests.length ≤ 9223372036854775807) : meeting_Cancel_s m.org m.guests m.round m.pf m.pt m.can = some (cancelOf m) := meeting_Cancel_eq (by
  simp only [meeting_Cancel_t, brE_if, gdE_if, EC.decL_encL, EC.isL_encL, if_true, validate_s m hn, failed_s, fault_s, none_s, Option.bind_some, EC_nilD]
  unfold cancelOf
  by_cases h : (mtgFault m).1 = 0
  · obtain ⟨_, h2, h3, h4⟩ := fault_ok h
    rw [clone_s _ (by omega)]
    cases m.can <;> simp [h, zrow]
  · simp [h, zrow])
end Go.Proofs.Ytgmjhnijnpfkgaa
