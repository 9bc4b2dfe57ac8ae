/- What the functions of meetings answer, in plain words: checks. -/
import Derived.Test.YtgmjhnijnpfkgaaGMeet
namespace Go.Proofs.Ytgmjhnijnpfkgaa
open Go.RowKit

theorem brE_if {β : Type} (q : Bool) (a b : Option β) : brE q a b = if q = true then a else b := by cases q <;> rfl
theorem gdE_if {β : Type} (q : Bool) (a : Option β) : gdE q a = if q = true then a else none := by cases q <;> rfl
theorem beq_t (q : Bool) : (q == true) = q := by cases q <;> rfl
theorem beq_f (q : Bool) : (q == false) = !q := by cases q <;> rfl

theorem EC_take {τ : Type} (e : EC τ) (xs : List τ) (n : Nat) : (e.encL xs).take n = e.encL (xs.take n) := by simp [EC.encL, List.map_take]
theorem EC_drop {τ : Type} (e : EC τ) (xs : List τ) (n : Nat) : (e.encL xs).drop n = e.encL (xs.drop n) := by simp [EC.encL, List.map_drop]
theorem EC_nilD {τ : Type} (e : EC τ) : e.decL [] = [] := rfl
theorem EC_nilI {τ : Type} (e : EC τ) : e.isL [] = true := rfl
theorem EC_empty {τ : Type} (e : EC τ) (xs : List τ) : (e.encL xs).isEmpty = xs.isEmpty := by cases xs <;> rfl
abbrev G := S48
def timeB (t : Int) : Bool := decide (-68719476736 ≤ t) && decide (t ≤ 68719476736)
def possB (f t : Int) : Bool := decide (f < t) && (timeB f && timeB t)
def namedB (s : ByteArray) : Bool := decide (1 ≤ s.size) && decide (s.size ≤ 4000)

theorem fault_s (a b : Int) : basic_Fault_s a b = some (a, b) := basic_Fault_eq rfl
theorem none_s : basic_None_s = some (0, 0) := basic_None_eq rfl
theorem failed_s (a b : Int) : basic_Failed_s a b = some (a != 0) := basic_Failed_eq rfl
theorem time_s (t : Int) : basic_Time_s t = some (timeB t) := basic_Time_eq (by
  by_cases h1 : -68719476736 ≤ t <;> simp [basic_Time_t, brE_if, timeB, h1] <;> omega)
theorem poss_s (f t : Int) : meeting_possible_s f t = some (possB f t) := meeting_possible_eq (by
  by_cases h1 : f < t <;> cases h2 : timeB f <;> simp [meeting_possible_t, brE_if, time_s, possB, h1, h2])
theorem named_s (s : ByteArray) : meeting_named_s s = some (namedB s) := meeting_named_eq (by
  by_cases h1 : 1 ≤ s.size
  · have h2 : (1 : Int) ≤ s.size := by omega
    have h3 : ((s.size : Int) ≤ 4000) ↔ s.size ≤ 4000 := by omega
    simp [meeting_named_t, brE_if, namedB, h1, h2, h3]
  · have h2 : ¬ (1 : Int) ≤ s.size := by omega
    simp [meeting_named_t, brE_if, namedB, h1, h2])
theorem guest1_sp (g : G) (a : ByteArray) (b c d : Int) : guest1_s g.Address g.Answer g.Offer_From g.Offer_To a b c d = some (g.Address.toList == a.toList) := guest1_eq rfl

/-- the first guest of a kind, counted from k on; -1: there is none -/
def gidx (p : G → Bool) (k : Nat) : List G → Int
  | [] => -1
  | g :: l => if p g then (k : Int) else gidx p (k + 1) l
theorem drop_at {α : Type} {l : List α} {k : Nat} (h : k < l.length) : l.drop k = l[k] :: l.drop (k + 1) := List.drop_eq_getElem_cons h
theorem wrap_nat {k n : Nat} (h : k < n) (hn : n ≤ 9223372036854775807) : IntKind.i64.wrap ((k : Int) + 1) = ((k + 1 : Nat) : Int) := by rw [IntWalk.i64_in _ (by omega)]; rfl
theorem getD_in {α : Type} {l : List α} {k : Nat} {d : α} (h : k < l.length) : l.getD k d = l[k] := by simp [List.getD_eq_getElem?_getD, h]

theorem idxGuest_loop (l : List G) (a : ByteArray) (b c d : Int) (hn : l.length ≤ 9223372036854775807) : ∀ (m k : Nat), k + m = l.length →
    (idxGuest_l2 l a b c d l.length k).bind (Sum.elim (fun x => some x.1) (fun _ => some (-1))) = some (gidx (fun g => g.Address.toList == a.toList) k (l.drop k)) := by
  intro m
  induction m with
  | zero =>
    intro k hk
    have : k = l.length := by omega
    subst this
    have h1 : idxGuest_l2 l a b c d l.length l.length = some (.inr ((l, (a, b, c, d), (l.length : Int), (l.length : Int), false), ())) := idxGuest_l2_eq (by
      simp only [idxGuest_l2_t, brE_if, gdE_if, EC.decL_encL, EC.isL_encL, EC.encL_length, isE_48, at_48_0, at_48_1, at_48_2, at_48_3]
      simp)
    rw [h1]
    simp [gidx]
  | succ m ih =>
    intro k hk
    have hlt : k < l.length := by omega
    rw [drop_at hlt, gidx]
    have hk' : (k : Int) < (l.length : Int) := by omega
    by_cases hp : (l[k].Address.toList == a.toList) = true
    · have h1 : idxGuest_l2 l a b c d l.length k = some (.inl ((k : Int), ())) := idxGuest_l2_eq (by
        simp only [idxGuest_l2_t, brE_if, gdE_if, EC.decL_encL, EC.isL_encL, EC.encL_length, isE_48, at_48_0, at_48_1, at_48_2, at_48_3, Int.toNat_natCast, getD_in hlt, guest1_sp, Option.bind_some, hp]
        simp [hlt])
      rw [h1, if_pos hp]
      rfl
    · have h2 := ih (k + 1) (by omega)
      cases hz : idxGuest_l2 l a b c d l.length ((k + 1 : Nat) : Int) with
      | none => rw [hz] at h2; cases h2
      | some r =>
        have h1 : idxGuest_l2 l a b c d l.length k = some r := idxGuest_l2_eq (by
          simp only [idxGuest_l2_t, brE_if, gdE_if, EC.decL_encL, EC.isL_encL, EC.encL_length, isE_48, at_48_0, at_48_1, at_48_2, at_48_3, Int.toNat_natCast, getD_in hlt, guest1_sp, Option.bind_some, hp, wrap_nat hlt hn, hz]
          simp [hlt])
        rw [if_neg hp, h1]
        rw [hz] at h2
        exact h2
theorem idxGuest_sp (l : List G) (a : ByteArray) (b c d : Int) (hn : l.length ≤ 9223372036854775807) : idxGuest_s l a b c d = some (gidx (fun g => g.Address.toList == a.toList) 0 l) := idxGuest_eq (by
  have := idxGuest_loop l a b c d hn l.length 0 (by omega)
  simp only [idxGuest_t, gdE_if, EC.decL_encL, EC.isL_encL, EC.encL_length, if_true]
  exact this)
theorem hasGuest_sp (l : List G) (a : ByteArray) (b c d : Int) (hn : l.length ≤ 9223372036854775807) : hasGuest_s l a b c d = some (decide (0 ≤ gidx (fun g => g.Address.toList == a.toList) 0 l)) := hasGuest_eq (by
  simp only [hasGuest_t, gdE_if, EC.decL_encL, EC.isL_encL, if_true, idxGuest_sp l a b c d hn, Option.bind_some, ge_iff_le])

/-- a guest's fault -/
def guestBad (org : ByteArray) (round : Int) (before : List G) (g : G) : Int :=
  if namedB g.Address = false then 10 else if g.Answer < 0 ∨ 3 < g.Answer then 3
  else if (round = 0 ∧ g.Answer ≠ 0) ∨ (g.Answer = 3 ∧ possB g.Offer_From g.Offer_To = false) ∨ (g.Answer ≠ 3 ∧ ¬ (g.Offer_From = 0 ∧ g.Offer_To = 0)) then 5
  else if ((g.Address.toList == org.toList) || decide (0 ≤ gidx (fun x => x.Address.toList == g.Address.toList) 0 before)) = true then 7 else 0

theorem guest_s (org : ByteArray) (l : List G) (round pf pt : Int) (can : Bool) (k : Nat) (h : k < l.length) (hn : l.length ≤ 9223372036854775807) : meeting_guest_s org l round pf pt can k = some (guestBad org round (l.take k) l[k]) := meeting_guest_eq (by
  have hk : (k : Int) ≤ (l.length : Int) := by omega
  have hlt : (l.take k).length ≤ 9223372036854775807 := by simp; omega
  generalize hg : l[k] = g
  simp only [meeting_guest_t, brE_if, gdE_if, EC.decL_encL, EC.isL_encL, EC.encL_length, isE_48, at_48_0, at_48_1, at_48_2, at_48_3, all_48, EC_take, List.drop_zero, Nat.sub_zero, Int.toNat_natCast, getD_in h, hg, named_s, poss_s, hasGuest_sp _ _ _ _ _ hlt, Option.bind_some, beq_t, beq_f]
  simp only [h, hk, Int.natCast_nonneg, decide_true, Bool.and_self, if_true]
  unfold guestBad
  generalize decide (0 ≤ gidx (fun x => x.Address.toList == g.Address.toList) 0 (l.take k)) = hs
  generalize (g.Address.toList == org.toList) = ho
  cases namedB g.Address
  · simp
  by_cases h1 : g.Answer < 0
  · simp [h1]
  by_cases h2 : 3 < g.Answer
  · simp [h1, h2]
  cases possB g.Offer_From g.Offer_To <;> cases hs <;> cases ho <;> by_cases h3 : g.Answer = 3 <;> by_cases h4 : round = 0 <;> by_cases h5 : g.Answer = 0 <;> by_cases h6 : g.Offer_From = 0 <;> by_cases h7 : g.Offer_To = 0 <;> simp [h1, h2, h3, h4, h5, h6, h7])

def gfFrom (org : ByteArray) (round : Int) (all : List G) : Nat → List G → Int × Int
  | _, [] => (0, 0)
  | k, g :: l => if guestBad org round (all.take k) g = 0 then gfFrom org round all (k + 1) l else (guestBad org round (all.take k) g, (k : Int))

structure Mtg where
  org : ByteArray
  guests : List G
  round : Int
  pf : Int
  pt : Int
  can : Bool
/-- a meeting's fault -/
def mtgFault (m : Mtg) : Int × Int :=
  if namedB m.org = false then (10, -2) else if m.guests.length < 1 ∨ 30 < m.guests.length then (2, -1) else if m.round < 0 ∨ 1000000 < m.round then (3, -3)
  else if (0 < m.round ∧ possB m.pf m.pt = false) ∨ (m.round = 0 ∧ ¬ (m.pf = 0 ∧ m.pt = 0)) then (5, -3)
  else gfFrom m.org m.round m.guests 0 m.guests

theorem validate_loop (m : Mtg) (a b : Int) (hn : m.guests.length ≤ 9223372036854775807) : ∀ (q k : Nat), k + q = m.guests.length →
    (meeting_Validate_l10 m.guests.length k m.org m.guests m.round m.pf m.pt m.can a b).bind (Sum.elim (fun x => some (x.2.1, x.2.2)) (fun _ => some (0, 0))) = some (gfFrom m.org m.round m.guests k (m.guests.drop k)) := by
  intro q
  induction q with
  | zero =>
    intro k hk
    have : k = m.guests.length := by omega
    subst this
    have h1 : meeting_Validate_l10 m.guests.length m.guests.length m.org m.guests m.round m.pf m.pt m.can a b = some (.inr (((), (), (m.guests.length : Int), (m.guests.length : Int), false), (m.org, m.guests, m.round, m.pf, m.pt, m.can), (a, b))) := meeting_Validate_l10_eq (by
      simp only [meeting_Validate_l10_t, brE_if, gdE_if, EC.decL_encL, EC.isL_encL]
      simp)
    rw [h1]
    simp [gfFrom]
  | succ q ih =>
    intro k hk
    have hlt : k < m.guests.length := by omega
    have hk' : (k : Int) < (m.guests.length : Int) := by omega
    rw [drop_at hlt, gfFrom]
    by_cases hp : guestBad m.org m.round (m.guests.take k) m.guests[k] = 0
    · have h2 := ih (k + 1) (by omega)
      cases hz : meeting_Validate_l10 m.guests.length ((k + 1 : Nat) : Int) m.org m.guests m.round m.pf m.pt m.can a b with
      | none => rw [hz] at h2; cases h2
      | some r =>
        have h1 : meeting_Validate_l10 m.guests.length k m.org m.guests m.round m.pf m.pt m.can a b = some r := meeting_Validate_l10_eq (by
          simp only [meeting_Validate_l10_t, brE_if, gdE_if, EC.decL_encL, EC.isL_encL, guest_s _ _ _ _ _ _ k hlt hn, Option.bind_some, hp, wrap_nat hlt hn, hz]
          simp [hlt])
        rw [if_pos hp, h1]
        rw [hz] at h2
        exact h2
    · have h1 : meeting_Validate_l10 m.guests.length k m.org m.guests m.round m.pf m.pt m.can a b = some (.inl ((), (guestBad m.org m.round (m.guests.take k) m.guests[k], (k : Int)))) := meeting_Validate_l10_eq (by
        simp only [meeting_Validate_l10_t, brE_if, gdE_if, EC.decL_encL, EC.isL_encL, guest_s _ _ _ _ _ _ k hlt hn, Option.bind_some, fault_s]
        simp [hlt, hp])
      rw [h1, if_neg hp]
      rfl
theorem validate_s (m : Mtg) (hn : m.guests.length ≤ 9223372036854775807) : meeting_Validate_s m.org m.guests m.round m.pf m.pt m.can = some (mtgFault m) := meeting_Validate_eq (by
  have hv := validate_loop m 0 0 hn m.guests.length 0 (by omega)
  rw [List.drop_zero] at hv
  simp only [Int.natCast_zero] at hv
  have e1 : ((m.guests.length : Int) < 1) ↔ m.guests.length < 1 := by omega
  have e2 : ((30 : Int) < (m.guests.length : Int)) ↔ 30 < m.guests.length := by omega
  obtain ⟨r, hr⟩ : ∃ r, meeting_Validate_l10 m.guests.length 0 m.org m.guests m.round m.pf m.pt m.can 0 0 = some r := by
    cases hz : meeting_Validate_l10 m.guests.length 0 m.org m.guests m.round m.pf m.pt m.can 0 0 with
    | none => rw [hz] at hv; cases hv
    | some r => exact ⟨r, rfl⟩
  rw [hr] at hv
  simp only [Option.bind_some] at hv
  simp only [meeting_Validate_t, brE_if, gdE_if, EC.decL_encL, EC.isL_encL, EC.encL_length, named_s, poss_s, fault_s, none_s, Option.bind_some, beq_t, beq_f, hr, if_true]
  unfold mtgFault
  rw [hv]
  cases namedB m.org
  · simp
  by_cases h1 : m.guests.length < 1
  · simp [h1, e1]
  by_cases h2 : 30 < m.guests.length
  · simp [h1, h2, e1, e2]
  by_cases h3 : m.round < 0
  · simp [h1, h2, h3, e1, e2]
  by_cases h4 : 1000000 < m.round
  · simp [h1, h2, h3, h4, e1, e2]
  cases possB m.pf m.pt <;> by_cases h5 : 0 < m.round <;> by_cases h6 : m.round = 0 <;> by_cases h7 : m.pf = 0 <;> by_cases h8 : m.pt = 0 <;> simp [h1, h2, h3, h4, h5, h6, h7, h8, e1, e2] <;> omega)
end Go.Proofs.Ytgmjhnijnpfkgaa
