/- What the document's functions on meetings answer. -/
import Derived.Test.YtgmjhnijnpfkgaaS2
namespace Go.Proofs.Ytgmjhnijnpfkgaa
open Go.RowKit

theorem at_s (a b : Int) : posthouseref5_At_s a b = some (a, b) := posthouseref5_At_eq rfl
theorem in_s (n lo hi : Int) : posthouseref5_In_s n lo hi = some (decide (lo ≤ n) && decide (n ≤ hi)) := posthouseref5_In_eq (by
  by_cases h : lo ≤ n <;> simp [posthouseref5_In_t, brE_if, h])
theorem instant_s (n : Int) : posthouseref5_Instant_s n = some (timeB n) := posthouseref5_Instant_eq (by
  simp only [posthouseref5_Instant_t, in_s, Option.bind_some]; rfl)
theorem proposable_s (f t : Int) : posthouseref6_Proposable_s f t = some (possB f t) := posthouseref6_Proposable_eq (by
  simp only [posthouseref6_Proposable_t, instant_s, Option.bind_some, brE_if, beq_t, possB]
  cases timeB f <;> cases timeB t <;> simp)
theorem guestAt_loop (l : List G) (a : ByteArray) (hn : l.length ≤ 9223372036854775807) : ∀ (m k : Nat), k + m = l.length →
    (posthouseref6_GuestAt_l2 l a k).bind (Sum.elim (fun x => some x.1) (fun _ => some (-1))) = some (gidx (fun g => g.Address.toList == a.toList) k (l.drop k)) := by
  intro m
  induction m with
  | zero =>
    intro k hk
    have : k = l.length := by omega
    subst this
    have h1 : posthouseref6_GuestAt_l2 l a l.length = some (.inr ((l, a, (l.length : Int), false), ())) := posthouseref6_GuestAt_l2_eq (by
      simp only [posthouseref6_GuestAt_l2_t, brE_if, gdE_if, EC.decL_encL, EC.isL_encL, EC.encL_length, isE_48, at_48_0]
      simp)
    rw [h1]
    simp [gidx]
  | succ m ih =>
    intro k hk
    have hlt : k < l.length := by omega
    rw [drop_at hlt, gidx]
    have hk' : (k : Int) < (l.length : Int) := by omega
    by_cases hp : (l[k].Address.toList == a.toList) = true
    · have h1 : posthouseref6_GuestAt_l2 l a k = some (.inl ((k : Int), ())) := posthouseref6_GuestAt_l2_eq (by
        simp only [posthouseref6_GuestAt_l2_t, brE_if, gdE_if, EC.decL_encL, EC.isL_encL, EC.encL_length, isE_48, at_48_0, Int.toNat_natCast, getD_in hlt, hp]
        simp [hlt])
      rw [h1, if_pos hp]
      rfl
    · have h2 := ih (k + 1) (by omega)
      cases hz : posthouseref6_GuestAt_l2 l a ((k + 1 : Nat) : Int) with
      | none => rw [hz] at h2; cases h2
      | some r =>
        have h1 : posthouseref6_GuestAt_l2 l a k = some r := posthouseref6_GuestAt_l2_eq (by
          simp only [posthouseref6_GuestAt_l2_t, brE_if, gdE_if, EC.decL_encL, EC.isL_encL, EC.encL_length, isE_48, at_48_0, Int.toNat_natCast, getD_in hlt, hp, wrap_nat hlt hn, hz]
          simp [hlt])
        rw [if_neg hp, h1]
        rw [hz] at h2
        exact h2
theorem guestAt_s (l : List G) (a : ByteArray) (hn : l.length ≤ 9223372036854775807) : posthouseref6_GuestAt_s l a = some (gidx (fun g => g.Address.toList == a.toList) 0 l) := posthouseref6_GuestAt_eq (by
  have := guestAt_loop l a hn l.length 0 (by omega)
  simp only [posthouseref6_GuestAt_t, gdE_if, EC.decL_encL, EC.isL_encL, if_true]
  exact this)
/-- a guest's fault, apart from its place -/
def gBad (round : Int) (g : G) : Int :=
  if namedB g.Address = false then 10 else if g.Answer < 0 ∨ 3 < g.Answer then 3
  else if (round = 0 ∧ g.Answer ≠ 0) ∨ (g.Answer = 3 ∧ possB g.Offer_From g.Offer_To = false) ∨ (g.Answer ≠ 3 ∧ ¬ (g.Offer_From = 0 ∧ g.Offer_To = 0)) then 5 else 0
theorem gBad_eq (org : ByteArray) (round : Int) (before : List G) (g : G) : guestBad org round before g = if gBad round g ≠ 0 then gBad round g else if ((g.Address.toList == org.toList) || decide (0 ≤ gidx (fun x => x.Address.toList == g.Address.toList) 0 before)) = true then 7 else 0 := by
  unfold guestBad gBad
  repeat' split
  all_goals first | rfl | (exfalso; simp_all; done) | simp_all
theorem namedI (s : ByteArray) : (decide ((1 : Int) ≤ (s.size : Int)) && decide ((s.size : Int) ≤ 4000)) = namedB s := by
  unfold namedB
  congr 1 <;> exact decide_eq_decide.2 (by omega)
theorem guestFault_s (g : G) (round : Int) : posthouseref6_GuestFault_s g.Address g.Answer g.Offer_From g.Offer_To round = some (gBad round g) := posthouseref6_GuestFault_eq (by
  simp only [posthouseref6_GuestFault_t, brE_if, in_s, namedI, proposable_s, Option.bind_some, beq_t, beq_f]
  unfold gBad
  cases namedB g.Address
  · simp
  by_cases h1 : g.Answer < 0
  · simp [h1, show ¬ (0 ≤ g.Answer) by omega]
  by_cases h2 : 3 < g.Answer
  · simp [h1, h2, show ¬ (g.Answer ≤ 3) by omega]
  have h1' : 0 ≤ g.Answer := by omega
  have h2' : g.Answer ≤ 3 := by omega
  cases possB g.Offer_From g.Offer_To <;> by_cases h3 : g.Answer = 3 <;> by_cases h4 : round = 0 <;> by_cases h5 : g.Answer = 0 <;> by_cases h6 : g.Offer_From = 0 <;> by_cases h7 : g.Offer_To = 0 <;> simp [h1, h2, h1', h2', h3, h4, h5, h6, h7])
theorem mfault_loop (m : Mtg) (a b : Int) (hn : m.guests.length ≤ 9223372036854775807) : ∀ (q k : Nat), k + q = m.guests.length →
    (posthouseref6_MeetingFault_l10 k m.org m.guests m.round m.pf m.pt m.can a b).bind (Sum.elim (fun x => some (x.2.1, x.2.2)) (fun _ => some (0, 0))) = some (gfFrom m.org m.round m.guests k (m.guests.drop k)) := by
  intro q
  induction q with
  | zero =>
    intro k hk
    have : k = m.guests.length := by omega
    subst this
    have h1 : posthouseref6_MeetingFault_l10 m.guests.length m.org m.guests m.round m.pf m.pt m.can a b = some (.inr (((), (), (m.guests.length : Int), false), (m.org, m.guests, m.round, m.pf, m.pt, m.can), (a, b))) := posthouseref6_MeetingFault_l10_eq (by
      simp only [posthouseref6_MeetingFault_l10_t, brE_if, gdE_if, EC.decL_encL, EC.isL_encL, EC.encL_length, isE_48, at_48_0, at_48_1, at_48_2, at_48_3, all_48]
      simp)
    rw [h1]
    simp [gfFrom]
  | succ q ih =>
    intro k hk
    have hlt : k < m.guests.length := by omega
    have hk' : (k : Int) < (m.guests.length : Int) := by omega
    have hk2 : (k : Int) ≤ (m.guests.length : Int) := by omega
    have hlt2 : (m.guests.take k).length ≤ 9223372036854775807 := by simp; omega
    rw [drop_at hlt, gfFrom, gBad_eq]
    have ev : ∀ r, posthouseref6_MeetingFault_l10_t k m.org m.guests m.round m.pf m.pt m.can a b = some r → posthouseref6_MeetingFault_l10 k m.org m.guests m.round m.pf m.pt m.can a b = some r := fun r h => posthouseref6_MeetingFault_l10_eq h
    simp only [posthouseref6_MeetingFault_l10_t, brE_if, gdE_if, EC.decL_encL, EC.isL_encL, EC.encL_length, isE_48, at_48_0, at_48_1, at_48_2, at_48_3, all_48, EC_take, List.drop_zero, Nat.sub_zero, Int.toNat_natCast, getD_in hlt, guestFault_s, guestAt_s _ _ hlt2, at_s, Option.bind_some, beq_f, wrap_nat hlt hn] at ev
    simp only [hlt, hk', hk2, Int.natCast_nonneg, decide_true, Bool.and_self, if_true, ge_iff_le] at ev
    by_cases hp : gBad m.round m.guests[k] = 0
    · have h2 := ih (k + 1) (by omega)
      simp only [hp, bne_self_eq_false, Bool.false_eq_true, if_false, ne_eq, not_true_eq_false] at ev ⊢
      generalize (m.guests[k].Address.toList == m.org.toList) = ho at ev ⊢
      generalize decide (0 ≤ gidx (fun x => x.Address.toList == m.guests[k].Address.toList) 0 (m.guests.take k)) = hs at ev ⊢
      cases ho with
      | true =>
        rw [ev (.inl ((), (7, (k : Int)))) (by simp)]
        simp
      | false =>
        cases hs with
        | true =>
          rw [ev (.inl ((), (7, (k : Int)))) (by simp)]
          simp
        | false =>
          simp only [Bool.not_false, if_true, Bool.false_eq_true, if_false] at ev
          cases hz : posthouseref6_MeetingFault_l10 ((k + 1 : Nat) : Int) m.org m.guests m.round m.pf m.pt m.can a b with
          | none => rw [hz] at h2; cases h2
          | some r =>
            rw [ev r hz]
            rw [hz] at h2
            simpa using h2
    · rw [ev (.inl ((), (gBad m.round m.guests[k], (k : Int)))) (by simp [hp])]
      simp [hp]
theorem mfault_s (m : Mtg) (hn : m.guests.length ≤ 9223372036854775807) : posthouseref6_MeetingFault_s m.org m.guests m.round m.pf m.pt m.can = some (mtgFault m) := posthouseref6_MeetingFault_eq (by
  have hv := mfault_loop m 0 0 hn m.guests.length 0 (by omega)
  rw [List.drop_zero] at hv
  simp only [Int.natCast_zero] at hv
  obtain ⟨r, hr⟩ : ∃ r, posthouseref6_MeetingFault_l10 0 m.org m.guests m.round m.pf m.pt m.can 0 0 = some r := by
    cases hz : posthouseref6_MeetingFault_l10 0 m.org m.guests m.round m.pf m.pt m.can 0 0 with
    | none => rw [hz] at hv; cases hv
    | some r => exact ⟨r, rfl⟩
  rw [hr] at hv
  simp only [Option.bind_some] at hv
  simp only [posthouseref6_MeetingFault_t, brE_if, gdE_if, EC.decL_encL, EC.isL_encL, EC.encL_length, in_s, namedI, at_s, proposable_s, Option.bind_some, beq_t, beq_f, hr, if_true]
  unfold mtgFault
  rw [hv]
  have e1 : ((1 : Int) ≤ (m.guests.length : Int)) ↔ 1 ≤ m.guests.length := by omega
  have e2 : ((m.guests.length : Int) ≤ (30 : Int)) ↔ m.guests.length ≤ 30 := by omega
  cases namedB m.org
  · simp
  by_cases h1 : m.guests.length < 1
  · simp [h1, e1]
  by_cases h2 : 30 < m.guests.length
  · simp [h1, h2, e1, e2, show ¬ (m.guests.length ≤ 30) by omega]
  have h1' : 1 ≤ m.guests.length := by omega
  have h2' : m.guests.length ≤ 30 := by omega
  by_cases h3 : m.round < 0
  · simp [h1, h2, h1', h2', h3, e1, e2, show ¬ (0 ≤ m.round) by omega]
  by_cases h4 : 1000000 < m.round
  · simp [h1, h2, h1', h2', h3, h4, e1, e2, show ¬ (m.round ≤ 1000000) by omega]
  have h3' : 0 ≤ m.round := by omega
  have h4' : m.round ≤ 1000000 := by omega
  cases possB m.pf m.pt <;> by_cases h5 : 0 < m.round <;> by_cases h6 : m.round = 0 <;> by_cases h7 : m.pf = 0 <;> by_cases h8 : m.pt = 0 <;> simp [h1, h2, h1', h2', h3, h4, h3', h4', h5, h6, h7, h8, e1, e2] <;> omega)

theorem ba_refl (a : ByteArray) : (a == a) = true := by
  cases a
  rename_i d
  show ByteArray.beq _ _ = true
  unfold ByteArray.beq
  show (d == d) = true
  simp
theorem same_loop (m : Mtg) (hn : m.guests.length ≤ 9223372036854775807) : ∀ (q k : Nat), k + q = m.guests.length →
    posthouseref6_SameMeeting_l4 k m.org m.guests m.round m.pf m.pt m.can m.org m.guests m.round m.pf m.pt m.can = some (.inr (((), (), (m.guests.length : Int), false), (m.org, m.guests, m.round, m.pf, m.pt, m.can), (m.org, m.guests, m.round, m.pf, m.pt, m.can))) := by
  intro q
  induction q with
  | zero =>
    intro k hk
    have : k = m.guests.length := by omega
    subst this
    refine posthouseref6_SameMeeting_l4_eq ?_
    simp only [posthouseref6_SameMeeting_l4_t, brE_if, gdE_if, EC.decL_encL, EC.isL_encL, EC.encL_length, isE_48, at_48_0, at_48_1, at_48_2, at_48_3]
    simp
  | succ q ih =>
    intro k hk
    have hlt : k < m.guests.length := by omega
    have hk' : (k : Int) < (m.guests.length : Int) := by omega
    refine posthouseref6_SameMeeting_l4_eq ?_
    simp only [posthouseref6_SameMeeting_l4_t, brE_if, gdE_if, EC.decL_encL, EC.isL_encL, EC.encL_length, isE_48, at_48_0, at_48_1, at_48_2, at_48_3, Int.toNat_natCast, getD_in hlt, wrap_nat hlt hn, ih (k + 1) (by omega), ba_refl]
    simp [hlt]
theorem same_s (m : Mtg) (hn : m.guests.length ≤ 9223372036854775807) : posthouseref6_SameMeeting_s m.org m.guests m.round m.pf m.pt m.can m.org m.guests m.round m.pf m.pt m.can = some true := posthouseref6_SameMeeting_eq (by
  have hl := same_loop m hn m.guests.length 0 (by omega)
  simp only [Int.natCast_zero] at hl
  simp only [posthouseref6_SameMeeting_t, brE_if, gdE_if, EC.decL_encL, EC.isL_encL, EC.encL_length, beq_f, if_true, hl, Option.bind_some, Sum.elim_inr]
  simp)
theorem proposed_loop (b0 : ByteArray) (L : List G) (b02 b03 b04 : Int) (b05 : Bool) (b1 b11 : Int) (b2 : ByteArray) (b21 : Nat) (b22 b23 b24 : Int) (b25 : Bool) (b4 : List G) (hn : L.length ≤ 1000000) : ∀ (q k : Nat) (R : List G), R.length = k → k + q = L.length →
    posthouseref6_Proposed_l3 k k b0 L b02 b03 b04 b05 b1 b11 b2 b21 b22 b23 b24 b25 R b4 = some (((), (), (), L.length, (L.length : Int), false), ((b0, L, b02, b03, b04, b05), (b1, b11), (b2, b21, b22, b23, b24, b25), R ++ (L.drop k).map clr, b4)) := by
  intro q
  induction q with
  | zero =>
    intro k R hR hk
    have : k = L.length := by omega
    subst this
    refine posthouseref6_Proposed_l3_eq ?_
    simp only [posthouseref6_Proposed_l3_t, brE_if, gdE_if, EC.decL_encL, EC.isL_encL, EC.encL_length, isE_48, at_48_0, all_48, apd_48]
    simp
  | succ q ih =>
    intro k R hR hk
    have hlt : k < L.length := by omega
    have hk' : (k : Int) < (L.length : Int) := by omega
    refine posthouseref6_Proposed_l3_eq ?_
    simp only [posthouseref6_Proposed_l3_t, brE_if, gdE_if, EC.decL_encL, EC.isL_encL, EC.encL_length, isE_48, at_48_0, all_48, apd_48, Int.toNat_natCast, getD_in hlt, wrap_nat hlt (by omega : L.length ≤ 9223372036854775807), List.all_cons, List.all_nil, List.length_cons, List.length_nil]
    rw [ih (k + 1) _ (by simp [hR]) (by omega)]
    have h1 : (k + (0 + 1)) * 40 ≤ 140737488355328 := by omega
    have h2 : k + (0 + 1) ≤ 9223372036854775807 := by omega
    have e : List.drop k (List.map clr L) = clr L[k] :: List.drop (k + 1) (List.map clr L) := by
      rw [drop_at (by simpa using hlt)]; simp
    simp only [hlt, hk', h1, h2]
    simp [e, clr]
theorem proposed_s (m : Mtg) (f t : Int) (hn : m.guests.length ≤ 1000000) (h0 : 0 ≤ m.round) (h1 : m.round ≤ 1000000) : posthouseref6_Proposed_s m.org m.guests m.round m.pf m.pt m.can f t = some ((m.org, m.guests.length, m.round + 1, f, t, m.can), m.guests.map clr) := posthouseref6_Proposed_eq (by
  have hw : IntKind.i64.wrap (m.round + 1) = m.round + 1 := IntWalk.i64_in _ (by omega)
  have hl := proposed_loop m.org m.guests m.round m.pf m.pt m.can f t ⟨#[]⟩ 0 0 0 0 false [] hn m.guests.length 0 [] rfl (by omega)
  simp only [Int.natCast_zero] at hl
  simp only [posthouseref6_Proposed_t, gdE_if, EC.decL_encL, EC.isL_encL, if_true, EC_nilD]
  rw [hl]
  simp only [Option.bind_some, hw, List.drop_zero, List.nil_append])
theorem agreed_s : posthouselaw6_agreed_s = some true := fS_of (r := true) (Call_fuel (n := 200) (by kernel_rfl))
end Go.Proofs.Ytgmjhnijnpfkgaa
