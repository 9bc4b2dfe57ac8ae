/- The law that all guests must accept, in plain words. -/
import Derived.Test.YtgmjhnijnpfkgaaS4
namespace Go.Proofs.Ytgmjhnijnpfkgaa
open Go.RowKit

theorem answer1_sp (g : G) (a : ByteArray) : answer1_s g.Address g.Answer g.Offer_From g.Offer_To a = some (g.Address.toList == a.toList) := answer1_eq rfl
theorem agreed1_sp (g : G) : agreed1_s g.Address g.Answer g.Offer_From g.Offer_To = some (g.Answer != 1) := agreed1_eq rfl
theorem idxWho_loop (l : List G) (a : ByteArray) (hn : l.length ≤ 9223372036854775807) : ∀ (m k : Nat), k + m = l.length →
    (idxWho_l2 l a l.length k).bind (Sum.elim (fun x => some x.1) (fun _ => some (-1))) = some (gidx (fun g => g.Address.toList == a.toList) k (l.drop k)) := by
  intro m
  induction m with
  | zero =>
    intro k hk
    have : k = l.length := by omega
    subst this
    have h1 : idxWho_l2 l a l.length l.length = some (.inr ((l, a, (l.length : Int), (l.length : Int), false), ())) := idxWho_l2_eq (by
      simp only [idxWho_l2_t, brE_if, gdE_if, EC.decL_encL, EC.isL_encL, EC.encL_length, isE_48, at_48_0, at_48_1, at_48_2, at_48_3]
      simp)
    rw [h1]
    simp [gidx]
  | succ m ih =>
    intro k hk
    have hlt : k < l.length := by omega
    rw [drop_at hlt, gidx]
    have hk' : (k : Int) < (l.length : Int) := by omega
    by_cases hp : (l[k].Address.toList == a.toList) = true
    · have h1 : idxWho_l2 l a l.length k = some (.inl ((k : Int), ())) := idxWho_l2_eq (by
        simp only [idxWho_l2_t, brE_if, gdE_if, EC.decL_encL, EC.isL_encL, EC.encL_length, isE_48, at_48_0, at_48_1, at_48_2, at_48_3, Int.toNat_natCast, getD_in hlt, answer1_sp, Option.bind_some, hp]
        simp [hlt])
      rw [h1, if_pos hp]
      rfl
    · have h2 := ih (k + 1) (by omega)
      cases hz : idxWho_l2 l a l.length ((k + 1 : Nat) : Int) with
      | none => rw [hz] at h2; cases h2
      | some r =>
        have h1 : idxWho_l2 l a l.length k = some r := idxWho_l2_eq (by
          simp only [idxWho_l2_t, brE_if, gdE_if, EC.decL_encL, EC.isL_encL, EC.encL_length, isE_48, at_48_0, at_48_1, at_48_2, at_48_3, Int.toNat_natCast, getD_in hlt, answer1_sp, Option.bind_some, hp, wrap_nat hlt hn, hz]
          simp [hlt])
        rw [if_neg hp, h1]
        rw [hz] at h2
        exact h2
theorem idxWho_sp (l : List G) (a : ByteArray) (hn : l.length ≤ 9223372036854775807) : idxWho_s l a = some (gidx (fun g => g.Address.toList == a.toList) 0 l) := idxWho_eq (by
  have := idxWho_loop l a hn l.length 0 (by omega)
  simp only [idxWho_t, gdE_if, EC.decL_encL, EC.isL_encL, EC.encL_length, if_true]
  exact this)
theorem idxNot_loop (l : List G) (hn : l.length ≤ 9223372036854775807) : ∀ (m k : Nat), k + m = l.length →
    (idxNot_l2 l l.length k).bind (Sum.elim (fun x => some x.1) (fun _ => some (-1))) = some (gidx (fun g => g.Answer != 1) k (l.drop k)) := by
  intro m
  induction m with
  | zero =>
    intro k hk
    have : k = l.length := by omega
    subst this
    have h1 : idxNot_l2 l l.length l.length = some (.inr ((l, (), (l.length : Int), (l.length : Int), false), ())) := idxNot_l2_eq (by
      simp only [idxNot_l2_t, brE_if, gdE_if, EC.decL_encL, EC.isL_encL, EC.encL_length, isE_48, at_48_0, at_48_1, at_48_2, at_48_3]
      simp)
    rw [h1]
    simp [gidx]
  | succ m ih =>
    intro k hk
    have hlt : k < l.length := by omega
    rw [drop_at hlt, gidx]
    have hk' : (k : Int) < (l.length : Int) := by omega
    by_cases hp : (l[k].Answer != 1) = true
    · have h1 : idxNot_l2 l l.length k = some (.inl ((k : Int), ())) := idxNot_l2_eq (by
        simp only [idxNot_l2_t, brE_if, gdE_if, EC.decL_encL, EC.isL_encL, EC.encL_length, isE_48, at_48_0, at_48_1, at_48_2, at_48_3, Int.toNat_natCast, getD_in hlt, agreed1_sp, Option.bind_some, hp]
        simp [hlt])
      rw [h1, if_pos hp]
      rfl
    · have h2 := ih (k + 1) (by omega)
      cases hz : idxNot_l2 l l.length ((k + 1 : Nat) : Int) with
      | none => rw [hz] at h2; cases h2
      | some r =>
        have h1 : idxNot_l2 l l.length k = some r := idxNot_l2_eq (by
          simp only [idxNot_l2_t, brE_if, gdE_if, EC.decL_encL, EC.isL_encL, EC.encL_length, isE_48, at_48_0, at_48_1, at_48_2, at_48_3, Int.toNat_natCast, getD_in hlt, agreed1_sp, Option.bind_some, hp, wrap_nat hlt hn, hz]
          simp [hlt])
        rw [if_neg hp, h1]
        rw [hz] at h2
        exact h2
theorem hasNot_sp (l : List G) (hn : l.length ≤ 9223372036854775807) : hasNot_s l = some (decide (0 ≤ gidx (fun g => g.Answer != 1) 0 l)) := hasNot_eq (by
  have h := idxNot_loop l hn l.length 0 (by omega)
  have h1 : idxNot_s l = some (gidx (fun g => g.Answer != 1) 0 l) := idxNot_eq (by
    simp only [idxNot_t, gdE_if, EC.decL_encL, EC.isL_encL, EC.encL_length, if_true]
    exact h)
  simp only [hasNot_t, gdE_if, EC.decL_encL, EC.isL_encL, if_true, h1, Option.bind_some, ge_iff_le])
def agRes (m : Mtg) : Bool × (Int × Int) := if (mtgFault m).1 = 0 then (!m.can && (decide (0 < m.round) && !decide (0 ≤ gidx (fun g => g.Answer != 1) 0 m.guests)), (0, 0)) else (false, mtgFault m)
theorem Agreed_s (m : Mtg) (hn : m.guests.length ≤ 9223372036854775807) : meeting_Agreed_s m.org m.guests m.round m.pf m.pt m.can = some (agRes m) := meeting_Agreed_eq (by
  simp only [meeting_Agreed_t, brE_if, gdE_if, EC.decL_encL, EC.isL_encL, if_true, validate_s m hn, failed_s, none_s, hasNot_sp m.guests hn, Option.bind_some, beq_t]
  unfold agRes
  by_cases h : (mtgFault m).1 = 0 <;> cases m.can <;> by_cases h2 : 0 < m.round <;> simp [h, h2])
theorem Agreed' (o : ByteArray) (l : List G) (r f t : Int) (c : Bool) (hn : l.length ≤ 9223372036854775807) : meeting_Agreed_s o l r f t c = some (agRes ⟨o, l, r, f, t, c⟩) := Agreed_s ⟨o, l, r, f, t, c⟩ hn
theorem Propose' (o : ByteArray) (l : List G) (r f t : Int) (c : Bool) (x y : Int) (hn : l.length ≤ 9223372036854775807) : meeting_Propose_s o l r f t c x y = some (propOf ⟨o, l, r, f, t, c⟩ x y) := Propose_s ⟨o, l, r, f, t, c⟩ x y hn

/-- a guest accepts -/
theorem accept_s (m : Mtg) (who : ByteArray) (x y : Int) (j : Nat) (hf : (mtgFault m).1 = 0) (hc : m.can = false) (hr : m.round ≠ 0) (hj : gidx (fun g => g.Address.toList == who.toList) 0 m.guests = j) (hlt : j < m.guests.length) :
    meeting_Answer_s m.org m.guests m.round m.pf m.pt m.can who 1 x y = some (((m.org, m.guests.length, m.round, m.pf, m.pt, m.can), (0, 0)), m.guests.set j ⟨m.guests[j].Address, 1, 0, 0⟩) := meeting_Answer_eq (by
  obtain ⟨_, h2, _, _⟩ := fault_ok hf
  have hj' : (j : Int) < (m.guests.length : Int) := by omega
  have hr' : (m.round == 0) = false := by simpa using hr
  have hv := validate_s m (by omega)
  rw [hc] at hv
  have hneg : ¬ ((j : Int) < 0) := by omega
  simp only [meeting_Answer_t, brE_if, gdE_if, EC.decL_encL, EC.isL_encL, EC.encL_length, set_48_1_1, set_48_2_2, lenb_g, if_true, hc, hv, failed_s, none_s, idxWho_sp _ _ (by omega : m.guests.length ≤ 9223372036854775807), clone_s m.guests (by omega), Option.bind_some, beq_t, beq_f, hf, hr', hj, Int.toNat_natCast, List.length_set, bne_self_eq_false, Bool.false_eq_true, if_false, Bool.not_false]
  simp [hlt, hneg, List.set_set, List.getD_eq_getElem?_getD])
end Go.Proofs.Ytgmjhnijnpfkgaa
