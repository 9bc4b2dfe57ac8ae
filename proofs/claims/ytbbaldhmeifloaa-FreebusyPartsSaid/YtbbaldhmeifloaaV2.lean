/- What the functions of freebusy and its reference answer: gaps, equal lists, busy instants, bounds, pieces. -/
import Derived.Test.YtbbaldhmeifloaaV1
namespace Go.Proofs.Ytbbaldhmeifloaa
open Go.RowKit

theorem isP1_3 (xs : List Int) (n : Nat) (h : n < xs.length) : isP [.int .i64] 0 ((ec_3.encL xs).getD n []) = true := by rw [EC.getD_lt _ _ h]; rfl
theorem isPf_58 (xs : List Pd) (n : Nat) (h : n < xs.length) : isP [.int .i64] 0 ((ec_58.encL xs).getD n []) = true := by rw [EC.getD_lt _ _ h]; rfl
theorem two_58 (a b : Int) (xs : List Pd) : ec_58.encL xs ++ [[C.int .i64 a, C.int .i64 b]] = ec_58.encL (xs ++ [⟨a, b⟩]) := by simp [EC.encL]; rfl
/-- the gaps, as the loop goes -/
def gpL (til len : Int) : Int → List Pd → List Pd
  | _, [] => []
  | a, p :: l => (if len ≤ min p.From til - a then [⟨a, min p.From til⟩] else []) ++ gpL til len (max a p.To) l
theorem gpL_end (til len : Int) : ∀ (l : List Pd) (a : Int), gpL til len a (l ++ [⟨til, til⟩]) = gp til len a l
  | [], a => by
    simp only [List.nil_append, gpL, gp, List.append_nil]
    rw [show min til til = til by omega]
  | p :: l, a => by
    rw [List.cons_append, gpL, gp, gpL_end til len l]
theorem gpL_length (til len : Int) : ∀ (l : List Pd) (a : Int), (gpL til len a l).length ≤ l.length
  | [], a => by simp [gpL]
  | p :: l, a => by
    have := gpL_length til len l (max a p.To)
    rw [gpL, List.length_append, List.length_cons]
    split <;> simp <;> omega
theorem gaps_loop (til len : Int) (ht : -68719476736 ≤ til ∧ til ≤ 68719476736) (l : List Pd) (hn : l.length ≤ 1000000000) (hl : ∀ p ∈ l, -68719476736 ≤ p.From ∧ p.From ≤ 68719476736 ∧ -68719476736 ≤ p.To ∧ p.To ≤ 68719476736) :
    ∀ (m k : Nat) (a : Int) (b : List Pd), k + m = l.length → b.length ≤ k → -68719476736 ≤ a ∧ a ≤ 68719476736 →
      ∃ r, freebusy_Gaps_l4 til len b.length a l.length l.length k b l = some r ∧ r.1.2.2.1 = (b ++ gpL til len a (l.drop k)).length ∧ r.2.1 = b ++ gpL til len a (l.drop k) := by
  intro m
  induction m with
  | zero =>
    intro k a b hk hb ha
    have : k = l.length := by omega
    subst this
    refine ⟨((til, len, b.length, a, l.length, (l.length : Int), (l.length : Int), false), (b, l)), freebusy_Gaps_l4_eq ?_, ?_, ?_⟩
    · simp only [freebusy_Gaps_l4_t, brE_if, gdE_if, EC.decL_encL, EC.isL_encL, EC.encL_length, at_58_0, at_58_1, all_58, apd_58]
      simp
    · simp [gpL]
    · simp [gpL]
  | succ m ih =>
    intro k a b hk hb ha
    have hlt : k < l.length := by omega
    have hk' : (k : Int) < (l.length : Int) := by omega
    have hp := hl l[k] (List.getElem_mem hlt)
    rw [drop_at hlt, gpL]
    have e1 : (if til < l[k].From then til else l[k].From) = min l[k].From til := by split <;> omega
    have e2 : (if a < l[k].To then l[k].To else a) = max a l[k].To := by split <;> omega
    have e3 : IntKind.i64.wrap (min l[k].From til - a) = min l[k].From til - a := wrap_in (by omega) (by omega)
    by_cases hc : len ≤ min l[k].From til - a
    · obtain ⟨r, hr, h1, h2⟩ := ih (k + 1) (max a l[k].To) (b ++ [⟨a, min l[k].From til⟩]) (by omega) (by simp; omega) (by omega)
      refine ⟨r, freebusy_Gaps_l4_eq ?_, ?_, ?_⟩
      · rw [List.length_append] at hr
        simp only [freebusy_Gaps_l4_t, brE_if, gdE_if, EC.decL_encL, EC.isL_encL, EC.encL_length, at_58_0, at_58_1, all_58, apd_58, Int.toNat_natCast, getD_in hlt, len_58 l k hlt, isP2_58 l k hlt, Bool.false_eq_true, if_true, if_false, e1, e2, e3, wrap_nat hlt (show l.length ≤ 9223372036854775807 by omega), List.length_cons, List.length_nil] at hr ⊢
        simp only [hr]
        simp [hk', hlt, hc]
        omega
      · rw [h1, if_pos hc, List.append_assoc]
      · rw [h2, if_pos hc, List.append_assoc]
    · obtain ⟨r, hr, h1, h2⟩ := ih (k + 1) (max a l[k].To) b (by omega) (by omega) (by omega)
      refine ⟨r, freebusy_Gaps_l4_eq ?_, ?_, ?_⟩
      · simp only [freebusy_Gaps_l4_t, brE_if, gdE_if, EC.decL_encL, EC.isL_encL, EC.encL_length, at_58_0, at_58_1, all_58, apd_58, Int.toNat_natCast, getD_in hlt, len_58 l k hlt, isP2_58 l k hlt, Bool.false_eq_true, if_true, if_false, e1, e2, e3, wrap_nat hlt (show l.length ≤ 9223372036854775807 by omega), hr]
        simp [hk', hlt, hc]
      · rw [h1, if_neg hc, List.nil_append]
      · rw [h2, if_neg hc, List.nil_append]
theorem gaps_s (l : List Pd) (f t len : Int) (hb : Bnd l) (hn : l.length ≤ 100000) (hf : -68719476736 ≤ f ∧ f ≤ 68719476736) (ht : -68719476736 ≤ t ∧ t ≤ 68719476736) :
    freebusy_Gaps_s l f t len = some ((gp t len f (unionU l)).length, gp t len f (unionU l)) := freebusy_Gaps_eq (by
  have hu := unionU_length l
  have hub := unionU_bnd hb
  have hS : unionS l = some ((unionU l).length, unionU l) := by unfold unionS; rw [if_pos (by omega)]
  generalize unionU l = u at *
  have hall : ∀ p ∈ u ++ [(⟨t, t⟩ : Pd)], -68719476736 ≤ p.From ∧ p.From ≤ 68719476736 ∧ -68719476736 ≤ p.To ∧ p.To ≤ 68719476736 := by
    intro p hp
    rcases List.mem_append.1 hp with h | h
    · have := hub p h; omega
    · simp at h; subst h; exact ⟨ht.1, ht.2, ht.1, ht.2⟩
  obtain ⟨r, hr, h1, h2⟩ := gaps_loop t len ht (u ++ [(⟨t, t⟩ : Pd)]) (by simp; omega) hall (u ++ [(⟨t, t⟩ : Pd)]).length 0 f [] (by omega) (by simp) hf
  rw [List.drop_zero, List.nil_append, gpL_end] at h1 h2
  rw [List.length_append] at hr
  simp only [List.length_nil, Int.natCast_zero, List.length_cons] at hr
  simp only [freebusy_Gaps_t, gdE_if, EC.decL_encL, EC.isL_encL, all_58, apd_58, EC_nilD, hS, Option.bind_some, if_true, List.length_cons, List.length_nil, hr, h1, h2]
  simp
  omega)
instance : DecidableEq Pd := fun a b => decidable_of_iff (a.From = b.From ∧ a.To = b.To) (by cases a; cases b; simp)
def sameL (a b : List Pd) : Bool := decide (a = b)
theorem same_loop (a b : List Pd) (hn : a.length ≤ 9223372036854775807) (hl : a.length = b.length) : ∀ (m k : Nat), k + m = a.length →
    (posthouseref6_SamePeriods_l4 a b k).bind (Sum.elim (fun x => some x.1) (fun _ => some true)) = some (sameL (a.drop k) (b.drop k)) := by
  intro m
  induction m with
  | zero =>
    intro k hk
    have : k = a.length := by omega
    subst this
    have h1 : posthouseref6_SamePeriods_l4 a b a.length = some (.inr ((a, b, (a.length : Int), false), ())) := posthouseref6_SamePeriods_l4_eq (by
      simp only [posthouseref6_SamePeriods_l4_t, brE_if, gdE_if, EC.decL_encL, EC.isL_encL, EC.encL_length, isE_58, at_58_0, at_58_1]
      simp)
    rw [h1]
    have : b.drop a.length = [] := by rw [hl]; simp
    simp [sameL, this]
  | succ m ih =>
    intro k hk
    have hlt : k < a.length := by omega
    have hlt' : k < b.length := by omega
    have hk' : (k : Int) < (a.length : Int) := by omega
    rw [drop_at hlt, drop_at hlt']
    by_cases hp : a[k] = b[k]
    · obtain ⟨r, hr, h2⟩ := some_of (ih (k + 1) (by omega))
      have h1 : posthouseref6_SamePeriods_l4 a b k = some r := posthouseref6_SamePeriods_l4_eq (by
        simp only [posthouseref6_SamePeriods_l4_t, brE_if, gdE_if, EC.decL_encL, EC.isL_encL, EC.encL_length, isE_58, at_58_0, at_58_1, Int.toNat_natCast, getD_in hlt, getD_in hlt', wrap_nat hlt hn, hr, hp]
        simp [hk', hlt, hlt'])
      rw [h1]
      have : sameL (a[k] :: a.drop (k + 1)) (b[k] :: b.drop (k + 1)) = sameL (a.drop (k + 1)) (b.drop (k + 1)) := by simp only [sameL, hp, List.cons.injEq, true_and]
      rw [this]
      exact h2
    · have h1 : posthouseref6_SamePeriods_l4 a b k = some (.inl (false, ())) := posthouseref6_SamePeriods_l4_eq (by
        have hp' : ¬ (a[k].From = b[k].From ∧ a[k].To = b[k].To) := fun h => hp (by
          cases ha : a[k]; cases hb : b[k]; simp_all)
        simp only [posthouseref6_SamePeriods_l4_t, brE_if, gdE_if, EC.decL_encL, EC.isL_encL, EC.encL_length, isE_58, at_58_0, at_58_1, Int.toNat_natCast, getD_in hlt, getD_in hlt']
        simp [hk', hlt, hlt']
        intro h h'; exact absurd ⟨h, h'⟩ hp')
      rw [h1]
      have : sameL (a[k] :: a.drop (k + 1)) (b[k] :: b.drop (k + 1)) = false := by simp only [sameL, List.cons.injEq, hp, false_and, decide_false]
      rw [this]
      rfl
theorem same_s (a b : List Pd) (hn : a.length ≤ 9223372036854775807) : posthouseref6_SamePeriods_s a b = some (sameL a b) := posthouseref6_SamePeriods_eq (by
  by_cases hl : a.length = b.length
  · obtain ⟨r, hr, h⟩ := some_of (same_loop a b hn hl a.length 0 (by omega))
    rw [List.drop_zero, List.drop_zero] at h
    simp only [Int.natCast_zero] at hr
    simp only [posthouseref6_SamePeriods_t, brE_if, gdE_if, EC.decL_encL, EC.isL_encL, EC.encL_length, hr, Option.bind_some, if_true]
    simp [hl]
    exact h
  · have : ¬ (a.length : Int) = (b.length : Int) := by omega
    have h2 : ¬ a = b := fun e => hl (by rw [e])
    simp [posthouseref6_SamePeriods_t, brE_if, this, sameL, h2])
end Go.Proofs.Ytbbaldhmeifloaa
