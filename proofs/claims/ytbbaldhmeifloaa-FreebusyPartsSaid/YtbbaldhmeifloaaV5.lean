/- A union is its own union; what is free and what is busy make up the span: plain words. -/
import Derived.Test.YtbbaldhmeifloaaV4
namespace Go.Proofs.Ytbbaldhmeifloaa
open Go.RowKit

theorem back_loop (l b0 : List Pd) (kk : Nat) (hn : l.length ≤ 1000000) : ∀ (k : Nat) (b1 : List Pd), k ≤ l.length → b1.length + k ≤ l.length →
    ∃ i : Int, posthouselaw6_FreebusyMergeIsStable_l6 l kk b1.length ((k : Int) - 1) b0 b1 = some ((l, kk, (b1 ++ (l.take k).reverse).length, i, false), (b0, b1 ++ (l.take k).reverse)) := by
  intro k
  induction k with
  | zero =>
    intro b1 h1 h2
    refine ⟨-1, posthouselaw6_FreebusyMergeIsStable_l6_eq ?_⟩
    simp only [posthouselaw6_FreebusyMergeIsStable_l6_t, brE_if, gdE_if, EC.decL_encL, EC.isL_encL, EC.encL_length, isE_58, at_58_0, at_58_1, all_58, apd_58]
    simp
  | succ k ih =>
    intro b1 h1 h2
    have hlt : k < l.length := by omega
    obtain ⟨i, hi⟩ := ih (b1 ++ [l[k]]) (by omega) (by simp; omega)
    have e : (l.take (k + 1)).reverse = [l[k]] ++ (l.take k).reverse := by rw [take_at hlt]; simp
    rw [e, ← List.append_assoc]
    refine ⟨i, posthouselaw6_FreebusyMergeIsStable_l6_eq ?_⟩
    have e1 : ((k + 1 : Nat) : Int) - 1 = (k : Int) := by omega
    have ew : IntKind.i64.wrap ((k : Int) - 1) = (k : Int) - 1 := wrap_in (by omega) (by omega)
    have e2 : ({ From := l[k].From, To := l[k].To } : Pd) = l[k] := rfl
    rw [List.length_append] at hi
    simp only [posthouselaw6_FreebusyMergeIsStable_l6_t, brE_if, gdE_if, EC.decL_encL, EC.isL_encL, EC.encL_length, isE_58, at_58_0, at_58_1, all_58, apd_58, e1, ew, e2, Int.toNat_natCast, getD_in hlt, List.length_cons, List.length_nil] at hi ⊢
    simp only [hi]
    simp [hlt]
    omega
theorem nf_loop (l : List Pd) (hn : l.length ≤ 1000000) (hl : NF l) : ∀ (m k : Nat), k + m = l.length →
    (posthouselaw6_FreebusyMergeIsStable_l14 l.length k l).bind (Sum.elim (fun x => some x.1) (fun _ => some true)) = some true := by
  have hft : ∀ (i : Nat) (hi : i < l.length), l[i].From < l[i].To := fun i hi => NF_mem hl (List.getElem_mem hi)
  have hnx : ∀ (i : Nat) (hi : i + 1 < l.length), l[i].To < l[i + 1].From := fun i hi => by
    have e : l = l.take (i + 1) ++ l.drop (i + 1) := (List.take_append_drop _ _).symm
    have h2 := hl
    rw [e] at h2
    refine (NF_append.1 h2).2.2 _ ?_ _ ?_
    · rw [take_at (show i < l.length by omega)]; exact List.mem_append_right _ (List.mem_singleton.2 rfl)
    · rw [drop_at hi]; exact List.mem_cons_self ..
  intro m
  induction m with
  | zero =>
    intro k hk
    have : k = l.length := by omega
    subst this
    have h1 : posthouselaw6_FreebusyMergeIsStable_l14 l.length l.length l = some (.inr ((l.length, (l.length : Int), false), l)) := posthouselaw6_FreebusyMergeIsStable_l14_eq (by
      simp only [posthouselaw6_FreebusyMergeIsStable_l14_t, brE_if, gdE_if, EC.decL_encL, EC.isL_encL, EC.encL_length, at_58_0, at_58_1]
      simp)
    rw [h1]
    rfl
  | succ m ih =>
    intro k hk
    have hlt : k < l.length := by omega
    have hk' : (k : Int) < (l.length : Int) := by omega
    obtain ⟨r, hr, h2⟩ := some_of (ih (k + 1) (by omega))
    have h1 : posthouselaw6_FreebusyMergeIsStable_l14 l.length k l = some r := posthouselaw6_FreebusyMergeIsStable_l14_eq (by
      have hf := hft k hlt
      cases k with
      | zero =>
        simp only [posthouselaw6_FreebusyMergeIsStable_l14_t, brE_if, gdE_if, EC.decL_encL, EC.isL_encL, EC.encL_length, at_58_0, at_58_1, Int.toNat_natCast, getD_in hlt, len_58 l _ hlt, isP1_58 l _ hlt, isPf_58 l _ hlt, wrap_nat hlt (show l.length ≤ 9223372036854775807 by omega), hr]
        simp [hlt, show ¬ l[0].To ≤ l[0].From by omega]
      | succ k =>
        have hlt0 : k < l.length := by omega
        have hx := hnx k hlt
        have ew : IntKind.i64.wrap (((k + 1 : Nat) : Int) - 1) = (k : Int) := by rw [wrap_in (by omega) (by omega)]; omega
        have c0 : (k : Int) < (l.length : Int) := by omega
        have c1 : ((k + 1 : Nat) : Int) > 0 := by omega
        simp only [posthouselaw6_FreebusyMergeIsStable_l14_t, brE_if, gdE_if, EC.decL_encL, EC.isL_encL, EC.encL_length, at_58_0, at_58_1, Int.toNat_natCast, getD_in hlt, getD_in hlt0, ew, len_58 l _ hlt, isP1_58 l _ hlt, isPf_58 l _ hlt, len_58 l _ hlt0, isP1_58 l _ hlt0, wrap_nat hlt (show l.length ≤ 9223372036854775807 by omega), hr]
        simp only [hlt, hlt0, hk', c0, c1, decide_true, Bool.and_self, if_true, Int.natCast_nonneg, beq_self_eq_true, ge_iff_le, show ¬ l[k + 1].To ≤ l[k + 1].From by omega, show ¬ l[k + 1].From ≤ l[k].To by omega, decide_false, Bool.false_eq_true, if_false])
    rw [h1]
    exact h2
theorem unionU_idem (l : List Pd) : unionU (unionU l) = unionU l := unionU_eq (unionU_spec l).1 fun _ => Iff.rfl
theorem unionU_rev (l : List Pd) : unionU l.reverse = unionU l := unionU_eq (unionU_spec l).1 fun x => by
  rw [(unionU_spec l).2]
  exact Inn_perm (List.reverse_perm l).symm x
theorem law_stable (l : List Pd) (hn : l.length ≤ 9223372036854775807) : posthouselaw6_FreebusyMergeIsStable_s l = some true := posthouselaw6_FreebusyMergeIsStable_eq (by
  by_cases h1 : (perFault l).1 = 0
  · obtain ⟨hb, hl, h0⟩ := per_zero h1
    have hu := unionU_length l
    have hub := unionU_bnd hb
    obtain ⟨i, hi⟩ := back_loop l (unionU l) (unionU l).length (by omega) l.length [] (Nat.le_refl _) (by simp)
    rw [List.nil_append, List.take_length] at hi
    simp only [List.length_nil] at hi
    have ew : IntKind.i64.wrap ((l.length : Int) - 1) = (l.length : Int) - 1 := wrap_in (by omega) (by omega)
    have hbr : Bnd l.reverse := fun p hp => hb p (List.mem_reverse.1 hp)
    have p1 : perFault (unionU l) = (0, 0) := per_ok hub (by omega)
    have p2 : perFault l.reverse = (0, 0) := per_ok hbr (by simp; omega)
    have hnf := nf_loop (unionU l) (by omega) (unionU_spec l).1 (unionU l).length 0 (by omega)
    simp only [Int.natCast_zero] at hnf
    obtain ⟨r, hr, h2⟩ := some_of hnf
    simp only [posthouselaw6_FreebusyMergeIsStable_t, brE_if, gdE_if, EC.decL_encL, EC.isL_encL, EC.encL_length, EC_nilD, merge_s l hn, h0, ew, Option.bind_some, if_true, hi, merge_s (unionU l) (by omega), merge_s l.reverse (by simp; omega), p1, p2, unionU_idem, unionU_rev, same_s (unionU l) _ (by omega), sameL_self, hr, united_s, beq_f]
    cases r with
    | inl x => simpa using h2
    | inr x => simp
  · simp only [posthouselaw6_FreebusyMergeIsStable_t, brE_if, gdE_if, EC.decL_encL, EC.isL_encL, EC.encL_length, merge_s l hn, united_s, Option.bind_some, if_true]
    simp [h1])

/-! ### parts -/
theorem sumL_append (x y : List Pd) : sumL (x ++ y) = sumL x + sumL y := by simp [sumL]
theorem sumL_bound : ∀ (l : List Pd), (∀ p ∈ l, 0 ≤ p.To - p.From ∧ p.To - p.From ≤ 1000000000000) → 0 ≤ sumL l ∧ sumL l ≤ 1000000000000 * l.length
  | [], _ => by simp [sumL]
  | p :: l, h => by
    have h1 := sumL_bound l fun q hq => h q (by simp [hq])
    have h2 := h p (by simp)
    have e : sumL (p :: l) = (p.To - p.From) + sumL l := by simp [sumL]
    rw [e, List.length_cons]; omega
theorem free_loop (f t : Int) (kk : Nat) (b1 l : List Pd) (hn : l.length ≤ 1000) (hl : ∀ p ∈ l, 0 ≤ p.To - p.From ∧ p.To - p.From ≤ 1000000000000) : ∀ (m k : Nat), k + m = l.length →
    ∃ i : Int, posthouselaw6_FreebusyParts_l7 f t l.length kk (sumL (l.take k)) k l b1 = some ((f, t, l.length, kk, sumL l, i, false), (l, b1)) := by
  intro m
  induction m with
  | zero =>
    intro k hk
    have : k = l.length := by omega
    subst this
    refine ⟨(l.length : Int), posthouselaw6_FreebusyParts_l7_eq ?_⟩
    simp only [posthouselaw6_FreebusyParts_l7_t, brE_if, gdE_if, EC.decL_encL, EC.isL_encL, EC.encL_length, at_58_0, at_58_1]
    simp
  | succ m ih =>
    intro k hk
    have hlt : k < l.length := by omega
    have hk' : (k : Int) < (l.length : Int) := by omega
    obtain ⟨i, hi⟩ := ih (k + 1) (by omega)
    have hp := hl l[k] (List.getElem_mem hlt)
    have hb := sumL_bound (l.take k) fun q hq => hl q (List.mem_of_mem_take hq)
    rw [List.length_take] at hb
    have e1 : IntKind.i64.wrap (l[k].To - l[k].From) = l[k].To - l[k].From := wrap_in (by omega) (by omega)
    have e2 : IntKind.i64.wrap (sumL (l.take k) + (l[k].To - l[k].From)) = sumL (l.take (k + 1)) := by
      rw [wrap_in (by omega) (by omega), take_at hlt, sumL_append]
      simp [sumL]
    refine ⟨i, posthouselaw6_FreebusyParts_l7_eq ?_⟩
    simp only [posthouselaw6_FreebusyParts_l7_t, brE_if, gdE_if, EC.decL_encL, EC.isL_encL, EC.encL_length, at_58_0, at_58_1, Int.toNat_natCast, getD_in hlt, len_58 l _ hlt, isP1_58 l _ hlt, isPf_58 l _ hlt, e1, e2, wrap_nat hlt (show l.length ≤ 9223372036854775807 by omega), hi]
    simp [hk', hlt]
theorem clip_append (a til : Int) (x y : List Pd) : clip a til (x ++ y) = clip a til x + clip a til y := by simp [clip]
theorem clip_bound (a til : Int) (hs : til - a ≤ 1000000000000) : ∀ (l : List Pd), 0 ≤ clip a til l ∧ clip a til l ≤ 1000000000000 * l.length
  | [] => by simp [clip]
  | p :: l => by
    have h1 := clip_bound a til hs l
    have e : clip a til (p :: l) = max 0 (min p.To til - max p.From a) + clip a til l := by simp [clip]
    rw [e, List.length_cons]; omega
theorem clip_loop (f t s0 : Int) (hs : -68719476736 ≤ f ∧ f ≤ t ∧ t ≤ 68719476736) (hs0 : 0 ≤ s0 ∧ s0 ≤ 1000000000000000) (l : List Pd) (hn : l.length ≤ 1000) (hl : ∀ p ∈ l, -68719476736 ≤ p.From ∧ p.From ≤ 68719476736 ∧ -68719476736 ≤ p.To ∧ p.To ≤ 68719476736) : ∀ (m k : Nat), k + m = l.length →
    ∃ i : Int, posthouselaw6_FreebusyParts_l11 f t l.length (s0 + clip f t (l.take k)) k l = some ((f, t, l.length, s0 + clip f t l, i, false), l) := by
  intro m
  induction m with
  | zero =>
    intro k hk
    have : k = l.length := by omega
    subst this
    refine ⟨(l.length : Int), posthouselaw6_FreebusyParts_l11_eq ?_⟩
    simp only [posthouselaw6_FreebusyParts_l11_t, brE_if, gdE_if, EC.decL_encL, EC.isL_encL, EC.encL_length, at_58_0, at_58_1]
    simp
  | succ m ih =>
    intro k hk
    have hlt : k < l.length := by omega
    have hk' : (k : Int) < (l.length : Int) := by omega
    obtain ⟨i, hi⟩ := ih (k + 1) (by omega)
    have hp := hl l[k] (List.getElem_mem hlt)
    have hb := clip_bound f t (by omega) (l.take k)
    rw [List.length_take] at hb
    have e1 : (if t < l[k].To then t else l[k].To) = min l[k].To t := by split <;> omega
    have e2 : (if l[k].From < f then f else l[k].From) = max l[k].From f := by split <;> omega
    have e3 : IntKind.i64.wrap (min l[k].To t - max l[k].From f) = min l[k].To t - max l[k].From f := wrap_in (by omega) (by omega)
    have ec : clip f t (l.take (k + 1)) = clip f t (l.take k) + max 0 (min l[k].To t - max l[k].From f) := by
      rw [take_at hlt, clip_append]; simp [clip]
    refine ⟨i, posthouselaw6_FreebusyParts_l11_eq ?_⟩
    by_cases hc : min l[k].To t - max l[k].From f > 0
    · have e4 : IntKind.i64.wrap (s0 + clip f t (l.take k) + (min l[k].To t - max l[k].From f)) = s0 + clip f t (l.take (k + 1)) := by
        rw [wrap_in (by omega) (by omega), ec]; omega
      simp only [posthouselaw6_FreebusyParts_l11_t, brE_if, gdE_if, EC.decL_encL, EC.isL_encL, EC.encL_length, at_58_0, at_58_1, Int.toNat_natCast, getD_in hlt, len_58 l _ hlt, isP1_58 l _ hlt, isPf_58 l _ hlt, Bool.false_eq_true, if_false, if_true, e1, e2, e3, e4, wrap_nat hlt (show l.length ≤ 9223372036854775807 by omega), hi, hc, decide_true]
      simp [hk', hlt]
    · have e4 : s0 + clip f t (l.take (k + 1)) = s0 + clip f t (l.take k) := by rw [ec]; omega
      rw [e4] at hi
      simp only [posthouselaw6_FreebusyParts_l11_t, brE_if, gdE_if, EC.decL_encL, EC.isL_encL, EC.encL_length, at_58_0, at_58_1, Int.toNat_natCast, getD_in hlt, len_58 l _ hlt, isP1_58 l _ hlt, isPf_58 l _ hlt, Bool.false_eq_true, if_false, if_true, e1, e2, e3, wrap_nat hlt (show l.length ≤ 9223372036854775807 by omega), hi, hc, decide_false]
      simp [hk', hlt]
theorem gp_length (til len : Int) : ∀ (l : List Pd) (a : Int), (gp til len a l).length ≤ l.length + 1
  | [], a => by simp only [gp]; split <;> simp
  | p :: l, a => by
    have := gp_length til len l (max a p.To)
    rw [gp, List.length_append, List.length_cons]
    split <;> simp <;> omega
theorem law_parts (l : List Pd) (f t : Int) (hn : l.length ≤ 9223372036854775807) : posthouselaw6_FreebusyParts_s l f t = some true := posthouselaw6_FreebusyParts_eq (by
  simp only [posthouselaw6_FreebusyParts_t, brE_if, gdE_if, EC.decL_encL, EC.isL_encL, merge_s l hn, free_s l f t 1 hn, united_s, Option.bind_some, if_true, beq_f, beq_t]
  unfold freeR
  by_cases h1 : (perFault l).1 = 0
  · obtain ⟨hb, hl, h0⟩ := per_zero h1
    by_cases h2 : (spanFault f t).1 = 0
    · obtain ⟨a, b, c, h3⟩ := span_zero h2
      have hu := unionU_length l
      have hub := unionU_bnd hb
      have hnf := (unionU_spec l).1
      have hgl := gp_length t 1 (unionU l) f
      have hgb : ∀ p ∈ gp t 1 f (unionU l), 0 ≤ p.To - p.From ∧ p.To - p.From ≤ 1000000000000 := fun p hp => by
        have := gp_from _ _ p hp
        omega
      have hsum := gp_sum (til := t) (unionU l) f hnf
      have hsb := sumL_bound _ hgb
      obtain ⟨i, hi⟩ := free_loop f t (unionU l).length (unionU l) (gp t 1 f (unionU l)) (by omega) hgb _ 0 (Nat.zero_add _)
      have hbb : ∀ p ∈ unionU l, -68719476736 ≤ p.From ∧ p.From ≤ 68719476736 ∧ -68719476736 ≤ p.To ∧ p.To ≤ 68719476736 := fun p hp => by have := hub p hp; omega
      obtain ⟨j, hj⟩ := clip_loop f t (sumL (gp t 1 f (unionU l))) ⟨a, b, c⟩ (by omega) (unionU l) (by omega) hbb _ 0 (Nat.zero_add _)
      have z1 : sumL ([] : List Pd) = 0 := rfl
      have z2 : clip f t ([] : List Pd) = 0 := rfl
      simp only [List.take_zero, z1, z2, Int.add_zero, Int.natCast_zero] at hi hj
      have hw : IntKind.i64.wrap (t - f) = t - f := wrap_in (by omega) (by omega)
      have hs : sumL (gp t 1 f (unionU l)) + clip f t (unionU l) = t - f := by omega
      simp [h0, h3, hi, hj, hw, hs]
    · simp [h0, h2]
  · simp [h1])
end Go.Proofs.Ytbbaldhmeifloaa
