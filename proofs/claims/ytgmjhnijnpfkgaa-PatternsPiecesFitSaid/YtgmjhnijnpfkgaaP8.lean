/- The law PatternsPiecesFit returns true. -/
import Derived.Test.YtgmjhnijnpfkgaaP7
namespace Go.Proofs.Ytgmjhnijnpfkgaa
open Go.RowKit

theorem elems_cons {b : UInt8} {l : List UInt8} (h : nb b ≠ 92) : elems (b :: l) = (elems l).map (el1 b :: ·) := by
  cases l with
  | nil =>
    by_cases h1 : nb b = 42
    · simp [elems, el1, h1]
    · by_cases h2 : nb b = 63
      · simp [elems, el1, h2]
      · simp [elems, el1, h, h1, h2]
  | cons c l =>
    rw [elems]
    unfold el1
    split
    · rfl
    · split <;> rfl
theorem elems_esc {b c : UInt8} {l : List UInt8} (h : nb b = 92) : elems (b :: c :: l) = (elems l).map (⟨false, false, nb c⟩ :: ·) := by
  rw [elems]; simp [h]
theorem drop_cons_get {α : Type} {l : List α} {k : Nat} {x : α} {r : List α} (h : l.drop k = x :: r) : k < l.length ∧ (∀ d, l.getD k d = x) ∧ l.drop (k + 1) = r := by
  have hk : k < l.length := by
    rcases Nat.lt_or_ge k l.length with h' | h'
    · exact h'
    · rw [List.drop_eq_nil_of_le h'] at h; cases h
  rw [drop_at hk] at h
  injection h with h1 h2
  exact ⟨hk, fun d => by rw [getD_in hk]; exact h1, h2⟩
set_option maxHeartbeats 2000000 in
theorem fit_loop (p t : ByteArray) (hp : p.size ≤ 1000) (ht : t.size ≤ 10000) (b0 : List ByteArray) (hb0 : b0.length ≤ 1000) : ∀ (m i k a : Nat) (E : List El), p.size - i ≤ m → i ≤ p.size → a ≤ t.size → k ≤ b0.length → elems ((L p).drop i) = some E → canM E ((L t).drop a) = true → b0.drop k = (pieces E ((L t).drop a)).map toBA →
    ∃ i', posthouselaw6_PatternsPiecesFit_l7 p t b0.length k a i b0 = some (.inr ((p, t, b0.length, (b0.length : Int), (t.size : Int), i', false), b0)) := by
  intro m
  have hLp := L_len p
  have hLt := L_len t
  induction m with
  | zero =>
    intro i k a E hm hi ha hk hE hc hb
    obtain rfl : i = p.size := by omega
    rw [List.drop_eq_nil_of_le (by omega)] at hE
    injection hE with hE; subst hE
    rw [canM, List.isEmpty_iff, List.drop_eq_nil_iff] at hc
    obtain rfl : a = t.size := by omega
    have : b0.drop k = [] := hb
    rw [List.drop_eq_nil_iff] at this
    obtain rfl : k = b0.length := by omega
    refine ⟨(p.size : Int), posthouselaw6_PatternsPiecesFit_l7_eq ?_⟩
    simp only [posthouselaw6_PatternsPiecesFit_l7_t, brE_if, gdE_if, EC.decL_encL, EC.isL_encL, EC.encL_length, at_9_0]
    simp
  | succ m ih =>
    intro i k a E hm hi ha hk hE hc hb
    rcases Nat.lt_or_ge i p.size with hlt | hge
    case inr => exact ih i k a E (by omega) hi ha hk hE hc hb
    have hiL : i < (L p).length := by omega
    have hat := at_L p hiL
    rw [drop_at hiL] at hE
    generalize (L p)[i]'hiL = b at hat hE
    have h1 : (i : Int) < (p.size : Int) := by omega
    have hw := wrap_nat hlt (by omega)
    have one : ∀ (e : El) (E' : List El), e.many = false → canM (e :: E') ((L t).drop a) = true → a < t.size ∧ canM E' ((L t).drop (a + 1)) = true := by
      intro e E' he h
      obtain ⟨x, y⟩ := (canM_one he a).1 h
      refine ⟨?_, y⟩
      rcases Nat.lt_or_ge a t.size with h' | h'
      · exact h'
      · rw [List.getElem?_eq_none (by omega)] at x; cases x
    by_cases h92 : nb b = 92
    · have b1 : (nb b == 92) = true := by simpa using h92
      cases hd : (L p).drop (i + 1) with
      | nil => rw [hd] at hE; simp [elems, h92] at hE
      | cons c l' =>
        obtain ⟨q1, _, q3⟩ := drop_cons_get hd
        rw [hd, elems_esc h92] at hE
        cases hE' : elems l' with
        | none => rw [hE'] at hE; cases hE
        | some E' =>
          rw [hE'] at hE
          injection hE with hE; subst hE
          obtain ⟨ha', hc'⟩ := one _ E' rfl hc
          have hb' : b0.drop k = (pieces E' ((L t).drop (a + 1))).map toBA := by
            rw [hb, pieces]; simp [List.drop_drop]
          obtain ⟨i', h⟩ := ih (i + 1 + 1) k (a + 1) E' (by omega) (by omega) (by omega) hk (by rw [q3]; exact hE') hc' hb'
          have hw2 := wrap_nat (k := i + 1) (n := p.size) (by omega) (by omega)
          have hwa := wrap_nat ha' (by omega)
          refine ⟨i', posthouselaw6_PatternsPiecesFit_l7_eq ?_⟩
          simp only [posthouselaw6_PatternsPiecesFit_l7_t, brE_if, gdE_if, EC.decL_encL, EC.isL_encL, EC.encL_length, at_9_0, Int.toNat_natCast, h1, hlt, hat, b1, hw, hw2, hwa, h, decide_true, if_true, Bool.and_self, Int.natCast_nonneg]
    have b1 : (nb b == 92) = false := by simpa using h92
    rw [elems_cons h92] at hE
    cases hE' : elems ((L p).drop (i + 1)) with
    | none => rw [hE'] at hE; cases hE
    | some E' =>
      rw [hE'] at hE
      injection hE with hE; subst hE
      -- a piece
      have piece : ∀ (n : Nat), a + n ≤ t.size → b0.drop k = toBA (((L t).drop a).take n) :: (pieces E' ((L t).drop (a + n))).map toBA → canM E' ((L t).drop (a + n)) = true →
          ∃ x i', k < b0.length ∧ (∀ d, b0.getD k d = x) ∧ x.size = n ∧ (L (t.extract a (a + n)) == L x) = true ∧ posthouselaw6_PatternsPiecesFit_l7 p t b0.length ((k + 1 : Nat) : Int) ((a + n : Nat) : Int) ((i + 1 : Nat) : Int) b0 = some (.inr ((p, t, b0.length, (b0.length : Int), (t.size : Int), i', false), b0)) := by
        intro n hn hbb hcc
        obtain ⟨q1, q2, q3⟩ := drop_cons_get hbb
        obtain ⟨i', h⟩ := ih (i + 1) (k + 1) (a + n) E' (by omega) (by omega) hn (by omega) hE' hcc q3
        refine ⟨_, i', q1, q2, ?_, ?_, h⟩
        · rw [← L_len]; show (((L t).drop a).take n).length = n
          rw [List.length_take, List.length_drop]; omega
        · rw [L_ext, show a + n - a = n by omega]
          exact beq_self_eq_true _
      by_cases h42 : nb b = 42
      · have b2 : (nb b == 42) = true := by simpa using h42
        have b3 : (nb b == 63) = false := by simp [h42]
        have he : el1 b = star := by simp [el1, h42, star]
        rw [he] at hc hb
        obtain ⟨s1, s2⟩ := skip_ok hc
        rw [List.length_drop] at s2
        rw [List.drop_drop] at s1
        rw [pieces, List.drop_drop] at hb
        obtain ⟨x, i', q1, q2, q3, q4, h⟩ := piece (skip E' ((L t).drop a)) (by omega) hb s1
        generalize skip E' ((L t).drop a) = n at *
        have hkl : ¬ ((k : Int) ≥ (b0.length : Int)) := by omega
        have hkl' : (k : Int) < (b0.length : Int) := by omega
        have hwk := wrap_nat (k := k) (n := b0.length) q1 (by omega)
        have hwn : IntKind.i64.wrap ((a : Int) + (n : Int)) = ((a + n : Nat) : Int) := by rw [IntWalk.i64_in _ (by omega)]; omega
        have hg1 : ¬ (((a + n : Nat) : Int) > (t.size : Int)) := by omega
        have hg2 : ((a + n : Nat) : Int) ≤ (t.size : Int) := by omega
        have hg3 : (a : Int) ≤ ((a + n : Nat) : Int) := by omega
        have hg4 : (0 : Int) ≤ ((a + n : Nat) : Int) := by omega
        refine ⟨i', posthouselaw6_PatternsPiecesFit_l7_eq ?_⟩
        simp only [posthouselaw6_PatternsPiecesFit_l7_t, brE_if, gdE_if, EC.decL_encL, EC.isL_encL, EC.encL_length, at_9_0, Int.toNat_natCast, h1, hlt, hat, b1, b2, b3, hw, hkl, hkl', q1, q2, q3, q4, toList_L, hwk, hwn, hg1, hg2, hg3, hg4, h, isP_s b0 k q1, len_9 b0 k q1, beq_t, beq_f, beq_self_eq_true, decide_true, decide_false, Bool.not_true, if_true, Bool.and_self, Int.natCast_nonneg, Bool.false_eq_true, if_false]
      have b2 : (nb b == 42) = false := by simpa using h42
      by_cases h63 : nb b = 63
      · have b3 : (nb b == 63) = true := by simpa using h63
        have he : el1 b = ⟨true, false, 0⟩ := by simp [el1, h63]
        rw [he] at hc hb
        obtain ⟨ha', hc'⟩ := one _ E' rfl hc
        have hb : b0.drop k = toBA (((L t).drop a).take 1) :: (pieces E' ((L t).drop (a + 1))).map toBA := by rw [hb, pieces]; simp [List.drop_drop]
        obtain ⟨x, i', q1, q2, q3, q4, h⟩ := piece 1 (by omega) hb hc'
        have hkl : ¬ ((k : Int) ≥ (b0.length : Int)) := by omega
        have hkl' : (k : Int) < (b0.length : Int) := by omega
        have hwk := wrap_nat (k := k) (n := b0.length) q1 (by omega)
        have hwn : IntKind.i64.wrap ((a : Int) + ((1 : Nat) : Int)) = ((a + 1 : Nat) : Int) := by rw [IntWalk.i64_in _ (by omega)]; omega
        have hg1 : ¬ (((a + 1 : Nat) : Int) > (t.size : Int)) := by omega
        have hg2 : ((a + 1 : Nat) : Int) ≤ (t.size : Int) := by omega
        have hg3 : (a : Int) ≤ ((a + 1 : Nat) : Int) := by omega
        have hg4 : (0 : Int) ≤ ((a + 1 : Nat) : Int) := by omega
        have hg5 : (((1 : Nat) : Int) != 1) = false := rfl
        refine ⟨i', posthouselaw6_PatternsPiecesFit_l7_eq ?_⟩
        simp only [posthouselaw6_PatternsPiecesFit_l7_t, brE_if, gdE_if, EC.decL_encL, EC.isL_encL, EC.encL_length, at_9_0, Int.toNat_natCast, h1, hlt, hat, b1, b2, b3, hw, hkl, hkl', q1, q2, q3, q4, toList_L, hwk, hwn, hg1, hg2, hg3, hg4, hg5, h, isP_s b0 k q1, len_9 b0 k q1, beq_self_eq_true, decide_true, decide_false, Bool.not_true, if_true, Bool.and_self, Int.natCast_nonneg, Bool.false_eq_true, if_false]
      · have b3 : (nb b == 63) = false := by simpa using h63
        have he : el1 b = ⟨false, false, nb b⟩ := by simp [el1, h42, h63]
        rw [he] at hc hb
        obtain ⟨ha', hc'⟩ := one _ E' rfl hc
        have hb' : b0.drop k = (pieces E' ((L t).drop (a + 1))).map toBA := by
          rw [hb, pieces]; simp [List.drop_drop]
        obtain ⟨i', h⟩ := ih (i + 1) k (a + 1) E' (by omega) (by omega) (by omega) hk hE' hc' hb'
        have hwa := wrap_nat ha' (by omega)
        refine ⟨i', posthouselaw6_PatternsPiecesFit_l7_eq ?_⟩
        simp only [posthouselaw6_PatternsPiecesFit_l7_t, brE_if, gdE_if, EC.decL_encL, EC.isL_encL, EC.encL_length, at_9_0, Int.toNat_natCast, h1, hlt, hat, b1, b2, b3, hw, hwa, h, beq_t, beq_f, decide_true, Bool.not_false, if_true, Bool.and_self, Int.natCast_nonneg, Bool.false_eq_true, if_false]
theorem law_pieces (p t : ByteArray) (hp : p.size ≤ 140737488351232) (ht : t.size ≤ 140737488351232) : posthouselaw6_PatternsPiecesFit_s p t = some true := posthouselaw6_PatternsPiecesFit_eq (by
  simp only [posthouselaw6_PatternsPiecesFit_t, brE_if, gdE_if, EC.decL_encL, EC.isL_encL, match_s 3 p t (by omega) (by omega), lmatched_sp, Option.bind_some]
  by_cases hf : faultP 3 p = (0, 0)
  · have hps : p.size ≤ 200 ∧ ¬ tr (L p) % 2 = 1 := by
      unfold faultP at hf
      split at hf
      · cases hf
      · split at hf
        · cases hf
        · split at hf
          · cases hf
          · rename_i a b c; exact ⟨by omega, fun h => c ⟨rfl, h⟩⟩
    by_cases h4 : 4000 < t.size
    · simp [matchR, hf, h4]
    · have hm3 : matchedR 3 (L p) (L t) = wildR (elems2 (L p)) (L t) := by simp [matchedR]
      cases hcm : canM (elems2 (L p)) (L t) with
      | false => simp [matchR, hf, h4, hm3, wildR, hcm]
      | true =>
        cases hE : elems (L p) with
        | none => exact absurd ((elems_tr (L p)).1 (by rw [hE]; rfl)) hps.2
        | some E =>
          have hEE := elems_elems2 hE
          have R : matchR 3 p t = ((true, ((pieces E (L t)).map toBA).length, (0, 0)), (pieces E (L t)).map toBA) := by
            rw [← hEE] at hm3 hcm
            simp [matchR, hf, h4, hm3, wildR, hcm]
          have hpl := pieces_le E (L t)
          have hel := elems2_le (L p)
          rw [← hEE, L_len] at hel
          obtain ⟨i', h⟩ := fit_loop p t (by omega) (by omega) ((pieces E (L t)).map toBA) (by simp; omega) p.size 0 0 0 E (by omega) (by omega) (by omega) (by omega) (by rw [List.drop_zero]; exact hE) (by rw [List.drop_zero, hEE]; exact hcm) (by rw [List.drop_zero, List.drop_zero])
          have h' : posthouselaw6_PatternsPiecesFit_l7 p t ((pieces E (L t)).map toBA).length (0 : Int) (0 : Int) (0 : Int) ((pieces E (L t)).map toBA) = _ := h
          simp only [R, h', Option.bind_some, Sum.elim_inr, beq_self_eq_true, if_true, Bool.not_true, Bool.false_eq_true, if_false, bne_self_eq_false]
  · have h1 : (faultP 3 p).1 ≠ 0 := by
      unfold faultP at hf ⊢
      split
      · decide
      · split
        · decide
        · split
          · exact (by decide : (11 : Int) ≠ 0)
          · rename_i a b c; rw [if_neg a, if_neg b, if_neg c] at hf; exact absurd rfl hf
    simp [matchR, hf, h1])
end Go.Proofs.Ytgmjhnijnpfkgaa
