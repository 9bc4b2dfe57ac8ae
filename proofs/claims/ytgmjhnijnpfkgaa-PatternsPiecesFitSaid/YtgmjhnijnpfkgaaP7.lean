/- The law PatternsWithStars returns true. -/
import Derived.Test.YtgmjhnijnpfkgaaP6
namespace Go.Proofs.Ytgmjhnijnpfkgaa
open Go.RowKit

def star : El := ⟨false, true, 0⟩
def lits (p : List UInt8) : List El := p.map fun b => ⟨false, false, nb b⟩
theorem elems2_lits : ∀ (p : List UInt8), (∀ b ∈ p, nb b ≠ 42 ∧ nb b ≠ 63 ∧ nb b ≠ 92) → elems2 (p ++ [42]) = lits p ++ [star]
  | [], _ => by
    have h : nb 42 = 42 := rfl
    simp [elems2, el1, lits, star, h]
  | b :: p, h => by
    obtain ⟨h1, h2, h3⟩ := h b (by simp)
    rw [List.cons_append, elems2_one (.inl h3), elems2_lits p (fun b hb => h b (by simp [hb]))]
    simp [el1, h1, h2, lits]
theorem elems2_stars (p : List UInt8) (h : ∀ b ∈ p, nb b ≠ 42 ∧ nb b ≠ 63 ∧ nb b ≠ 92) : elems2 (42 :: (p ++ [42])) = star :: (lits p ++ [star]) := by
  have h0 : nb 42 = 42 := rfl
  rw [elems2_one (.inl (by rw [h0]; decide)), elems2_lits p h]
  simp [el1, star, h0]
theorem canM_star (T : List UInt8) : canM [star] T = true := by
  induction T with
  | nil => rw [canM, canM]; rfl
  | cons b T ih => rw [canM]; simp [star]; right; exact ih
theorem canM_lits : ∀ (p T : List UInt8), canM (lits p ++ [star]) T = (lowL p).isPrefixOf (lowL T)
  | [], T => by
    have : lits [] ++ [star] = [star] := rfl
    rw [this, canM_star]; simp [lowL]
  | b :: p, [] => by
    have e : lits (b :: p) ++ [star] = ⟨false, false, nb b⟩ :: (lits p ++ [star]) := rfl
    rw [e, canM]; rfl
  | b :: p, c :: T => by
    have e : lits (b :: p) ++ [star] = ⟨false, false, nb b⟩ :: (lits p ++ [star]) := rfl
    rw [e, canM, canM_lits p T]
    have h1 : lowL (b :: p) = lowB b :: lowL p := rfl
    have h2 : lowL (c :: T) = lowB c :: lowL T := rfl
    rw [h1, h2, List.isPrefixOf_cons_cons, lowB_eq]
    simp [fitB]
theorem canM_stars (p : List UInt8) : ∀ (T : List UInt8), canM (star :: (lits p ++ [star])) T = contR (lowL T) (lowL p)
  | [] => by
    rw [canM, canM_lits]
    have : lowL ([] : List UInt8) = [] := rfl
    rw [this, contR]
    cases lowL p <;> simp [star]
  | b :: T => by
    have h2 : lowL (b :: T) = lowB b :: lowL T := rfl
    have hc : contR (lowL (b :: T)) (lowL p) = ((lowL p).isPrefixOf (lowL (b :: T)) || contR (lowL T) (lowL p)) := rfl
    rw [canM, canM_lits, canM_stars p T, hc]
    simp [star]
theorem skip_nil : ∀ (T : List UInt8), skip [] T = T.length
  | [] => rfl
  | b :: T => by rw [skip, skip_nil T]; simp [canM]
theorem pieces_lits : ∀ (p T : List UInt8), pieces (lits p ++ [star]) T = [T.drop p.length]
  | [], T => by
    have : lits [] ++ [star] = [star] := rfl
    rw [this, pieces, skip_nil]
    simp [star, pieces]
  | b :: p, T => by
    have e : lits (b :: p) ++ [star] = ⟨false, false, nb b⟩ :: (lits p ++ [star]) := rfl
    rw [e, pieces, pieces_lits p (T.drop 1)]
    simp []
theorem skip_ok {E : List El} : ∀ {T : List UInt8}, canM (star :: E) T = true → canM E (T.drop (skip E T)) = true ∧ skip E T ≤ T.length
  | [], h => by
    rw [canM] at h
    rw [skip]
    exact ⟨by simpa [star] using h, Nat.le_refl _⟩
  | b :: T, h => by
    rw [skip]
    by_cases hc : canM E (b :: T) = true
    · rw [if_pos hc]; exact ⟨hc, Nat.zero_le _⟩
    · rw [if_neg hc]
      rw [canM] at h
      have h' : canM (star :: E) T = true := by simpa [star, hc] using h
      have := skip_ok h'
      exact ⟨by simpa using this.1, by simp; exact this.2⟩
theorem stars_loop (p t : ByteArray) (hp : p.size ≤ 9223372036854775806) : ∀ (m k : Nat), k + m = p.size → (∃ r, posthouselaw6_PatternsWithStars_l2 p t k = some r ∧ ((r = .inl (true, ())) ∨ (∃ i, r = .inr ((p, t, i, false), ())) ∧ ∀ b ∈ (L p).drop k, nb b ≠ 42 ∧ nb b ≠ 63 ∧ nb b ≠ 92)) := by
  intro m
  have hL := L_len p
  induction m with
  | zero =>
    intro k hk
    obtain rfl : k = p.size := by omega
    refine ⟨.inr ((p, t, (p.size : Int), false), ()), posthouselaw6_PatternsWithStars_l2_eq (by
      simp only [posthouselaw6_PatternsWithStars_l2_t, brE_if]
      simp), .inr ⟨⟨_, rfl⟩, ?_⟩⟩
    rw [List.drop_eq_nil_of_le (by omega)]
    simp
  | succ m ih =>
    intro k hk
    obtain ⟨r, hr, hv⟩ := ih (k + 1) (by omega)
    have hlt : k < (L p).length := by omega
    have hat := at_L p hlt
    rw [drop_at hlt]
    generalize (L p)[k]'hlt = b at hat ⊢
    have h1 : (k : Int) < (p.size : Int) := by omega
    have h2 : k < p.size := by omega
    have hw := wrap_nat h2 (by omega)
    by_cases h42 : nb b = 42
    · have b1 : (nb b == 42) = true := by simpa using h42
      exact ⟨.inl (true, ()), posthouselaw6_PatternsWithStars_l2_eq (by
        simp only [posthouselaw6_PatternsWithStars_l2_t, brE_if, gdE_if, Int.toNat_natCast, h1, h2, hat, b1, beq_f, lmatched_sp, Option.bind_some, decide_true, if_true, Bool.and_self, Int.natCast_nonneg, Bool.not_true, Bool.false_eq_true, if_false]), .inl rfl⟩
    have b1 : (nb b == 42) = false := by simpa using h42
    by_cases h63 : nb b = 63
    · have b2 : (nb b == 63) = true := by simpa using h63
      exact ⟨.inl (true, ()), posthouselaw6_PatternsWithStars_l2_eq (by
        simp only [posthouselaw6_PatternsWithStars_l2_t, brE_if, gdE_if, Int.toNat_natCast, h1, h2, hat, b1, b2, beq_f, lmatched_sp, Option.bind_some, decide_true, if_true, Bool.and_self, Int.natCast_nonneg, Bool.not_true, Bool.not_false, Bool.false_eq_true, if_false]), .inl rfl⟩
    have b2 : (nb b == 63) = false := by simpa using h63
    by_cases h92 : nb b = 92
    · have b3 : (nb b == 92) = true := by simpa using h92
      exact ⟨.inl (true, ()), posthouselaw6_PatternsWithStars_l2_eq (by
        simp only [posthouselaw6_PatternsWithStars_l2_t, brE_if, gdE_if, Int.toNat_natCast, h1, h2, hat, b1, b2, b3, beq_f, lmatched_sp, Option.bind_some, decide_true, if_true, Bool.and_self, Int.natCast_nonneg, Bool.not_false]), .inl rfl⟩
    have b3 : (nb b == 92) = false := by simpa using h92
    refine ⟨r, posthouselaw6_PatternsWithStars_l2_eq (by
        simp only [posthouselaw6_PatternsWithStars_l2_t, brE_if, gdE_if, Int.toNat_natCast, h1, h2, hat, b1, b2, b3, hw, hr, beq_f, decide_true, if_true, Bool.and_self, Int.natCast_nonneg, Bool.not_false, Bool.false_eq_true, if_false]), ?_⟩
    rcases hv with h | ⟨hi, hall⟩
    · exact .inl h
    · refine .inr ⟨hi, fun c hc => ?_⟩
      rcases List.mem_cons.1 hc with h | h
      · subst h; exact ⟨h42, h63, h92⟩
      · exact hall c h
theorem L_app (a b : ByteArray) : L (a ++ b) = L a ++ L b := by simp [L]
theorem size_app (a b : ByteArray) : (a ++ b).size = a.size + b.size := by rw [← L_len, L_app, List.length_append, L_len, L_len]
theorem i64max : IntKind.max .i64 = 9223372036854775807 := rfl
set_option maxHeartbeats 1000000 in
theorem law_stars (p t : ByteArray) (hp : p.size ≤ 140737488351232) (ht : t.size ≤ 140737488351232) : posthouselaw6_PatternsWithStars_s p t = some true := posthouselaw6_PatternsWithStars_eq (by
  obtain ⟨r, hr, hv⟩ := stars_loop p t (by omega) p.size 0 (by omega)
  have hr' : posthouselaw6_PatternsWithStars_l2 p t (0 : Int) = some r := hr
  rcases hv with rfl | ⟨⟨i, rfl⟩, hall⟩
  · simp only [posthouselaw6_PatternsWithStars_t, hr', Option.bind_some, Sum.elim_inl]
  rw [List.drop_zero] at hall
  have hLp := L_len p
  have hLt := L_len t
  have s1 : (ByteArray.mk (List.toArray [(42 : UInt8)])).size = 1 := rfl
  generalize hS : ByteArray.mk (List.toArray [(42 : UInt8)]) = S at s1
  have hLS : L S = [42] := by rw [← hS]; rfl
  have hP2 : L (S ++ p ++ S) = 42 :: (L p ++ [42]) := by rw [L_app, L_app, hLS]; simp
  have sP2 : (S ++ p ++ S).size = p.size + 2 := by rw [size_app, size_app, s1]; omega
  have sP1 : (S ++ p).size = p.size + 1 := by rw [size_app, s1]; omega
  have g1 : ¬ ((((S.size + p.size : Nat)) : Int) > 9223372036854775807) := by rw [s1]; omega
  have g2 : ¬ ((((S ++ p).size + S.size : Nat) : Int) > 9223372036854775807) := by rw [s1, sP1]; omega
  simp only [posthouselaw6_PatternsWithStars_t, hr', hS, Option.bind_some, Sum.elim_inr, i64max, brE_if, gdE_if, g1, g2, decide_false, Bool.false_eq_true, if_false, match_s 2 p t (by omega) (by omega), match_s 3 (S ++ p ++ S) t (by omega) (by omega), lmatched_sp]
  have htr : tr (L (S ++ p ++ S)) = 0 := by
    rw [hP2, show (42 : UInt8) :: (L p ++ [42]) = (42 :: L p) ++ [42] from rfl, tr_snoc]
    rfl
  by_cases h2 : 200 < p.size
  · have f : faultP 2 p = (1, -3) := by simp [faultP, h2]
    simp [matchR, f]
  have f : faultP 2 p = (0, 0) := by simp [faultP, h2]
  by_cases h3 : 200 < p.size + 2
  · have f3 : faultP 3 (S ++ p ++ S) = (1, -3) := by simp [faultP, sP2]; omega
    by_cases h4 : 4000 < t.size
    · simp [matchR, f, h4]
    · simp [matchR, f, f3, h4]
  have f3 : faultP 3 (S ++ p ++ S) = (0, 0) := by
    have : ¬ 200 < p.size + 2 := h3
    simp [faultP, sP2, htr, this]
  by_cases h4 : 4000 < t.size
  · simp [matchR, f, h4]
  have hm2 : matchedR 2 (L p) (L t) = ((contR (lowL (L t)) (lowL (L p)), 0), []) := by simp [matchedR]
  have hE := elems2_stars (L p) hall
  have hm3 : matchedR 3 (L (S ++ p ++ S)) (L t) = wildR (star :: (lits (L p) ++ [star])) (L t) := by simp [matchedR, hP2, hE]
  have hcs := canM_stars (L p) (L t)
  cases hc : contR (lowL (L t)) (lowL (L p)) with
  | false =>
    rw [hc] at hcs
    simp [matchR, f, f3, h4, hm2, hm3, wildR, hcs, hc]
  | true =>
    rw [hc] at hcs
    obtain ⟨k1, k2⟩ := skip_ok hcs
    generalize hk : skip (lits (L p) ++ [star]) (L t) = k at k1 k2
    have hpc : pieces (star :: (lits (L p) ++ [star])) (L t) = [(L t).take k, (L t).drop (k + (L p).length)] := by
      rw [pieces, hk, pieces_lits, List.drop_drop]; simp [star]
    rw [canM_lits, List.isPrefixOf_iff_prefix] at k1
    have hplen : (L p).length ≤ (L t).length - k := by
      have := k1.length_le
      rw [low_len, low_len, List.length_drop] at this; exact this
    have hkk : lowL (L p) = (lowL ((L t).drop k)).take (L p).length := by
      have := List.prefix_iff_eq_take.1 k1
      rw [low_len] at this; exact this
    have e0 : (toBA ((L t).take k)).size = k := by rw [← L_len]; show ((L t).take k).length = k; rw [List.length_take]; omega
    have e1 : (toBA ((L t).drop (k + (L p).length))).size = t.size - (k + p.size) := by rw [← L_len]; show ((L t).drop (k + (L p).length)).length = _; rw [List.length_drop]; omega
    have hal : posthouseref5_Alike_s (toBA ((L t).take k) ++ p ++ toBA ((L t).drop (k + (L p).length))) t = some true := by
      rw [alike_s _ _ (by rw [size_app, size_app, e0, e1]; omega), L_app, L_app]
      have : lowL (L (toBA ((L t).take k)) ++ L p ++ L (toBA ((L t).drop (k + (L p).length)))) = lowL (L t) := by
        have a1 : L (toBA ((L t).take k)) = (L t).take k := rfl
        have a2 : L (toBA ((L t).drop (k + (L p).length))) = (L t).drop (k + (L p).length) := rfl
        rw [a1, a2]
        have ap : ∀ a b : List UInt8, lowL (a ++ b) = lowL a ++ lowL b := fun a b => by simp [lowL]
        rw [ap, ap, hkk, ← low_take, ← ap, ← ap]
        congr 1
        rw [List.append_assoc, ← List.drop_drop, List.take_append_drop, List.take_append_drop]
      rw [this, beq_self_eq_true]
    have R2 : matchR 2 p t = ((true, 0, (0, 0)), []) := by simp [matchR, f, h4, hm2, hc]
    have R3 : matchR 3 (S ++ p ++ S) t = ((true, 2, (0, 0)), [toBA ((L t).take k), toBA ((L t).drop (k + (L p).length))]) := by simp [matchR, f3, h4, hm3, wildR, hcs, hpc]
    generalize toBA ((L t).take k) = x0 at R3 hal e0
    generalize toBA ((L t).drop (k + (L p).length)) = x1 at R3 hal e1
    have l0 : 0 < [x0, x1].length := by simp
    have l1 : 1 < [x0, x1].length := by simp
    have y0 : [x0, x1].getD 0 (ec_9.dec []) = x0 := rfl
    have y1 : [x0, x1].getD 1 (ec_9.dec []) = x1 := rfl
    have z0 : Int.toNat 0 = 0 := rfl
    have z1 : Int.toNat 1 = 1 := rfl
    have w1 : IntKind.i64.wrap ((x0.size : Int) + (p.size : Int)) = (x0.size : Int) + (p.size : Int) := IntWalk.i64_in _ (by omega)
    have w2 : IntKind.i64.wrap ((x0.size : Int) + (p.size : Int) + (x1.size : Int)) = (t.size : Int) := by rw [IntWalk.i64_in _ (by omega)]; omega
    have q1 : ¬ (((x0.size + p.size : Nat) : Int) > 9223372036854775807) := by omega
    have q2 : ¬ ((((x0 ++ p).size + x1.size : Nat) : Int) > 9223372036854775807) := by rw [size_app]; omega
    simp only [R2, R3, EC.encL_length, at_9_0, z0, z1, y0, y1, isP_s _ 0 l0, isP_s _ 1 l1, len_9 _ 0 l0, len_9 _ 1 l1, w1, w2, q1, q2, hal, Option.bind_some, beq_t, beq_self_eq_true, bne_self_eq_false, decide_false, Bool.not_true, if_true, Bool.false_eq_true, if_false, List.length_cons, List.length_nil, Nat.zero_add]
    simp)
end Go.Proofs.Ytgmjhnijnpfkgaa
