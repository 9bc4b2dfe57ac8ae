/- The law PatternsIgnoreCase returns true. -/
import Derived.Test.YtgmjhnijnpfkgaaP5
namespace Go.Proofs.Ytgmjhnijnpfkgaa
open Go.RowKit

theorem lowI_idem (c : Int) : lowI (lowI c) = lowI c := by
  by_cases h : 65 ≤ c ∧ c ≤ 90
  · have e : lowI c = c + 32 := by simp [lowI, h]
    have h2 : ¬ (65 ≤ c + 32 ∧ c + 32 ≤ 90) := by omega
    rw [e, lowI, if_neg h2]
  · have e : lowI c = c := by rw [lowI, if_neg h]
    rw [e, e]
theorem nb_low (b : UInt8) : nb (lowB b) = lowI (nb b) := by
  have h := lowI_lt (nb_lt b).1 (nb_lt b).2
  rw [lowB, nb_ub h.1 h.2]
theorem lowB_idem (b : UInt8) : lowB (lowB b) = lowB b := by
  have : lowB (lowB b) = ub (lowI (nb (lowB b))) := rfl
  rw [this, nb_low, lowI_idem]; rfl
theorem lowL_idem (l : List UInt8) : lowL (lowL l) = lowL l := by
  simp only [lowL, List.map_map]
  apply List.map_congr_left
  intro b _
  exact lowB_idem b
theorem fitB_low (e : El) (b : UInt8) : fitB e (lowB b) = fitB e b := by rw [fitB, fitB, nb_low, lowI_idem]
theorem canM_low : ∀ (n : Nat) (E : List El) (T : List UInt8), E.length + T.length ≤ n → canM E (lowL T) = canM E T := by
  intro n
  induction n with
  | zero =>
    intro E T h
    have h1 : E = [] := List.eq_nil_of_length_eq_zero (by omega)
    have h2 : T = [] := List.eq_nil_of_length_eq_zero (by omega)
    subst h1 h2; rfl
  | succ n ih =>
    intro E T h
    cases E with
    | nil => cases T <;> simp [canM, lowL]
    | cons e E =>
      cases T with
      | nil => rfl
      | cons b T =>
        simp at h
        have h1 := ih E (b :: T) (by simp; omega)
        have h2 := ih (e :: E) T (by simp; omega)
        have h3 := ih E T (by omega)
        have hc : lowL (b :: T) = lowB b :: lowL T := rfl
        rw [hc] at h1 ⊢
        rw [canM, canM, h1, h2, h3, fitB_low]
theorem skip_low (E : List El) : ∀ (T : List UInt8), skip E (lowL T) = skip E T
  | [] => rfl
  | b :: T => by
    have hc : lowL (b :: T) = lowB b :: lowL T := rfl
    have h1 := canM_low _ E (b :: T) (Nat.le_refl _)
    rw [hc] at h1 ⊢
    rw [skip, skip, h1, skip_low E T]
theorem pieces_low : ∀ (E : List El) (T : List UInt8), pieces E (lowL T) = (pieces E T).map lowL
  | [], _ => rfl
  | e :: E, T => by
    rw [pieces, pieces, skip_low, ← low_take, ← low_drop, ← low_take, ← low_drop, pieces_low E (T.drop (skip E T)), pieces_low E (T.drop 1)]
    split
    · rfl
    · split <;> rfl
def lowBA (s : ByteArray) : ByteArray := lowS s
theorem toBA_low (l : List UInt8) : toBA (lowL l) = lowS (toBA l) := rfl
theorem wildR_low (E : List El) (T : List UInt8) : wildR E (lowL T) = ((wildR E T).1, (wildR E T).2.map lowS) := by
  rw [wildR, wildR, canM_low _ E T (Nat.le_refl _), pieces_low]
  split
  · simp only [List.map_map, List.length_map]
    congr 1
  · rfl
theorem matchedR_low (kind : Int) (p T : List UInt8) : matchedR kind p (lowL T) = ((matchedR kind p T).1, (matchedR kind p T).2.map lowS) := by
  unfold matchedR
  split
  · rw [lowL_idem]; rfl
  · split
    · rw [lowL_idem]; rfl
    · exact wildR_low _ _
theorem matchR_low (kind : Int) (p t : ByteArray) : matchR kind p (lowS t) = ((matchR kind p t).1, (matchR kind p t).2.map lowS) := by
  rw [matchR, matchR, lowS_size, L_low, matchedR_low]
  split
  · rfl
  · split <;> rfl

theorem ignore_loop4 (kind : Int) (p t : ByteArray) (ht : t.size ≤ 140737488351232) (is : Bool) (l : Nat) (b0 : List ByteArray) (f1 f2 : Int) : ∀ (m k : Nat) (b2 : List Int), k + m = t.size → b2 = ((L t).take k).map (fun b => lowI (nb b)) →
    posthouselaw6_PatternsIgnoreCase_l4 kind p t is l k k b0 f1 f2 b2 = some ((kind, p, t, is, l, (), t.size, (t.size : Int), false), (b0, (f1, f2), (L t).map (fun b => lowI (nb b)))) := by
  intro m
  have hL := L_len t
  induction m with
  | zero =>
    intro k b2 hk hb
    obtain rfl : k = t.size := by omega
    have : (L t).take t.size = L t := List.take_of_length_le (by omega)
    rw [this] at hb
    subst hb
    refine posthouselaw6_PatternsIgnoreCase_l4_eq ?_
    simp only [posthouselaw6_PatternsIgnoreCase_l4_t, brE_if, gdE_if, EC.decL_encL, EC.isL_encL, all_5, apd_5]
    simp
  | succ m ih =>
    intro k b2 hk hb
    have hlt : k < (L t).length := by omega
    have hat := at_L t hlt
    have hn := ih (k + 1) (b2 ++ [lowI (nb ((L t)[k]'hlt))]) (by omega) (by rw [hb, List.take_succ_eq_append_getElem hlt, List.map_append]; rfl)
    generalize (L t)[k]'hlt = b at hat hn
    have n1 := nb_lt b
    have h1 : (k : Int) < (t.size : Int) := by omega
    have h2 : k < t.size := by omega
    have hw := wrap_nat h2 (by omega)
    have g1 : (k + 1) * 1 ≤ 140737488355328 := by omega
    have g2 : k + 1 ≤ 9223372036854775807 := by omega
    refine posthouselaw6_PatternsIgnoreCase_l4_eq ?_
    simp only [posthouselaw6_PatternsIgnoreCase_l4_t, brE_if, gdE_if, EC.decL_encL, EC.isL_encL, all_5, apd_5, Int.toNat_natCast, h1, h2, hat, low_s n1.1 n1.2, hw, g1, g2, hn, Option.bind_some, List.length_cons, List.length_nil, Nat.zero_add, List.all_cons, List.all_nil, decide_true, if_true, Bool.and_self, beq_self_eq_true, Int.natCast_nonneg]
theorem isP_s (xs : List ByteArray) (n : Nat) (h : n < xs.length) : isP [.str] 0 ((ec_9.encL xs).getD n []) = true := by rw [EC.getD_lt _ _ h]; rfl
theorem ignore_loop11 (xs : List ByteArray) (hx : xs.length ≤ 1000) (hs : ∀ x ∈ xs, x.size ≤ 9223372036854775807) : ∀ (m k : Nat), k + m = xs.length →
    ∃ r, posthouselaw6_PatternsIgnoreCase_l11 xs.length xs.length k xs (xs.map lowS) = some (.inr r) := by
  intro m
  induction m with
  | zero =>
    intro k hk
    obtain rfl : k = xs.length := by omega
    exact ⟨_, posthouselaw6_PatternsIgnoreCase_l11_eq (by
      simp only [posthouselaw6_PatternsIgnoreCase_l11_t, brE_if, gdE_if, EC.decL_encL, EC.isL_encL, EC.encL_length, at_9_0]
      simp; rfl)⟩
  | succ m ih =>
    intro k hk
    obtain ⟨r, hr⟩ := ih (k + 1) (by omega)
    have hlt : k < xs.length := by omega
    have hlt2 : k < (xs.map lowS).length := by simpa using hlt
    have h1 : (k : Int) < (xs.length : Int) := by omega
    have hw := wrap_nat hlt (by omega)
    have e2 : (xs.map lowS).getD k (ec_9.dec []) = lowS xs[k] := by rw [getD_in hlt2]; simp
    have hal := alike_s xs[k] (lowS xs[k]) (hs _ (List.getElem_mem hlt))
    rw [L_low, lowL_idem, beq_self_eq_true] at hal
    have hml : (xs.map lowS).length = xs.length := by simp
    refine ⟨r, posthouselaw6_PatternsIgnoreCase_l11_eq ?_⟩
    simp only [posthouselaw6_PatternsIgnoreCase_l11_t, brE_if, gdE_if, EC.decL_encL, EC.isL_encL, EC.encL_length, at_9_0, Int.toNat_natCast, h1, hlt, hml, getD_in hlt, e2, hal, hw, hr, isP_s xs k hlt, isP_s _ k hlt2, len_9 xs k hlt, len_9 _ k hlt2, Option.bind_some, decide_true, if_true, Bool.and_self, beq_self_eq_true, Int.natCast_nonneg, Bool.not_true, Bool.false_eq_true, if_false]
theorem pieces_sum : ∀ (E : List El) (T : List UInt8), ∀ x ∈ pieces E T, x.length ≤ T.length
  | [], _, x, h => by simp [pieces] at h
  | e :: E, T, x, h => by
    rw [pieces] at h
    have key : ∀ k, x ∈ T.take k :: pieces E (T.drop k) → x.length ≤ T.length := by
      intro k h
      rcases List.mem_cons.1 h with h | h
      · subst h; simp; omega
      · have := pieces_sum E (T.drop k) x h
        rw [List.length_drop] at this; omega
    split at h
    · exact key _ h
    · split at h
      · exact key _ h
      · have := pieces_sum E (T.drop 1) x h
        rw [List.length_drop] at this; omega
theorem matchR_small (kind : Int) (p t : ByteArray) : (matchR kind p t).2.length ≤ 1000 ∧ (matchR kind p t).1.2.1 = (matchR kind p t).2.length ∧ ∀ x ∈ (matchR kind p t).2, x.size ≤ 4000 := by
  unfold matchR
  split
  · simp
  · rename_i hf
    have hps : p.size ≤ 200 := by
      have hf : faultP kind p = (0, 0) := by simpa using hf
      unfold faultP at hf
      split at hf
      · cases hf
      · split at hf
        · cases hf
        · omega
    split
    · simp
    · rename_i h4
      have h := pieces_small kind (L p) (L t)
      rw [L_len] at h
      refine ⟨by simp only; omega, ?_, ?_⟩
      · simp only [matchedR]
        split
        · rfl
        · split
          · rfl
          · unfold wildR; split <;> rfl
      · simp only [matchedR]
        split
        · simp
        · split
          · simp
          · unfold wildR
            split
            · intro x hx
              simp only [List.mem_map] at hx
              obtain ⟨y, hy, rfl⟩ := hx
              have := pieces_sum _ _ y hy
              rw [L_len] at this
              have e : (toBA y).size = y.length := by rw [← L_len]; rfl
              omega
            · simp
theorem law_ignore (kind : Int) (p t : ByteArray) (hp : p.size ≤ 140737488351232) (ht : t.size ≤ 140737488351232) : posthouselaw6_PatternsIgnoreCase_s kind p t = some true := posthouselaw6_PatternsIgnoreCase_eq (by
  obtain ⟨h1, h2, h3⟩ := matchR_small kind p t
  have l4 := ignore_loop4 kind p t ht (matchR kind p t).1.1 (matchR kind p t).1.2.1 (matchR kind p t).2 (matchR kind p t).1.2.2.1 (matchR kind p t).1.2.2.2 t.size 0 [] (by omega) (by simp)
  have l4' : posthouselaw6_PatternsIgnoreCase_l4 kind p t (matchR kind p t).1.1 (matchR kind p t).1.2.1 0 (0 : Int) (matchR kind p t).2 (matchR kind p t).1.2.2.1 (matchR kind p t).1.2.2.2 [] = _ := l4
  rw [h2] at l4'
  have hbs : (ByteArray.mk (List.toArray (((L t).map (fun b => lowI (nb b))).map ub))) = lowS t := by
    unfold lowS lowL
    simp only [List.map_map]
    rfl
  obtain ⟨r, l11⟩ := ignore_loop11 (matchR kind p t).2 h1 (fun x hx => by have := h3 x hx; omega) (matchR kind p t).2.length 0 (by omega)
  have l11' : posthouselaw6_PatternsIgnoreCase_l11 (matchR kind p t).2.length (matchR kind p t).2.length (0 : Int) (matchR kind p t).2 ((matchR kind p t).2.map lowS) = some (.inr r) := l11
  simp only [posthouselaw6_PatternsIgnoreCase_t, brE_if, gdE_if, EC.decL_encL, EC.isL_encL, EC_nilD, match_s kind p t (by omega) (by omega), l4', bytesOf_enc, hbs, match_s kind p (lowS t) (by omega) (by rw [lowS_size]; omega), matchR_low, lmatched_sp, Option.bind_some, if_true, beq_f, beq_self_eq_true, Bool.and_self, Bool.not_true, Bool.not_false, bne_self_eq_false, Bool.false_eq_true, if_false, h2, l11', Sum.elim_inr])
end Go.Proofs.Ytgmjhnijnpfkgaa
