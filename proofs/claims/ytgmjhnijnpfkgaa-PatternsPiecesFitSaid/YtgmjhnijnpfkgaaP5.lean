/- What patterns.Match and the reference's Matched answer; the law PatternsMatchSpec returns true. -/
import Derived.Test.YtgmjhnijnpfkgaaP4
namespace Go.Proofs.Ytgmjhnijnpfkgaa
open Go.RowKit

/-- how many backslashes stand at the end -/
def tr (l : List UInt8) : Nat := (l.reverse.takeWhile (fun b => nb b == 92)).length
theorem tr_le (l : List UInt8) : tr l ≤ l.length := by
  have := (List.takeWhile_prefix (p := fun b => nb b == 92) (l := l.reverse)).length_le
  simpa [tr] using this
theorem tr_cons (b : UInt8) (l : List UInt8) : tr (b :: l) = if tr l = l.length then (if nb b = 92 then l.length + 1 else l.length) else tr l := by
  unfold tr
  rw [List.reverse_cons, List.takeWhile_append]
  by_cases h : (l.reverse.takeWhile (fun b => nb b == 92)).length = l.reverse.length
  · rw [if_pos h, if_pos (by simpa using h)]
    by_cases hb : nb b = 92
    · simp [hb]
    · simp [hb]
  · rw [if_neg h, if_neg (by simpa using h)]
theorem tr_snoc (b : UInt8) (l : List UInt8) : tr (l ++ [b]) = if nb b = 92 then tr l + 1 else 0 := by
  unfold tr
  rw [List.reverse_append, List.reverse_singleton, List.singleton_append, List.takeWhile_cons]
  by_cases hb : nb b = 92
  · simp [hb]
  · simp [hb]
theorem elems_tr : ∀ (l : List UInt8), ((elems l).isNone = true ↔ tr l % 2 = 1)
  | [] => by simp [elems, tr]
  | [b] => by
    rw [elems, tr_cons]
    have : tr [] = 0 := rfl
    by_cases h : nb b = 92
    · simp [h, this]
    · simp [h, this]
      by_cases h1 : nb b = 42
      · simp [h1]
      · by_cases h2 : nb b = 63
        · simp [h2]
        · simp [h1, h2]
  | b :: c :: l => by
    have h1 := elems_tr (c :: l)
    have h2 := elems_tr l
    have l1 := tr_le (c :: l)
    have l2 := tr_le l
    rw [elems]
    by_cases h : nb b = 92
    · have e : tr (b :: c :: l) % 2 = tr l % 2 := by
        rw [tr_cons, tr_cons]
        by_cases a : tr l = l.length
        · by_cases hc : nb c = 92
          · simp [a, hc, h]; omega
          · simp [a, hc]
        · have a' : ¬ tr l = l.length + 1 := by omega
          simp [a, a']
      rw [e, ← h2]
      simp [h]
    · have e : tr (b :: c :: l) = tr (c :: l) := by
        rw [tr_cons]
        split
        · rename_i a; simp [a]
        · rfl
      rw [e, ← h1]
      simp only [h, if_false]
      split
      · simp
      · split <;> simp
theorem elems_elems2 : ∀ {l : List UInt8} {es : List El}, elems l = some es → es = elems2 l
  | [], es, h => by simp [elems] at h; subst h; rfl
  | [b], es, h => by
    simp only [elems] at h
    simp only [elems2, el1]
    split at h
    · rename_i h1; injection h with h; subst h; simp [h1]
    · rename_i h1
      split at h
      · rename_i h2; injection h with h; subst h; simp [h2]
      · rename_i h2
        split at h
        · cases h
        · injection h with h; subst h; simp [h1, h2]
  | b :: c :: l, es, h => by
    simp only [elems] at h
    by_cases h92 : nb b = 92
    · rw [elems2_two h92]
      simp [h92] at h
      obtain ⟨a, ha, rfl⟩ := h
      rw [elems_elems2 ha]
    · rw [elems2_one (.inl h92)]
      by_cases h42 : nb b = 42
      · simp [h42] at h
        obtain ⟨a, ha, rfl⟩ := h
        rw [elems_elems2 ha]; simp [el1, h42]
      · by_cases h63 : nb b = 63
        · simp [h63] at h
          obtain ⟨a, ha, rfl⟩ := h
          rw [elems_elems2 ha]; simp [el1, h63]
        · simp [h42, h63, h92] at h
          obtain ⟨a, ha, rfl⟩ := h
          rw [elems_elems2 ha]; simp [el1, h42, h63]
theorem elems2_c : ∀ (l : List UInt8), ∀ e ∈ elems2 l, 0 ≤ e.c ∧ e.c < 256
  | [], e, h => by simp [elems2] at h
  | [b], e, h => by
    simp [elems2] at h; subst h
    have := nb_lt b
    unfold el1; split
    · exact ⟨by decide, by decide⟩
    · split
      · exact ⟨by decide, by decide⟩
      · exact this
  | b :: c :: l, e, h => by
    have n1 := nb_lt b
    have n2 := nb_lt c
    rw [elems2] at h
    split at h
    · rcases List.mem_cons.1 h with h | h
      · subst h; exact n2
      · exact elems2_c l e h
    · rcases List.mem_cons.1 h with h | h
      · subst h
        unfold el1; split
        · exact ⟨by decide, by decide⟩
        · split
          · exact ⟨by decide, by decide⟩
          · exact n1
      · exact elems2_c (c :: l) e h

def faultP (kind : Int) (p : ByteArray) : Int × Int := if kind < 1 ∨ 3 < kind then (4, -2) else if 200 < p.size then (1, -3) else if kind = 3 ∧ tr (L p) % 2 = 1 then (11, (p.size : Int) - 1) else (0, 0)
theorem fault_loop (kind : Int) (p : ByteArray) (hp : p.size ≤ 1000) : ∀ (m s : Nat), m ≤ p.size → s + m ≤ 2000 → ∃ i, posthouseref6_PatternFault_l7 kind p s ((m : Int) - 1) 0 0 = some ((kind, p, (), ((s + tr ((L p).take m) : Nat) : Int), i, false), (0, 0)) := by
  intro m
  have hL := L_len p
  induction m with
  | zero =>
    intro s _ _
    refine ⟨((0 : Nat) : Int) - 1, posthouseref6_PatternFault_l7_eq ?_⟩
    simp only [posthouseref6_PatternFault_l7_t, brE_if]
    simp [tr]
  | succ m ih =>
    intro s hm hs
    have hj : (((m + 1 : Nat) : Int) - 1) = (m : Int) := by omega
    rw [hj]
    have hmL : m < (L p).length := by omega
    have hat := at_L p hmL
    rw [List.take_succ_eq_append_getElem hmL, tr_snoc]
    generalize (L p)[m]'hmL = b at hat ⊢
    have h0 : (m : Int) ≥ 0 := by omega
    have hmp : m < p.size := by omega
    by_cases hb : nb b = 92
    · obtain ⟨i, h⟩ := ih (s + 1) (by omega) (by omega)
      refine ⟨i, posthouseref6_PatternFault_l7_eq ?_⟩
      have hw := wrap_nat (k := s) (n := 5000) (by omega) (by omega)
      have hwm := wrap_pred m (by omega)
      have b1 : (nb b == 92) = true := by simpa using hb
      simp only [posthouseref6_PatternFault_l7_t, brE_if, gdE_if, Int.toNat_natCast, h0, hmp, hat, hw, hwm, h, hb, beq_self_eq_true, decide_true, if_true, Bool.and_self]
      rw [show s + 1 + tr (List.take m (L p)) = s + (tr (List.take m (L p)) + 1) by omega]
    · refine ⟨(m : Int), posthouseref6_PatternFault_l7_eq ?_⟩
      have b1 : (nb b == 92) = false := by simpa using hb
      simp only [posthouseref6_PatternFault_l7_t, brE_if, gdE_if, Int.toNat_natCast, h0, hmp, hat, b1, hb, beq_t, decide_true, if_true, Bool.and_self, Bool.false_eq_true, if_false, Nat.add_zero]
theorem patternFault_s (kind : Int) (p : ByteArray) (hsz : p.size ≤ 9223372036854775807) : posthouseref6_PatternFault_s kind p = some (faultP kind p) := posthouseref6_PatternFault_eq (by
  by_cases hk : kind < 1 ∨ 3 < kind
  · have : (decide (1 ≤ kind) && decide (kind ≤ 3)) = false := by
      rcases hk with h | h
      · have : ¬ 1 ≤ kind := by omega
        simp [this]
      · have : ¬ kind ≤ 3 := by omega
        simp [this]
    simp only [posthouseref6_PatternFault_t, brE_if, in_s, this, at_s, Option.bind_some, Bool.not_false, if_true, faultP, hk]
  · have : (decide (1 ≤ kind) && decide (kind ≤ 3)) = true := by
      have h1 : 1 ≤ kind := by omega
      have h2 : kind ≤ 3 := by omega
      simp [h1, h2]
    by_cases h2 : 200 < p.size
    · have h2' : (p.size : Int) > 200 := by omega
      simp only [posthouseref6_PatternFault_t, brE_if, in_s, this, at_s, Option.bind_some, Bool.not_true, Bool.false_eq_true, if_false, if_true, faultP, hk, h2, h2', decide_true]
    · have h2' : ¬ (p.size : Int) > 200 := by omega
      have hw : IntKind.i64.wrap ((p.size : Int) - 1) = (p.size : Int) - 1 := IntWalk.i64_in _ (by omega)
      obtain ⟨i, h⟩ := fault_loop kind p (by omega) p.size 0 (Nat.le_refl _) (by omega)
      have h' : posthouseref6_PatternFault_l7 kind p (0 : Int) ((p.size : Int) - 1) 0 0 = some ((kind, p, (), ((tr (L p) : Nat) : Int), i, false), (0, 0)) := by
        have e : (L p).take p.size = L p := List.take_of_length_le (by rw [L_len]; omega)
        rw [e, Nat.zero_add] at h; exact h
      simp only [posthouseref6_PatternFault_t, brE_if, in_s, this, at_s, hw, h', Option.bind_some, Bool.not_true, Bool.false_eq_true, if_false, faultP, hk, h2, h2', decide_false, beq_t]
      have hmod : (Int.tmod ((tr (L p) : Nat) : Int) 2 == 1) = decide (tr (L p) % 2 = 1) := by
        rw [Int.tmod_eq_emod_of_nonneg (by omega)]
        by_cases e : tr (L p) % 2 = 1
        · have : ((tr (L p) : Nat) : Int) % 2 = 1 := by omega
          simp [e, this]
        · have : ¬ ((tr (L p) : Nat) : Int) % 2 = 1 := by omega
          simp only [e, decide_false, beq_eq_false_iff_ne, ne_eq, this, not_false_eq_true]
      rw [hmod]
      by_cases h3 : kind = 3
      · by_cases e : tr (L p) % 2 = 1
        · simp [h3, e]
        · simp [h3, e]
      · simp [h3])

/-- does a text occur in another? -/
def contR : List UInt8 → List UInt8 → Bool
  | [], sub => sub.isEmpty
  | b :: l, sub => sub.isPrefixOf (b :: l) || contR l sub
theorem contR_lib : ∀ (s sub : List UInt8), Lib.contains s sub = contR s sub
  | [], sub => by
    simp only [Lib.contains, Lib.index, contR]
    by_cases h : sub.isEmpty = true
    · simp [h]
    · simp [h]
  | b :: l, sub => by
    have ih := contR_lib l sub
    have hge := Lib.index_ge l sub
    simp only [Lib.contains] at ih
    simp only [Lib.contains, Lib.index, contR]
    by_cases hp : sub.isPrefixOf (b :: l) = true
    · simp [hp]
    · simp only [hp, Bool.false_eq_true, if_false, Bool.false_or]
      rw [← ih]
      by_cases h : Lib.index l sub = -1
      · simp [h]
      · have h1 : 0 ≤ Lib.index l sub := by omega
        have h2 : 0 ≤ Lib.index l sub + 1 := by omega
        simp [h, h1, h2]
theorem contR_short : ∀ {s sub : List UInt8}, s.length < sub.length → contR s sub = false
  | [], sub, h => by cases sub with | nil => simp at h | cons => rfl
  | b :: l, sub, h => by
    rw [contR, contR_short (by simp at h; omega), Bool.or_false]
    cases hp : sub.isPrefixOf (b :: l) with
    | false => rfl
    | true =>
      have := (List.isPrefixOf_iff_prefix.1 hp).length_le
      omega
theorem contR_nil (s : List UInt8) : contR s [] = true := by cases s <;> simp [contR]
def matchedR (kind : Int) (p t : List UInt8) : (Bool × Nat) × List ByteArray := if kind = 1 then ((lowL p == lowL t, 0), []) else if kind = 2 then ((contR (lowL t) (lowL p), 0), []) else wildR (elems2 p) t
theorem low_take (l : List UInt8) (n : Nat) : lowL (l.take n) = (lowL l).take n := by simp [lowL, List.map_take]
theorem low_drop (l : List UInt8) (n : Nat) : lowL (l.drop n) = (lowL l).drop n := by simp [lowL, List.map_drop]
theorem low_len (l : List UInt8) : (lowL l).length = l.length := by simp [lowL]
theorem take_prefix (a sub : List UInt8) (h : sub.length ≤ a.length) : (a.take sub.length == sub) = sub.isPrefixOf a := by
  rw [Bool.eq_iff_iff, beq_iff_eq, List.isPrefixOf_iff_prefix, List.prefix_iff_eq_take]
  exact eq_comm
theorem contains_loop (p t : ByteArray) (hp : p.size ≤ 1000) (ht : t.size ≤ 10000) : ∀ (m i : Nat), i + m = t.size + 1 → i ≤ t.size →
    (posthouseref6_Matched_l5 p t i).bind (Sum.elim (fun r => some (((r.1).1, (r.1).2), r.2)) (fun _ => some ((false, 0), []))) = some ((contR ((lowL (L t)).drop i) (lowL (L p)), 0), []) := by
  intro m
  have hLp := L_len p
  have hLt := L_len t
  induction m with
  | zero => intro i h1 h2; omega
  | succ m ih =>
    intro i him hit
    have hw : IntKind.i64.wrap ((i : Int) + (p.size : Int)) = ((i + p.size : Nat) : Int) := by rw [IntWalk.i64_in _ (by omega)]; omega
    by_cases hlen : i + p.size ≤ t.size
    · have h1 : ((i + p.size : Nat) : Int) ≤ (t.size : Int) := by omega
      have h0 : (0 : Int) ≤ ((i + p.size : Nat) : Int) := by omega
      have h2 : (i : Int) ≤ ((i + p.size : Nat) : Int) := by omega
      have hsz : (t.extract i (i + p.size)).size ≤ 9223372036854775807 := by
        rw [← L_len, L_ext, List.length_take]; omega
      have hal := alike_s (t.extract i (i + p.size)) p hsz
      have hpre : (lowL (L (t.extract i (i + p.size))) == lowL (L p)) = (lowL (L p)).isPrefixOf ((lowL (L t)).drop i) := by
        rw [L_ext, show i + p.size - i = p.size by omega, low_take, low_drop, ← take_prefix _ _ (by rw [low_len, List.length_drop, low_len]; omega), low_len, hLp]
      rw [hpre] at hal
      have hcr : contR ((lowL (L t)).drop i) (lowL (L p)) = ((lowL (L p)).isPrefixOf ((lowL (L t)).drop i) || (decide (i < t.size) && contR ((lowL (L t)).drop (i + 1)) (lowL (L p)))) := by
        rcases Nat.lt_or_ge i t.size with h | h
        · have : i < (lowL (L t)).length := by rw [low_len]; omega
          rw [drop_at this, contR]; simp [h]
        · have hd : (lowL (L t)).drop i = [] := List.drop_eq_nil_of_le (by rw [low_len]; omega)
          rw [hd, contR]
          have : ¬ i < t.size := by omega
          simp [this]
          cases lowL (L p) <;> rfl
      cases hpr : (lowL (L p)).isPrefixOf ((lowL (L t)).drop i) with
      | true =>
        have e1 : posthouseref6_Matched_l5 p t i = some (.inl ((true, 0), [])) := posthouseref6_Matched_l5_eq (by
          simp only [posthouseref6_Matched_l5_t, brE_if, gdE_if, hw, h0, h1, h2, Int.toNat_natCast, hal, hpr, Option.bind_some, EC_nilD, decide_true, if_true, Bool.and_self, Int.natCast_nonneg])
        rw [e1, hcr, hpr]; rfl
      | false =>
        have hw1 := wrap_nat (k := i) (n := 20000) (by omega) (by omega)
        have step : ∀ r, posthouseref6_Matched_l5 p t ((i + 1 : Nat) : Int) = some r → posthouseref6_Matched_l5 p t i = some r := fun r hr => posthouseref6_Matched_l5_eq (by
          simp only [posthouseref6_Matched_l5_t, brE_if, gdE_if, hw, h0, h1, h2, Int.toNat_natCast, hal, hpr, Option.bind_some, hw1, hr, decide_true, if_true, Bool.and_self, Int.natCast_nonneg, Bool.false_eq_true, if_false])
        rw [hcr, hpr]
        rcases Nat.lt_or_ge i t.size with h | h
        · have ih' := ih (i + 1) (by omega) (by omega)
          cases hz : posthouseref6_Matched_l5 p t ((i + 1 : Nat) : Int) with
          | none => rw [hz] at ih'; cases ih'
          | some r =>
            rw [step r hz, ← hz, ih']
            simp [h]
        · have hw2 : IntKind.i64.wrap (((i + 1 : Nat) : Int) + (p.size : Int)) = ((i + 1 + p.size : Nat) : Int) := by rw [IntWalk.i64_in _ (by omega)]; omega
          have h3 : ¬ ((i + 1 + p.size : Nat) : Int) ≤ (t.size : Int) := by omega
          have e2 : posthouseref6_Matched_l5 p t ((i + 1 : Nat) : Int) = some (.inr ((p, t, ((i + 1 : Nat) : Int), false), ())) := posthouseref6_Matched_l5_eq (by
            simp only [posthouseref6_Matched_l5_t, brE_if, hw2, h3, decide_false, Bool.false_eq_true, if_false])
          rw [step _ e2]
          have : ¬ i < t.size := by omega
          simp [this]
    · have h3 : ¬ ((i + p.size : Nat) : Int) ≤ (t.size : Int) := by omega
      have e2 : posthouseref6_Matched_l5 p t (i : Int) = some (.inr ((p, t, (i : Int), false), ())) := posthouseref6_Matched_l5_eq (by
        simp only [posthouseref6_Matched_l5_t, brE_if, hw, h3, decide_false, Bool.false_eq_true, if_false])
      rw [e2, contR_short (by rw [List.length_drop, low_len, low_len]; omega)]
      rfl
theorem matched_s (kind : Int) (p t : ByteArray) (hp : p.size ≤ 1000) (ht : t.size ≤ 10000) : posthouseref6_Matched_s kind p t = some (matchedR kind (L p) (L t)) := posthouseref6_Matched_eq (by
  by_cases h1 : kind = 1
  · have b1 : (kind == 1) = true := by simpa using h1
    simp only [posthouseref6_Matched_t, brE_if, b1, if_true, alike_s p t (by omega), Option.bind_some, EC_nilD]
    rw [matchedR, if_pos h1]
  have b1 : (kind == 1) = false := by simpa using h1
  by_cases h2 : kind = 2
  · have b2 : (kind == 2) = true := by simpa using h2
    have hl := contains_loop p t hp ht (t.size + 1) 0 (by omega) (by omega)
    have hl' : (posthouseref6_Matched_l5 p t (0 : Int)).bind (Sum.elim (fun r => some (((r.1).1, (r.1).2), r.2)) (fun _ => some ((false, 0), []))) = some ((contR (lowL (L t)) (lowL (L p)), 0), []) := hl
    simp only [posthouseref6_Matched_t, brE_if, gdE_if, b1, b2, if_true, Bool.false_eq_true, if_false, EC.decL_encL, EC.isL_encL, EC_nilD]
    rw [hl', matchedR, if_neg h1, if_pos h2]
  · have b2 : (kind == 2) = false := by simpa using h2
    simp only [posthouseref6_Matched_t, brE_if, gdE_if, b1, b2, if_true, Bool.false_eq_true, if_false, EC.decL_encL, EC.isL_encL, EC_nilD, suits_s p t hp ht, rwild_sp p.size p t (Nat.le_refl _) hp ht, Option.bind_some, matchedR, h1, h2]
    cases hc : canM (elems2 (L p)) (L t) with
    | true => simp
    | false => simp [wildR, hc])

def matchR (kind : Int) (p t : ByteArray) : (Bool × Nat × (Int × Int)) × List ByteArray :=
  if faultP kind p ≠ (0, 0) then ((false, 0, faultP kind p), []) else if 4000 < t.size then ((false, 0, (1, -1)), []) else (((matchedR kind (L p) (L t)).1.1, (matchedR kind (L p) (L t)).1.2, (0, 0)), (matchedR kind (L p) (L t)).2)
set_option maxHeartbeats 1000000 in
theorem match_s (kind : Int) (p t : ByteArray) (hp : p.size ≤ 9223372036854775807) (ht : t.size ≤ 9223372036854775807) : patterns_Match_s kind p t = some (matchR kind p t) := patterns_Match_eq (by
  by_cases hk1 : kind < 1
  · have f : faultP kind p = (4, -2) := by rw [faultP, if_pos (.inl hk1)]
    simp only [patterns_Match_t, brE_if, hk1, decide_true, beq_f, Bool.not_true, Bool.false_eq_true, if_false, fault_s, Option.bind_some, EC_nilD, matchR, f]
    rfl
  by_cases hk3 : 3 < kind
  · have f : faultP kind p = (4, -2) := by rw [faultP, if_pos (.inr hk3)]
    have hk3' : kind > 3 := hk3
    simp only [patterns_Match_t, brE_if, hk1, hk3', decide_true, decide_false, beq_f, Bool.not_false, if_true, fault_s, Option.bind_some, EC_nilD, matchR, f]
    rfl
  have hk3' : ¬ kind > 3 := hk3
  have hk : ¬ (kind < 1 ∨ 3 < kind) := by omega
  by_cases hp2 : 200 < p.size
  · have f : faultP kind p = (1, -3) := by rw [faultP, if_neg hk, if_pos hp2]
    have hp2' : (p.size : Int) > 200 := by omega
    simp only [patterns_Match_t, brE_if, hk1, hk3', hp2', decide_true, decide_false, beq_f, Bool.not_false, if_true, Bool.false_eq_true, if_false, fault_s, Option.bind_some, EC_nilD, matchR, f]
    rfl
  have hp2' : ¬ (p.size : Int) > 200 := by omega
  have hw : IntKind.i64.wrap ((p.size : Int) - 1) = (p.size : Int) - 1 := IntWalk.i64_in _ (by omega)
  have hel := elements_s p (by omega)
  have hpar := elems_tr (L p)
  -- behind the faults of the pattern
  have rest : faultP kind p = (0, 0) → ∀ X : Option ((Bool × Nat × (Int × Int)) × List ByteArray), (4000 < t.size → X = some ((false, 0, (1, -1)), [])) → (¬ 4000 < t.size → X = some (((matchedR kind (L p) (L t)).1.1, (matchedR kind (L p) (L t)).1.2, (0, 0)), (matchedR kind (L p) (L t)).2)) → X = some (matchR kind p t) := by
    intro f X h1 h2
    rw [matchR, if_neg (by simp [f])]
    by_cases h : 4000 < t.size
    · rw [if_pos h]; exact h1 h
    · rw [if_neg h]; exact h2 h
  have wl : ∀ es, elems (L p) = some es → t.size ≤ 4000 → patterns_wild_s es t = some (wildR (elems2 (L p)) (L t)) := by
    intro es he h
    have e := elems_elems2 he
    subst e
    have := elems2_le (L p)
    rw [L_len] at this
    exact wild_s _ t (by omega) (by omega) (elems2_c (L p))
  by_cases hk0 : kind = 3
  · have b3 : (kind == 3) = true := by simpa using hk0
    have b1 : (kind == 1) = false := by simp [hk0]
    have b2 : (kind == 2) = false := by simp [hk0]
    cases he : elems (L p) with
    | none =>
      have : tr (L p) % 2 = 1 := hpar.1 (by rw [he]; rfl)
      have f : faultP kind p = (11, (p.size : Int) - 1) := by rw [faultP, if_neg hk, if_neg hp2, if_pos ⟨hk0, this⟩]
      rw [he] at hel
      simp only [patterns_Match_t, brE_if, hk1, hk3', hp2', b3, hel, hw, decide_false, beq_f, beq_t, Bool.not_false, if_true, Bool.false_eq_true, if_false, fault_s, Option.bind_some, EC_nilD, matchR, f]
      simp
    | some es =>
      have hnp : ¬ tr (L p) % 2 = 1 := fun h => by have := hpar.2 h; rw [he] at this; cases this
      have f : faultP kind p = (0, 0) := by rw [faultP, if_neg hk, if_neg hp2, if_neg (fun h => hnp h.2)]
      rw [he] at hel
      refine rest f _ (fun h4 => ?_) (fun h4 => ?_)
      · have h4' : (t.size : Int) > 4000 := by omega
        simp only [patterns_Match_t, brE_if, hk1, hk3', hp2', b3, hel, h4', decide_true, decide_false, beq_f, beq_t, Bool.not_false, Bool.not_true, if_true, Bool.false_eq_true, if_false, fault_s, Option.bind_some, EC_nilD]
      · have h4' : ¬ (t.size : Int) > 4000 := by omega
        have hm : matchedR kind (L p) (L t) = wildR (elems2 (L p)) (L t) := by rw [matchedR, if_neg (by omega), if_neg (by omega)]
        simp only [patterns_Match_t, brE_if, gdE_if, EC.decL_encL, EC.isL_encL, hk1, hk3', hp2', b1, b2, b3, hel, h4', wl es he (by omega), none_s, hm, decide_false, beq_f, beq_t, Bool.not_false, Bool.not_true, if_true, Bool.false_eq_true, if_false, Option.bind_some, EC_nilD]
  · have b3 : (kind == 3) = false := by simpa using hk0
    have f : faultP kind p = (0, 0) := by rw [faultP, if_neg hk, if_neg hp2, if_neg (fun h => hk0 h.1)]
    refine rest f _ (fun h4 => ?_) (fun h4 => ?_)
    · have h4' : (t.size : Int) > 4000 := by omega
      simp only [patterns_Match_t, brE_if, hk1, hk3', hp2', b3, hel, h4', decide_true, decide_false, beq_f, beq_t, Bool.not_false, if_true, Bool.false_eq_true, if_false, fault_s, Option.bind_some, EC_nilD]
    · have h4' : ¬ (t.size : Int) > 4000 := by omega
      by_cases h1 : kind = 1
      · have b1 : (kind == 1) = true := by simpa using h1
        have hm : matchedR kind (L p) (L t) = ((lowL (L p) == lowL (L t), 0), []) := by rw [matchedR, if_pos h1]
        simp only [patterns_Match_t, brE_if, hk1, hk3', hp2', b1, b3, hel, h4', same_s p t hp ht, none_s, hm, decide_false, beq_f, beq_t, Bool.not_false, if_true, Bool.false_eq_true, if_false, Option.bind_some, EC_nilD]
      · have b1 : (kind == 1) = false := by simpa using h1
        have h2 : kind = 2 := by omega
        have b2 : (kind == 2) = true := by simpa using h2
        have hm : matchedR kind (L p) (L t) = ((contR (lowL (L t)) (lowL (L p)), 0), []) := by rw [matchedR, if_neg h1, if_pos h2]
        have hcp : contP (lowS t) (lowS p) = some (contR (lowL (L t)) (lowL (L p))) := by
          rw [contP, if_pos (by rw [lowS_size]; omega), contR_lib]
          rfl
        simp only [patterns_Match_t, brE_if, hk1, hk3', hp2', b1, b2, b3, hel, h4', lower_s t ht, lower_s p hp, hcp, none_s, hm, decide_false, beq_f, beq_t, Bool.not_false, if_true, Bool.false_eq_true, if_false, Option.bind_some, EC_nilD])
set_option maxRecDepth 100000 in
theorem lmatched_sp : lmatched_s = some true := fS_of (r := true) (Call_fuel (n := 400) (by kernel_rfl))

theorem pieces_small (kind : Int) (p t : List UInt8) : (matchedR kind p t).2.length ≤ p.length := by
  unfold matchedR
  split
  · simp
  · split
    · simp
    · unfold wildR
      split
      · have h1 := pieces_le (elems2 p) t
        have h2 := elems2_le p
        simp; omega
      · simp
theorem law_match (kind : Int) (p t : ByteArray) (hp : p.size ≤ 9223372036854775807) (ht : t.size ≤ 9223372036854775807) : posthouselaw6_PatternsMatchSpec_s kind p t = some true := posthouselaw6_PatternsMatchSpec_eq (by
  simp only [posthouselaw6_PatternsMatchSpec_t, brE_if, gdE_if, EC.decL_encL, EC.isL_encL, match_s kind p t hp ht, patternFault_s kind p hp, at_s, lmatched_sp, Option.bind_some]
  by_cases hf : faultP kind p = (0, 0)
  · have hps : p.size ≤ 200 := by
      unfold faultP at hf
      split at hf
      · cases hf
      · split at hf
        · cases hf
        · omega
    by_cases h4 : 4000 < t.size
    · have h4' : (t.size : Int) > 4000 := by omega
      simp [matchR, hf, h4, h4']
    · have h4' : ¬ (t.size : Int) > 4000 := by omega
      have hsm := pieces_small kind (L p) (L t)
      rw [L_len] at hsm
      have hst := sametexts_s (matchedR kind (L p) (L t)).2 (matchedR kind (L p) (L t)).2 (by omega)
      rw [beq_self_eq_true] at hst
      simp [matchR, hf, h4, h4', matched_s kind p t (by omega) (by omega), hst]
  · have h1 : (faultP kind p).1 ≠ 0 := by
      unfold faultP at hf ⊢
      split
      · decide
      · split
        · decide
        · split
          · exact (by decide : (11 : Int) ≠ 0)
          · rename_i a b c; rw [if_neg a, if_neg b, if_neg c] at hf; exact absurd rfl hf
    simp [matchR, hf, h1])
end Go.Proofs.Ytgmjhnijnpfkgaa
