/- What the reference's functions for patterns answer, in plain words. -/
import Derived.Test.YtgmjhnijnpfkgaaP2
namespace Go.Proofs.Ytgmjhnijnpfkgaa
open Go.RowKit

theorem in_s (n a b : Int) : posthouseref5_In_s n a b = some (decide (a ≤ n) && decide (n ≤ b)) := posthouseref5_In_eq (by
  by_cases h : a ≤ n <;> simp [posthouseref5_In_t, brE_if, h])
theorem at_s (a b : Int) : posthouseref5_At_s a b = some (a, b) := posthouseref5_At_eq rfl
theorem low_s {c : Int} (h0 : 0 ≤ c) (h1 : c < 256) : posthouseref5_Low_s c = some (lowI c) := posthouseref5_Low_eq (by
  have hw : IntKind.i64.wrap c = c := IntWalk.i64_in c (by omega)
  by_cases h : 65 ≤ c ∧ c ≤ 90
  · have hw8 : IntKind.u8.wrap (c + 32) = c + 32 := wrap8 (by omega) (by omega)
    simp [posthouseref5_Low_t, brE_if, in_s, hw, h, hw8, lowI]
  · have : ¬ (65 ≤ c ∧ c ≤ 90) := h
    simp only [posthouseref5_Low_t, brE_if, in_s, hw, lowI, h, if_false, Option.bind_some]
    simp
    omega)
theorem ralike_sp {a b : Int} (h0 : 0 ≤ a) (h1 : a < 256) (k0 : 0 ≤ b) (k1 : b < 256) : ralike_s a b = some (lowI a == lowI b) := ralike_eq (by
  simp only [ralike_t, low_s h0 h1, low_s k0 k1, Option.bind_some])
theorem lowL_cons (a b : UInt8) (l m : List UInt8) : (lowL (a :: l) == lowL (b :: m)) = ((lowI (nb a) == lowI (nb b)) && (lowL l == lowL m)) := by
  rw [← lowB_eq]; rfl
theorem alike_loop (a b : ByteArray) (hs : a.size = b.size) (ha : a.size ≤ 9223372036854775807) : ∀ (m k : Nat), k + m = a.size →
    (posthouseref5_Alike_l4 a b k).bind (Sum.elim (fun x => some x.1) (fun _ => some true)) = some (lowL ((L a).drop k) == lowL ((L b).drop k)) := by
  intro m
  have hLa := L_len a
  have hLb := L_len b
  induction m with
  | zero =>
    intro k hk
    have hk : k = a.size := by omega
    have h1 : posthouseref5_Alike_l4 a b k = some (.inr ((a, b, (k : Int), false), ())) := posthouseref5_Alike_l4_eq (by
      simp only [posthouseref5_Alike_l4_t, brE_if]
      simp [hk])
    have e1 : (L a).drop k = [] := List.drop_eq_nil_of_le (by omega)
    have e2 : (L b).drop k = [] := List.drop_eq_nil_of_le (by omega)
    rw [h1, e1, e2]; rfl
  | succ m ih =>
    intro k hk
    have hka : k < (L a).length := by omega
    have hkb : k < (L b).length := by omega
    have h1 : (k : Int) < (a.size : Int) := by omega
    have h2 : k < a.size := by omega
    have h3 : k < b.size := by omega
    have aa := at_L a hka
    have bb := at_L b hkb
    rw [drop_at hka, drop_at hkb, lowL_cons]
    generalize (L a)[k]'hka = xa at aa ⊢
    generalize (L b)[k]'hkb = xb at bb ⊢
    have n1 := nb_lt xa
    have n2 := nb_lt xb
    have hw := wrap_nat h2 ha
    by_cases he : lowI (nb xa) = lowI (nb xb)
    · have ih' := ih (k + 1) (by omega)
      cases hz : posthouseref5_Alike_l4 a b ((k + 1 : Nat) : Int) with
      | none => rw [hz] at ih'; cases ih'
      | some r =>
        have hb : (lowI (nb xa) != lowI (nb xb)) = false := by rw [he]; simp
        have h4 : posthouseref5_Alike_l4 a b k = some r := posthouseref5_Alike_l4_eq (by
          simp only [posthouseref5_Alike_l4_t, brE_if, gdE_if, Int.toNat_natCast, aa, bb, low_s n1.1 n1.2, low_s n2.1 n2.2, Option.bind_some, hw, hz, h1, h2, h3, hb, if_true, Bool.false_eq_true, if_false, decide_true, Bool.and_self, Int.natCast_nonneg])
        rw [h4, ← hz, ih', he]
        simp
    · have hb : (lowI (nb xa) != lowI (nb xb)) = true := by simpa using he
      have h4 : posthouseref5_Alike_l4 a b k = some (.inl (false, ())) := posthouseref5_Alike_l4_eq (by
        simp only [posthouseref5_Alike_l4_t, brE_if, gdE_if, Int.toNat_natCast, aa, bb, low_s n1.1 n1.2, low_s n2.1 n2.2, Option.bind_some, h1, h2, h3, hb, if_true, decide_true, Bool.and_self, Int.natCast_nonneg])
      rw [h4]
      have : (lowI (nb xa) == lowI (nb xb)) = false := by simpa using he
      rw [this]; rfl
theorem alike_s (a b : ByteArray) (ha : a.size ≤ 9223372036854775807) : posthouseref5_Alike_s a b = some (lowL (L a) == lowL (L b)) := posthouseref5_Alike_eq (by
  by_cases h : a.size = b.size
  · have := alike_loop a b h ha a.size 0 (by omega)
    have h' : ((a.size : Int) != (b.size : Int)) = false := by simp [h]
    simp only [posthouseref5_Alike_t, brE_if, h', Bool.false_eq_true, if_false]
    exact this
  · have h' : ((a.size : Int) != (b.size : Int)) = true := by simp; omega
    have : (lowL (L a) == lowL (L b)) = false := by
      simp only [beq_eq_false_iff_ne, ne_eq]
      intro hh
      have := congrArg List.length hh
      simp only [lowL, List.length_map, L_len] at this
      exact h this
    simp only [posthouseref5_Alike_t, brE_if, h', this, if_true])

/-- all elements, a backslash at the end for itself -/
def el1 (b : UInt8) : El := if nb b = 42 then ⟨false, true, 0⟩ else if nb b = 63 then ⟨true, false, 0⟩ else ⟨false, false, nb b⟩
def elems2 : List UInt8 → List El
  | [] => []
  | [b] => [el1 b]
  | b :: c :: l => if nb b = 92 then ⟨false, false, nb c⟩ :: elems2 l else el1 b :: elems2 (c :: l)
theorem elems2_one {b : UInt8} {l : List UInt8} (h : nb b ≠ 92 ∨ l = []) : elems2 (b :: l) = el1 b :: elems2 l := by
  cases l with
  | nil => simp [elems2]
  | cons c l =>
    rcases h with h | h
    · simp [elems2, h]
    · cases h
theorem elems2_two {b c : UInt8} {l : List UInt8} (h : nb b = 92) : elems2 (b :: c :: l) = ⟨false, false, nb c⟩ :: elems2 l := by simp [elems2, h]

/-- one step of the offsets that are reached -/
def NX (e : El) (T : List UInt8) (O : Nat → Bool) : Nat → Bool
  | 0 => e.many && O 0
  | j + 1 => if e.many then O (j + 1) || NX e T O j else O j && fitAt e T[j]?
theorem NX_many {e : El} {T : List UInt8} {O : Nat → Bool} (he : e.many = true) : ∀ j, (NX e T O j = true ↔ ∃ i, i ≤ j ∧ O i = true)
  | 0 => by simp [NX, he]
  | j + 1 => by
    simp only [NX, he, if_true, Bool.or_eq_true, NX_many he j]
    constructor
    · rintro (h | ⟨i, h1, h2⟩)
      · exact ⟨j + 1, Nat.le_refl _, h⟩
      · exact ⟨i, by omega, h2⟩
    · rintro ⟨i, h1, h2⟩
      rcases Nat.lt_or_ge i (j + 1) with h | h
      · exact .inr ⟨i, by omega, h2⟩
      · have : i = j + 1 := by omega
        subst this; exact .inl h2
theorem canM_many {e : El} {E : List El} {T : List UInt8} (he : e.many = true) : ∀ (m j : Nat), j + m = T.length → (canM (e :: E) (T.drop j) = true ↔ ∃ i, j ≤ i ∧ i ≤ T.length ∧ canM E (T.drop i) = true) := by
  intro m
  induction m with
  | zero =>
    intro j hj
    have hd : T.drop j = [] := List.drop_eq_nil_of_le (by omega)
    rw [hd, canM]
    constructor
    · intro h
      exact ⟨j, Nat.le_refl _, by omega, by rw [hd]; simpa [he] using h⟩
    · rintro ⟨i, h1, h2, h3⟩
      have : i = j := by omega
      subst this
      rw [hd] at h3
      simp [he, h3]
  | succ m ih =>
    intro j hj
    have hlt : j < T.length := by omega
    have hd := drop_at hlt
    rw [hd, canM, ← hd]
    simp only [he, if_true, Bool.or_eq_true, ih (j + 1) (by omega)]
    constructor
    · rintro (h | ⟨i, h1, h2, h3⟩)
      · exact ⟨j, Nat.le_refl _, by omega, h⟩
      · exact ⟨i, by omega, h2, h3⟩
    · rintro ⟨i, h1, h2, h3⟩
      rcases Nat.eq_or_lt_of_le h1 with h | h
      · subst h; exact .inl h3
      · exact .inr ⟨i, h, h2, h3⟩
theorem canM_one {e : El} {E : List El} {T : List UInt8} (he : e.many = false) (j : Nat) : (canM (e :: E) (T.drop j) = true ↔ fitAt e T[j]? = true ∧ canM E (T.drop (j + 1)) = true) := by
  rcases Nat.lt_or_ge j T.length with h | h
  · rw [drop_at h, canM, List.getElem?_eq_getElem h]
    simp [he, fitAt]
  · rw [List.drop_eq_nil_of_le h, canM, List.getElem?_eq_none h]
    simp [he, fitAt]
/-- some offset that is reached leads on -/
def anyJ (T : List UInt8) (O : Nat → Bool) (E : List El) : Prop := ∃ j, j ≤ T.length ∧ O j = true ∧ canM E (T.drop j) = true
theorem anyJ_step (T : List UInt8) (O : Nat → Bool) (e : El) (E : List El) : anyJ T O (e :: E) ↔ anyJ T (NX e T O) E := by
  unfold anyJ
  cases he : e.many with
  | true =>
    constructor
    · rintro ⟨j, h1, h2, h3⟩
      obtain ⟨i, a, b, c⟩ := (canM_many he (T.length - j) j (by omega)).1 h3
      exact ⟨i, b, (NX_many he i).2 ⟨j, a, h2⟩, c⟩
    · rintro ⟨i, h1, h2, h3⟩
      obtain ⟨j, a, b⟩ := (NX_many he i).1 h2
      exact ⟨j, by omega, b, (canM_many he (T.length - j) j (by omega)).2 ⟨i, a, h1, h3⟩⟩
  | false =>
    constructor
    · rintro ⟨j, h1, h2, h3⟩
      obtain ⟨a, b⟩ := (canM_one he j).1 h3
      have hj : j < T.length := by
        rcases Nat.lt_or_ge j T.length with h | h
        · exact h
        · rw [List.getElem?_eq_none h] at a; cases a
      exact ⟨j + 1, by omega, by simp [NX, he, h2, a], b⟩
    · rintro ⟨i, h1, h2, h3⟩
      cases i with
      | zero => simp [NX, he] at h2
      | succ j =>
        simp only [NX, he, Bool.false_eq_true, if_false, Bool.and_eq_true] at h2
        exact ⟨j, by omega, h2.1, (canM_one he j).2 ⟨h2.2, h3⟩⟩
theorem anyJ_end (T : List UInt8) (O : Nat → Bool) : anyJ T O [] ↔ O T.length = true := by
  unfold anyJ
  constructor
  · rintro ⟨j, h1, h2, h3⟩
    simp only [canM, List.isEmpty_iff, List.drop_eq_nil_iff] at h3
    have : j = T.length := by omega
    subst this; exact h2
  · intro h; exact ⟨T.length, Nat.le_refl _, h, by simp [canM]⟩

theorem same_loop (a b : List ByteArray) (hs : a.length = b.length) (ha : a.length ≤ 9223372036854775807) : ∀ (m k : Nat), k + m = a.length →
    (posthouseref5_SameTexts_l4 a b k).bind (Sum.elim (fun x => some x.1) (fun _ => some true)) = some ((a.drop k).map L == (b.drop k).map L) := by
  intro m
  induction m with
  | zero =>
    intro k hk
    have hk : k = a.length := by omega
    have h1 : posthouseref5_SameTexts_l4 a b k = some (.inr ((a, b, (k : Int), false), ())) := posthouseref5_SameTexts_l4_eq (by
      simp only [posthouseref5_SameTexts_l4_t, brE_if, gdE_if, EC.decL_encL, EC.isL_encL, EC.encL_length, isE_9, at_9_0]
      simp [hk])
    have e1 : a.drop k = [] := List.drop_eq_nil_of_le (by omega)
    have e2 : b.drop k = [] := List.drop_eq_nil_of_le (by omega)
    rw [h1, e1, e2]; rfl
  | succ m ih =>
    intro k hk
    have hka : k < a.length := by omega
    have hkb : k < b.length := by omega
    have h1 : (k : Int) < (a.length : Int) := by omega
    rw [drop_at hka, drop_at hkb]
    have hw := wrap_nat hka ha
    have hc : ((a[k] :: a.drop (k + 1)).map L == (b[k] :: b.drop (k + 1)).map L) = ((L a[k] == L b[k]) && ((a.drop (k + 1)).map L == (b.drop (k + 1)).map L)) := rfl
    rw [hc]
    cases he : (L a[k] == L b[k]) with
    | true =>
      have ih' := ih (k + 1) (by omega)
      cases hz : posthouseref5_SameTexts_l4 a b ((k + 1 : Nat) : Int) with
      | none => rw [hz] at ih'; cases ih'
      | some r =>
        have h4 : posthouseref5_SameTexts_l4 a b k = some r := posthouseref5_SameTexts_l4_eq (by
          simp only [posthouseref5_SameTexts_l4_t, brE_if, gdE_if, EC.decL_encL, EC.isL_encL, EC.encL_length, isE_9, at_9_0, Int.toNat_natCast, getD_in hka, getD_in hkb, toList_L, he, hw, hz, h1, hka, hkb, if_true, Bool.not_true, Bool.false_eq_true, if_false, decide_true, Bool.and_self, Int.natCast_nonneg])
        rw [h4, ← hz, ih']; simp
    | false =>
      have h4 : posthouseref5_SameTexts_l4 a b k = some (.inl (false, ())) := posthouseref5_SameTexts_l4_eq (by
        simp only [posthouseref5_SameTexts_l4_t, brE_if, gdE_if, EC.decL_encL, EC.isL_encL, EC.encL_length, isE_9, at_9_0, Int.toNat_natCast, getD_in hka, getD_in hkb, toList_L, he, h1, hka, hkb, if_true, Bool.not_false, decide_true, Bool.and_self, Int.natCast_nonneg])
      rw [h4]; rfl
theorem sametexts_s (a b : List ByteArray) (ha : a.length ≤ 9223372036854775807) : posthouseref5_SameTexts_s a b = some (a.map L == b.map L) := posthouseref5_SameTexts_eq (by
  by_cases h : a.length = b.length
  · have := same_loop a b h ha a.length 0 (by omega)
    have h' : ((a.length : Int) != (b.length : Int)) = false := by simp [h]
    simp only [posthouseref5_SameTexts_t, brE_if, gdE_if, EC.decL_encL, EC.isL_encL, EC.encL_length, h', Bool.false_eq_true, if_false, if_true]
    exact this
  · have h' : ((a.length : Int) != (b.length : Int)) = true := by simp; omega
    have : (a.map L == b.map L) = false := by
      simp only [beq_eq_false_iff_ne, ne_eq]
      intro hh
      have := congrArg List.length hh
      simp only [List.length_map] at this
      exact h this
    simp only [posthouseref5_SameTexts_t, brE_if, EC.decL_encL, EC.isL_encL, EC.encL_length, h', this, if_true])
end Go.Proofs.Ytgmjhnijnpfkgaa
