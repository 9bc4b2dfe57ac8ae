/- The reference's pieces of a span, in plain words. -/
import Derived.Test.YtbbaldhmeifloaaV2
namespace Go.Proofs.Ytbbaldhmeifloaa
open Go.RowKit

def busyB (l : List Pd) (x : Int) : Bool := l.any fun p => decide (p.From ≤ x) && decide (x < p.To)
theorem busyB_iff (l : List Pd) (x : Int) : busyB l x = true ↔ Inn l x := by
  unfold busyB Inn
  rw [List.any_eq_true]
  simp
theorem busy_loop (l : List Pd) (x : Int) (hn : l.length ≤ 9223372036854775807) : ∀ (m k : Nat), k + m = l.length →
    (posthouseref6_Busy_l2 l x k).bind (Sum.elim (fun x => some x.1) (fun _ => some false)) = some (busyB (l.drop k) x) := by
  intro m
  induction m with
  | zero =>
    intro k hk
    have : k = l.length := by omega
    subst this
    have h1 : posthouseref6_Busy_l2 l x l.length = some (.inr ((l, x, (l.length : Int), false), ())) := posthouseref6_Busy_l2_eq (by
      simp only [posthouseref6_Busy_l2_t, brE_if, gdE_if, EC.decL_encL, EC.isL_encL, EC.encL_length, isE_58, at_58_0, at_58_1]
      simp)
    rw [h1]
    simp [busyB]
  | succ m ih =>
    intro k hk
    have hlt : k < l.length := by omega
    have hk' : (k : Int) < (l.length : Int) := by omega
    rw [drop_at hlt]
    have hc : busyB (l[k] :: l.drop (k + 1)) x = ((decide (l[k].From ≤ x) && decide (x < l[k].To)) || busyB (l.drop (k + 1)) x) := by simp only [busyB, List.any_cons]
    rw [hc]
    by_cases hp : (decide (l[k].From ≤ x) && decide (x < l[k].To)) = true
    · have h1 : posthouseref6_Busy_l2 l x k = some (.inl (true, ())) := posthouseref6_Busy_l2_eq (by
        simp at hp
        simp only [posthouseref6_Busy_l2_t, brE_if, gdE_if, EC.decL_encL, EC.isL_encL, EC.encL_length, isE_58, at_58_0, at_58_1, Int.toNat_natCast, getD_in hlt]
        simp [hk', hlt, hp])
      rw [h1, hp]
      rfl
    · obtain ⟨r, hr, h2⟩ := some_of (ih (k + 1) (by omega))
      have h1 : posthouseref6_Busy_l2 l x k = some r := posthouseref6_Busy_l2_eq (by
        simp at hp
        simp only [posthouseref6_Busy_l2_t, brE_if, gdE_if, EC.decL_encL, EC.isL_encL, EC.encL_length, isE_58, at_58_0, at_58_1, Int.toNat_natCast, getD_in hlt, wrap_nat hlt hn, hr]
        by_cases h3 : l[k].From ≤ x
        · have := hp h3
          simp [hk', hlt, h3, show ¬ x < l[k].To by omega]
        · simp [hk', hlt, h3])
      rw [h1, (Bool.not_eq_true _).mp hp, Bool.false_or]
      exact h2
theorem busy_s (l : List Pd) (x : Int) (hn : l.length ≤ 9223372036854775807) : posthouseref6_Busy_s l x = some (busyB l x) := posthouseref6_Busy_eq (by
  obtain ⟨r, hr, h⟩ := some_of (busy_loop l x hn l.length 0 (by omega))
  rw [List.drop_zero] at h
  simp only [Int.natCast_zero] at hr
  simp only [posthouseref6_Busy_t, gdE_if, EC.decL_encL, EC.isL_encL, hr, Option.bind_some, if_true]
  exact h)

/-! ### bounds -/
def cand (l : List Pd) : List Int := l.flatMap fun p => [p.From, p.To]
theorem cand_length (l : List Pd) : (cand l).length = 2 * l.length := by
  induction l with
  | nil => rfl
  | cons p l ih =>
    show ([p.From, p.To] ++ cand l).length = _
    rw [List.length_append, ih]
    simp only [List.length_cons, List.length_nil]
    omega
theorem two_3 (a b : Int) (xs : List Int) : ec_3.encL xs ++ [[C.int .i64 a], [C.int .i64 b]] = ec_3.encL (xs ++ [a, b]) := by simp [EC.encL]; exact ⟨rfl, rfl⟩
theorem lit2_3 (a b : Int) : ec_3.decL [[C.int .i64 a], [C.int .i64 b]] = [a, b] := rfl
theorem cand_loop (l : List Pd) (f t : Int) (hn : l.length ≤ 1000000000) : ∀ (m k : Nat) (b : List Int), k + m = l.length → b.length ≤ 2 * k + 2 →
    posthouseref6_bounds_l3 l f t b.length k b = some ((l, f, t, (b ++ cand (l.drop k)).length, (l.length : Int), false), b ++ cand (l.drop k)) := by
  intro m
  induction m with
  | zero =>
    intro k b hk hb
    have : k = l.length := by omega
    subst this
    refine posthouseref6_bounds_l3_eq ?_
    simp only [posthouseref6_bounds_l3_t, brE_if, gdE_if, EC.decL_encL, EC.isL_encL, EC.encL_length, isE_58, at_58_0, at_58_1, all_3]
    simp [cand]
  | succ m ih =>
    intro k b hk hb
    have hlt : k < l.length := by omega
    have hk' : (k : Int) < (l.length : Int) := by omega
    have h1 := ih (k + 1) (b ++ [l[k].From, l[k].To]) (by omega) (by simp; omega)
    have e : cand (l.drop k) = [l[k].From, l[k].To] ++ cand (l.drop (k + 1)) := by rw [drop_at hlt]; simp only [cand, List.flatMap_cons]
    rw [e, ← List.append_assoc]
    refine posthouseref6_bounds_l3_eq ?_
    rw [List.length_append] at h1
    simp only [posthouseref6_bounds_l3_t, brE_if, gdE_if, EC.decL_encL, EC.isL_encL, EC.encL_length, isE_58, at_58_0, at_58_1, all_3, two_3, Int.toNat_natCast, getD_in hlt, wrap_nat hlt (show l.length ≤ 9223372036854775807 by omega), List.length_cons, List.length_nil] at h1 ⊢
    simp only [h1]
    simp [hk', hlt]
    omega
/-- the least number above one, below another -/
def minA (last : Int) : Int → List Int → Int
  | n, [] => n
  | n, v :: l => minA last (if last < v ∧ v < n then v else n) l
theorem minA_spec (last : Int) : ∀ (l : List Int) (n : Int), minA last n l ≤ n ∧ (minA last n l < n → minA last n l ∈ l ∧ last < minA last n l) ∧ ∀ v ∈ l, last < v → minA last n l ≤ v
  | [], n => ⟨Int.le_refl _, fun h => absurd h (by simp [minA]), by simp⟩
  | v :: l, n => by
    obtain ⟨h1, h2, h3⟩ := minA_spec last l (if last < v ∧ v < n then v else n)
    simp only [minA]
    generalize hm : minA last (if last < v ∧ v < n then v else n) l = m at *
    by_cases hv : last < v ∧ v < n
    · rw [if_pos hv] at h1 h2
      refine ⟨by omega, fun _ => ?_, fun w hw hl => ?_⟩
      · by_cases h : m < v
        · have := h2 h; exact ⟨List.mem_cons_of_mem _ this.1, this.2⟩
        · have : m = v := by omega
          subst this; exact ⟨List.mem_cons_self .., hv.1⟩
      · rcases List.mem_cons.1 hw with e | e
        · subst e; exact h1
        · exact h3 w e hl
    · rw [if_neg hv] at h1 h2
      refine ⟨h1, fun h => ?_, fun w hw hl => ?_⟩
      · have := h2 h; exact ⟨List.mem_cons_of_mem _ this.1, this.2⟩
      · rcases List.mem_cons.1 hw with e | e
        · subst e; omega
        · exact h3 w e hl
theorem min_loop (til last : Int) (out : Nat) (all b1 : List Int) (hn : all.length ≤ 9223372036854775807) : ∀ (m k : Nat) (n : Int), k + m = all.length →
    posthouseref6_bounds_l10 til all.length out last n k all b1 = some ((til, all.length, out, last, minA last n (all.drop k), (all.length : Int), false), (all, b1)) := by
  intro m
  induction m with
  | zero =>
    intro k n hk
    have : k = all.length := by omega
    subst this
    refine posthouseref6_bounds_l10_eq ?_
    simp only [posthouseref6_bounds_l10_t, brE_if, gdE_if, EC.decL_encL, EC.isL_encL, EC.encL_length, at_3_0]
    simp [minA]
  | succ m ih =>
    intro k n hk
    have hlt : k < all.length := by omega
    have hk' : (k : Int) < (all.length : Int) := by omega
    have h1 := ih (k + 1) (if last < all[k] ∧ all[k] < n then all[k] else n) (by omega)
    have e : minA last n (all.drop k) = minA last (if last < all[k] ∧ all[k] < n then all[k] else n) (all.drop (k + 1)) := by rw [drop_at hlt]; rfl
    rw [e]
    refine posthouseref6_bounds_l10_eq ?_
    by_cases h2 : last < all[k]
    · by_cases h3 : all[k] < n
      · rw [if_pos ⟨h2, h3⟩] at h1 ⊢
        simp only [posthouseref6_bounds_l10_t, brE_if, gdE_if, EC.decL_encL, EC.isL_encL, EC.encL_length, at_3_0, Int.toNat_natCast, getD_in hlt, len_3 all k hlt, isP1_3 all k hlt, wrap_nat hlt hn, h1]
        simp [hk', hlt, h2, h3]
      · rw [if_neg (fun h => h3 h.2)] at h1 ⊢
        simp only [posthouseref6_bounds_l10_t, brE_if, gdE_if, EC.decL_encL, EC.isL_encL, EC.encL_length, at_3_0, Int.toNat_natCast, getD_in hlt, len_3 all k hlt, isP1_3 all k hlt, wrap_nat hlt hn, h1]
        simp [hk', hlt, h2, h3]
    · rw [if_neg (fun h => h2 h.1)] at h1 ⊢
      simp only [posthouseref6_bounds_l10_t, brE_if, gdE_if, EC.decL_encL, EC.isL_encL, EC.encL_length, at_3_0, Int.toNat_natCast, getD_in hlt, len_3 all k hlt, isP1_3 all k hlt, wrap_nat hlt hn, h1]
      simp [hk', hlt, h2]
/-- the numbers of a list above one, up to another, in order -/
def bL (til : Int) (all : List Int) : Nat → Int → List Int
  | 0, _ => []
  | q + 1, last => if til < minA last (til + 1) all then [] else minA last (til + 1) all :: bL til all q (minA last (til + 1) all)
theorem bL_spec (til : Int) (all : List Int) : ∀ (q : Nat) (last : Int), til - last ≤ q → (∀ v ∈ bL til all q last, last < v ∧ v ≤ til) ∧ (∀ v ∈ all, last < v → v ≤ til → v ∈ bL til all q last) ∧ ((bL til all q last).length : Int) ≤ max 0 (til - last)
  | 0, last, h => ⟨by simp [bL], fun v _ h1 h2 => by omega, by simp [bL]; omega⟩
  | q + 1, last, h => by
    obtain ⟨m1, m2, m3⟩ := minA_spec last all (til + 1)
    simp only [bL]
    generalize minA last (til + 1) all = m at *
    by_cases hm : til < m
    · rw [if_pos hm]
      refine ⟨by simp, fun v hv h1 h2 => ?_, by simp; omega⟩
      have := m3 v hv h1
      omega
    · rw [if_neg hm]
      have hlm := (m2 (by omega)).2
      obtain ⟨i1, i2, i3⟩ := bL_spec til all q m (by omega)
      refine ⟨fun v hv => ?_, fun v hv h1 h2 => ?_, ?_⟩
      · rcases List.mem_cons.1 hv with e | e
        · subst e; omega
        · have := i1 v e; omega
      · by_cases e : v = m
        · subst e; exact List.mem_cons_self ..
        · have := m3 v hv h1
          exact List.mem_cons_of_mem _ (i2 v hv (by omega) h2)
      · rw [List.length_cons]; omega
theorem bL_loop (til f : Int) (all : List Int) (hn : all.length ≤ 9223372036854775807) (hf : -68719476736 ≤ f) (ht : til ≤ 68719476736) : ∀ (q : Nat) (last : Int) (b : List Int), til - last < q → f - 1 ≤ last → last ≤ til → (b.length : Int) ≤ last - f + 1 →
    posthouseref6_bounds_l8 til all.length b.length last all b = some ((b ++ bL til all q last).length, b ++ bL til all q last) := by
  intro q
  induction q with
  | zero => intro last b h1 h2 h3 h4; omega
  | succ q ih =>
    intro last b h1 h2 h3 h4
    refine posthouseref6_bounds_l8_eq ?_
    have hmin := min_loop til last b.length all b hn all.length 0 (til + 1) (by omega)
    rw [List.drop_zero] at hmin
    simp only [Int.natCast_zero] at hmin
    have hw : IntKind.i64.wrap (til + 1) = til + 1 := wrap_in (by omega) (by omega)
    obtain ⟨m1, m2, m3⟩ := minA_spec last all (til + 1)
    simp only [bL]
    generalize minA last (til + 1) all = m at *
    by_cases hm : til < m
    · simp only [posthouseref6_bounds_l8_t, brE_if, gdE_if, EC.decL_encL, EC.isL_encL, all_3, apd_3, hw, hmin, Option.bind_some, if_true]
      simp [hm]
    · have hlm := (m2 (by omega)).2
      have h5 := ih m (b ++ [m]) (by omega) (by omega) (by omega) (by rw [List.length_append]; simp; omega)
      rw [List.append_assoc] at h5
      rw [List.length_append] at h5
      simp only [List.length_cons, List.length_nil, List.cons_append, List.nil_append] at h5
      simp only [posthouseref6_bounds_l8_t, brE_if, gdE_if, EC.decL_encL, EC.isL_encL, all_3, apd_3, hw, hmin, Option.bind_some, if_true, List.length_cons, List.length_nil, h5]
      simp [hm]
      omega
def bnds (l : List Pd) (f t : Int) : List Int := bL t ([f, t] ++ cand l) (t - f + 2).toNat (f - 1)
theorem bounds_s (l : List Pd) (f t : Int) (hn : l.length ≤ 1000000000) (hf : -68719476736 ≤ f) (hft : f ≤ t) (ht : t ≤ 68719476736) : posthouseref6_bounds_s l f t = some ((bnds l f t).length, bnds l f t) := posthouseref6_bounds_eq (by
  have h1 := cand_loop l f t hn l.length 0 [f, t] (by omega) (by simp)
  rw [List.drop_zero] at h1
  simp only [Int.natCast_zero, List.length_cons, List.length_nil] at h1
  have hcl := cand_length l
  have h2 := bL_loop t f ([f, t] ++ cand l) (by rw [List.length_append, hcl]; simp; omega) hf ht (t - f + 2).toNat (f - 1) [] (by omega) (by omega) (by omega) (by simp; omega)
  have hw : IntKind.i64.wrap (f - 1) = f - 1 := wrap_in (by omega) (by omega)
  rw [List.nil_append] at h2
  simp only [List.length_nil] at h2
  simp only [posthouseref6_bounds_t, gdE_if, EC.decL_encL, EC.isL_encL, lit2_3, EC_nilD, h1, Option.bind_some, if_true, hw, h2]
  rfl)
theorem bnds_spec {l : List Pd} {f t : Int} (hft : f ≤ t) : ∃ r, bnds l f t = f :: r ∧ lastD f r = t ∧ Rise (f :: r) ∧ ((bnds l f t).length : Int) ≤ t - f + 1 ∧ ∀ busy : Bool, Seg (fun x => Inn l x ↔ busy = true) (fun a => busyB l a == busy) (f :: r) := by
  have hall : ∀ p ∈ l, p.From ∈ [f, t] ++ cand l ∧ p.To ∈ [f, t] ++ cand l := fun p hp => by
    constructor <;> refine List.mem_append_right _ (List.mem_flatMap.2 ⟨p, hp, by simp⟩)
  unfold bnds
  generalize hA : [f, t] ++ cand l = all at *
  have hfa : f ∈ all := by rw [← hA]; simp
  have hta : t ∈ all := by rw [← hA]; simp
  -- steps
  have key : ∀ (q : Nat) (a : Int), t - a < q → a ≤ t → lastD a (bL t all q a) = t ∧ Rise (a :: bL t all q a) ∧ ∀ busy : Bool, Seg (fun x => Inn l x ↔ busy = true) (fun a => busyB l a == busy) (a :: bL t all q a) := by
    intro q
    induction q with
    | zero => intro a h1 h2; omega
    | succ q ih =>
      intro a h1 h2
      obtain ⟨m1, m2, m3⟩ := minA_spec a all (t + 1)
      simp only [bL]
      generalize minA a (t + 1) all = m at *
      by_cases hm : t < m
      · rw [if_pos hm]
        have : ¬ a < t := fun h => by have := m3 t hta h; omega
        exact ⟨by simp [lastD]; omega, trivial, fun _ => trivial⟩
      · rw [if_neg hm]
        have hlm := (m2 (by omega)).2
        obtain ⟨i1, i2, i3⟩ := ih m (by omega) (by omega)
        refine ⟨i1, ⟨hlm, i2⟩, fun busy => ⟨fun x hx1 hx2 => ?_, i3 busy⟩⟩
        have : Inn l x ↔ Inn l a := by
          unfold Inn
          constructor
          · rintro ⟨p, hp, h3, h4⟩
            refine ⟨p, hp, ?_, by omega⟩
            rcases Int.lt_or_le a p.From with h | h
            · have := m3 p.From (hall p hp).1 h; omega
            · exact h
          · rintro ⟨p, hp, h3, h4⟩
            have := m3 p.To (hall p hp).2 h4
            exact ⟨p, hp, by omega, by omega⟩
        show (Inn l x ↔ busy = true) ↔ (busyB l a == busy) = true
        rw [this, ← busyB_iff]
        cases busyB l a <;> cases busy <;> simp
  obtain ⟨m1, m2, m3⟩ := minA_spec (f - 1) all (t + 1)
  have e : minA (f - 1) (t + 1) all = f := by
    have := m3 f hfa (by omega)
    have := (m2 (by omega)).2
    omega
  obtain ⟨q, hq⟩ : ∃ q, (t - f + 2).toNat = q + 1 := ⟨(t - f + 1).toNat, by omega⟩
  obtain ⟨k1, k2, k3⟩ := key q f (by omega) hft
  have hlen := (bL_spec t all (q + 1) (f - 1) (by omega)).2.2
  rw [hq]
  have e2 : bL t all (q + 1) (f - 1) = f :: bL t all q f := by
    rw [bL, e, if_neg (by omega)]
  refine ⟨bL t all q f, e2, k1, k2, by omega, k3⟩

/-! ### pieces -/
theorem stepW_length (out : List Pd) (a c : Int) : (stepW out a c).length ≤ out.length + 1 := by
  unfold stepW
  cases hq : out.getLast? with
  | none => simp
  | some q =>
    obtain ⟨ys, rfl⟩ := List.getLast?_eq_some_iff.1 hq
    simp only [List.dropLast_concat]
    split <;> simp
theorem wiU_none (pb : Int → Bool) (out : List Pd) : ∀ (l : List Int), l.length ≤ 1 → wiU pb out l = out
  | [], _ => rfl
  | [a], _ => rfl
  | a :: c :: r, h => by simp at h
theorem within_loop (l : List Pd) (busy : Bool) (hl : l.length ≤ 9223372036854775807) (b : List Int) (hn : b.length ≤ 1000000000000) : ∀ (m k : Nat) (out : List Pd), k + m = b.length → out.length ≤ k →
    ∃ r, posthouseref6_Within_l4 l busy b.length out.length k b out = some r ∧ r.1.2.2.2.1 = (wiU (fun a => busyB l a == busy) out (b.drop k)).length ∧ r.2.2 = wiU (fun a => busyB l a == busy) out (b.drop k) := by
  intro m
  induction m with
  | zero =>
    intro k out hk ho
    have hk0 : k = b.length := by omega
    have hw : IntKind.i64.wrap ((k : Int) + 1) = (k : Int) + 1 := wrap_in (by omega) (by omega)
    have hd : b.drop k = [] := by rw [hk0]; simp
    rw [hd]
    refine ⟨((l, busy, b.length, out.length, (k : Int), false), (b, out)), posthouseref6_Within_l4_eq ?_, rfl, rfl⟩
    simp only [posthouseref6_Within_l4_t, brE_if, gdE_if, EC.decL_encL, EC.isL_encL, EC.encL_length, at_58_1, all_58, apd_58, set_58_1_1, at_3_0, hw]
    simp [show ¬ (k : Int) + 1 < (b.length : Int) by omega]
  | succ m ih =>
    intro k out hk ho
    have hlt : k < b.length := by omega
    by_cases h1 : k + 1 < b.length
    case neg =>
      have hd : (b.drop k).length ≤ 1 := by rw [List.length_drop]; omega
      rw [wiU_none _ _ _ hd]
      refine ⟨((l, busy, b.length, out.length, (k : Int), false), (b, out)), posthouseref6_Within_l4_eq ?_, rfl, rfl⟩
      have hw : IntKind.i64.wrap ((k : Int) + 1) = (k : Int) + 1 := wrap_in (by omega) (by omega)
      simp only [posthouseref6_Within_l4_t, brE_if, gdE_if, EC.decL_encL, EC.isL_encL, EC.encL_length, at_58_1, all_58, apd_58, set_58_1_1, at_3_0, hw]
      simp [show ¬ (k : Int) + 1 < (b.length : Int) by omega]
    case pos =>
      have hk' : (k : Int) < (b.length : Int) := by omega
      have hk1 : ((k + 1 : Nat) : Int) < (b.length : Int) := by omega
      have hw : IntKind.i64.wrap ((k : Int) + 1) = ((k + 1 : Nat) : Int) := wrap_nat hlt (by omega)
      have hd : b.drop k = b[k] :: b[k + 1] :: b.drop (k + 1 + 1) := by rw [drop_at hlt, drop_at h1]
      have hd1 : b.drop (k + 1) = b[k + 1] :: b.drop (k + 1 + 1) := drop_at h1
      by_cases hb : busyB l b[k] = busy
      case neg =>
        obtain ⟨r, hr, e1, e2⟩ := ih (k + 1) out (by omega) (by omega)
        have hbe : (busyB l b[k] == busy) = false := by simpa using hb
        have ew : wiU (fun a => busyB l a == busy) out (b.drop k) = wiU (fun a => busyB l a == busy) out (b.drop (k + 1)) := by
          rw [hd, wiU, ← hd1]; simp only [hbe, Bool.false_eq_true, if_false]
        rw [ew]
        refine ⟨r, posthouseref6_Within_l4_eq ?_, e1, e2⟩
        simp only [posthouseref6_Within_l4_t, brE_if, gdE_if, EC.decL_encL, EC.isL_encL, EC.encL_length, at_58_1, all_58, apd_58, set_58_1_1, at_3_0, hw, Int.toNat_natCast, getD_in hlt, len_3 b k hlt, isP1_3 b k hlt, busy_s l _ hl, Option.bind_some, hbe, hr]
        simp [hk', hlt]
        omega
      case pos =>
        have hs := stepW_length out b[k] b[k + 1]
        obtain ⟨r, hr, e1, e2⟩ := ih (k + 1) (stepW out b[k] b[k + 1]) (by omega) (by omega)
        have hbe : (busyB l b[k] == busy) = true := by simpa using hb
        have ew : wiU (fun a => busyB l a == busy) out (b.drop k) = wiU (fun a => busyB l a == busy) (stepW out b[k] b[k + 1]) (b.drop (k + 1)) := by
          rw [hd, wiU, ← hd1]; simp only [hbe, if_true]
        rw [ew]
        refine ⟨r, posthouseref6_Within_l4_eq ?_, e1, e2⟩
        cases hq : out.getLast? with
        | none =>
          have : out = [] := by simpa using hq
          subst this
          have es : stepW [] b[k] b[k + 1] = [⟨b[k], b[k + 1]⟩] := rfl
          rw [es] at hr
          simp only [List.length_cons, List.length_nil, Nat.zero_add] at hr
          simp only [posthouseref6_Within_l4_t, brE_if, gdE_if, EC.decL_encL, EC.isL_encL, EC.encL_length, at_58_1, all_58, apd_58, set_58_1_1, at_3_0, hw, Int.toNat_natCast, getD_in hlt, getD_in h1, len_3 b k hlt, isP1_3 b k hlt, len_3 b _ h1, isP1_3 b _ h1, busy_s l _ hl, Option.bind_some, hbe, List.nil_append, List.length_cons, List.length_nil, Nat.zero_add, hr]
          simp [hk', hlt, h1]
          rw [if_pos (by omega), if_pos (by omega)]
        | some q =>
          obtain ⟨ys, rfl⟩ := List.getLast?_eq_some_iff.1 hq
          have hwo : IntKind.i64.wrap ((((ys ++ [q]).length : Nat) : Int) - 1) = (ys.length : Int) := by
            rw [wrap_in (by simp) (by simp at ho ⊢; omega)]; simp
          have hyl : ys.length < (ys ++ [q]).length := by simp
          have hg : (ys ++ [q])[ys.length]'hyl = q := by simp
          have c1 : (ys.length : Int) < (((ys ++ [q]).length : Nat) : Int) := by omega
          have c2 : (((ys ++ [q]).length : Nat) : Int) > 0 := by omega
          by_cases hqt : q.To = b[k]
          · have es : stepW (ys ++ [q]) b[k] b[k + 1] = ys ++ [⟨q.From, b[k + 1]⟩] := by simp [stepW, hqt]
            have eset : (ys ++ [q]).set ys.length ⟨q.From, b[k + 1]⟩ = ys ++ [⟨q.From, b[k + 1]⟩] := by
              rw [List.set_append_right _ _ (Nat.le_refl _)]; simp
            have el : (ys ++ [(⟨q.From, b[k + 1]⟩ : Pd)]).length = (ys ++ [q]).length := by simp
            rw [es, el] at hr
            simp only [posthouseref6_Within_l4_t, brE_if, gdE_if, EC.decL_encL, EC.isL_encL, EC.encL_length, at_58_1, all_58, apd_58, set_58_1_1, at_3_0, hw, Int.toNat_natCast, getD_in hlt, getD_in h1, len_3 b k hlt, isP1_3 b k hlt, len_3 b _ h1, isP1_3 b _ h1, busy_s l _ hl, Option.bind_some, hbe, hwo, getD_in hyl, hg, len_58 _ _ hyl, isP1_58 _ _ hyl, hqt, eset, hr]
            simp only [hk', hk1, hlt, h1, c1, c2, hyl, decide_true, Bool.and_self, if_true, Int.natCast_nonneg, beq_self_eq_true, Bool.not_true, Bool.false_eq_true, if_false]
          · have es : stepW (ys ++ [q]) b[k] b[k + 1] = ys ++ [q] ++ [⟨b[k], b[k + 1]⟩] := by simp [stepW, hqt]
            have hqe : (q.To == b[k]) = false := by simpa using hqt
            rw [es, List.length_append] at hr
            have e4 : ((ys ++ [q]).length + 1) * 16 ≤ 140737488355328 := by omega
            have e5 : (ys ++ [q]).length + 1 ≤ 9223372036854775807 := by omega
            simp only [List.length_cons, List.length_nil, Nat.zero_add] at hr
            simp only [posthouseref6_Within_l4_t, brE_if, gdE_if, EC.decL_encL, EC.isL_encL, EC.encL_length, at_58_1, all_58, apd_58, set_58_1_1, at_3_0, hw, Int.toNat_natCast, getD_in hlt, getD_in h1, len_3 b k hlt, isP1_3 b k hlt, len_3 b _ h1, isP1_3 b _ h1, busy_s l _ hl, Option.bind_some, hbe, hwo, getD_in hyl, hg, len_58 _ _ hyl, isP1_58 _ _ hyl, hqe, List.length_cons, List.length_nil, Nat.zero_add, hr]
            simp only [hk', hk1, hlt, h1, c1, c2, hyl, decide_true, Bool.and_self, if_true, Int.natCast_nonneg, beq_self_eq_true, Bool.not_true, Bool.false_eq_true, if_false, e4, e5, List.all_cons, List.all_nil]
            simp
def withinU (l : List Pd) (f t : Int) (busy : Bool) : List Pd := wiU (fun a => busyB l a == busy) [] (bnds l f t)
theorem within_s (l : List Pd) (f t : Int) (busy : Bool) (hn : l.length ≤ 1000000000) (hf : -68719476736 ≤ f) (hft : f ≤ t) (ht : t ≤ 68719476736) : posthouseref6_Within_s l f t busy = some ((withinU l f t busy).length, withinU l f t busy) := posthouseref6_Within_eq (by
  have h1 := bounds_s l f t hn hf hft ht
  obtain ⟨_, _, _, _, hlen, _⟩ := bnds_spec (l := l) hft
  obtain ⟨r, hr, e1, e2⟩ := within_loop l busy (by omega) (bnds l f t) (by omega) (bnds l f t).length 0 [] (by omega) (by simp)
  rw [List.drop_zero] at e1 e2
  simp only [Int.natCast_zero, List.length_nil] at hr
  simp only [posthouseref6_Within_t, gdE_if, EC.decL_encL, EC.isL_encL, EC_nilD, h1, Option.bind_some, if_true, hr, e1, e2]
  rfl)
theorem withinU_spec {l : List Pd} {f t : Int} (hft : f ≤ t) (busy : Bool) : NF (withinU l f t busy) ∧ ∀ x, Inn (withinU l f t busy) x ↔ f ≤ x ∧ x < t ∧ (Inn l x ↔ busy = true) := by
  obtain ⟨r, e, hl, hr, _, hs⟩ := bnds_spec (l := l) hft
  obtain ⟨h1, h2⟩ := wiU_ok r f [] hr (hs busy) trivial (by simp)
  unfold withinU
  rw [e]
  refine ⟨h1, fun x => ?_⟩
  rw [h2, Inn_nil, false_or, hl]
theorem long_loop (len : Int) (l : List Pd) (hn : l.length ≤ 1000000000000) (hb : ∀ p ∈ l, -68719476736 ≤ p.From ∧ p.From ≤ 68719476736 ∧ -68719476736 ≤ p.To ∧ p.To ≤ 68719476736) : ∀ (m k : Nat) (b : List Pd), k + m = l.length → b.length ≤ k →
    ∃ r, posthouseref6_Long_l3 l len b.length k b = some r ∧ r.1.2.2.1 = (b ++ (l.drop k).filter fun q => decide (len ≤ q.To - q.From)).length ∧ r.2 = b ++ (l.drop k).filter fun q => decide (len ≤ q.To - q.From) := by
  intro m
  induction m with
  | zero =>
    intro k b hk hbl
    have : k = l.length := by omega
    subst this
    refine ⟨((l, len, b.length, (l.length : Int), false), b), posthouseref6_Long_l3_eq ?_, ?_, ?_⟩
    · simp only [posthouseref6_Long_l3_t, brE_if, gdE_if, EC.decL_encL, EC.isL_encL, EC.encL_length, isE_58, at_58_0, at_58_1, all_58, apd_58]
      simp
    · simp
    · simp
  | succ m ih =>
    intro k b hk hbl
    have hlt : k < l.length := by omega
    have hk' : (k : Int) < (l.length : Int) := by omega
    have hp := hb l[k] (List.getElem_mem hlt)
    have e3 : IntKind.i64.wrap (l[k].To - l[k].From) = l[k].To - l[k].From := wrap_in (by omega) (by omega)
    rw [drop_at hlt, List.filter_cons]
    by_cases hc : len ≤ l[k].To - l[k].From
    · rw [if_pos (by simpa using hc)]
      obtain ⟨r, hr, h1, h2⟩ := ih (k + 1) (b ++ [l[k]]) (by omega) (by simp; omega)
      rw [List.append_assoc] at h1 h2
      refine ⟨r, posthouseref6_Long_l3_eq ?_, h1, h2⟩
      have e2 : ({ From := l[k].From, To := l[k].To } : Pd) = l[k] := rfl
      rw [List.length_append] at hr
      simp only [posthouseref6_Long_l3_t, brE_if, gdE_if, EC.decL_encL, EC.isL_encL, EC.encL_length, isE_58, at_58_0, at_58_1, all_58, apd_58, Int.toNat_natCast, getD_in hlt, e2, e3, wrap_nat hlt (show l.length ≤ 9223372036854775807 by omega), List.length_cons, List.length_nil] at hr ⊢
      simp only [hr]
      simp [hk', hlt, hc]
      omega
    · rw [if_neg (by simpa using hc)]
      obtain ⟨r, hr, h1, h2⟩ := ih (k + 1) b (by omega) (by omega)
      refine ⟨r, posthouseref6_Long_l3_eq ?_, h1, h2⟩
      simp only [posthouseref6_Long_l3_t, brE_if, gdE_if, EC.decL_encL, EC.isL_encL, EC.encL_length, isE_58, at_58_0, at_58_1, all_58, apd_58, Int.toNat_natCast, getD_in hlt, e3, wrap_nat hlt (show l.length ≤ 9223372036854775807 by omega), hr]
      simp [hk', hlt, hc]
theorem long_s (len : Int) (l : List Pd) (hn : l.length ≤ 1000000000000) (hb : ∀ p ∈ l, -68719476736 ≤ p.From ∧ p.From ≤ 68719476736 ∧ -68719476736 ≤ p.To ∧ p.To ≤ 68719476736) : posthouseref6_Long_s l len = some ((l.filter fun q => decide (len ≤ q.To - q.From)).length, l.filter fun q => decide (len ≤ q.To - q.From)) := posthouseref6_Long_eq (by
  obtain ⟨r, hr, h1, h2⟩ := long_loop len l hn hb l.length 0 [] (by omega) (by simp)
  rw [List.drop_zero, List.nil_append] at h1 h2
  simp only [Int.natCast_zero, List.length_nil] at hr
  simp only [posthouseref6_Long_t, gdE_if, EC.decL_encL, EC.isL_encL, EC_nilD, hr, Option.bind_some, if_true, h1, h2])
end Go.Proofs.Ytbbaldhmeifloaa
