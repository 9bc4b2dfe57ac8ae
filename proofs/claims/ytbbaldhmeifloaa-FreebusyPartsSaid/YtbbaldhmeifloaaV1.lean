/- What the functions of freebusy answer, in plain words. -/
import Derived.Test.YtbbaldhmeifloaaGF2
namespace Go.Proofs.Ytbbaldhmeifloaa
open Go.RowKit

def timeB (t : Int) : Bool := decide (-68719476736 ≤ t) && decide (t ≤ 68719476736)
theorem fault_s (a b : Int) : basic_Fault_s a b = some (a, b) := basic_Fault_eq rfl
theorem none_s : basic_None_s = some (0, 0) := basic_None_eq rfl
theorem failed_s (a b : Int) : basic_Failed_s a b = some (a != 0) := basic_Failed_eq rfl
theorem time_s (t : Int) : basic_Time_s t = some (timeB t) := basic_Time_eq (by
  by_cases h1 : -68719476736 ≤ t <;> simp [basic_Time_t, brE_if, timeB, h1] <;> omega)
def inB (n a b : Int) : Bool := decide (a ≤ n) && decide (n ≤ b)
theorem in_s (n a b : Int) : posthouseref5_In_s n a b = some (inB n a b) := posthouseref5_In_eq (by
  by_cases h1 : a ≤ n <;> simp [posthouseref5_In_t, brE_if, inB, h1])
theorem at_s (a b : Int) : posthouseref5_At_s a b = some (a, b) := posthouseref5_At_eq rfl
theorem instant_s (t : Int) : posthouseref5_Instant_s t = some (timeB t) := posthouseref5_Instant_eq (by
  simp only [posthouseref5_Instant_t, in_s, Option.bind_some]; rfl)
/-- a period's fault -/
def perBad (p : Pd) : Int := if timeB p.From = false ∨ timeB p.To = false then 3 else if p.To < p.From then 19 else 0
def pfFrom : Nat → List Pd → Int × Int
  | _, [] => (0, 0)
  | k, p :: l => if perBad p = 0 then pfFrom (k + 1) l else (perBad p, (k : Int))
def perFault (l : List Pd) : Int × Int := if 500 < l.length then (2, -1) else pfFrom 0 l
theorem check_loop (l : List Pd) (hn : l.length ≤ 9223372036854775807) : ∀ (m k : Nat), k + m = l.length →
    (freebusy_Check_l4 l l.length k 0 0).bind (Sum.elim (fun x => some (x.2.1, x.2.2)) (fun _ => some (0, 0))) = some (pfFrom k (l.drop k)) := by
  intro m
  induction m with
  | zero =>
    intro k hk
    have : k = l.length := by omega
    subst this
    have h1 : freebusy_Check_l4 l l.length l.length 0 0 = some (.inr (((), l, (l.length : Int), (l.length : Int), false), (0, 0))) := freebusy_Check_l4_eq (by
      simp only [freebusy_Check_l4_t, brE_if, gdE_if, EC.decL_encL, EC.isL_encL, EC.encL_length, isE_58, at_58_0, at_58_1]
      simp)
    rw [h1]
    simp [pfFrom]
  | succ m ih =>
    intro k hk
    have hlt : k < l.length := by omega
    rw [drop_at hlt, pfFrom]
    have hk' : (k : Int) < (l.length : Int) := by omega
    by_cases hp : perBad l[k] = 0
    · have h2 := ih (k + 1) (by omega)
      obtain ⟨r, hr, h2⟩ := some_of h2
      have h1 : freebusy_Check_l4 l l.length k 0 0 = some r := freebusy_Check_l4_eq (by
        simp only [freebusy_Check_l4_t, brE_if, gdE_if, EC.decL_encL, EC.isL_encL, EC.encL_length, isE_58, at_58_0, at_58_1, Int.toNat_natCast, getD_in hlt, time_s, fault_s, Option.bind_some, wrap_nat hlt hn, hr, beq_f]
        unfold perBad at hp
        cases h3 : timeB l[k].From <;> cases h4 : timeB l[k].To <;> by_cases h5 : l[k].To < l[k].From <;> simp_all <;> (intro; omega))
      rw [if_pos hp, h1]
      exact h2
    · have h1 : freebusy_Check_l4 l l.length k 0 0 = some (.inl ((), (perBad l[k], (k : Int)))) := freebusy_Check_l4_eq (by
        simp only [freebusy_Check_l4_t, brE_if, gdE_if, EC.decL_encL, EC.isL_encL, EC.encL_length, isE_58, at_58_0, at_58_1, Int.toNat_natCast, getD_in hlt, time_s, fault_s, Option.bind_some, wrap_nat hlt hn, beq_f]
        unfold perBad at hp ⊢
        cases h3 : timeB l[k].From <;> cases h4 : timeB l[k].To <;> by_cases h5 : l[k].To < l[k].From <;> simp_all <;> (intro; omega))
      rw [if_neg hp, h1]
      rfl
theorem check_s (l : List Pd) (hn : l.length ≤ 9223372036854775807) : freebusy_Check_s l = some (perFault l) := freebusy_Check_eq (by
  have h := check_loop l hn l.length 0 (by omega)
  rw [List.drop_zero] at h
  simp only [Int.natCast_zero] at h
  obtain ⟨r, hr, h⟩ := some_of h
  simp only [freebusy_Check_t, brE_if, gdE_if, EC.decL_encL, EC.isL_encL, EC.encL_length, fault_s, none_s, Option.bind_some, if_true, hr, h]
  unfold perFault
  by_cases h1 : 500 < l.length
  · simp [h1]; intro; omega
  · simp only [h1, if_false]
    rw [if_neg (by simp; omega)])
theorem pfault_loop (l : List Pd) (hn : l.length ≤ 9223372036854775807) : ∀ (m k : Nat), k + m = l.length →
    (posthouseref6_PeriodsFault_l4 l k 0 0).bind (Sum.elim (fun x => some (x.2.1, x.2.2)) (fun _ => some (0, 0))) = some (pfFrom k (l.drop k)) := by
  intro m
  induction m with
  | zero =>
    intro k hk
    have : k = l.length := by omega
    subst this
    have h1 : posthouseref6_PeriodsFault_l4 l l.length 0 0 = some (.inr ((l, (), (l.length : Int), false), (0, 0))) := posthouseref6_PeriodsFault_l4_eq (by
      simp only [posthouseref6_PeriodsFault_l4_t, brE_if, gdE_if, EC.decL_encL, EC.isL_encL, EC.encL_length, isE_58, at_58_0, at_58_1]
      simp)
    rw [h1]
    simp [pfFrom]
  | succ m ih =>
    intro k hk
    have hlt : k < l.length := by omega
    rw [drop_at hlt, pfFrom]
    have hk' : (k : Int) < (l.length : Int) := by omega
    by_cases hp : perBad l[k] = 0
    · have h2 := ih (k + 1) (by omega)
      obtain ⟨r, hr, h2⟩ := some_of h2
      have h1 : posthouseref6_PeriodsFault_l4 l k 0 0 = some r := posthouseref6_PeriodsFault_l4_eq (by
        simp only [posthouseref6_PeriodsFault_l4_t, brE_if, gdE_if, EC.decL_encL, EC.isL_encL, EC.encL_length, isE_58, at_58_0, at_58_1, Int.toNat_natCast, getD_in hlt, instant_s, at_s, Option.bind_some, wrap_nat hlt hn, hr, beq_f]
        unfold perBad at hp
        cases h3 : timeB l[k].From <;> cases h4 : timeB l[k].To <;> by_cases h5 : l[k].To < l[k].From <;> simp_all <;> (intro; omega))
      rw [if_pos hp, h1]
      exact h2
    · have h1 : posthouseref6_PeriodsFault_l4 l k 0 0 = some (.inl ((), (perBad l[k], (k : Int)))) := posthouseref6_PeriodsFault_l4_eq (by
        simp only [posthouseref6_PeriodsFault_l4_t, brE_if, gdE_if, EC.decL_encL, EC.isL_encL, EC.encL_length, isE_58, at_58_0, at_58_1, Int.toNat_natCast, getD_in hlt, instant_s, at_s, Option.bind_some, wrap_nat hlt hn, beq_f]
        unfold perBad at hp ⊢
        cases h3 : timeB l[k].From <;> cases h4 : timeB l[k].To <;> by_cases h5 : l[k].To < l[k].From <;> simp_all <;> (intro; omega))
      rw [if_neg hp, h1]
      rfl
theorem pfault_s (l : List Pd) (hn : l.length ≤ 9223372036854775807) : posthouseref6_PeriodsFault_s l = some (perFault l) := posthouseref6_PeriodsFault_eq (by
  have h := pfault_loop l hn l.length 0 (by omega)
  rw [List.drop_zero] at h
  simp only [Int.natCast_zero] at h
  obtain ⟨r, hr, h⟩ := some_of h
  simp only [posthouseref6_PeriodsFault_t, brE_if, gdE_if, EC.decL_encL, EC.isL_encL, EC.encL_length, at_s, Option.bind_some, if_true, hr]
  unfold perFault
  by_cases h1 : 500 < l.length
  · simp [h1]; intro; omega
  · simp only [h1, if_false]
    rw [if_neg (by simp; omega)]
    exact h)
def spanFault (f t : Int) : Int × Int := if timeB f = false ∨ timeB t = false then (3, -2) else if t < f then (19, -2) else (0, 0)
theorem span_s (f t : Int) : freebusy_Span_s f t = some (spanFault f t) := freebusy_Span_eq (by
  simp only [freebusy_Span_t, brE_if, time_s, fault_s, none_s, Option.bind_some, beq_f]
  unfold spanFault
  cases timeB f <;> cases timeB t <;> by_cases h : t < f <;> simp [h])
theorem sfault_s (f t : Int) : posthouseref6_SpanFault_s f t = some (spanFault f t) := posthouseref6_SpanFault_eq (by
  simp only [posthouseref6_SpanFault_t, brE_if, instant_s, at_s, Option.bind_some, beq_f]
  unfold spanFault
  cases timeB f <;> cases timeB t <;> by_cases h : t < f <;> simp [h])
/-- periods without a fault -/
def Bnd (l : List Pd) : Prop := ∀ p ∈ l, -68719476736 ≤ p.From ∧ p.From ≤ p.To ∧ p.To ≤ 68719476736
theorem pf_zero : ∀ (l : List Pd) (k : Nat), (pfFrom k l).1 = 0 → Bnd l ∧ pfFrom k l = (0, 0)
  | [], k, _ => ⟨by simp [Bnd], rfl⟩
  | p :: l, k, h => by
    unfold pfFrom at h ⊢
    by_cases hp : perBad p = 0
    · rw [if_pos hp] at h ⊢
      obtain ⟨h1, h2⟩ := pf_zero l (k + 1) h
      refine ⟨fun q hq => ?_, h2⟩
      rcases List.mem_cons.1 hq with e | e
      · subst e
        unfold perBad timeB at hp
        split at hp
        · cases hp
        · split at hp
          · cases hp
          · rename_i h3 h4
            simp at h3
            omega
      · exact h1 q e
    · rw [if_neg hp] at h
      exact absurd h hp
theorem pf_ok : ∀ (l : List Pd) (k : Nat), Bnd l → pfFrom k l = (0, 0)
  | [], k, _ => rfl
  | p :: l, k, h => by
    have h0 := h p (by simp)
    have hp : perBad p = 0 := by
      unfold perBad timeB
      rw [if_neg (by simp; omega), if_neg (by omega)]
    rw [pfFrom, if_pos hp]
    exact pf_ok l (k + 1) fun q hq => h q (by simp [hq])
theorem per_zero {l : List Pd} (h : (perFault l).1 = 0) : Bnd l ∧ l.length ≤ 500 ∧ perFault l = (0, 0) := by
  unfold perFault at h ⊢
  split at h
  · cases h
  · rename_i h1
    rw [if_neg h1]
    obtain ⟨h2, h3⟩ := pf_zero l 0 h
    exact ⟨h2, by omega, h3⟩
theorem per_ok {l : List Pd} (h : Bnd l) (hn : l.length ≤ 500) : perFault l = (0, 0) := by
  unfold perFault
  rw [if_neg (by omega)]
  exact pf_ok l 0 h
theorem span_zero {f t : Int} (h : (spanFault f t).1 = 0) : -68719476736 ≤ f ∧ f ≤ t ∧ t ≤ 68719476736 ∧ spanFault f t = (0, 0) := by
  unfold spanFault timeB at *
  split at h
  · cases h
  · split at h
    · cases h
    · rename_i h1 h2
      simp at h1
      refine ⟨by omega, by omega, by omega, ?_⟩
      rw [if_neg (by simp; omega), if_neg h2]

/-! ### unions -/
theorem mergeU_length : ∀ (l out : List Pd), (mergeU out l).length ≤ out.length + l.length
  | [], out => by simp [mergeU]
  | p :: l, out => by
    have h1 := mergeU_length l (stepU out p)
    have h2 := stepU_length out p
    show (mergeU (stepU out p) l).length ≤ _
    simp only [List.length_cons]
    omega
theorem unionU_length (l : List Pd) : (unionU l).length ≤ l.length := by
  have h1 := mergeU_length (sortU (l.filter fun p => !badP p)) []
  have h2 := (sortU_spec (l.filter fun p => !badP p)).2.1
  have h3 := List.length_filter_le (fun p => !badP p) l
  unfold unionU
  simp only [List.length_nil] at h1
  omega
theorem Inn_perm {a b : List Pd} (h : a.Perm b) (x : Int) : Inn a x ↔ Inn b x := by
  unfold Inn
  constructor
  · rintro ⟨p, hp, hx⟩; exact ⟨p, h.mem_iff.1 hp, hx⟩
  · rintro ⟨p, hp, hx⟩; exact ⟨p, h.mem_iff.2 hp, hx⟩
theorem Inn_filter (l : List Pd) (x : Int) : Inn (l.filter fun p => !badP p) x ↔ Inn l x := by
  unfold Inn
  constructor
  · rintro ⟨p, hp, hx⟩; exact ⟨p, (List.mem_filter.1 hp).1, hx⟩
  · rintro ⟨p, hp, hx⟩; exact ⟨p, List.mem_filter.2 ⟨hp, by simp [badP]; omega⟩, hx⟩
theorem unionU_spec (l : List Pd) : NF (unionU l) ∧ ∀ x, Inn (unionU l) x ↔ Inn l x := by
  obtain ⟨h1, _, h3⟩ := sortU_spec (l.filter fun p => !badP p)
  obtain ⟨m1, m2⟩ := mergeU_ok (sortU (l.filter fun p => !badP p)) [] (fun p hp => by
    have := (List.mem_filter.1 (h1.mem_iff.1 hp)).2
    simp [badP] at this
    exact this) h3 trivial (by simp)
  refine ⟨m1, fun x => ?_⟩
  unfold unionU
  rw [m2, Inn_nil, false_or, Inn_perm h1, Inn_filter]
theorem unionU_eq {l u : List Pd} (hu : NF u) (h : ∀ x, Inn u x ↔ Inn l x) : unionU l = u :=
  NF_ext (unionU_spec l).1 hu fun x => by rw [(unionU_spec l).2, h]
theorem NF_mem {l : List Pd} (h : NF l) {p : Pd} (hp : p ∈ l) : p.From < p.To := by
  induction l with
  | nil => simp at hp
  | cons q l ih =>
    rcases List.mem_cons.1 hp with e | e
    · rw [e]; exact h.1
    · exact ih h.2.2 e
theorem unionU_bnd {l : List Pd} (h : Bnd l) : Bnd (unionU l) := by
  intro p hp
  have hpt := NF_mem (unionU_spec l).1 hp
  have h1 : Inn (unionU l) p.From := ⟨p, hp, by omega⟩
  have h2 : Inn (unionU l) (p.To - 1) := ⟨p, hp, by omega⟩
  rw [(unionU_spec l).2] at h1 h2
  obtain ⟨q, hq, hx⟩ := h1
  obtain ⟨r, hr, hy⟩ := h2
  have a := h q hq
  have b := h r hr
  omega
theorem merge_s (l : List Pd) (hn : l.length ≤ 9223372036854775807) : freebusy_Merge_s l = some (if (perFault l).1 = 0 then (((unionU l).length, 0, 0), unionU l) else ((0, perFault l), [])) := freebusy_Merge_eq (by
  simp only [freebusy_Merge_t, brE_if, gdE_if, EC.decL_encL, EC.isL_encL, EC_nilD, check_s l hn, failed_s, none_s, Option.bind_some, if_true]
  by_cases h : (perFault l).1 = 0
  · obtain ⟨_, h2, _⟩ := per_zero h
    simp [h, unionS, show l.length ≤ 1000000 by omega]
  · simp [h])
end Go.Proofs.Ytbbaldhmeifloaa
