/- Several texts of this proof in one file. -/
import Derived.Test.YtbbaldhmeifloaaGF3
/- What the functions of freebusy answer, in plain words. -/
namespace Go.Proofs.Ytbbaldhmeifloaa
open Go.RowKit

def timeB (t : Int) : Bool := decide (-68719476736 ≤ t) && decide (t ≤ 68719476736)
theorem fault_s (a b : Int) : basic_Fault_s a b = some (a, b) := basic_Fault_eq rfl
theorem none_s : basic_None_s = some (0, 0) := basic_None_eq rfl
theorem failed_s (a b : Int) : basic_Failed_s a b = some (a != 0) := basic_Failed_eq rfl
theorem time_s (t : Int) : basic_Time_s t = some (timeB t) := basic_Time_eq (by
  by_cases h1 : -68719476736 ≤ t <;> simp [basic_Time_t, brE_if, timeB, h1] <;> omega)
def inB (n a b : Int) : Bool := decide (a ≤ n) && decide (n ≤ b)
theorem in_s (n a b : Int) : posthouseref5_In_s n a b = some (inB n a b) := posthouseref5_In_eq (by
  by_cases h1 : a ≤ n <;> simp [posthouseref5_In_t, brE_if, inB, h1])
theorem at_s (a b : Int) : posthouseref5_At_s a b = some (a, b) := posthouseref5_At_eq rfl
theorem instant_s (t : Int) : posthouseref5_Instant_s t = some (timeB t) := posthouseref5_Instant_eq (by
  simp only [posthouseref5_Instant_t, in_s, Option.bind_some]; rfl)
/-- a period's fault -/
def perBad (p : Pd) : Int := if timeB p.From = false ∨ timeB p.To = false then 3 else if p.To < p.From then 19 else 0
def pfFrom : Nat → List Pd → Int × Int
  | _, [] => (0, 0)
  | k, p :: l => if perBad p = 0 then pfFrom (k + 1) l else (perBad p, (k : Int))
def perFault (l : List Pd) : Int × Int := if 500 < l.length then (2, -1) else pfFrom 0 l
theorem check_loop (l : List Pd) (hn : l.length ≤ 9223372036854775807) : ∀ (m k : Nat), k + m = l.length →
    (freebusy_Check_l4 l l.length k 0 0).bind (Sum.elim (fun x => some (x.2.1, x.2.2)) (fun _ => some (0, 0))) = some (pfFrom k (l.drop k)) := by
  intro m
  induction m with
  | zero =>
    intro k hk
    have : k = l.length := by omega
    subst this
    have h1 : freebusy_Check_l4 l l.length l.length 0 0 = some (.inr (((), l, (l.length : Int), (l.length : Int), false), (0, 0))) := freebusy_Check_l4_eq (by
      simp only [freebusy_Check_l4_t, brE_if, gdE_if, EC.decL_encL, EC.isL_encL, EC.encL_length, isE_58, at_58_0, at_58_1]
      simp)
    rw [h1]
    simp [pfFrom]
  | succ m ih =>
    intro k hk
    have hlt : k < l.length := by omega
    rw [drop_at hlt, pfFrom]
    have hk' : (k : Int) < (l.length : Int) := by omega
    by_cases hp : perBad l[k] = 0
    · have h2 := ih (k + 1) (by omega)
      obtain ⟨r, hr, h2⟩ := some_of h2
      have h1 : freebusy_Check_l4 l l.length k 0 0 = some r := freebusy_Check_l4_eq (by
        simp only [freebusy_Check_l4_t, brE_if, gdE_if, EC.decL_encL, EC.isL_encL, EC.encL_length, isE_58, at_58_0, at_58_1, Int.toNat_natCast, getD_in hlt, time_s, fault_s, Option.bind_some, wrap_nat hlt hn, hr, beq_f]
        unfold perBad at hp
        cases h3 : timeB l[k].From <;> cases h4 : timeB l[k].To <;> by_cases h5 : l[k].To < l[k].From <;> simp_all <;> (intro; omega))
      rw [if_pos hp, h1]
      exact h2
    · have h1 : freebusy_Check_l4 l l.length k 0 0 = some (.inl ((), (perBad l[k], (k : Int)))) := freebusy_Check_l4_eq (by
        simp only [freebusy_Check_l4_t, brE_if, gdE_if, EC.decL_encL, EC.isL_encL, EC.encL_length, isE_58, at_58_0, at_58_1, Int.toNat_natCast, getD_in hlt, time_s, fault_s, Option.bind_some, wrap_nat hlt hn, beq_f]
        unfold perBad at hp ⊢
        cases h3 : timeB l[k].From <;> cases h4 : timeB l[k].To <;> by_cases h5 : l[k].To < l[k].From <;> simp_all <;> (intro; omega))
      rw [if_neg hp, h1]
      rfl
theorem check_s (l : List Pd) (hn : l.length ≤ 9223372036854775807) : freebusy_Check_s l = some (perFault l) := freebusy_Check_eq (by
  have h := check_loop l hn l.length 0 (by omega)
  rw [List.drop_zero] at h
  simp only [Int.natCast_zero] at h
  obtain ⟨r, hr, h⟩ := some_of h
  simp only [freebusy_Check_t, brE_if, gdE_if, EC.decL_encL, EC.isL_encL, EC.encL_length, fault_s, none_s, Option.bind_some, if_true, hr, h]
  unfold perFault
  by_cases h1 : 500 < l.length
  · simp [h1]; intro; omega
  · simp only [h1, if_false]
    rw [if_neg (by simp; omega)])
theorem pfault_loop (l : List Pd) (hn : l.length ≤ 9223372036854775807) : ∀ (m k : Nat), k + m = l.length →
    (posthouseref6_PeriodsFault_l4 l k 0 0).bind (Sum.elim (fun x => some (x.2.1, x.2.2)) (fun _ => some (0, 0))) = some (pfFrom k (l.drop k)) := by
  intro m
  induction m with
  | zero =>
    intro k hk
    have : k = l.length := by omega
    subst this
    have h1 : posthouseref6_PeriodsFault_l4 l l.length 0 0 = some (.inr ((l, (), (l.length : Int), false), (0, 0))) := posthouseref6_PeriodsFault_l4_eq (by
      simp only [posthouseref6_PeriodsFault_l4_t, brE_if, gdE_if, EC.decL_encL, EC.isL_encL, EC.encL_length, isE_58, at_58_0, at_58_1]
      simp)
    rw [h1]
    simp [pfFrom]
  | succ m ih =>
    intro k hk
    have hlt : k < l.length := by omega
    rw [drop_at hlt, pfFrom]
    have hk' : (k : Int) < (l.length : Int) := by omega
    by_cases hp : perBad l[k] = 0
    · have h2 := ih (k + 1) (by omega)
      obtain ⟨r, hr, h2⟩ := some_of h2
      have h1 : posthouseref6_PeriodsFault_l4 l k 0 0 = some r := posthouseref6_PeriodsFault_l4_eq (by
        simp only [posthouseref6_PeriodsFault_l4_t, brE_if, gdE_if, EC.decL_encL, EC.isL_encL, EC.encL_length, isE_58, at_58_0, at_58_1, Int.toNat_natCast, getD_in hlt, instant_s, at_s, Option.bind_some, wrap_nat hlt hn, hr, beq_f]
        unfold perBad at hp
        cases h3 : timeB l[k].From <;> cases h4 : timeB l[k].To <;> by_cases h5 : l[k].To < l[k].From <;> simp_all <;> (intro; omega))
      rw [if_pos hp, h1]
      exact h2
    · have h1 : posthouseref6_PeriodsFault_l4 l k 0 0 = some (.inl ((), (perBad l[k], (k : Int)))) := posthouseref6_PeriodsFault_l4_eq (by
        simp only [posthouseref6_PeriodsFault_l4_t, brE_if, gdE_if, EC.decL_encL, EC.isL_encL, EC.encL_length, isE_58, at_58_0, at_58_1, Int.toNat_natCast, getD_in hlt, instant_s, at_s, Option.bind_some, wrap_nat hlt hn, beq_f]
        unfold perBad at hp ⊢
        cases h3 : timeB l[k].From <;> cases h4 : timeB l[k].To <;> by_cases h5 : l[k].To < l[k].From <;> simp_all <;> (intro; omega))
      rw [if_neg hp, h1]
      rfl
theorem pfault_s (l : List Pd) (hn : l.length ≤ 9223372036854775807) : posthouseref6_PeriodsFault_s l = some (perFault l) := posthouseref6_PeriodsFault_eq (by
  have h := pfault_loop l hn l.length 0 (by omega)
  rw [List.drop_zero] at h
  simp only [Int.natCast_zero] at h
  obtain ⟨r, hr, h⟩ := some_of h
  simp only [posthouseref6_PeriodsFault_t, brE_if, gdE_if, EC.decL_encL, EC.isL_encL, EC.encL_length, at_s, Option.bind_some, if_true, hr]
  unfold perFault
  by_cases h1 : 500 < l.length
  · simp [h1]; intro; omega
  · simp only [h1, if_false]
    rw [if_neg (by simp; omega)]
    exact h)
def spanFault (f t : Int) : Int × Int := if timeB f = false ∨ timeB t = false then (3, -2) else if t < f then (19, -2) else (0, 0)
theorem span_s (f t : Int) : freebusy_Span_s f t = some (spanFault f t) := freebusy_Span_eq (by
  simp only [freebusy_Span_t, brE_if, time_s, fault_s, none_s, Option.bind_some, beq_f]
  unfold spanFault
  cases timeB f <;> cases timeB t <;> by_cases h : t < f <;> simp [h])
theorem sfault_s (f t : Int) : posthouseref6_SpanFault_s f t = some (spanFault f t) := posthouseref6_SpanFault_eq (by
  simp only [posthouseref6_SpanFault_t, brE_if, instant_s, at_s, Option.bind_some, beq_f]
  unfold spanFault
  cases timeB f <;> cases timeB t <;> by_cases h : t < f <;> simp [h])
/-- periods without a fault -/
def Bnd (l : List Pd) : Prop := ∀ p ∈ l, -68719476736 ≤ p.From ∧ p.From ≤ p.To ∧ p.To ≤ 68719476736
theorem pf_zero : ∀ (l : List Pd) (k : Nat), (pfFrom k l).1 = 0 → Bnd l ∧ pfFrom k l = (0, 0)
  | [], k, _ => ⟨by simp [Bnd], rfl⟩
  | p :: l, k, h => by
    unfold pfFrom at h ⊢
    by_cases hp : perBad p = 0
    · rw [if_pos hp] at h ⊢
      obtain ⟨h1, h2⟩ := pf_zero l (k + 1) h
      refine ⟨fun q hq => ?_, h2⟩
      rcases List.mem_cons.1 hq with e | e
      · subst e
        unfold perBad timeB at hp
        split at hp
        · cases hp
        · split at hp
          · cases hp
          · rename_i h3 h4
            simp at h3
            omega
      · exact h1 q e
    · rw [if_neg hp] at h
      exact absurd h hp
theorem pf_ok : ∀ (l : List Pd) (k : Nat), Bnd l → pfFrom k l = (0, 0)
  | [], k, _ => rfl
  | p :: l, k, h => by
    have h0 := h p (by simp)
    have hp : perBad p = 0 := by
      unfold perBad timeB
      rw [if_neg (by simp; omega), if_neg (by omega)]
    rw [pfFrom, if_pos hp]
    exact pf_ok l (k + 1) fun q hq => h q (by simp [hq])
theorem per_zero {l : List Pd} (h : (perFault l).1 = 0) : Bnd l ∧ l.length ≤ 500 ∧ perFault l = (0, 0) := by
  unfold perFault at h ⊢
  split at h
  · cases h
  · rename_i h1
    rw [if_neg h1]
    obtain ⟨h2, h3⟩ := pf_zero l 0 h
    exact ⟨h2, by omega, h3⟩
theorem per_ok {l : List Pd} (h : Bnd l) (hn : l.length ≤ 500) : perFault l = (0, 0) := by
  unfold perFault
  rw [if_neg (by omega)]
  exact pf_ok l 0 h
theorem span_zero {f t : Int} (h : (spanFault f t).1 = 0) : -68719476736 ≤ f ∧ f ≤ t ∧ t ≤ 68719476736 ∧ spanFault f t = (0, 0) := by
  unfold spanFault timeB at *
  split at h
  · cases h
  · split at h
    · cases h
    · rename_i h1 h2
      simp at h1
      refine ⟨by omega, by omega, by omega, ?_⟩
      rw [if_neg (by simp; omega), if_neg h2]

/-! ### unions -/
theorem mergeU_length : ∀ (l out : List Pd), (mergeU out l).length ≤ out.length + l.length
  | [], out => by simp [mergeU]
  | p :: l, out => by
    have h1 := mergeU_length l (stepU out p)
    have h2 := stepU_length out p
    show (mergeU (stepU out p) l).length ≤ _
    simp only [List.length_cons]
    omega
theorem unionU_length (l : List Pd) : (unionU l).length ≤ l.length := by
  have h1 := mergeU_length (sortU (l.filter fun p => !badP p)) []
  have h2 := (sortU_spec (l.filter fun p => !badP p)).2.1
  have h3 := List.length_filter_le (fun p => !badP p) l
  unfold unionU
  simp only [List.length_nil] at h1
  omega
theorem Inn_perm {a b : List Pd} (h : a.Perm b) (x : Int) : Inn a x ↔ Inn b x := by
  unfold Inn
  constructor
  · rintro ⟨p, hp, hx⟩; exact ⟨p, h.mem_iff.1 hp, hx⟩
  · rintro ⟨p, hp, hx⟩; exact ⟨p, h.mem_iff.2 hp, hx⟩
theorem Inn_filter (l : List Pd) (x : Int) : Inn (l.filter fun p => !badP p) x ↔ Inn l x := by
  unfold Inn
  constructor
  · rintro ⟨p, hp, hx⟩; exact ⟨p, (List.mem_filter.1 hp).1, hx⟩
  · rintro ⟨p, hp, hx⟩; exact ⟨p, List.mem_filter.2 ⟨hp, by simp [badP]; omega⟩, hx⟩
theorem unionU_spec (l : List Pd) : NF (unionU l) ∧ ∀ x, Inn (unionU l) x ↔ Inn l x := by
  obtain ⟨h1, _, h3⟩ := sortU_spec (l.filter fun p => !badP p)
  obtain ⟨m1, m2⟩ := mergeU_ok (sortU (l.filter fun p => !badP p)) [] (fun p hp => by
    have := (List.mem_filter.1 (h1.mem_iff.1 hp)).2
    simp [badP] at this
    exact this) h3 trivial (by simp)
  refine ⟨m1, fun x => ?_⟩
  unfold unionU
  rw [m2, Inn_nil, false_or, Inn_perm h1, Inn_filter]
theorem unionU_eq {l u : List Pd} (hu : NF u) (h : ∀ x, Inn u x ↔ Inn l x) : unionU l = u :=
  NF_ext (unionU_spec l).1 hu fun x => by rw [(unionU_spec l).2, h]
theorem NF_mem {l : List Pd} (h : NF l) {p : Pd} (hp : p ∈ l) : p.From < p.To := by
  induction l with
  | nil => simp at hp
  | cons q l ih =>
    rcases List.mem_cons.1 hp with e | e
    · rw [e]; exact h.1
    · exact ih h.2.2 e
theorem unionU_bnd {l : List Pd} (h : Bnd l) : Bnd (unionU l) := by
  intro p hp
  have hpt := NF_mem (unionU_spec l).1 hp
  have h1 : Inn (unionU l) p.From := ⟨p, hp, by omega⟩
  have h2 : Inn (unionU l) (p.To - 1) := ⟨p, hp, by omega⟩
  rw [(unionU_spec l).2] at h1 h2
  obtain ⟨q, hq, hx⟩ := h1
  obtain ⟨r, hr, hy⟩ := h2
  have a := h q hq
  have b := h r hr
  omega
end Go.Proofs.Ytbbaldhmeifloaa
/- What the functions of freebusy and its reference answer: gaps, equal lists, busy instants, bounds, pieces. -/
namespace Go.Proofs.Ytbbaldhmeifloaa
open Go.RowKit

theorem isP1_3 (xs : List Int) (n : Nat) (h : n < xs.length) : isP [.int .i64] 0 ((ec_3.encL xs).getD n []) = true := by rw [EC.getD_lt _ _ h]; rfl
theorem isPf_58 (xs : List Pd) (n : Nat) (h : n < xs.length) : isP [.int .i64] 0 ((ec_58.encL xs).getD n []) = true := by rw [EC.getD_lt _ _ h]; rfl
theorem two_58 (a b : Int) (xs : List Pd) : ec_58.encL xs ++ [[C.int .i64 a, C.int .i64 b]] = ec_58.encL (xs ++ [⟨a, b⟩]) := by simp [EC.encL]; rfl
/-- the gaps, as the loop goes -/
def gpL (til len : Int) : Int → List Pd → List Pd
  | _, [] => []
  | a, p :: l => (if len ≤ min p.From til - a then [⟨a, min p.From til⟩] else []) ++ gpL til len (max a p.To) l
theorem gpL_end (til len : Int) : ∀ (l : List Pd) (a : Int), gpL til len a (l ++ [⟨til, til⟩]) = gp til len a l
  | [], a => by
    simp only [List.nil_append, gpL, gp, List.append_nil]
    rw [show min til til = til by omega]
  | p :: l, a => by
    rw [List.cons_append, gpL, gp, gpL_end til len l]
theorem gpL_length (til len : Int) : ∀ (l : List Pd) (a : Int), (gpL til len a l).length ≤ l.length
  | [], a => by simp [gpL]
  | p :: l, a => by
    have := gpL_length til len l (max a p.To)
    rw [gpL, List.length_append, List.length_cons]
    split <;> simp <;> omega
theorem gaps_loop (til len : Int) (ht : -68719476736 ≤ til ∧ til ≤ 68719476736) (l : List Pd) (hn : l.length ≤ 1000000000) (hl : ∀ p ∈ l, -68719476736 ≤ p.From ∧ p.From ≤ 68719476736 ∧ -68719476736 ≤ p.To ∧ p.To ≤ 68719476736) :
    ∀ (m k : Nat) (a : Int) (b : List Pd), k + m = l.length → b.length ≤ k → -68719476736 ≤ a ∧ a ≤ 68719476736 →
      ∃ r, freebusy_Gaps_l4 til len b.length a l.length l.length k b l = some r ∧ r.1.2.2.1 = (b ++ gpL til len a (l.drop k)).length ∧ r.2.1 = b ++ gpL til len a (l.drop k) := by
  intro m
  induction m with
  | zero =>
    intro k a b hk hb ha
    have : k = l.length := by omega
    subst this
    refine ⟨((til, len, b.length, a, l.length, (l.length : Int), (l.length : Int), false), (b, l)), freebusy_Gaps_l4_eq ?_, ?_, ?_⟩
    · simp only [freebusy_Gaps_l4_t, brE_if, gdE_if, EC.decL_encL, EC.isL_encL, EC.encL_length, at_58_0, at_58_1, all_58, apd_58]
      simp
    · simp [gpL]
    · simp [gpL]
  | succ m ih =>
    intro k a b hk hb ha
    have hlt : k < l.length := by omega
    have hk' : (k : Int) < (l.length : Int) := by omega
    have hp := hl l[k] (List.getElem_mem hlt)
    rw [drop_at hlt, gpL]
    have e1 : (if til < l[k].From then til else l[k].From) = min l[k].From til := by split <;> omega
    have e2 : (if a < l[k].To then l[k].To else a) = max a l[k].To := by split <;> omega
    have e3 : IntKind.i64.wrap (min l[k].From til - a) = min l[k].From til - a := wrap_in (by omega) (by omega)
    by_cases hc : len ≤ min l[k].From til - a
    · obtain ⟨r, hr, h1, h2⟩ := ih (k + 1) (max a l[k].To) (b ++ [⟨a, min l[k].From til⟩]) (by omega) (by simp; omega) (by omega)
      refine ⟨r, freebusy_Gaps_l4_eq ?_, ?_, ?_⟩
      · rw [List.length_append] at hr
        simp only [freebusy_Gaps_l4_t, brE_if, gdE_if, EC.decL_encL, EC.isL_encL, EC.encL_length, at_58_0, at_58_1, all_58, apd_58, Int.toNat_natCast, getD_in hlt, len_58 l k hlt, isP2_58 l k hlt, Bool.false_eq_true, if_true, if_false, e1, e2, e3, wrap_nat hlt (show l.length ≤ 9223372036854775807 by omega), List.length_cons, List.length_nil] at hr ⊢
        simp only [hr]
        simp [hk', hlt, hc]
        omega
      · rw [h1, if_pos hc, List.append_assoc]
      · rw [h2, if_pos hc, List.append_assoc]
    · obtain ⟨r, hr, h1, h2⟩ := ih (k + 1) (max a l[k].To) b (by omega) (by omega) (by omega)
      refine ⟨r, freebusy_Gaps_l4_eq ?_, ?_, ?_⟩
      · simp only [freebusy_Gaps_l4_t, brE_if, gdE_if, EC.decL_encL, EC.isL_encL, EC.encL_length, at_58_0, at_58_1, all_58, apd_58, Int.toNat_natCast, getD_in hlt, len_58 l k hlt, isP2_58 l k hlt, Bool.false_eq_true, if_true, if_false, e1, e2, e3, wrap_nat hlt (show l.length ≤ 9223372036854775807 by omega), hr]
        simp [hk', hlt, hc]
      · rw [h1, if_neg hc, List.nil_append]
      · rw [h2, if_neg hc, List.nil_append]
theorem gaps_s (l : List Pd) (f t len : Int) (hb : Bnd l) (hn : l.length ≤ 100000) (hf : -68719476736 ≤ f ∧ f ≤ 68719476736) (ht : -68719476736 ≤ t ∧ t ≤ 68719476736) :
    freebusy_Gaps_s l f t len = some ((gp t len f (unionU l)).length, gp t len f (unionU l)) := freebusy_Gaps_eq (by
  have hu := unionU_length l
  have hub := unionU_bnd hb
  have hS : unionS l = some ((unionU l).length, unionU l) := by unfold unionS; rw [if_pos (by omega)]
  generalize unionU l = u at *
  have hall : ∀ p ∈ u ++ [(⟨t, t⟩ : Pd)], -68719476736 ≤ p.From ∧ p.From ≤ 68719476736 ∧ -68719476736 ≤ p.To ∧ p.To ≤ 68719476736 := by
    intro p hp
    rcases List.mem_append.1 hp with h | h
    · have := hub p h; omega
    · simp at h; subst h; exact ⟨ht.1, ht.2, ht.1, ht.2⟩
  obtain ⟨r, hr, h1, h2⟩ := gaps_loop t len ht (u ++ [(⟨t, t⟩ : Pd)]) (by simp; omega) hall (u ++ [(⟨t, t⟩ : Pd)]).length 0 f [] (by omega) (by simp) hf
  rw [List.drop_zero, List.nil_append, gpL_end] at h1 h2
  rw [List.length_append] at hr
  simp only [List.length_nil, Int.natCast_zero, List.length_cons] at hr
  simp only [freebusy_Gaps_t, gdE_if, EC.decL_encL, EC.isL_encL, all_58, apd_58, EC_nilD, hS, Option.bind_some, if_true, List.length_cons, List.length_nil, hr, h1, h2]
  simp
  omega)
instance : DecidableEq Pd := fun a b => decidable_of_iff (a.From = b.From ∧ a.To = b.To) (by cases a; cases b; simp)
def sameL (a b : List Pd) : Bool := decide (a = b)
theorem same_loop (a b : List Pd) (hn : a.length ≤ 9223372036854775807) (hl : a.length = b.length) : ∀ (m k : Nat), k + m = a.length →
    (posthouseref6_SamePeriods_l4 a b k).bind (Sum.elim (fun x => some x.1) (fun _ => some true)) = some (sameL (a.drop k) (b.drop k)) := by
  intro m
  induction m with
  | zero =>
    intro k hk
    have : k = a.length := by omega
    subst this
    have h1 : posthouseref6_SamePeriods_l4 a b a.length = some (.inr ((a, b, (a.length : Int), false), ())) := posthouseref6_SamePeriods_l4_eq (by
      simp only [posthouseref6_SamePeriods_l4_t, brE_if, gdE_if, EC.decL_encL, EC.isL_encL, EC.encL_length, isE_58, at_58_0, at_58_1]
      simp)
    rw [h1]
    have : b.drop a.length = [] := by rw [hl]; simp
    simp [sameL, this]
  | succ m ih =>
    intro k hk
    have hlt : k < a.length := by omega
    have hlt' : k < b.length := by omega
    have hk' : (k : Int) < (a.length : Int) := by omega
    rw [drop_at hlt, drop_at hlt']
    by_cases hp : a[k] = b[k]
    · obtain ⟨r, hr, h2⟩ := some_of (ih (k + 1) (by omega))
      have h1 : posthouseref6_SamePeriods_l4 a b k = some r := posthouseref6_SamePeriods_l4_eq (by
        simp only [posthouseref6_SamePeriods_l4_t, brE_if, gdE_if, EC.decL_encL, EC.isL_encL, EC.encL_length, isE_58, at_58_0, at_58_1, Int.toNat_natCast, getD_in hlt, getD_in hlt', wrap_nat hlt hn, hr, hp]
        simp [hk', hlt, hlt'])
      rw [h1]
      have : sameL (a[k] :: a.drop (k + 1)) (b[k] :: b.drop (k + 1)) = sameL (a.drop (k + 1)) (b.drop (k + 1)) := by simp only [sameL, hp, List.cons.injEq, true_and]
      rw [this]
      exact h2
    · have h1 : posthouseref6_SamePeriods_l4 a b k = some (.inl (false, ())) := posthouseref6_SamePeriods_l4_eq (by
        have hp' : ¬ (a[k].From = b[k].From ∧ a[k].To = b[k].To) := fun h => hp (by
          cases ha : a[k]; cases hb : b[k]; simp_all)
        simp only [posthouseref6_SamePeriods_l4_t, brE_if, gdE_if, EC.decL_encL, EC.isL_encL, EC.encL_length, isE_58, at_58_0, at_58_1, Int.toNat_natCast, getD_in hlt, getD_in hlt']
        simp [hk', hlt, hlt']
        intro h h'; exact absurd ⟨h, h'⟩ hp')
      rw [h1]
      have : sameL (a[k] :: a.drop (k + 1)) (b[k] :: b.drop (k + 1)) = false := by simp only [sameL, List.cons.injEq, hp, false_and, decide_false]
      rw [this]
      rfl
theorem same_s (a b : List Pd) (hn : a.length ≤ 9223372036854775807) : posthouseref6_SamePeriods_s a b = some (sameL a b) := posthouseref6_SamePeriods_eq (by
  by_cases hl : a.length = b.length
  · obtain ⟨r, hr, h⟩ := some_of (same_loop a b hn hl a.length 0 (by omega))
    rw [List.drop_zero, List.drop_zero] at h
    simp only [Int.natCast_zero] at hr
    simp only [posthouseref6_SamePeriods_t, brE_if, gdE_if, EC.decL_encL, EC.isL_encL, EC.encL_length, hr, Option.bind_some, if_true]
    simp [hl]
    exact h
  · have : ¬ (a.length : Int) = (b.length : Int) := by omega
    have h2 : ¬ a = b := fun e => hl (by rw [e])
    simp [posthouseref6_SamePeriods_t, brE_if, this, sameL, h2])
end Go.Proofs.Ytbbaldhmeifloaa
/- The reference's pieces of a span, in plain words. -/
namespace Go.Proofs.Ytbbaldhmeifloaa
open Go.RowKit

def busyB (l : List Pd) (x : Int) : Bool := l.any fun p => decide (p.From ≤ x) && decide (x < p.To)
theorem busyB_iff (l : List Pd) (x : Int) : busyB l x = true ↔ Inn l x := by
  unfold busyB Inn
  rw [List.any_eq_true]
  simp
theorem busy_loop (l : List Pd) (x : Int) (hn : l.length ≤ 9223372036854775807) : ∀ (m k : Nat), k + m = l.length →
    (posthouseref6_Busy_l2 l x k).bind (Sum.elim (fun x => some x.1) (fun _ => some false)) = some (busyB (l.drop k) x) := by
  intro m
  induction m with
  | zero =>
    intro k hk
    have : k = l.length := by omega
    subst this
    have h1 : posthouseref6_Busy_l2 l x l.length = some (.inr ((l, x, (l.length : Int), false), ())) := posthouseref6_Busy_l2_eq (by
      simp only [posthouseref6_Busy_l2_t, brE_if, gdE_if, EC.decL_encL, EC.isL_encL, EC.encL_length, isE_58, at_58_0, at_58_1]
      simp)
    rw [h1]
    simp [busyB]
  | succ m ih =>
    intro k hk
    have hlt : k < l.length := by omega
    have hk' : (k : Int) < (l.length : Int) := by omega
    rw [drop_at hlt]
    have hc : busyB (l[k] :: l.drop (k + 1)) x = ((decide (l[k].From ≤ x) && decide (x < l[k].To)) || busyB (l.drop (k + 1)) x) := by simp only [busyB, List.any_cons]
    rw [hc]
    by_cases hp : (decide (l[k].From ≤ x) && decide (x < l[k].To)) = true
    · have h1 : posthouseref6_Busy_l2 l x k = some (.inl (true, ())) := posthouseref6_Busy_l2_eq (by
        simp at hp
        simp only [posthouseref6_Busy_l2_t, brE_if, gdE_if, EC.decL_encL, EC.isL_encL, EC.encL_length, isE_58, at_58_0, at_58_1, Int.toNat_natCast, getD_in hlt]
        simp [hk', hlt, hp])
      rw [h1, hp]
      rfl
    · obtain ⟨r, hr, h2⟩ := some_of (ih (k + 1) (by omega))
      have h1 : posthouseref6_Busy_l2 l x k = some r := posthouseref6_Busy_l2_eq (by
        simp at hp
        simp only [posthouseref6_Busy_l2_t, brE_if, gdE_if, EC.decL_encL, EC.isL_encL, EC.encL_length, isE_58, at_58_0, at_58_1, Int.toNat_natCast, getD_in hlt, wrap_nat hlt hn, hr]
        by_cases h3 : l[k].From ≤ x
        · have := hp h3
          simp [hk', hlt, h3, show ¬ x < l[k].To by omega]
        · simp [hk', hlt, h3])
      rw [h1, (Bool.not_eq_true _).mp hp, Bool.false_or]
      exact h2
theorem busy_s (l : List Pd) (x : Int) (hn : l.length ≤ 9223372036854775807) : posthouseref6_Busy_s l x = some (busyB l x) := posthouseref6_Busy_eq (by
  obtain ⟨r, hr, h⟩ := some_of (busy_loop l x hn l.length 0 (by omega))
  rw [List.drop_zero] at h
  simp only [Int.natCast_zero] at hr
  simp only [posthouseref6_Busy_t, gdE_if, EC.decL_encL, EC.isL_encL, hr, Option.bind_some, if_true]
  exact h)

/-! ### bounds -/
def cand (l : List Pd) : List Int := l.flatMap fun p => [p.From, p.To]
theorem cand_length (l : List Pd) : (cand l).length = 2 * l.length := by
  induction l with
  | nil => rfl
  | cons p l ih =>
    show ([p.From, p.To] ++ cand l).length = _
    rw [List.length_append, ih]
    simp only [List.length_cons, List.length_nil]
    omega
theorem two_3 (a b : Int) (xs : List Int) : ec_3.encL xs ++ [[C.int .i64 a], [C.int .i64 b]] = ec_3.encL (xs ++ [a, b]) := by simp [EC.encL]; exact ⟨rfl, rfl⟩
theorem lit2_3 (a b : Int) : ec_3.decL [[C.int .i64 a], [C.int .i64 b]] = [a, b] := rfl
theorem cand_loop (l : List Pd) (f t : Int) (hn : l.length ≤ 1000000000) : ∀ (m k : Nat) (b : List Int), k + m = l.length → b.length ≤ 2 * k + 2 →
    posthouseref6_bounds_l3 l f t b.length k b = some ((l, f, t, (b ++ cand (l.drop k)).length, (l.length : Int), false), b ++ cand (l.drop k)) := by
  intro m
  induction m with
  | zero =>
    intro k b hk hb
    have : k = l.length := by omega
    subst this
    refine posthouseref6_bounds_l3_eq ?_
    simp only [posthouseref6_bounds_l3_t, brE_if, gdE_if, EC.decL_encL, EC.isL_encL, EC.encL_length, isE_58, at_58_0, at_58_1, all_3]
    simp [cand]
  | succ m ih =>
    intro k b hk hb
    have hlt : k < l.length := by omega
    have hk' : (k : Int) < (l.length : Int) := by omega
    have h1 := ih (k + 1) (b ++ [l[k].From, l[k].To]) (by omega) (by simp; omega)
    have e : cand (l.drop k) = [l[k].From, l[k].To] ++ cand (l.drop (k + 1)) := by rw [drop_at hlt]; simp only [cand, List.flatMap_cons]
    rw [e, ← List.append_assoc]
    refine posthouseref6_bounds_l3_eq ?_
    rw [List.length_append] at h1
    simp only [posthouseref6_bounds_l3_t, brE_if, gdE_if, EC.decL_encL, EC.isL_encL, EC.encL_length, isE_58, at_58_0, at_58_1, all_3, two_3, Int.toNat_natCast, getD_in hlt, wrap_nat hlt (show l.length ≤ 9223372036854775807 by omega), List.length_cons, List.length_nil] at h1 ⊢
    simp only [h1]
    simp [hk', hlt]
    omega
/-- the least number above one, below another -/
def minA (last : Int) : Int → List Int → Int
  | n, [] => n
  | n, v :: l => minA last (if last < v ∧ v < n then v else n) l
theorem minA_spec (last : Int) : ∀ (l : List Int) (n : Int), minA last n l ≤ n ∧ (minA last n l < n → minA last n l ∈ l ∧ last < minA last n l) ∧ ∀ v ∈ l, last < v → minA last n l ≤ v
  | [], n => ⟨Int.le_refl _, fun h => absurd h (by simp [minA]), by simp⟩
  | v :: l, n => by
    obtain ⟨h1, h2, h3⟩ := minA_spec last l (if last < v ∧ v < n then v else n)
    simp only [minA]
    generalize hm : minA last (if last < v ∧ v < n then v else n) l = m at *
    by_cases hv : last < v ∧ v < n
    · rw [if_pos hv] at h1 h2
      refine ⟨by omega, fun _ => ?_, fun w hw hl => ?_⟩
      · by_cases h : m < v
        · have := h2 h; exact ⟨List.mem_cons_of_mem _ this.1, this.2⟩
        · have : m = v := by omega
          subst this; exact ⟨List.mem_cons_self .., hv.1⟩
      · rcases List.mem_cons.1 hw with e | e
        · subst e; exact h1
        · exact h3 w e hl
    · rw [if_neg hv] at h1 h2
      refine ⟨h1, fun h => ?_, fun w hw hl => ?_⟩
      · have := h2 h; exact ⟨List.mem_cons_of_mem _ this.1, this.2⟩
      · rcases List.mem_cons.1 hw with e | e
        · subst e; omega
        · exact h3 w e hl
theorem min_loop (til last : Int) (out : Nat) (all b1 : List Int) (hn : all.length ≤ 9223372036854775807) : ∀ (m k : Nat) (n : Int), k + m = all.length →
    posthouseref6_bounds_l10 til all.length out last n k all b1 = some ((til, all.length, out, last, minA last n (all.drop k), (all.length : Int), false), (all, b1)) := by
  intro m
  induction m with
  | zero =>
    intro k n hk
    have : k = all.length := by omega
    subst this
    refine posthouseref6_bounds_l10_eq ?_
    simp only [posthouseref6_bounds_l10_t, brE_if, gdE_if, EC.decL_encL, EC.isL_encL, EC.encL_length, at_3_0]
    simp [minA]
  | succ m ih =>
    intro k n hk
    have hlt : k < all.length := by omega
    have hk' : (k : Int) < (all.length : Int) := by omega
    have h1 := ih (k + 1) (if last < all[k] ∧ all[k] < n then all[k] else n) (by omega)
    have e : minA last n (all.drop k) = minA last (if last < all[k] ∧ all[k] < n then all[k] else n) (all.drop (k + 1)) := by rw [drop_at hlt]; rfl
    rw [e]
    refine posthouseref6_bounds_l10_eq ?_
    by_cases h2 : last < all[k]
    · by_cases h3 : all[k] < n
      · rw [if_pos ⟨h2, h3⟩] at h1 ⊢
        simp only [posthouseref6_bounds_l10_t, brE_if, gdE_if, EC.decL_encL, EC.isL_encL, EC.encL_length, at_3_0, Int.toNat_natCast, getD_in hlt, len_3 all k hlt, isP1_3 all k hlt, wrap_nat hlt hn, h1]
        simp [hk', hlt, h2, h3]
      · rw [if_neg (fun h => h3 h.2)] at h1 ⊢
        simp only [posthouseref6_bounds_l10_t, brE_if, gdE_if, EC.decL_encL, EC.isL_encL, EC.encL_length, at_3_0, Int.toNat_natCast, getD_in hlt, len_3 all k hlt, isP1_3 all k hlt, wrap_nat hlt hn, h1]
        simp [hk', hlt, h2, h3]
    · rw [if_neg (fun h => h2 h.1)] at h1 ⊢
      simp only [posthouseref6_bounds_l10_t, brE_if, gdE_if, EC.decL_encL, EC.isL_encL, EC.encL_length, at_3_0, Int.toNat_natCast, getD_in hlt, len_3 all k hlt, isP1_3 all k hlt, wrap_nat hlt hn, h1]
      simp [hk', hlt, h2]
/-- the numbers of a list above one, up to another, in order -/
def bL (til : Int) (all : List Int) : Nat → Int → List Int
  | 0, _ => []
  | q + 1, last => if til < minA last (til + 1) all then [] else minA last (til + 1) all :: bL til all q (minA last (til + 1) all)
theorem bL_spec (til : Int) (all : List Int) : ∀ (q : Nat) (last : Int), til - last ≤ q → (∀ v ∈ bL til all q last, last < v ∧ v ≤ til) ∧ (∀ v ∈ all, last < v → v ≤ til → v ∈ bL til all q last) ∧ ((bL til all q last).length : Int) ≤ max 0 (til - last)
  | 0, last, h => ⟨by simp [bL], fun v _ h1 h2 => by omega, by simp [bL]; omega⟩
  | q + 1, last, h => by
    obtain ⟨m1, m2, m3⟩ := minA_spec last all (til + 1)
    simp only [bL]
    generalize minA last (til + 1) all = m at *
    by_cases hm : til < m
    · rw [if_pos hm]
      refine ⟨by simp, fun v hv h1 h2 => ?_, by simp; omega⟩
      have := m3 v hv h1
      omega
    · rw [if_neg hm]
      have hlm := (m2 (by omega)).2
      obtain ⟨i1, i2, i3⟩ := bL_spec til all q m (by omega)
      refine ⟨fun v hv => ?_, fun v hv h1 h2 => ?_, ?_⟩
      · rcases List.mem_cons.1 hv with e | e
        · subst e; omega
        · have := i1 v e; omega
      · by_cases e : v = m
        · subst e; exact List.mem_cons_self ..
        · have := m3 v hv h1
          exact List.mem_cons_of_mem _ (i2 v hv (by omega) h2)
      · rw [List.length_cons]; omega
theorem bL_loop (til f : Int) (all : List Int) (hn : all.length ≤ 9223372036854775807) (hf : -68719476736 ≤ f) (ht : til ≤ 68719476736) : ∀ (q : Nat) (last : Int) (b : List Int), til - last < q → f - 1 ≤ last → last ≤ til → (b.length : Int) ≤ last - f + 1 →
    posthouseref6_bounds_l8 til all.length b.length last all b = some ((b ++ bL til all q last).length, b ++ bL til all q last) := by
  intro q
  induction q with
  | zero => intro last b h1 h2 h3 h4; omega
  | succ q ih =>
    intro last b h1 h2 h3 h4
    refine posthouseref6_bounds_l8_eq ?_
    have hmin := min_loop til last b.length all b hn all.length 0 (til + 1) (by omega)
    rw [List.drop_zero] at hmin
    simp only [Int.natCast_zero] at hmin
    have hw : IntKind.i64.wrap (til + 1) = til + 1 := wrap_in (by omega) (by omega)
    obtain ⟨m1, m2, m3⟩ := minA_spec last all (til + 1)
    simp only [bL]
    generalize minA last (til + 1) all = m at *
    by_cases hm : til < m
    · simp only [posthouseref6_bounds_l8_t, brE_if, gdE_if, EC.decL_encL, EC.isL_encL, all_3, apd_3, hw, hmin, Option.bind_some, if_true]
      simp [hm]
    · have hlm := (m2 (by omega)).2
      have h5 := ih m (b ++ [m]) (by omega) (by omega) (by omega) (by rw [List.length_append]; simp; omega)
      rw [List.append_assoc] at h5
      rw [List.length_append] at h5
      simp only [List.length_cons, List.length_nil, List.cons_append, List.nil_append] at h5
      simp only [posthouseref6_bounds_l8_t, brE_if, gdE_if, EC.decL_encL, EC.isL_encL, all_3, apd_3, hw, hmin, Option.bind_some, if_true, List.length_cons, List.length_nil, h5]
      simp [hm]
      omega
def bnds (l : List Pd) (f t : Int) : List Int := bL t ([f, t] ++ cand l) (t - f + 2).toNat (f - 1)
theorem bounds_s (l : List Pd) (f t : Int) (hn : l.length ≤ 1000000000) (hf : -68719476736 ≤ f) (hft : f ≤ t) (ht : t ≤ 68719476736) : posthouseref6_bounds_s l f t = some ((bnds l f t).length, bnds l f t) := posthouseref6_bounds_eq (by
  have h1 := cand_loop l f t hn l.length 0 [f, t] (by omega) (by simp)
  rw [List.drop_zero] at h1
  simp only [Int.natCast_zero, List.length_cons, List.length_nil] at h1
  have hcl := cand_length l
  have h2 := bL_loop t f ([f, t] ++ cand l) (by rw [List.length_append, hcl]; simp; omega) hf ht (t - f + 2).toNat (f - 1) [] (by omega) (by omega) (by omega) (by simp; omega)
  have hw : IntKind.i64.wrap (f - 1) = f - 1 := wrap_in (by omega) (by omega)
  rw [List.nil_append] at h2
  simp only [List.length_nil] at h2
  simp only [posthouseref6_bounds_t, gdE_if, EC.decL_encL, EC.isL_encL, lit2_3, EC_nilD, h1, Option.bind_some, if_true, hw, h2]
  rfl)
theorem bnds_spec {l : List Pd} {f t : Int} (hft : f ≤ t) : ∃ r, bnds l f t = f :: r ∧ lastD f r = t ∧ Rise (f :: r) ∧ ((bnds l f t).length : Int) ≤ t - f + 1 ∧ ∀ busy : Bool, Seg (fun x => Inn l x ↔ busy = true) (fun a => busyB l a == busy) (f :: r) := by
  have hall : ∀ p ∈ l, p.From ∈ [f, t] ++ cand l ∧ p.To ∈ [f, t] ++ cand l := fun p hp => by
    constructor <;> refine List.mem_append_right _ (List.mem_flatMap.2 ⟨p, hp, by simp⟩)
  unfold bnds
  generalize hA : [f, t] ++ cand l = all at *
  have hfa : f ∈ all := by rw [← hA]; simp
  have hta : t ∈ all := by rw [← hA]; simp
  -- steps
  have key : ∀ (q : Nat) (a : Int), t - a < q → a ≤ t → lastD a (bL t all q a) = t ∧ Rise (a :: bL t all q a) ∧ ∀ busy : Bool, Seg (fun x => Inn l x ↔ busy = true) (fun a => busyB l a == busy) (a :: bL t all q a) := by
    intro q
    induction q with
    | zero => intro a h1 h2; omega
    | succ q ih =>
      intro a h1 h2
      obtain ⟨m1, m2, m3⟩ := minA_spec a all (t + 1)
      simp only [bL]
      generalize minA a (t + 1) all = m at *
      by_cases hm : t < m
      · rw [if_pos hm]
        have : ¬ a < t := fun h => by have := m3 t hta h; omega
        exact ⟨by simp [lastD]; omega, trivial, fun _ => trivial⟩
      · rw [if_neg hm]
        have hlm := (m2 (by omega)).2
        obtain ⟨i1, i2, i3⟩ := ih m (by omega) (by omega)
        refine ⟨i1, ⟨hlm, i2⟩, fun busy => ⟨fun x hx1 hx2 => ?_, i3 busy⟩⟩
        have : Inn l x ↔ Inn l a := by
          unfold Inn
          constructor
          · rintro ⟨p, hp, h3, h4⟩
            refine ⟨p, hp, ?_, by omega⟩
            rcases Int.lt_or_le a p.From with h | h
            · have := m3 p.From (hall p hp).1 h; omega
            · exact h
          · rintro ⟨p, hp, h3, h4⟩
            have := m3 p.To (hall p hp).2 h4
            exact ⟨p, hp, by omega, by omega⟩
        show (Inn l x ↔ busy = true) ↔ (busyB l a == busy) = true
        rw [this, ← busyB_iff]
        cases busyB l a <;> cases busy <;> simp
  obtain ⟨m1, m2, m3⟩ := minA_spec (f - 1) all (t + 1)
  have e : minA (f - 1) (t + 1) all = f := by
    have := m3 f hfa (by omega)
    have := (m2 (by omega)).2
    omega
  obtain ⟨q, hq⟩ : ∃ q, (t - f + 2).toNat = q + 1 := ⟨(t - f + 1).toNat, by omega⟩
  obtain ⟨k1, k2, k3⟩ := key q f (by omega) hft
  have hlen := (bL_spec t all (q + 1) (f - 1) (by omega)).2.2
  rw [hq]
  have e2 : bL t all (q + 1) (f - 1) = f :: bL t all q f := by
    rw [bL, e, if_neg (by omega)]
  refine ⟨bL t all q f, e2, k1, k2, by omega, k3⟩

/-! ### pieces -/
theorem stepW_length (out : List Pd) (a c : Int) : (stepW out a c).length ≤ out.length + 1 := by
  unfold stepW
  cases hq : out.getLast? with
  | none => simp
  | some q =>
    obtain ⟨ys, rfl⟩ := List.getLast?_eq_some_iff.1 hq
    simp only [List.dropLast_concat]
    split <;> simp
theorem wiU_none (pb : Int → Bool) (out : List Pd) : ∀ (l : List Int), l.length ≤ 1 → wiU pb out l = out
  | [], _ => rfl
  | [a], _ => rfl
  | a :: c :: r, h => by simp at h
theorem within_loop (l : List Pd) (busy : Bool) (hl : l.length ≤ 9223372036854775807) (b : List Int) (hn : b.length ≤ 1000000000000) : ∀ (m k : Nat) (out : List Pd), k + m = b.length → out.length ≤ k →
    ∃ r, posthouseref6_Within_l4 l busy b.length out.length k b out = some r ∧ r.1.2.2.2.1 = (wiU (fun a => busyB l a == busy) out (b.drop k)).length ∧ r.2.2 = wiU (fun a => busyB l a == busy) out (b.drop k) := by
  intro m
  induction m with
  | zero =>
    intro k out hk ho
    have hk0 : k = b.length := by omega
    have hw : IntKind.i64.wrap ((k : Int) + 1) = (k : Int) + 1 := wrap_in (by omega) (by omega)
    have hd : b.drop k = [] := by rw [hk0]; simp
    rw [hd]
    refine ⟨((l, busy, b.length, out.length, (k : Int), false), (b, out)), posthouseref6_Within_l4_eq ?_, rfl, rfl⟩
    simp only [posthouseref6_Within_l4_t, brE_if, gdE_if, EC.decL_encL, EC.isL_encL, EC.encL_length, at_58_1, all_58, apd_58, set_58_1_1, at_3_0, hw]
    simp [show ¬ (k : Int) + 1 < (b.length : Int) by omega]
  | succ m ih =>
    intro k out hk ho
    have hlt : k < b.length := by omega
    by_cases h1 : k + 1 < b.length
    case neg =>
      have hd : (b.drop k).length ≤ 1 := by rw [List.length_drop]; omega
      rw [wiU_none _ _ _ hd]
      refine ⟨((l, busy, b.length, out.length, (k : Int), false), (b, out)), posthouseref6_Within_l4_eq ?_, rfl, rfl⟩
      have hw : IntKind.i64.wrap ((k : Int) + 1) = (k : Int) + 1 := wrap_in (by omega) (by omega)
      simp only [posthouseref6_Within_l4_t, brE_if, gdE_if, EC.decL_encL, EC.isL_encL, EC.encL_length, at_58_1, all_58, apd_58, set_58_1_1, at_3_0, hw]
      simp [show ¬ (k : Int) + 1 < (b.length : Int) by omega]
    case pos =>
      have hk' : (k : Int) < (b.length : Int) := by omega
      have hk1 : ((k + 1 : Nat) : Int) < (b.length : Int) := by omega
      have hw : IntKind.i64.wrap ((k : Int) + 1) = ((k + 1 : Nat) : Int) := wrap_nat hlt (by omega)
      have hd : b.drop k = b[k] :: b[k + 1] :: b.drop (k + 1 + 1) := by rw [drop_at hlt, drop_at h1]
      have hd1 : b.drop (k + 1) = b[k + 1] :: b.drop (k + 1 + 1) := drop_at h1
      by_cases hb : busyB l b[k] = busy
      case neg =>
        obtain ⟨r, hr, e1, e2⟩ := ih (k + 1) out (by omega) (by omega)
        have hbe : (busyB l b[k] == busy) = false := by simpa using hb
        have ew : wiU (fun a => busyB l a == busy) out (b.drop k) = wiU (fun a => busyB l a == busy) out (b.drop (k + 1)) := by
          rw [hd, wiU, ← hd1]; simp only [hbe, Bool.false_eq_true, if_false]
        rw [ew]
        refine ⟨r, posthouseref6_Within_l4_eq ?_, e1, e2⟩
        simp only [posthouseref6_Within_l4_t, brE_if, gdE_if, EC.decL_encL, EC.isL_encL, EC.encL_length, at_58_1, all_58, apd_58, set_58_1_1, at_3_0, hw, Int.toNat_natCast, getD_in hlt, len_3 b k hlt, isP1_3 b k hlt, busy_s l _ hl, Option.bind_some, hbe, hr]
        simp [hk', hlt]
        omega
      case pos =>
        have hs := stepW_length out b[k] b[k + 1]
        obtain ⟨r, hr, e1, e2⟩ := ih (k + 1) (stepW out b[k] b[k + 1]) (by omega) (by omega)
        have hbe : (busyB l b[k] == busy) = true := by simpa using hb
        have ew : wiU (fun a => busyB l a == busy) out (b.drop k) = wiU (fun a => busyB l a == busy) (stepW out b[k] b[k + 1]) (b.drop (k + 1)) := by
          rw [hd, wiU, ← hd1]; simp only [hbe, if_true]
        rw [ew]
        refine ⟨r, posthouseref6_Within_l4_eq ?_, e1, e2⟩
        cases hq : out.getLast? with
        | none =>
          have : out = [] := by simpa using hq
          subst this
          have es : stepW [] b[k] b[k + 1] = [⟨b[k], b[k + 1]⟩] := rfl
          rw [es] at hr
          simp only [List.length_cons, List.length_nil, Nat.zero_add] at hr
          simp only [posthouseref6_Within_l4_t, brE_if, gdE_if, EC.decL_encL, EC.isL_encL, EC.encL_length, at_58_1, all_58, apd_58, set_58_1_1, at_3_0, hw, Int.toNat_natCast, getD_in hlt, getD_in h1, len_3 b k hlt, isP1_3 b k hlt, len_3 b _ h1, isP1_3 b _ h1, busy_s l _ hl, Option.bind_some, hbe, List.nil_append, List.length_cons, List.length_nil, Nat.zero_add, hr]
          simp [hk', hlt, h1]
          rw [if_pos (by omega), if_pos (by omega)]
        | some q =>
          obtain ⟨ys, rfl⟩ := List.getLast?_eq_some_iff.1 hq
          have hwo : IntKind.i64.wrap ((((ys ++ [q]).length : Nat) : Int) - 1) = (ys.length : Int) := by
            rw [wrap_in (by simp) (by simp at ho ⊢; omega)]; simp
          have hyl : ys.length < (ys ++ [q]).length := by simp
          have hg : (ys ++ [q])[ys.length]'hyl = q := by simp
          have c1 : (ys.length : Int) < (((ys ++ [q]).length : Nat) : Int) := by omega
          have c2 : (((ys ++ [q]).length : Nat) : Int) > 0 := by omega
          by_cases hqt : q.To = b[k]
          · have es : stepW (ys ++ [q]) b[k] b[k + 1] = ys ++ [⟨q.From, b[k + 1]⟩] := by simp [stepW, hqt]
            have eset : (ys ++ [q]).set ys.length ⟨q.From, b[k + 1]⟩ = ys ++ [⟨q.From, b[k + 1]⟩] := by
              rw [List.set_append_right _ _ (Nat.le_refl _)]; simp
            have el : (ys ++ [(⟨q.From, b[k + 1]⟩ : Pd)]).length = (ys ++ [q]).length := by simp
            rw [es, el] at hr
            simp only [posthouseref6_Within_l4_t, brE_if, gdE_if, EC.decL_encL, EC.isL_encL, EC.encL_length, at_58_1, all_58, apd_58, set_58_1_1, at_3_0, hw, Int.toNat_natCast, getD_in hlt, getD_in h1, len_3 b k hlt, isP1_3 b k hlt, len_3 b _ h1, isP1_3 b _ h1, busy_s l _ hl, Option.bind_some, hbe, hwo, getD_in hyl, hg, len_58 _ _ hyl, isP1_58 _ _ hyl, hqt, eset, hr]
            simp only [hk', hk1, hlt, h1, c1, c2, hyl, decide_true, Bool.and_self, if_true, Int.natCast_nonneg, beq_self_eq_true, Bool.not_true, Bool.false_eq_true, if_false]
          · have es : stepW (ys ++ [q]) b[k] b[k + 1] = ys ++ [q] ++ [⟨b[k], b[k + 1]⟩] := by simp [stepW, hqt]
            have hqe : (q.To == b[k]) = false := by simpa using hqt
            rw [es, List.length_append] at hr
            have e4 : (((ys ++ [q]).length + 1) + ((ys ++ [q]).length + 1) / 4 + 192) * 16 ≤ 281474976710656 := by omega
            have e5 : (ys ++ [q]).length + 1 ≤ 9223372036854775807 := by omega
            simp only [List.length_cons, List.length_nil, Nat.zero_add] at hr
            simp only [posthouseref6_Within_l4_t, brE_if, gdE_if, EC.decL_encL, EC.isL_encL, EC.encL_length, at_58_1, all_58, apd_58, set_58_1_1, at_3_0, hw, Int.toNat_natCast, getD_in hlt, getD_in h1, len_3 b k hlt, isP1_3 b k hlt, len_3 b _ h1, isP1_3 b _ h1, busy_s l _ hl, Option.bind_some, hbe, hwo, getD_in hyl, hg, len_58 _ _ hyl, isP1_58 _ _ hyl, hqe, List.length_cons, List.length_nil, Nat.zero_add, hr]
            simp only [hk', hk1, hlt, h1, c1, c2, hyl, decide_true, Bool.and_self, if_true, Int.natCast_nonneg, beq_self_eq_true, Bool.not_true, Bool.false_eq_true, if_false, e4, e5, List.all_cons, List.all_nil]
            simp
def withinU (l : List Pd) (f t : Int) (busy : Bool) : List Pd := wiU (fun a => busyB l a == busy) [] (bnds l f t)
theorem within_s (l : List Pd) (f t : Int) (busy : Bool) (hn : l.length ≤ 1000000000) (hf : -68719476736 ≤ f) (hft : f ≤ t) (ht : t ≤ 68719476736) : posthouseref6_Within_s l f t busy = some ((withinU l f t busy).length, withinU l f t busy) := posthouseref6_Within_eq (by
  have h1 := bounds_s l f t hn hf hft ht
  obtain ⟨_, _, _, _, hlen, _⟩ := bnds_spec (l := l) hft
  obtain ⟨r, hr, e1, e2⟩ := within_loop l busy (by omega) (bnds l f t) (by omega) (bnds l f t).length 0 [] (by omega) (by simp)
  rw [List.drop_zero] at e1 e2
  simp only [Int.natCast_zero, List.length_nil] at hr
  simp only [posthouseref6_Within_t, gdE_if, EC.decL_encL, EC.isL_encL, EC_nilD, h1, Option.bind_some, if_true, hr, e1, e2]
  rfl)
theorem withinU_spec {l : List Pd} {f t : Int} (hft : f ≤ t) (busy : Bool) : NF (withinU l f t busy) ∧ ∀ x, Inn (withinU l f t busy) x ↔ f ≤ x ∧ x < t ∧ (Inn l x ↔ busy = true) := by
  obtain ⟨r, e, hl, hr, _, hs⟩ := bnds_spec (l := l) hft
  obtain ⟨h1, h2⟩ := wiU_ok r f [] hr (hs busy) trivial (by simp)
  unfold withinU
  rw [e]
  refine ⟨h1, fun x => ?_⟩
  rw [h2, Inn_nil, false_or, hl]
theorem long_loop (len : Int) (l : List Pd) (hn : l.length ≤ 1000000000000) (hb : ∀ p ∈ l, -68719476736 ≤ p.From ∧ p.From ≤ 68719476736 ∧ -68719476736 ≤ p.To ∧ p.To ≤ 68719476736) : ∀ (m k : Nat) (b : List Pd), k + m = l.length → b.length ≤ k →
    ∃ r, posthouseref6_Long_l3 l len b.length k b = some r ∧ r.1.2.2.1 = (b ++ (l.drop k).filter fun q => decide (len ≤ q.To - q.From)).length ∧ r.2 = b ++ (l.drop k).filter fun q => decide (len ≤ q.To - q.From) := by
  intro m
  induction m with
  | zero =>
    intro k b hk hbl
    have : k = l.length := by omega
    subst this
    refine ⟨((l, len, b.length, (l.length : Int), false), b), posthouseref6_Long_l3_eq ?_, ?_, ?_⟩
    · simp only [posthouseref6_Long_l3_t, brE_if, gdE_if, EC.decL_encL, EC.isL_encL, EC.encL_length, isE_58, at_58_0, at_58_1, all_58, apd_58]
      simp
    · simp
    · simp
  | succ m ih =>
    intro k b hk hbl
    have hlt : k < l.length := by omega
    have hk' : (k : Int) < (l.length : Int) := by omega
    have hp := hb l[k] (List.getElem_mem hlt)
    have e3 : IntKind.i64.wrap (l[k].To - l[k].From) = l[k].To - l[k].From := wrap_in (by omega) (by omega)
    rw [drop_at hlt, List.filter_cons]
    by_cases hc : len ≤ l[k].To - l[k].From
    · rw [if_pos (by simpa using hc)]
      obtain ⟨r, hr, h1, h2⟩ := ih (k + 1) (b ++ [l[k]]) (by omega) (by simp; omega)
      rw [List.append_assoc] at h1 h2
      refine ⟨r, posthouseref6_Long_l3_eq ?_, h1, h2⟩
      have e2 : ({ From := l[k].From, To := l[k].To } : Pd) = l[k] := rfl
      rw [List.length_append] at hr
      simp only [posthouseref6_Long_l3_t, brE_if, gdE_if, EC.decL_encL, EC.isL_encL, EC.encL_length, isE_58, at_58_0, at_58_1, all_58, apd_58, Int.toNat_natCast, getD_in hlt, e2, e3, wrap_nat hlt (show l.length ≤ 9223372036854775807 by omega), List.length_cons, List.length_nil] at hr ⊢
      simp only [hr]
      simp [hk', hlt, hc]
      omega
    · rw [if_neg (by simpa using hc)]
      obtain ⟨r, hr, h1, h2⟩ := ih (k + 1) b (by omega) (by omega)
      refine ⟨r, posthouseref6_Long_l3_eq ?_, h1, h2⟩
      simp only [posthouseref6_Long_l3_t, brE_if, gdE_if, EC.decL_encL, EC.isL_encL, EC.encL_length, isE_58, at_58_0, at_58_1, all_58, apd_58, Int.toNat_natCast, getD_in hlt, e3, wrap_nat hlt (show l.length ≤ 9223372036854775807 by omega), hr]
      simp [hk', hlt, hc]
theorem long_s (len : Int) (l : List Pd) (hn : l.length ≤ 1000000000000) (hb : ∀ p ∈ l, -68719476736 ≤ p.From ∧ p.From ≤ 68719476736 ∧ -68719476736 ≤ p.To ∧ p.To ≤ 68719476736) : posthouseref6_Long_s l len = some ((l.filter fun q => decide (len ≤ q.To - q.From)).length, l.filter fun q => decide (len ≤ q.To - q.From)) := posthouseref6_Long_eq (by
  obtain ⟨r, hr, h1, h2⟩ := long_loop len l hn hb l.length 0 [] (by omega) (by simp)
  rw [List.drop_zero, List.nil_append] at h1 h2
  simp only [Int.natCast_zero, List.length_nil] at hr
  simp only [posthouseref6_Long_t, gdE_if, EC.decL_encL, EC.isL_encL, EC_nilD, hr, Option.bind_some, if_true, h1, h2])
end Go.Proofs.Ytbbaldhmeifloaa
/- The laws of freebusy hold: plain words. -/
namespace Go.Proofs.Ytbbaldhmeifloaa
open Go.RowKit

theorem busy_in {l : List Pd} (hb : Bnd l) {x : Int} (h : Inn l x) : -68719476736 ≤ x ∧ x < 68719476736 := by
  obtain ⟨p, hp, h1, h2⟩ := h
  have := hb p hp
  omega
theorem within_union {l : List Pd} (hb : Bnd l) : withinU l (-68719476736) 68719476736 true = unionU l := by
  obtain ⟨h1, h2⟩ := withinU_spec (l := l) (f := -68719476736) (t := 68719476736) (by omega) true
  obtain ⟨u1, u2⟩ := unionU_spec l
  refine NF_ext h1 u1 fun x => ?_
  rw [h2, u2]
  constructor
  · rintro ⟨_, _, h⟩; exact h.2 rfl
  · intro h
    have := busy_in hb h
    exact ⟨this.1, this.2, fun _ => rfl, fun _ => h⟩
theorem within_gaps {l : List Pd} {f t : Int} (hft : f ≤ t) : withinU l f t false = gp t 1 f (unionU l) := by
  obtain ⟨h1, h2⟩ := withinU_spec (l := l) hft false
  obtain ⟨u1, u2⟩ := unionU_spec l
  obtain ⟨g1, g2⟩ := gp_ok (til := t) (unionU l) f u1
  refine NF_ext h1 g1 fun x => ?_
  rw [h2, g2, u2]
  constructor
  · rintro ⟨a, b, c⟩; exact ⟨a, b, fun h => by have := c.1 h; cases this⟩
  · rintro ⟨a, b, c⟩; exact ⟨a, b, fun h => absurd h c, fun h => by cases h⟩
theorem within_bnd {l : List Pd} {f t : Int} (hf : -68719476736 ≤ f) (hft : f ≤ t) (ht : t ≤ 68719476736) (busy : Bool) : ∀ p ∈ withinU l f t busy, -68719476736 ≤ p.From ∧ p.From ≤ 68719476736 ∧ -68719476736 ≤ p.To ∧ p.To ≤ 68719476736 := by
  intro p hp
  obtain ⟨h1, h2⟩ := withinU_spec (l := l) hft busy
  have hpt := NF_mem h1 hp
  have a := (h2 p.From).1 ⟨p, hp, by omega⟩
  have b := (h2 (p.To - 1)).1 ⟨p, hp, by omega⟩
  omega
theorem within_len {l : List Pd} {f t : Int} (hft : f ≤ t) (busy : Bool) (hs : t - f ≤ 200000000000) : (withinU l f t busy).length ≤ 1000000000000 := by
  obtain ⟨r, e, _, _, hlen, _⟩ := bnds_spec (l := l) hft
  have key : ∀ (q : Nat) (b : List Int) (out : List Pd), b.length ≤ q → (wiU (fun a => busyB l a == busy) out b).length ≤ out.length + b.length := by
    intro q
    induction q with
    | zero => intro b out hb; rw [wiU_none _ _ _ (by omega)]; omega
    | succ q ih =>
      intro b out hb
      match b, hb with
      | [], _ => rw [wiU_none _ _ _ (by simp)]; omega
      | [a], _ => rw [wiU_none _ _ _ (by simp)]; omega
      | a :: c :: r, hb =>
        have h1 := ih (c :: r) (if (busyB l a == busy) = true then stepW out a c else out) (by simp at hb ⊢; omega)
        have h2 := stepW_length out a c
        simp only [wiU]
        simp only [List.length_cons] at h1 ⊢
        split at h1 <;> rename_i hx <;> simp only [hx, if_true, Bool.false_eq_true, if_false] <;> omega
  have := key _ (bnds l f t) [] (Nat.le_refl _)
  unfold withinU
  simp only [List.length_nil] at this
  omega
def freeR (l : List Pd) (f t n : Int) : (Nat × (Int × Int)) × List Pd :=
  if (perFault l).1 ≠ 0 then ((0, perFault l), []) else if (spanFault f t).1 ≠ 0 then ((0, spanFault f t), [])
  else if n < 1 ∨ 68719476736 < n then ((0, 3, -3), []) else (((gp t n f (unionU l)).length, 0, 0), gp t n f (unionU l))
theorem free_s (l : List Pd) (f t n : Int) (hn : l.length ≤ 9223372036854775807) : freebusy_Free_s l f t n = some (freeR l f t n) := freebusy_Free_eq (by
  simp only [freebusy_Free_t, brE_if, gdE_if, EC.decL_encL, EC.isL_encL, EC_nilD, check_s l hn, span_s, failed_s, fault_s, none_s, Option.bind_some, if_true, beq_f]
  unfold freeR
  by_cases h1 : (perFault l).1 = 0
  · obtain ⟨hb, hl, _⟩ := per_zero h1
    by_cases h2 : (spanFault f t).1 = 0
    · obtain ⟨a, b, c, _⟩ := span_zero h2
      by_cases h3 : n < 1
      · simp [h1, h2, h3]
      · by_cases h4 : 68719476736 < n
        · simp [h1, h2, h3, h4]
        · simp [h1, h2, h3, h4, gaps_s l f t n hb (by omega) (by omega) (by omega)]
    · simp [h1, h2]
  · simp [h1])
theorem sameL_self (a : List Pd) : sameL a a = true := by simp [sameL]
end Go.Proofs.Ytbbaldhmeifloaa
