/- meeting.Best, in plain words; its law. -/
import Derived.Test.YtbbaldhmeifloaaMD
namespace Go.Proofs.Ytbbaldhmeifloaa
open Go.RowKit

/-- the first calendar with a fault -/
def calF : Nat → List (List Pd) → Int × Int
  | _, [] => (0, 0)
  | k, c :: ls => if (perFault c).1 = 0 then calF (k + 1) ls else ((perFault c).1, (k : Int))
theorem calF_zero : ∀ (ls : List (List Pd)) (k : Nat), (calF k ls).1 = 0 → calF k ls = (0, 0) ∧ ∀ c ∈ ls, (perFault c).1 = 0
  | [], k, _ => ⟨rfl, by simp⟩
  | c :: ls, k, h => by
    unfold calF at h ⊢
    by_cases hc : (perFault c).1 = 0
    · rw [if_pos hc] at h ⊢
      obtain ⟨h1, h2⟩ := calF_zero ls (k + 1) h
      exact ⟨h1, fun d hd => by rcases List.mem_cons.1 hd with e | e; exact e ▸ hc; exact h2 d e⟩
    · rw [if_neg hc] at h
      exact absurd h hc
theorem best_loop (ls : List (List Pd)) (n f t : Int) (hn : ls.length ≤ 9223372036854775807) (hl : ∀ c ∈ ls, c.length ≤ 9223372036854775807) : ∀ (m k : Nat), k + m = ls.length →
    meeting_Best_l4 ls n f t ls ls.length k 0 0 0 0 = some (if (calF k (ls.drop k)).1 = 0 then .inr ((ls, n, f, t, (), (), ls, (ls.length : Int), (ls.length : Int), false), ((0, 0), (0, 0))) else .inl (((), false, ()), ((0, 0), calF k (ls.drop k)))) := by
  intro m
  induction m with
  | zero =>
    intro k hk
    have : k = ls.length := by omega
    subst this
    refine meeting_Best_l4_eq ?_
    simp only [meeting_Best_l4_t, brE_if, gdE_if, EC.decL_encL, EC.isL_encL, EC.encL_length, isE_45, at_45_0]
    simp [calF]
  | succ m ih =>
    intro k hk
    have hlt : k < ls.length := by omega
    have hk' : (k : Int) < (ls.length : Int) := by omega
    have h1 := ih (k + 1) (by omega)
    have hc := hl ls[k] (List.getElem_mem hlt)
    rw [drop_at hlt, calF]
    refine meeting_Best_l4_eq ?_
    simp only [meeting_Best_l4_t, brE_if, gdE_if, EC.decL_encL, EC.isL_encL, EC.encL_length, isE_45, at_45_0, Int.toNat_natCast, getD_in hlt, check_s _ hc, failed_s, fault_s, Option.bind_some, wrap_nat hlt hn, h1]
    by_cases hp : (perFault ls[k]).1 = 0
    · simp [hk', hlt, hp]
    · simp [hk', hlt, hp]
def bestR (ls : List (List Pd)) (n f t : Int) : (Int × Int) × Bool × (Int × Int) :=
  if 30 < ls.length then ((0, 0), false, (2, -1)) else if (calF 0 ls).1 ≠ 0 then ((0, 0), false, calF 0 ls) else if (spanFault f t).1 ≠ 0 then ((0, 0), false, spanFault f t)
  else if n < 1 ∨ 68719476736 < n then ((0, 0), false, (3, -3)) else match gp t n f (unionU ls.flatten) with
    | [] => ((0, 0), false, (0, 0))
    | q :: _ => ((q.From, q.From + n), true, (0, 0))
theorem flat_bnd {ls : List (List Pd)} (h : ∀ c ∈ ls, (perFault c).1 = 0) : Bnd ls.flatten := fun p hp => by
  obtain ⟨c, hc, hp'⟩ := List.mem_flatten.1 hp
  exact (per_zero (h c hc)).1 p hp'
theorem flat_len : ∀ {ls : List (List Pd)}, (∀ c ∈ ls, (perFault c).1 = 0) → ls.flatten.length ≤ 500 * ls.length
  | [], _ => by simp
  | c :: ls, h => by
    have h1 := flat_len fun d hd => h d (List.mem_cons_of_mem _ hd)
    have h2 := (per_zero (h c (List.mem_cons_self ..))).2.1
    rw [List.flatten_cons, List.length_append, List.length_cons]
    omega
theorem best_s (ls : List (List Pd)) (n f t : Int) (hn : ls.length ≤ 9223372036854775807) (hl : ∀ c ∈ ls, c.length ≤ 9223372036854775807) : meeting_Best_s ls n f t = some (bestR ls n f t) := meeting_Best_eq (by
  have hb := best_loop ls n f t hn hl ls.length 0 (by omega)
  rw [List.drop_zero] at hb
  simp only [Int.natCast_zero] at hb
  simp only [meeting_Best_t, brE_if, gdE_if, EC.decL_encL, EC.isL_encL, EC.encL_length, at_58_0, hb, fault_s, none_s, span_s, failed_s, Option.bind_some, if_true, beq_f]
  unfold bestR
  by_cases h0 : 30 < ls.length
  · have : (30 : Int) < ls.length := by omega
    simp [h0, this]
  have h0' : ¬ (30 : Int) < ls.length := by omega
  by_cases h1 : (calF 0 ls).1 = 0
  · obtain ⟨_, hall⟩ := calF_zero ls 0 h1
    have hfb := flat_bnd hall
    have hfl := flat_len hall
    by_cases h2 : (spanFault f t).1 = 0
    · obtain ⟨a, b, c, _⟩ := span_zero h2
      by_cases h3 : n < 1
      · simp [h0, h0', h1, h2, h3]
        intro; omega
      · by_cases h4 : 68719476736 < n
        · simp [h0, h0', h1, h2, h3, h4]
        · have hg := gaps_s ls.flatten f t n hfb (by omega) (by omega) (by omega)
          have hcat : catS ls = some (ls.flatten.length, ls.flatten) := by unfold catS; rw [if_pos (by omega)]
          cases hgp : gp t n f (unionU ls.flatten) with
          | nil =>
            rw [hgp] at hg
            simp [h0, h0', h1, h2, h3, h4, hcat, hg]
          | cons q r =>
            rw [hgp] at hg
            have hq := gp_from _ _ q (by rw [hgp]; exact List.mem_cons_self ..)
            have hw : IntKind.i64.wrap (q.From + n) = q.From + n := wrap_in (by omega) (by omega)
            have hlen0 : 0 < (q :: r).length := by simp
            simp [h0, h0', h1, h2, h3, h4, hcat, hg, hw]
            rw [if_pos (by omega)]
            simp [EC.encL, enc_58, isP, isK]
    · simp [h0, h0', h1, h2]
  · simp [h0, h0', h1])
theorem ref_exit (ls : List (List Pd)) (n f t : Int) (is_ : Bool) (b : List Pd) (k : Int) (p1 p2 f1 f2 e1 e2 : Int) (h : (ls.length : Int) ≤ k ∨ e1 ≠ 0) :
    posthouselaw6_MeetingBestMatchesSpec_l7 ls n f t is_ b.length k p1 p2 f1 f2 e1 e2 b = some ((ls, n, f, t, (), is_, (), (), b.length, k, false), ((p1, p2), (f1, f2), (e1, e2), b)) := posthouselaw6_MeetingBestMatchesSpec_l7_eq (by
  simp only [posthouselaw6_MeetingBestMatchesSpec_l7_t, brE_if, gdE_if, EC.decL_encL, EC.isL_encL, EC.encL_length, all_58, isE_45, at_45_0]
  rcases h with h | h
  · simp [show ¬ k < (ls.length : Int) by omega]
  · simp [h])
theorem ref_loop (ls : List (List Pd)) (n f t : Int) (is_ : Bool) (p1 p2 f1 f2 : Int) (hn : ls.length ≤ 30) (hl : ∀ c ∈ ls, c.length ≤ 8796093022208) : ∀ (m k : Nat) (b : List Pd), k + m = ls.length → b.length ≤ 500 * k →
    ∃ (i : Int) (b' : List Pd), posthouselaw6_MeetingBestMatchesSpec_l7 ls n f t is_ b.length k p1 p2 f1 f2 0 0 b = some ((ls, n, f, t, (), is_, (), (), b'.length, i, false), ((p1, p2), (f1, f2), calF k (ls.drop k), b')) ∧ ((calF k (ls.drop k)).1 = 0 → b' = b ++ (ls.drop k).flatten) := by
  intro m
  induction m with
  | zero =>
    intro k b hk hb
    have : k = ls.length := by omega
    subst this
    exact ⟨(ls.length : Int), b, by rw [ref_exit _ _ _ _ _ _ _ _ _ _ _ _ _ (.inl (Int.le_refl _))]; simp [calF], by simp⟩
  | succ m ih =>
    intro k b hk hb
    have hlt : k < ls.length := by omega
    have hk' : (k : Int) < (ls.length : Int) := by omega
    have hc := hl ls[k] (List.getElem_mem hlt)
    have hg : ((b.length + ls[k].length) + (b.length + ls[k].length) / 4 + 192) * 16 ≤ 281474976710656 := by omega
    have hg2 : b.length + ls[k].length ≤ 9223372036854775807 := by omega
    have hap : ec_58.encL b ++ ec_58.encL ls[k] = ec_58.encL (b ++ ls[k]) := EC_append _ _ _
    rw [drop_at hlt, calF]
    by_cases hp : (perFault ls[k]).1 = 0
    · obtain ⟨_, h500, _⟩ := per_zero hp
      obtain ⟨i, b', h1, h2⟩ := ih (k + 1) (b ++ ls[k]) (by omega) (by rw [List.length_append]; omega)
      rw [if_pos hp]
      refine ⟨i, b', posthouselaw6_MeetingBestMatchesSpec_l7_eq ?_, fun h => by rw [h2 h, List.flatten_cons, List.append_assoc]⟩
      rw [List.length_append] at h1
      simp only [posthouselaw6_MeetingBestMatchesSpec_l7_t, brE_if, gdE_if, EC.decL_encL, EC.isL_encL, EC.encL_length, all_58, isE_45, at_45_0, Int.toNat_natCast, getD_in hlt, pfault_s _ (show ls[k].length ≤ 9223372036854775807 by omega), at_s, Option.bind_some, wrap_nat hlt (show ls.length ≤ 9223372036854775807 by omega), hap, h1]
      simp only [hk', hlt, hp, hg, hg2, decide_true, beq_self_eq_true, Bool.and_self, if_true, Int.natCast_nonneg, bne_self_eq_false, Bool.false_eq_true, if_false]
    · rw [if_neg hp]
      have h1 := ref_exit ls n f t is_ (b ++ ls[k]) ((k + 1 : Nat) : Int) p1 p2 f1 f2 (perFault ls[k]).1 k (.inr hp)
      refine ⟨((k + 1 : Nat) : Int), b ++ ls[k], posthouselaw6_MeetingBestMatchesSpec_l7_eq ?_, fun h => absurd h hp⟩
      rw [List.length_append] at h1
      have hpb : ((perFault ls[k]).1 != 0) = true := by simpa using hp
      simp only [posthouselaw6_MeetingBestMatchesSpec_l7_t, brE_if, gdE_if, EC.decL_encL, EC.isL_encL, EC.encL_length, all_58, isE_45, at_45_0, Int.toNat_natCast, getD_in hlt, pfault_s _ (show ls[k].length ≤ 9223372036854775807 by omega), at_s, Option.bind_some, wrap_nat hlt (show ls.length ≤ 9223372036854775807 by omega), hap, h1]
      simp only [hk', hlt, hpb, hg, hg2, decide_true, beq_self_eq_true, Bool.and_self, if_true, Int.natCast_nonneg, List.length_append]
theorem law_best (ls : List (List Pd)) (n f t : Int) (hn : ls.length ≤ 9223372036854775807) (hl : ∀ c ∈ ls, c.length ≤ 8796093022208) : posthouselaw6_MeetingBestMatchesSpec_s ls n f t = some true := posthouselaw6_MeetingBestMatchesSpec_eq (by
  have hl' : ∀ c ∈ ls, c.length ≤ 9223372036854775807 := fun c hc => by have := hl c hc; omega
  simp only [posthouselaw6_MeetingBestMatchesSpec_t, brE_if, gdE_if, EC.decL_encL, EC.isL_encL, EC.encL_length, at_58_0, EC_nilD, best_s ls n f t hn hl', at_s, Option.bind_some, if_true]
  by_cases h0 : 30 < ls.length
  · have h0' : (30 : Int) < ls.length := by omega
    have hr : bestR ls n f t = ((0, 0), false, (2, -1)) := by unfold bestR; rw [if_pos h0]
    have hx := ref_exit ls n f t false [] 0 0 0 2 (-1) 2 (-1) (.inr (by decide))
    simp only [List.length_nil] at hx
    simp [h0', hr, hx]
  have h0' : ¬ (30 : Int) < ls.length := by omega
  have hx := fun (is_ : Bool) (p1 p2 f1 f2 : Int) => ref_loop ls n f t is_ p1 p2 f1 f2 (by omega) hl ls.length 0 [] (by omega) (by simp)
  simp only [List.drop_zero, List.length_nil, Int.natCast_zero, List.nil_append] at hx
  simp only [sfault_s, in_s]
  by_cases h1 : (calF 0 ls).1 = 0
  case neg =>
    have hr : bestR ls n f t = ((0, 0), false, calF 0 ls) := by unfold bestR; rw [if_neg h0, if_pos h1]
    obtain ⟨i, b', hx1, _⟩ := hx false 0 0 (calF 0 ls).1 (calF 0 ls).2
    simp [h0', hr, hx1, h1]
  case pos =>
    obtain ⟨hc0, hall⟩ := calF_zero ls 0 h1
    have hfb := flat_bnd hall
    have hfl := flat_len hall
    by_cases h2 : (spanFault f t).1 = 0
    case neg =>
      have hr : bestR ls n f t = ((0, 0), false, spanFault f t) := by unfold bestR; rw [if_neg h0, if_neg (by simpa using h1), if_pos h2]
      obtain ⟨i, b', hx1, hx2⟩ := hx false 0 0 (spanFault f t).1 (spanFault f t).2
      simp [h0', hr, hx1, hc0, h2]
    case pos =>
      obtain ⟨a, b, c, hs0⟩ := span_zero h2
      by_cases h3 : n < 1 ∨ 68719476736 < n
      · have hr : bestR ls n f t = ((0, 0), false, (3, -3)) := by unfold bestR; rw [if_neg h0, if_neg (by simpa using h1), if_neg (by simpa using h2), if_pos h3]
        obtain ⟨i, b', hx1, hx2⟩ := hx false 0 0 3 (-3)
        have hin : inB n 1 68719476736 = false := by simp [inB]; omega
        simp [h0', hr, hx1, hc0, hs0, hin]
      · have hin : inB n 1 68719476736 = true := by simp [inB]; omega
        have hw := within_len (l := ls.flatten) b false (by omega)
        have hlong := long_s n (withinU ls.flatten f t false) hw (within_bnd a b c false)
        have eg : ((withinU ls.flatten f t false).filter fun q => decide (n ≤ q.To - q.From)) = gp t n f (unionU ls.flatten) := by
          rw [within_gaps b]; exact (gp_len (by omega) _ _).symm
        rw [eg] at hlong
        have hwi := within_s ls.flatten f t false (by omega) a b c
        cases hgp : gp t n f (unionU ls.flatten) with
        | nil =>
          have hr : bestR ls n f t = ((0, 0), false, (0, 0)) := by unfold bestR; rw [if_neg h0, if_neg (by simpa using h1), if_neg (by simpa using h2), if_neg h3, hgp]
          obtain ⟨i, b', hx1, hx2⟩ := hx false 0 0 0 0
          have hb' := hx2 h1
          subst hb'
          rw [hgp] at hlong
          by_cases h6 : 60 < ls.flatten.length
          · have h6' : (60 : Int) < ls.flatten.length := by omega
            rw [hc0] at hx1
            simp only [hr, hx1, hs0, hin, h6', Option.bind_some]
            simp [h0']
          · have h6' : ¬ (60 : Int) < ls.flatten.length := by omega
            rw [hc0] at hx1
            simp only [hr, hx1, hs0, hin, Option.bind_some, hwi, hlong]
            simp [h0']
        | cons q r =>
          have hr : bestR ls n f t = ((q.From, q.From + n), true, (0, 0)) := by unfold bestR; rw [if_neg h0, if_neg (by simpa using h1), if_neg (by simpa using h2), if_neg h3, hgp]
          obtain ⟨i, b', hx1, hx2⟩ := hx true q.From (q.From + n) 0 0
          have hb' := hx2 h1
          subst hb'
          rw [hgp] at hlong
          have hq := gp_from _ _ q (by rw [hgp]; exact List.mem_cons_self ..)
          have hwr : IntKind.i64.wrap (q.From + n) = q.From + n := wrap_in (by omega) (by omega)
          have hlen0 : 0 < (q :: r).length := by simp
          by_cases h6 : 60 < ls.flatten.length
          · have h6' : (60 : Int) < ls.flatten.length := by omega
            rw [hc0] at hx1
            simp only [hr, hx1, hs0, hin, h6', Option.bind_some]
            simp [h0']
          · have h6' : ¬ (60 : Int) < ls.flatten.length := by omega
            rw [hc0] at hx1
            simp only [hr, hx1, hs0, hin, Option.bind_some, hwi, hlong]
            simp [h0', hwr, EC.encL, enc_58, isP, isK]
            intro; omega)
end Go.Proofs.Ytbbaldhmeifloaa
