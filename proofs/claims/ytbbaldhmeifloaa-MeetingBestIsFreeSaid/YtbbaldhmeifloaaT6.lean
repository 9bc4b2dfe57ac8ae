/- The best period is free in each calendar, and there is no better one: plain words. -/
import Derived.Test.YtbbaldhmeifloaaT5
namespace Go.Proofs.Ytbbaldhmeifloaa
open Go.RowKit

theorem NF_apart : ∀ {l : List Pd}, NF l → ∀ p ∈ l, ∀ q ∈ l, p = q ∨ p.To < q.From ∨ q.To < p.From
  | [], _, p, hp, _, _ => by simp at hp
  | a :: l, h, p, hp, q, hq => by
    rcases List.mem_cons.1 hp with e | hp'
    · rcases List.mem_cons.1 hq with e' | hq'
      · exact .inl (by rw [e, e'])
      · exact .inr (.inl (by rw [e]; exact h.2.1 q hq'))
    · rcases List.mem_cons.1 hq with e' | hq'
      · exact .inr (.inr (by rw [e']; exact h.2.1 p hp'))
      · exact NF_apart h.2.2 p hp' q hq'
/-- a run of instants lies within one period -/
theorem runIn2 {l : List Pd} (h : NF l) {s n : Int} (hn : 1 ≤ n) (hr : ∀ x, s ≤ x → x < s + n → Inn l x) : ∃ q ∈ l, q.From ≤ s ∧ s + n ≤ q.To := by
  obtain ⟨q, hq, h1, h2⟩ := hr s (Int.le_refl _) (by omega)
  refine ⟨q, hq, h1, ?_⟩
  rcases Int.lt_or_le q.To (s + n) with h3 | h3
  · obtain ⟨r, hr', h4, h5⟩ := hr q.To (by omega) h3
    rcases NF_apart h q hq r hr' with e | e | e
    · subst e; omega
    · omega
    · omega
  · exact h3
theorem head_least {q : Pd} {r : List Pd} (h : NF (q :: r)) : ∀ p ∈ q :: r, q.From ≤ p.From := fun p hp => by
  rcases List.mem_cons.1 hp with e | e
  · rw [e]; exact Int.le_refl _
  · have := h.2.1 p e
    have := h.1
    omega
theorem NF_filter (c : Pd → Bool) : ∀ {l : List Pd}, NF l → NF (l.filter c)
  | [], _ => trivial
  | p :: l, h => by
    rw [List.filter_cons]
    split
    · exact ⟨h.1, fun q hq => h.2.1 q (List.mem_filter.1 hq).1, NF_filter c h.2.2⟩
    · exact NF_filter c h.2.2
/-- the first gap that is long enough begins no later than a free run -/
theorem first_gap {l : List Pd} {f t n : Int} (hn : 1 ≤ n) {s : Int} (hs : f ≤ s) (ht : s + n ≤ t) (hr : ∀ x, s ≤ x → x < s + n → ¬ Inn l x) : ∃ q r, gp t n f (unionU l) = q :: r ∧ q.From ≤ s := by
  obtain ⟨u1, u2⟩ := unionU_spec l
  obtain ⟨g1, g2⟩ := gp_ok (til := t) (unionU l) f u1
  obtain ⟨p, hp, h1, h2⟩ := runIn2 g1 hn (s := s) fun x a b => (g2 x).2 ⟨by omega, by omega, by rw [u2]; exact hr x a b⟩
  have hm : p ∈ gp t n f (unionU l) := by
    rw [gp_len hn]
    exact List.mem_filter.2 ⟨hp, by simp; omega⟩
  have hnf : NF (gp t n f (unionU l)) := by rw [gp_len hn]; exact NF_filter _ g1
  cases hg : gp t n f (unionU l) with
  | nil => rw [hg] at hm; simp at hm
  | cons q r =>
    rw [hg] at hm hnf
    exact ⟨q, r, rfl, by have := head_least hnf p hm; omega⟩
/-- the instants of a gap are free -/
theorem gap_free {l : List Pd} {f t n : Int} (hn : 1 ≤ n) {q : Pd} (hq : q ∈ gp t n f (unionU l)) : ∀ x, q.From ≤ x → x < q.To → f ≤ x ∧ x < t ∧ ¬ Inn l x := by
  obtain ⟨u1, u2⟩ := unionU_spec l
  obtain ⟨g1, g2⟩ := gp_ok (til := t) (unionU l) f u1
  rw [gp_len hn] at hq
  intro x a b
  have := (g2 x).1 ⟨q, (List.mem_filter.1 hq).1, a, b⟩
  rwa [u2] at this
theorem free_whole {l : List Pd} {a b n : Int} (hn : 1 ≤ n) (hab : b = a + n) (hf : ∀ x, a ≤ x → x < b → ¬ Inn l x) : gp b n a (unionU l) = [⟨a, b⟩] := by
  obtain ⟨u1, u2⟩ := unionU_spec l
  obtain ⟨g1, g2⟩ := gp_ok (til := b) (unionU l) a u1
  have e : gp b 1 a (unionU l) = [⟨a, b⟩] := NF_ext g1 ⟨by show a < b; omega, by simp, trivial⟩ fun x => by
    rw [g2, u2]
    simp only [Inn_cons, Inn_nil, or_false]
    exact ⟨fun h => ⟨h.1, h.2.1⟩, fun h => ⟨h.1, h.2, hf x h.1 h.2⟩⟩
  rw [gp_len hn, e]
  simp; omega
theorem free_loop21 (ls : List (List Pd)) (n f a b : Int) (hn : ls.length ≤ 9223372036854775807) (hn1 : 1 ≤ n ∧ n ≤ 68719476736) (ha : -68719476736 ≤ a) (hb : b ≤ 68719476736) (hab : b = a + n) (hall : ∀ c ∈ ls, (perFault c).1 = 0) (hfree : ∀ x, a ≤ x → x < b → ¬ Inn ls.flatten x) : ∀ (m k : Nat), k + m = ls.length →
    posthouselaw6_MeetingBestIsFree_l9 ls n f k a b = some (.inr ((ls, n, f, (), (ls.length : Int), false), (a, b))) := by
  intro m
  induction m with
  | zero =>
    intro k hk
    have : k = ls.length := by omega
    subst this
    refine posthouselaw6_MeetingBestIsFree_l9_eq ?_
    simp only [posthouselaw6_MeetingBestIsFree_l9_t, brE_if, gdE_if, EC.decL_encL, EC.isL_encL, EC.encL_length, isE_45, at_45_0]
    simp
  | succ m ih =>
    intro k hk
    have hlt : k < ls.length := by omega
    have hk' : (k : Int) < (ls.length : Int) := by omega
    have h1 := ih (k + 1) (by omega)
    have hmem := List.getElem_mem hlt
    obtain ⟨hbc, hlc, h0⟩ := per_zero (hall _ hmem)
    have hg : gp b n a (unionU ls[k]) = [⟨a, b⟩] := free_whole hn1.1 hab fun x h2 h3 h4 => by
      obtain ⟨p, hp, h5⟩ := h4
      exact hfree x h2 h3 ⟨p, List.mem_flatten.2 ⟨_, hmem, hp⟩, h5⟩
    have hs : spanFault a b = (0, 0) := by
      unfold spanFault timeB
      rw [if_neg (by simp; omega), if_neg (by omega)]
    have hfr : freeR ls[k] a b n = ((1, 0, 0), [⟨a, b⟩]) := by
      unfold freeR
      rw [h0, hs, hg, if_neg (by simp), if_neg (by simp), if_neg (by omega)]
      rfl
    have e2 : ec_58.decL [[C.int .i64 a, C.int .i64 b]] = [⟨a, b⟩] := rfl
    refine posthouselaw6_MeetingBestIsFree_l9_eq ?_
    simp only [posthouselaw6_MeetingBestIsFree_l9_t, brE_if, gdE_if, EC.decL_encL, EC.isL_encL, EC.encL_length, isE_45, at_45_0, Int.toNat_natCast, getD_in hlt, free_s _ _ _ _ (show ls[k].length ≤ 9223372036854775807 by omega), hfr, e2, same_s _ _ (show [(⟨a, b⟩ : Pd)].length ≤ 9223372036854775807 by simp), sameL_self, Option.bind_some, wrap_nat hlt hn, h1]
    simp [hk', hlt]
theorem law_bestfree (ls : List (List Pd)) (n f t : Int) (hn : ls.length ≤ 9223372036854775807) (hl : ∀ c ∈ ls, c.length ≤ 9223372036854775807) : posthouselaw6_MeetingBestIsFree_s ls n f t = some true := posthouselaw6_MeetingBestIsFree_eq (by
  simp only [posthouselaw6_MeetingBestIsFree_t, brE_if, gdE_if, EC.decL_encL, EC.isL_encL, best_s ls n f t hn hl, Option.bind_some, if_true]
  by_cases h0 : 30 < ls.length
  · have hr : bestR ls n f t = ((0, 0), false, (2, -1)) := by unfold bestR; rw [if_pos h0]
    simp [hr]
  by_cases h1 : (calF 0 ls).1 = 0
  case neg =>
    have hr : bestR ls n f t = ((0, 0), false, calF 0 ls) := by unfold bestR; rw [if_neg h0, if_pos h1]
    simp [hr, h1]
  obtain ⟨hc0, hall⟩ := calF_zero ls 0 h1
  by_cases h2 : (spanFault f t).1 = 0
  case neg =>
    have hr : bestR ls n f t = ((0, 0), false, spanFault f t) := by unfold bestR; rw [if_neg h0, if_neg (by simpa using h1), if_pos h2]
    simp [hr, h2]
  obtain ⟨a, b, c, hs0⟩ := span_zero h2
  by_cases h3 : n < 1 ∨ 68719476736 < n
  · have hr : bestR ls n f t = ((0, 0), false, (3, -3)) := by unfold bestR; rw [if_neg h0, if_neg (by simpa using h1), if_neg (by simpa using h2), if_pos h3]
    simp [hr]
  cases hgp : gp t n f (unionU ls.flatten) with
  | nil =>
    have hr : bestR ls n f t = ((0, 0), false, (0, 0)) := by unfold bestR; rw [if_neg h0, if_neg (by simpa using h1), if_neg (by simpa using h2), if_neg h3, hgp]
    simp [hr]
  | cons q r =>
    have hr : bestR ls n f t = ((q.From, q.From + n), true, (0, 0)) := by unfold bestR; rw [if_neg h0, if_neg (by simpa using h1), if_neg (by simpa using h2), if_neg h3, hgp]
    have hqm : q ∈ gp t n f (unionU ls.flatten) := by rw [hgp]; exact List.mem_cons_self ..
    have hq := gp_from _ _ q hqm
    have hfree := gap_free (show 1 ≤ n by omega) hqm
    have hloop := free_loop21 ls n f q.From (q.From + n) hn (by omega) (by omega) (by omega) rfl hall (fun x h4 h5 => (hfree x h4 (by omega)).2.2) ls.length 0 (by omega)
    simp only [Int.natCast_zero] at hloop
    have hw1 : IntKind.i64.wrap (q.From + n - q.From) = n := by rw [wrap_in (by omega) (by omega)]; omega
    have hw2 : IntKind.i64.wrap (q.From + n - 1) = q.From + n - 1 := wrap_in (by omega) (by omega)
    have hs1 : spanFault f (q.From + n - 1) = (0, 0) := by
      unfold spanFault timeB
      rw [if_neg (by simp; omega), if_neg (by omega)]
    -- there is no earlier one
    have hno : gp (q.From + n - 1) n f (unionU ls.flatten) = [] := by
      cases hg2 : gp (q.From + n - 1) n f (unionU ls.flatten) with
      | nil => rfl
      | cons p s =>
        exfalso
        have hpm : p ∈ gp (q.From + n - 1) n f (unionU ls.flatten) := by rw [hg2]; exact List.mem_cons_self ..
        have hp := gp_from _ _ p hpm
        have hpf := gap_free (show 1 ≤ n by omega) hpm
        obtain ⟨q', r', e, hle⟩ := first_gap (l := ls.flatten) (f := f) (t := t) (show 1 ≤ n by omega) (s := p.From) hp.1 (by omega) (fun x h4 h5 => (hpf x h4 (by omega)).2.2)
        rw [hgp] at e
        injection e with e _
        subst e
        omega
    have hr2 : bestR ls n f (q.From + n - 1) = ((0, 0), false, (0, 0)) := by unfold bestR; rw [if_neg h0, if_neg (by simpa using h1), if_neg (by rw [hs1]; simp), if_neg h3, hno]
    simp only [hr, hw1, hw2, hloop, Option.bind_some, Sum.elim_inr, best_s ls n f _ hn hl, hr2]
    simp [show ¬ q.From < f by omega, show ¬ t < q.From + n by omega])
theorem law_bestfree2 (ls : List (List Pd)) (n f t : Int) (hn : ls.length ≤ 9223372036854775807) (hl : ∀ c ∈ ls, c.length ≤ 8796093022208) : posthouselaw6_MeetingBestIsFree_s ls n f t = some true := law_bestfree ls n f t hn fun c hc => by have := hl c hc; omega
end Go.Proofs.Ytbbaldhmeifloaa
