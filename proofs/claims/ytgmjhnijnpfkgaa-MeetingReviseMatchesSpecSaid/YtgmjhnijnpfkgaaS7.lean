/- The law on revisions, in plain words: the earliest offer. -/
import Derived.Test.YtgmjhnijnpfkgaaS6
namespace Go.Proofs.Ytgmjhnijnpfkgaa
open Go.RowKit

abbrev P2 := S38
def ltP (a b : P2) : Bool := decide (a.From < b.From) || (decide (a.From = b.From) && decide (a.To < b.To))
def cmpI (x y : Int) : Int := if x < y then -1 else if y < x then 1 else 0
theorem isNaN_s (x : Int) : cmp_isNaN_s x = some false := cmp_isNaN_eq (by simp [cmp_isNaN_t])
theorem compare_s (x y : Int) : cmp_Compare_s x y = some (cmpI x y) := cmp_Compare_eq (by
  simp only [cmp_Compare_t, isNaN_s, Option.bind_some, brE_if, Bool.false_eq_true, if_false, decide_eq_true_eq, gt_iff_lt]
  unfold cmpI
  split
  · rfl
  · split <;> rfl)
theorem or_s (a b : Int) : cmp_Or_s [a, b] = some (if a ≠ 0 then a else b) := cmp_Or_eq (by
  have w1 : IntKind.i64.wrap ((0 : Int) + 1) = 1 := by rw [IntWalk.i64_in _ (by omega)]; rfl
  have w2 : IntKind.i64.wrap ((1 : Int) + 1) = 2 := by rw [IntWalk.i64_in _ (by omega)]; rfl
  have l2 : cmp_Or_l3 0 [a, b] 2 2 = some (.inr ((0, [a, b], 2, 2, false), ())) := cmp_Or_l3_eq (by
    simp only [cmp_Or_l3_t, brE_if, gdE_if, EC.decL_encL, EC.isL_encL, EC.encL_length, isE_3, at_3_0]
    simp)
  have l1 : cmp_Or_l3 0 [a, b] 2 1 = some (if b ≠ 0 then .inl (b, ()) else .inr ((0, [a, b], 2, 2, false), ())) := cmp_Or_l3_eq (by
    simp only [cmp_Or_l3_t, brE_if, gdE_if, EC.decL_encL, EC.isL_encL, EC.encL_length, isE_3, at_3_0, w2, l2]
    by_cases h : b = 0 <;> simp [h])
  have l0 : cmp_Or_l3 0 [a, b] 2 0 = some (if a ≠ 0 then .inl (a, ()) else if b ≠ 0 then .inl (b, ()) else .inr ((0, [a, b], 2, 2, false), ())) := cmp_Or_l3_eq (by
    simp only [cmp_Or_l3_t, brE_if, gdE_if, EC.decL_encL, EC.isL_encL, EC.encL_length, isE_3, at_3_0, w1, l1]
    by_cases h : a = 0 <;> simp [h])
  simp only [cmp_Or_t, gdE_if, EC.decL_encL, EC.isL_encL, EC.encL_length, if_true]
  have e : (([a, b] : List Int).length : Int) = 2 := rfl
  rw [e, l0]
  by_cases h : a = 0 <;> by_cases h' : b = 0 <;> simp [h, h'])
theorem revise1_s' (a b : P2) : revise1_s a.From a.To b.From b.To = some (if cmpI a.From b.From ≠ 0 then cmpI a.From b.From else cmpI a.To b.To) := revise1_eq (by
  have e : ∀ x y : Int, EC.decL ec_3 [[C.int IntKind.i64 x], [C.int IntKind.i64 y]] = [x, y] := fun _ _ => rfl
  simp only [revise1_t, compare_s, Option.bind_some, e, or_s])
theorem cmp_lt (a b : P2) : decide ((if cmpI a.From b.From ≠ 0 then cmpI a.From b.From else cmpI a.To b.To) < 0) = ltP a b := by
  unfold cmpI ltP
  by_cases h1 : a.From < b.From
  · simp [h1]
  · by_cases h2 : b.From < a.From
    · simp [h1, h2, show ¬ a.From = b.From by omega]
    · have : a.From = b.From := by omega
      by_cases h3 : a.To < b.To
      · simp [this, h3]
      · by_cases h4 : b.To < a.To <;> simp [this, h3, h4]
def step2 (c p : P2) : P2 := if ltP p c = true then p else c
theorem min_loop (x : List P2) (b0 b01 : Int) (hn : x.length ≤ 9223372036854775807) : ∀ (q k : Nat) (c : P2), k + q = x.length →
    minPer_l5 x k b0 b01 c.From c.To = some ((x, (), (), (), (x.length : Int), false), ((b0, b01), (((x.drop k).foldl step2 c).From, ((x.drop k).foldl step2 c).To))) := by
  intro q
  induction q with
  | zero =>
    intro k c hk
    have : k = x.length := by omega
    subst this
    refine minPer_l5_eq ?_
    simp only [minPer_l5_t, brE_if, gdE_if, EC.decL_encL, EC.isL_encL, EC.encL_length, isE_38, at_38_0, at_38_1]
    simp
  | succ q ih =>
    intro k c hk
    have hlt : k < x.length := by omega
    have hlt' : (k : Int) < (x.length : Int) := by omega
    rw [drop_at hlt, List.foldl_cons]
    have ih1 := ih (k + 1) x[k] (by omega)
    have ih2 := ih (k + 1) c (by omega)
    refine minPer_l5_eq ?_
    simp only [minPer_l5_t, brE_if, gdE_if, EC.decL_encL, EC.isL_encL, EC.encL_length, isE_38, at_38_0, at_38_1, Int.toNat_natCast, getD_in hlt, revise1_s', Option.bind_some, cmp_lt, wrap_nat hlt hn, ih1, ih2, hlt, hlt', Int.natCast_nonneg, decide_true, Bool.and_self, if_true, step2]
    cases ltP x[k] c <;> simp
theorem min_s (o : P2) (l : List P2) (hn : (o :: l).length ≤ 9223372036854775807) : minPer_s (o :: l) = some ((l.foldl step2 o).From, (l.foldl step2 o).To) := minPer_eq (by
  have hl := min_loop (o :: l) 0 0 hn l.length 1 o (by simp; omega)
  have h1 : ¬ (((o :: l).length : Int) < 1) := by simp; omega
  have e1 : ((1 : Nat) : Int) = 1 := rfl
  have e2 : Int.toNat 0 = 0 := rfl
  rw [e1] at hl
  simp only [minPer_t, brE_if, gdE_if, EC.decL_encL, EC.isL_encL, EC.encL_length, isE_38, at_38_0, at_38_1, e2, List.getD_cons_zero, hl, Option.bind_some, h1, decide_false, Bool.false_eq_true, if_false]
  simp)
def offs : List G → List P2
  | [] => []
  | g :: l => if g.Answer = 3 then ⟨g.Offer_From, g.Offer_To⟩ :: offs l else offs l
theorem offs_len : ∀ l : List G, (offs l).length ≤ l.length
  | [] => by simp [offs]
  | g :: l => by
    have := offs_len l
    rw [offs]
    split <;> simp <;> omega
theorem rev_loop (L : List G) (b0 : ByteArray) (b01 : List G) (b02 b03 b04 : Int) (b05 : Bool) (b1 : ByteArray) (b11 : Nat) (b12 b13 b14 : Int) (b15 : Bool) (b2 b21 : Int) (b4 : List G) (hn : L.length ≤ 1000000) : ∀ (q k : Nat) (R : List P2), k + q = L.length → R.length ≤ k →
    meeting_Revise_l6 R.length L L.length k b0 b01 b02 b03 b04 b05 b1 b11 b12 b13 b14 b15 b2 b21 R b4 = some (((), (), (), (R ++ offs (L.drop k)).length, L, (L.length : Int), (L.length : Int), false), ((b0, b01, b02, b03, b04, b05), (b1, b11, b12, b13, b14, b15), (b2, b21), R ++ offs (L.drop k), b4)) := by
  intro q
  induction q with
  | zero =>
    intro k R hk _
    have : k = L.length := by omega
    subst this
    refine meeting_Revise_l6_eq ?_
    simp only [meeting_Revise_l6_t, brE_if, gdE_if, EC.decL_encL, EC.isL_encL, EC.encL_length, isE_48, at_48_1, at_48_2, at_48_3, all_38, apd_38]
    simp [offs]
  | succ q ih =>
    intro k R hk hR
    have hlt : k < L.length := by omega
    have hlt' : (k : Int) < (L.length : Int) := by omega
    rw [drop_at hlt, offs]
    refine meeting_Revise_l6_eq ?_
    have h1 : (R.length + 1) * 16 ≤ 140737488355328 := by omega
    have h2 : R.length + 1 ≤ 9223372036854775807 := by omega
    simp only [meeting_Revise_l6_t, brE_if, gdE_if, EC.decL_encL, EC.isL_encL, EC.encL_length, isE_48, at_48_1, at_48_2, at_48_3, all_38, apd_38, Int.toNat_natCast, getD_in hlt, wrap_nat hlt (by omega : L.length ≤ 9223372036854775807), hlt, hlt', Int.natCast_nonneg, decide_true, Bool.and_self, if_true, List.all_cons, List.all_nil, List.length_cons, List.length_nil, Nat.zero_add, h1, h2]
    by_cases h3 : L[k].Answer = 3
    · have := ih (k + 1) (R ++ [⟨L[k].Offer_From, L[k].Offer_To⟩]) (by omega) (by simp; omega)
      simp only [List.length_append, List.length_cons, List.length_nil, Nat.zero_add] at this
      simp only [h3, beq_self_eq_true, if_true, Bool.and_self, this]
      simp [Nat.add_assoc, Nat.add_comm]
    · have := ih (k + 1) R (by omega) (by omega)
      have h3' : (L[k].Answer == 3) = false := by simpa using h3
      simp only [h3, h3', Bool.false_eq_true, if_false, this]
abbrev RR := ((ByteArray × Nat × Int × Int × Int × Bool) × Bool × (Int × Int)) × List G
def revOf (m : Mtg) : RR :=
  if (runFault m).1 ≠ 0 then ((zrow, false, runFault m), []) else match offs m.guests with
    | [] => (((m.org, m.guests.length, m.round, m.pf, m.pt, m.can), false, (0, 0)), m.guests)
    | o :: l => (((m.org, m.guests.length, m.round + 1, (l.foldl step2 o).From, (l.foldl step2 o).To, m.can), true, (0, 0)), m.guests.map clr)
theorem Revise_s (m : Mtg) (hn : m.guests.length ≤ 9223372036854775807) : meeting_Revise_s m.org m.guests m.round m.pf m.pt m.can = some (revOf m) := meeting_Revise_eq (by
  unfold revOf
  by_cases h : (runFault m).1 = 0
  · obtain ⟨h1, _, _⟩ := run_ok h
    obtain ⟨_, h2, h3, h4⟩ := fault_ok h1
    have hl := rev_loop m.guests m.org m.guests m.round m.pf m.pt m.can ⟨#[]⟩ 0 0 0 0 false 0 0 [] (by omega) m.guests.length 0 [] (by omega) (by simp)
    simp only [List.length_nil, Int.natCast_zero, List.nil_append, List.drop_zero] at hl
    simp only [meeting_Revise_t, brE_if, gdE_if, EC.decL_encL, EC.isL_encL, EC.encL_length, if_true, running_s m hn, failed_s, none_s, Option.bind_some, EC_nilD, h, bne_self_eq_false, Bool.false_eq_true, if_false, hl, clone_s m.guests (by omega)]
    cases ho : offs m.guests with
    | nil => simp
    | cons o l =>
      have hlen : (o :: l).length ≤ 9223372036854775807 := by rw [← ho]; have := offs_len m.guests; omega
      simp only [min_s o l hlen, propose_s m _ _ (by omega) h3 h4, Option.bind_some]
      simp
      omega
  · simp only [meeting_Revise_t, brE_if, gdE_if, EC.decL_encL, EC.isL_encL, EC.encL_length, if_true, running_s m hn, failed_s, Option.bind_some, EC_nilD]
    simp [h, zrow])
def offG (g : G) : P2 := ⟨g.Offer_From, g.Offer_To⟩
def stepG (c : Option P2) (g : G) : Option P2 := if g.Answer = 3 then (match c with | none => some (offG g) | some p => some (step2 p (offG g))) else c
theorem foldG_some : ∀ (l : List G) (c : P2), l.foldl stepG (some c) = some ((offs l).foldl step2 c)
  | [], _ => rfl
  | g :: l, c => by
    rw [List.foldl_cons, offs, stepG]
    by_cases h : g.Answer = 3
    · rw [if_pos h, if_pos h]; exact foldG_some l _
    · rw [if_neg h, if_neg h]; exact foldG_some l c
theorem foldG_none : ∀ (l : List G), l.foldl stepG none = match offs l with | [] => none | o :: os => some (os.foldl step2 o)
  | [] => rfl
  | g :: l => by
    rw [List.foldl_cons, offs, stepG]
    by_cases h : g.Answer = 3
    · rw [if_pos h, if_pos h]; exact foldG_some l _
    · rw [if_neg h, if_neg h]; exact foldG_none l
def cur (l : List G) (best : Int) : Option P2 := if best < 0 then none else some (offG (l.getD best.toNat (ec_48.dec [])))
def okB (l : List G) (best : Int) : Prop := best = -1 ∨ ∃ k : Nat, k < l.length ∧ best = k
def nextB (l : List G) (best : Int) (i : Nat) (g : G) : Int := if g.Answer ≠ 3 then best else if best < 0 then i else if ltP (offG g) (offG (l.getD best.toNat (ec_48.dec []))) = true then i else best
theorem nextB_ok {l : List G} {best : Int} {i : Nat} (h : okB l best) (hi : i < l.length) : okB l (nextB l best i l[i]) ∧ cur l (nextB l best i l[i]) = stepG (cur l best) l[i] := by
  unfold nextB stepG
  by_cases h3 : l[i].Answer = 3
  · rw [if_neg (by simp [h3]), if_pos h3]
    have ci : cur l (i : Int) = some (offG l[i]) := by unfold cur; rw [if_neg (by omega), Int.toNat_natCast, getD_in hi]
    have oi : okB l (i : Int) := .inr ⟨i, hi, rfl⟩
    by_cases hb : best < 0
    · rw [if_pos hb]
      have : cur l best = none := by unfold cur; rw [if_pos hb]
      rw [this]
      exact ⟨oi, ci⟩
    · rw [if_neg hb]
      have hc : cur l best = some (offG (l.getD best.toNat (ec_48.dec []))) := by unfold cur; rw [if_neg hb]
      rw [hc]
      simp only [step2]
      split
      · exact ⟨oi, ci⟩
      · exact ⟨h, hc⟩
  · rw [if_pos h3, if_neg h3]
    exact ⟨h, rfl⟩
theorem best_loop (m : Mtg) (is : Bool) (b1 : ByteArray) (b11 : Nat) (b12 b13 b14 : Int) (b15 : Bool) (b2 b21 : Int) (b3 : List G) (hn : m.guests.length ≤ 9223372036854775807) : ∀ (q i : Nat) (best : Int), i + q = m.guests.length → okB m.guests best →
    ∃ best', posthouselaw6_MeetingReviseMatchesSpec_l9 is best i m.org m.guests m.round m.pf m.pt m.can b1 b11 b12 b13 b14 b15 b2 b21 b3 = some (((), (), is, (), best', (m.guests.length : Int), false), ((m.org, m.guests, m.round, m.pf, m.pt, m.can), (b1, b11, b12, b13, b14, b15), (b2, b21), b3)) ∧ okB m.guests best' ∧ cur m.guests best' = (m.guests.drop i).foldl stepG (cur m.guests best) := by
  intro q
  induction q with
  | zero =>
    intro i best hi hb
    have : i = m.guests.length := by omega
    subst this
    refine ⟨best, posthouselaw6_MeetingReviseMatchesSpec_l9_eq ?_, hb, by simp⟩
    simp only [posthouselaw6_MeetingReviseMatchesSpec_l9_t, brE_if, gdE_if, EC.decL_encL, EC.isL_encL, EC.encL_length, isE_48, at_48_1, at_48_2, at_48_3]
    simp
  | succ q ih =>
    intro i best hi hb
    have hlt : i < m.guests.length := by omega
    have hlt' : (i : Int) < (m.guests.length : Int) := by omega
    obtain ⟨nb1, nb2⟩ := nextB_ok hb hlt
    obtain ⟨best', e1, e2, e3⟩ := ih (i + 1) _ (by omega) nb1
    refine ⟨best', posthouselaw6_MeetingReviseMatchesSpec_l9_eq ?_, e2, ?_⟩
    · have g10 : ∀ (best : Int), posthouselaw6_MeetingReviseMatchesSpec_g10 is best i m.org m.guests m.round m.pf m.pt m.can b1 b11 b12 b13 b14 b15 b2 b21 b3 = some (((), (), is, (), best, ((i + 1 : Nat) : Int)), ((m.org, m.guests, m.round, m.pf, m.pt, m.can), (b1, b11, b12, b13, b14, b15), (b2, b21), b3)) := fun best => posthouselaw6_MeetingReviseMatchesSpec_g10_eq (by
        simp only [posthouselaw6_MeetingReviseMatchesSpec_g10_t, gdE_if, EC.decL_encL, EC.isL_encL, if_true, wrap_nat hlt hn])
      simp only [posthouselaw6_MeetingReviseMatchesSpec_l9_t, brE_if, gdE_if, EC.decL_encL, EC.isL_encL, EC.encL_length, isE_48, at_48_1, at_48_2, at_48_3, Int.toNat_natCast, getD_in hlt, g10, Option.bind_some, hlt, hlt', Int.natCast_nonneg, decide_true, Bool.and_self, if_true, beq_t, beq_f]
      unfold nextB at e1
      by_cases h3 : m.guests[i].Answer = 3
      · rw [if_neg (by simp [h3])] at e1
        simp only [h3, bne_self_eq_false, Bool.false_eq_true, if_false]
        rcases hb with rfl | ⟨k, hk, rfl⟩
        · simp only [show ((-1 : Int) < 0) from by decide, if_true] at e1
          simp at e1
          simp [e1]
        · have hkk : ¬ ((k : Int) < 0) := by omega
          rw [if_neg hkk, Int.toNat_natCast, getD_in hk] at e1
          simp only [Int.toNat_natCast, getD_in hk, hk, hkk, Int.natCast_nonneg, decide_true, decide_false, Bool.not_false, if_true]
          unfold ltP offG at e1
          by_cases q1 : m.guests[i].Offer_From < m.guests[k].Offer_From
          · simp only [q1, decide_true, Bool.true_or, if_true] at e1
            simp only [q1, decide_true, Bool.not_true, Bool.false_eq_true, if_false, e1]
          · by_cases q2 : m.guests[i].Offer_From = m.guests[k].Offer_From
            · by_cases q3 : m.guests[i].Offer_To < m.guests[k].Offer_To
              · simp only [q2, q3, decide_true, Bool.and_self] at e1
                simp at e1
                simp [q2, q3, e1]
              · simp only [q2, q3, decide_true, decide_false, Bool.and_false] at e1
                simp at e1
                simp [q2, q3, e1]
            · simp only [q1, q2, decide_false, Bool.false_or, Bool.false_and, Bool.false_eq_true, if_false] at e1
              simp at e1
              simp [q1, q2, e1]
      · rw [if_pos h3] at e1
        have h3' : (m.guests[i].Answer != 3) = true := by simpa using h3
        simp only [h3', if_true, e1]
    · rw [e3, drop_at hlt, List.foldl_cons, nb2]
theorem law_revise (m : Mtg) (hn : m.guests.length ≤ 9223372036854775807) : posthouselaw6_MeetingReviseMatchesSpec_s m.org m.guests m.round m.pf m.pt m.can = some true := posthouselaw6_MeetingReviseMatchesSpec_eq (by
  have g5a : ∀ c i : Int, c ≠ 0 → posthouselaw6_MeetingReviseMatchesSpec_g5 false m.org m.guests m.round m.pf m.pt m.can ⟨#[]⟩ 0 0 0 0 false c i c i [] = some (true, ()) := fun c i h => posthouselaw6_MeetingReviseMatchesSpec_g5_eq (by
    simp only [posthouselaw6_MeetingReviseMatchesSpec_g5_t, brE_if, gdE_if, EC.decL_encL, EC.isL_encL, EC.encL_length, isE_48, at_48_2, at_48_3, EC_nilD, sameZ, agreed_s, Option.bind_some]
    simp [h])
  simp only [posthouselaw6_MeetingReviseMatchesSpec_t, brE_if, gdE_if, EC.decL_encL, EC.isL_encL, if_true, Revise_s m hn, mfault_s m hn, Option.bind_some, beq_t, beq_f, at_s]
  by_cases hf : (mtgFault m).1 = 0
  · by_cases hrun : (runFault m).1 = 0
    · obtain ⟨_, hc, hr⟩ := run_ok hrun
      obtain ⟨_, h2, h3, h4⟩ := fault_ok hf
      have hr' : (m.round == 1000000) = false := by simpa using hr
      obtain ⟨best', e1, e2, e3⟩ : ∃ best', posthouselaw6_MeetingReviseMatchesSpec_l9 (revOf m).1.2.1 (-1) 0 m.org m.guests m.round m.pf m.pt m.can (revOf m).1.1.1 (revOf m).1.1.2.1 (revOf m).1.1.2.2.1 (revOf m).1.1.2.2.2.1 (revOf m).1.1.2.2.2.2.1 (revOf m).1.1.2.2.2.2.2 (revOf m).1.2.2.1 (revOf m).1.2.2.2 (revOf m).2 = some (((), (), (revOf m).1.2.1, (), best', (m.guests.length : Int), false), ((m.org, m.guests, m.round, m.pf, m.pt, m.can), ((revOf m).1.1.1, (revOf m).1.1.2.1, (revOf m).1.1.2.2.1, (revOf m).1.1.2.2.2.1, (revOf m).1.1.2.2.2.2.1, (revOf m).1.1.2.2.2.2.2), ((revOf m).1.2.2.1, (revOf m).1.2.2.2), (revOf m).2)) ∧ okB m.guests best' ∧ cur m.guests best' = (m.guests.drop 0).foldl stepG (cur m.guests (-1)) := by
        have := best_loop m (revOf m).1.2.1 (revOf m).1.1.1 (revOf m).1.1.2.1 (revOf m).1.1.2.2.1 (revOf m).1.1.2.2.2.1 (revOf m).1.1.2.2.2.2.1 (revOf m).1.1.2.2.2.2.2 (revOf m).1.2.2.1 (revOf m).1.2.2.2 (revOf m).2 hn m.guests.length 0 (-1) (by omega) (.inl rfl)
        exact this
      have ec : cur m.guests (-1) = none := rfl
      rw [List.drop_zero, ec, foldG_none] at e3
      have g5b : posthouselaw6_MeetingReviseMatchesSpec_g5 (revOf m).1.2.1 m.org m.guests m.round m.pf m.pt m.can (revOf m).1.1.1 (revOf m).1.1.2.1 (revOf m).1.1.2.2.1 (revOf m).1.1.2.2.2.1 (revOf m).1.1.2.2.2.2.1 (revOf m).1.1.2.2.2.2.2 (revOf m).1.2.2.1 (revOf m).1.2.2.2 (mtgFault m).1 (mtgFault m).2 (revOf m).2 = some (true, ()) := posthouselaw6_MeetingReviseMatchesSpec_g5_eq (by
        simp only [posthouselaw6_MeetingReviseMatchesSpec_g5_t, brE_if, gdE_if, EC.decL_encL, EC.isL_encL, EC.encL_length, isE_48, at_48_2, at_48_3, hf, bne_self_eq_false, Bool.false_eq_true, if_false, if_true, e1, Option.bind_some]
        cases ho : offs m.guests with
        | nil =>
          have er : revOf m = (((m.org, m.guests.length, m.round, m.pf, m.pt, m.can), false, (0, 0)), m.guests) := by unfold revOf; rw [if_neg (by simp [hrun]), ho]
          have hb : best' < 0 := by
            rw [ho] at e3
            unfold cur at e3
            split at e3
            · assumption
            · cases e3
          simp only [er, hb, decide_true, if_true, same' _ _ _ _ _ _ hn, agreed_s, Option.bind_some]
          simp
        | cons o l =>
          have er : revOf m = (((m.org, m.guests.length, m.round + 1, (l.foldl step2 o).From, (l.foldl step2 o).To, m.can), true, (0, 0)), m.guests.map clr) := by unfold revOf; rw [if_neg (by simp [hrun]), ho]
          rw [ho] at e3
          rcases e2 with rfl | ⟨k, hk, rfl⟩
          · cases e3
          · have hkk : ¬ ((k : Int) < 0) := by omega
            unfold cur at e3
            rw [if_neg hkk, Int.toNat_natCast, getD_in hk] at e3
            injection e3 with e3
            have f1 : m.guests[k].Offer_From = (l.foldl step2 o).From := by rw [← e3]; rfl
            have f2 : m.guests[k].Offer_To = (l.foldl step2 o).To := by rw [← e3]; rfl
            have hs := same' m.org (m.guests.map clr) (m.round + 1) (l.foldl step2 o).From (l.foldl step2 o).To m.can (by simp; omega)
            simp only [er, hkk, decide_false, Bool.false_eq_true, if_false, Int.toNat_natCast, getD_in hk, f1, f2, proposed_s m _ _ (by omega) h3 h4, Option.bind_some, hs, agreed_s]
            simp [hk])
      rw [hc] at g5b ⊢
      simp only [hf] at g5b
      simp [hf, hr', g5b]
    · have e8 : runFault m = (8, -4) := by
        unfold runFault at hrun ⊢
        rw [if_neg (by simp [hf])] at hrun ⊢
        split
        · rfl
        · rename_i h; rw [if_neg h] at hrun; exact absurd rfl hrun
      have er : revOf m = ((zrow, false, (8, -4)), []) := by unfold revOf; rw [e8, if_pos (by decide)]
      have hor : m.can = true ∨ m.round = 1000000 := by
        unfold runFault at e8
        rw [if_neg (by simp [hf])] at e8
        split at e8
        · assumption
        · cases e8
      have := g5a 8 (-4) (by decide)
      rw [er]
      cases hc : m.can with
      | true =>
        rw [hc] at this
        simp [hf, zrow, this]
      | false =>
        have hr : m.round = 1000000 := by rcases hor with h | h; (rw [hc] at h; cases h); exact h
        rw [hc, hr] at this
        simp [hf, hr, zrow, this]
  · have er : revOf m = ((zrow, false, mtgFault m), []) := by
      unfold revOf
      have : runFault m = mtgFault m := by unfold runFault; rw [if_pos hf]
      rw [this, if_pos hf]
    have := g5a _ (mtgFault m).2 hf
    rw [er]
    simp [hf, zrow, this])
end Go.Proofs.Ytgmjhnijnpfkgaa
