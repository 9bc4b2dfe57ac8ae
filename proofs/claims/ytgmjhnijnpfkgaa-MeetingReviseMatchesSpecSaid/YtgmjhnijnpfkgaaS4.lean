/- The law on proposals, in plain words. -/
import Derived.Test.YtgmjhnijnpfkgaaS3
namespace Go.Proofs.Ytgmjhnijnpfkgaa
open Go.RowKit

theorem same' (o : ByteArray) (l : List G) (r f t : Int) (c : Bool) (hn : l.length ≤ 9223372036854775807) : posthouseref6_SameMeeting_s o l r f t c o l r f t c = some true := same_s ⟨o, l, r, f, t, c⟩ hn
theorem sameZ : posthouseref6_SameMeeting_s ⟨#[]⟩ [] 0 0 0 false ⟨#[]⟩ [] 0 0 0 false = some true := same' _ _ _ _ _ _ (by simp)
theorem mf_zero {m : Mtg} (h : (mtgFault m).1 = 0) : mtgFault m = (0, 0) := by
  have key : ∀ (l : List G) (k : Nat), (gfFrom m.org m.round m.guests k l).1 = 0 → gfFrom m.org m.round m.guests k l = (0, 0) := by
    intro l
    induction l with
    | nil => intro k _; rfl
    | cons g l ih =>
      intro k hk
      rw [gfFrom] at hk ⊢
      split at hk
      · rename_i h0; rw [if_pos h0]; exact ih _ hk
      · rename_i h0; exact absurd hk h0
  unfold mtgFault at h ⊢
  repeat' split at h
  all_goals first | (cases h; done) | skip
  rename_i h1 h2 h3 h4
  rw [if_neg h1, if_neg h2, if_neg h3, if_neg h4]
  exact key _ _ h

theorem p12 (b0 : ByteArray) (b01 : List G) (b02 b03 b04 : Int) (b05 : Bool) (b1 : ByteArray) (b11 : Nat) (b12 b13 b14 : Int) (b15 : Bool) (b2 b21 b3 b31 : Int) (b4 : List G) :
    posthouselaw6_MeetingProposeMatchesSpec_g12 false b0 b01 b02 b03 b04 b05 b1 b11 b12 b13 b14 b15 b2 b21 b3 b31 b4 = some (.inl (((), (), (), (), false), ((b0, b01, b02, b03, b04, b05), (b1, b11, b12, b13, b14, b15), (b2, b21), (b3, b31), b4))) := posthouselaw6_MeetingProposeMatchesSpec_g12_eq (by
  simp only [posthouselaw6_MeetingProposeMatchesSpec_g12_t, brE_if, gdE_if, EC.decL_encL, EC.isL_encL]
  simp)
theorem p15a (m : Mtg) (c i : Int) (h : c ≠ 0) : posthouselaw6_MeetingProposeMatchesSpec_g15 m.org m.guests m.round m.pf m.pt m.can ⟨#[]⟩ 0 0 0 0 false c i c i [] = some (true, ()) := posthouselaw6_MeetingProposeMatchesSpec_g15_eq (by
  simp only [posthouselaw6_MeetingProposeMatchesSpec_g15_t, brE_if, gdE_if, EC.decL_encL, EC.isL_encL, EC_nilD, sameZ, agreed_s, Option.bind_some]
  simp [h])
theorem p15c (m : Mtg) (n : Nat) (i j : Int) (hn : m.guests.length ≤ 9223372036854775807) : posthouselaw6_MeetingProposeMatchesSpec_g15 m.org m.guests m.round m.pf m.pt m.can m.org n m.round m.pf m.pt true 0 i 0 j m.guests = some (true, ()) := posthouselaw6_MeetingProposeMatchesSpec_g15_eq (by
  simp only [posthouselaw6_MeetingProposeMatchesSpec_g15_t, brE_if, gdE_if, EC.decL_encL, EC.isL_encL, same' _ _ _ _ _ _ hn, agreed_s, Option.bind_some]
  simp)
/-- where a fault was expected -/
theorem p11a (m : Mtg) (f t c i : Int) (h : c ≠ 0) (hn : m.guests.length ≤ 9223372036854775807) : posthouselaw6_MeetingProposeMatchesSpec_g11 m.org m.guests m.round m.pf m.pt m.can f t ⟨#[]⟩ 0 0 0 0 false c i
    (cancelOf m).1.1.1 (cancelOf m).1.1.2.1 (cancelOf m).1.1.2.2.1 (cancelOf m).1.1.2.2.2.1 (cancelOf m).1.1.2.2.2.2.1 (cancelOf m).1.1.2.2.2.2.2 (cancelOf m).1.2.1 (cancelOf m).1.2.2 (mtgFault m).1 (mtgFault m).2 c i [] (cancelOf m).2 = some (true, ()) := posthouselaw6_MeetingProposeMatchesSpec_g11_eq (by
  have h1 : (c != 0) = true := by simpa using h
  have h2 : (c == 0) = false := by simpa using h
  simp only [posthouselaw6_MeetingProposeMatchesSpec_g11_t, brE_if, gdE_if, h1, h2, EC_nilD, EC.decL_encL, EC.isL_encL, beq_t, beq_f, beq_self_eq_true, Bool.and_true, Bool.not_true, Bool.not_false, if_true, sameZ, Option.bind_some, Bool.false_eq_true, if_false, p12, Sum.elim_inl, at_s]
  by_cases hf : (mtgFault m).1 = 0
  · rw [mf_zero hf]
    cases hc : m.can with
    | true =>
      have e : cancelOf m = ((zrow, (8, -4)), []) := by unfold cancelOf; rw [if_neg (by simp [hf]), if_pos hc]
      rw [e]
      have := p15a m 8 (-4) (by decide)
      rw [hc] at this
      simp [zrow, this]
    | false =>
      have e : cancelOf m = (((m.org, m.guests.length, m.round, m.pf, m.pt, true), (0, 0)), m.guests) := by unfold cancelOf; rw [if_neg (by simp [hf]), if_neg (by simp [hc])]
      rw [e]
      have := p15c m m.guests.length 0 0 hn
      rw [hc] at this
      simp [this]
  · have e : cancelOf m = ((zrow, mtgFault m), []) := by unfold cancelOf; rw [if_pos hf]
    have := p15a m _ (mtgFault m).2 hf
    rw [e]
    simp [zrow, this, hf])
/-- where a proposal was expected -/
theorem p11b (m : Mtg) (f t i j : Int) (hf : (mtgFault m).1 = 0) (hc : m.can = false) : posthouselaw6_MeetingProposeMatchesSpec_g11 m.org m.guests m.round m.pf m.pt m.can f t m.org m.guests.length (m.round + 1) f t m.can 0 i
    (cancelOf m).1.1.1 (cancelOf m).1.1.2.1 (cancelOf m).1.1.2.2.1 (cancelOf m).1.1.2.2.2.1 (cancelOf m).1.1.2.2.2.2.1 (cancelOf m).1.1.2.2.2.2.2 (cancelOf m).1.2.1 (cancelOf m).1.2.2 (mtgFault m).1 (mtgFault m).2 0 j (m.guests.map clr) (cancelOf m).2 = some (true, ()) := posthouselaw6_MeetingProposeMatchesSpec_g11_eq (by
  obtain ⟨_, h2, h3, h4⟩ := fault_ok hf
  have hs := same' m.org (m.guests.map clr) (m.round + 1) f t m.can (by simp; omega)
  simp only [posthouselaw6_MeetingProposeMatchesSpec_g11_t, brE_if, gdE_if, EC_nilD, EC.decL_encL, EC.isL_encL, beq_t, beq_f, beq_self_eq_true, bne_self_eq_false, Bool.true_and, Bool.and_true, Bool.not_true, if_true, proposed_s m f t (by omega) h3 h4, hs, Option.bind_some, Bool.false_eq_true, if_false, p12, Sum.elim_inl, at_s]
  rw [mf_zero hf]
  have e : cancelOf m = (((m.org, m.guests.length, m.round, m.pf, m.pt, true), (0, 0)), m.guests) := by unfold cancelOf; rw [if_neg (by simp [hf]), if_neg (by simp [hc])]
  rw [e]
  have := p15c m m.guests.length 0 0 (by omega)
  rw [hc] at this ⊢
  simp [this])
theorem p9a (m : Mtg) (f t c i : Int) (h : c ≠ 0) (hn : m.guests.length ≤ 9223372036854775807) : posthouselaw6_MeetingProposeMatchesSpec_g9 m.org m.guests m.round m.pf m.pt m.can f t ⟨#[]⟩ 0 0 0 0 false c i (cancelOf m).1.1.1 (cancelOf m).1.1.2.1 (cancelOf m).1.1.2.2.1 (cancelOf m).1.1.2.2.2.1 (cancelOf m).1.1.2.2.2.2.1 (cancelOf m).1.1.2.2.2.2.2 (cancelOf m).1.2.1 (cancelOf m).1.2.2 (mtgFault m).1 (mtgFault m).2 c i [] (cancelOf m).2 = some (true, ()) := posthouselaw6_MeetingProposeMatchesSpec_g9_eq (by
  have h2 : (c == 0) = false := by simpa using h
  simp only [posthouselaw6_MeetingProposeMatchesSpec_g9_t, brE_if, gdE_if, h2, EC.decL_encL, EC.isL_encL, beq_t, Bool.false_eq_true, if_false, if_true, p11a m f t c i h hn, Option.bind_some])
theorem p9b (m : Mtg) (f t i : Int) (h : possB f t = false) (hn : m.guests.length ≤ 9223372036854775807) : posthouselaw6_MeetingProposeMatchesSpec_g9 m.org m.guests m.round m.pf m.pt m.can f t ⟨#[]⟩ 0 0 0 0 false 3 (-5) (cancelOf m).1.1.1 (cancelOf m).1.1.2.1 (cancelOf m).1.1.2.2.1 (cancelOf m).1.1.2.2.2.1 (cancelOf m).1.1.2.2.2.2.1 (cancelOf m).1.1.2.2.2.2.2 (cancelOf m).1.2.1 (cancelOf m).1.2.2 (mtgFault m).1 (mtgFault m).2 0 i [] (cancelOf m).2 = some (true, ()) := posthouselaw6_MeetingProposeMatchesSpec_g9_eq (by
  simp only [posthouselaw6_MeetingProposeMatchesSpec_g9_t, brE_if, gdE_if, EC.decL_encL, EC.isL_encL, beq_self_eq_true, if_true, proposable_s, h, Bool.not_false, at_s, Option.bind_some, p11a m f t 3 (-5) (by decide) hn])
theorem p9c (m : Mtg) (f t i j : Int) (h : possB f t = true) (hf : (mtgFault m).1 = 0) (hc : m.can = false) : posthouselaw6_MeetingProposeMatchesSpec_g9 m.org m.guests m.round m.pf m.pt m.can f t m.org m.guests.length (m.round + 1) f t m.can 0 i (cancelOf m).1.1.1 (cancelOf m).1.1.2.1 (cancelOf m).1.1.2.2.1 (cancelOf m).1.1.2.2.2.1 (cancelOf m).1.1.2.2.2.2.1 (cancelOf m).1.1.2.2.2.2.2 (cancelOf m).1.2.1 (cancelOf m).1.2.2 (mtgFault m).1 (mtgFault m).2 0 j (m.guests.map clr) (cancelOf m).2 = some (true, ()) := posthouselaw6_MeetingProposeMatchesSpec_g9_eq (by
  simp only [posthouselaw6_MeetingProposeMatchesSpec_g9_t, brE_if, gdE_if, EC.decL_encL, EC.isL_encL, beq_self_eq_true, if_true, proposable_s, h, Bool.not_true, Bool.false_eq_true, if_false, Option.bind_some, p11b m f t i j hf hc])
theorem law_propose (m : Mtg) (f t : Int) (hn : m.guests.length ≤ 9223372036854775807) : posthouselaw6_MeetingProposeMatchesSpec_s m.org m.guests m.round m.pf m.pt m.can f t = some true := posthouselaw6_MeetingProposeMatchesSpec_eq (by
  simp only [posthouselaw6_MeetingProposeMatchesSpec_t, brE_if, gdE_if, EC.decL_encL, EC.isL_encL, if_true, Propose_s m f t hn, Cancel_s m hn, mfault_s m hn, validate_s m hn, Option.bind_some, beq_t, beq_f, beq_self_eq_true, Bool.and_self, Bool.not_true, Bool.false_eq_true, if_false, at_s]
  by_cases hf : (mtgFault m).1 = 0
  · have hz := mf_zero hf
    by_cases hc : m.can = true
    · have e : propOf m f t = ((zrow, (8, -4)), []) := by
        unfold propOf
        have : runFault m = (8, -4) := by unfold runFault; rw [if_neg (by simp [hf]), if_pos (.inl hc)]
        rw [this, if_pos (by decide)]
      have := p9a m f t 8 (-4) (by decide) hn
      rw [hc] at this
      rw [hc, e]
      simp only [hf] at this
      simp [hf, zrow, this]
    · have hc : m.can = false := by simpa using hc
      by_cases hr : m.round = 1000000
      · have e : propOf m f t = ((zrow, (8, -4)), []) := by
          unfold propOf
          have : runFault m = (8, -4) := by unfold runFault; rw [if_neg (by simp [hf]), if_pos (.inr hr)]
          rw [this, if_pos (by decide)]
        have := p9a m f t 8 (-4) (by decide) hn
        rw [hc, hr] at this
        rw [hc, e, hr]
        simp only [hf] at this
        simp [hf, zrow, this]
      · have e0 : runFault m = (0, 0) := by unfold runFault; rw [if_neg (by simp [hf]), if_neg (by simp [hc, hr])]
        have hr' : (m.round == 1000000) = false := by simpa using hr
        cases hp : possB f t with
        | false =>
          have e : propOf m f t = ((zrow, (3, -5)), []) := by
            unfold propOf
            rw [e0, if_neg (by simp), if_pos hp]
          have := p9b m f t (mtgFault m).2 hp hn
          rw [hc] at this
          rw [hc, e]
          simp only [hf] at this
          simp [hf, hr', zrow, this]
        | true =>
          have e : propOf m f t = (((m.org, m.guests.length, m.round + 1, f, t, m.can), (0, 0)), m.guests.map clr) := by
            unfold propOf
            rw [e0, if_neg (by simp), if_neg (by simp [hp])]
          have := p9c m f t 0 (mtgFault m).2 hp hf hc
          rw [hc] at this
          rw [e, hc]
          simp only [hf] at this
          simp [hf, hr', this]
  · have e : propOf m f t = ((zrow, mtgFault m), []) := by
      unfold propOf
      have : runFault m = mtgFault m := by unfold runFault; rw [if_pos hf]
      rw [this, if_pos hf]
    have := p9a m f t _ (mtgFault m).2 hf hn
    rw [e]
    simp [hf, zrow, this])
end Go.Proofs.Ytgmjhnijnpfkgaa
