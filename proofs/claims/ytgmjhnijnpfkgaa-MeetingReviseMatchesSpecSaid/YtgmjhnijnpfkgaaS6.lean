/- All guests must accept: the law in plain words. -/
import Derived.Test.YtgmjhnijnpfkgaaS5
namespace Go.Proofs.Ytgmjhnijnpfkgaa
open Go.RowKit

theorem gidx_neg {p : G → Bool} : ∀ {l : List G} {k : Nat}, (∀ g ∈ l, p g = false) → gidx p k l = -1
  | [], _, _ => rfl
  | g :: l, k, h => by rw [gidx, if_neg (by simp [h g]), gidx_neg (fun x hx => h x (by simp [hx]))]
theorem gidx_nonneg {p : G → Bool} : ∀ {l : List G} {k : Nat} {g : G}, g ∈ l → p g = true → 0 ≤ gidx p k l
  | [], _, _, h, _ => by simp at h
  | x :: l, k, g, h, hp => by
    rw [gidx]
    split
    · omega
    · rename_i hx
      rcases List.mem_cons.1 h with e | h
      · subst e; exact absurd hp hx
      · exact gidx_nonneg h hp
theorem gidx_first {p : G → Bool} : ∀ {l : List G} {k j : Nat} (h : j < l.length), p l[j] = true → (∀ i (hi : i < l.length), i < j → p l[i] = false) → gidx p k l = ((k + j : Nat) : Int)
  | [], _, _, h, _, _ => by simp at h
  | g :: l, k, j, h, hp, hb => by
    rw [gidx]
    cases j with
    | zero => rw [if_pos (show p g = true from hp)]; simp
    | succ j =>
      have h0 : p g = false := hb 0 (by simp) (by omega)
      rw [if_neg (by simp [h0]), gidx_first (k := k + 1) (j := j) (Nat.lt_of_succ_lt_succ h) (show p (l[j]'(Nat.lt_of_succ_lt_succ h)) = true from hp) (fun i hi hij => hb (i + 1) (Nat.succ_lt_succ hi) (by omega))]
      congr 1; omega
theorem gidx_addr {a : List UInt8} : ∀ {l l' : List G} {k : Nat}, l.map (fun g => g.Address) = l'.map (fun g => g.Address) → gidx (fun g => g.Address.toList == a) k l = gidx (fun g => g.Address.toList == a) k l'
  | [], [], _, _ => rfl
  | [], _ :: _, _, h => by simp at h
  | _ :: _, [], _, h => by simp at h
  | g :: l, g' :: l', k, h => by
    simp only [List.map_cons, List.cons.injEq] at h
    rw [gidx, gidx, h.1, gidx_addr h.2]
/-- when a meeting is valid -/
theorem gf_ok {org : ByteArray} {round : Int} {all : List G} : ∀ {l : List G} {k : Nat}, (∀ i (h : i < l.length), guestBad org round (all.take (k + i)) l[i] = 0) → gfFrom org round all k l = (0, 0)
  | [], _, _ => rfl
  | g :: l, k, h => by
    rw [gfFrom, if_pos (show guestBad org round (all.take k) g = 0 from h 0 (Nat.zero_lt_succ _))]
    exact gf_ok fun i hi => by
      have := h (i + 1) (Nat.succ_lt_succ hi)
      rw [show k + (i + 1) = k + 1 + i by omega] at this
      exact this
theorem gf_each {org : ByteArray} {round : Int} {all : List G} : ∀ {l : List G} {k : Nat}, (gfFrom org round all k l).1 = 0 → ∀ i (h : i < l.length), guestBad org round (all.take (k + i)) l[i] = 0
  | [], _, _, i, hi => by simp at hi
  | g :: l, k, h, i, hi => by
    rw [gfFrom] at h
    split at h
    · rename_i h0
      cases i with
      | zero => exact h0
      | succ i =>
        have := gf_each h i (Nat.lt_of_succ_lt_succ hi)
        rw [show k + (i + 1) = k + 1 + i by omega]
        exact this
    · rename_i h0; exact absurd h h0
theorem fault_each {m : Mtg} (h : (mtgFault m).1 = 0) : namedB m.org = true ∧ ∀ i (hi : i < m.guests.length), guestBad m.org m.round (m.guests.take i) m.guests[i] = 0 := by
  unfold mtgFault at h
  split at h
  · cases h
  · rename_i hnm
    split at h
    · cases h
    · split at h
      · cases h
      · split at h
        · cases h
        · refine ⟨by simpa using hnm, fun i hi => ?_⟩
          have := gf_each h i hi
          simpa using this
/-- answers of some guests -/
def AL (S : Nat → Bool) : Nat → List G → List G
  | _, [] => []
  | k, g :: l => ⟨g.Address, if S k then 1 else 0, 0, 0⟩ :: AL S (k + 1) l
theorem AL_len (S : Nat → Bool) : ∀ (l : List G) (k : Nat), (AL S k l).length = l.length
  | [], _ => rfl
  | g :: l, k => by simp [AL, AL_len S l]
theorem AL_addr (S : Nat → Bool) : ∀ (l : List G) (k : Nat), (AL S k l).map (fun g => g.Address) = l.map (fun g => g.Address)
  | [], _ => rfl
  | g :: l, k => by simp [AL, AL_addr S l]
theorem AL_get (S : Nat → Bool) : ∀ (l : List G) (k i : Nat), (AL S k l)[i]? = (l[i]?).map fun g => ⟨g.Address, if S (k + i) then 1 else 0, 0, 0⟩
  | [], _, _ => by simp [AL]
  | g :: l, k, i => by
    cases i with
    | zero => simp [AL]
    | succ i => simp only [AL, List.getElem?_cons_succ, AL_get S l (k + 1) i]; rw [show k + 1 + i = k + (i + 1) by omega]
theorem AL_at (S : Nat → Bool) (l : List G) (i : Nat) (h : i < l.length) (h' : i < (AL S 0 l).length) : (AL S 0 l)[i] = ⟨l[i].Address, if S i then 1 else 0, 0, 0⟩ := by
  have := AL_get S l 0 i
  rw [List.getElem?_eq_getElem h', List.getElem?_eq_getElem h] at this
  simpa using this
theorem AL_clr (l : List G) : l.map clr = AL (fun _ => false) 0 l := by
  have : ∀ (l : List G) (k : Nat), l.map clr = AL (fun _ => false) k l := by
    intro l
    induction l with
    | nil => intro k; rfl
    | cons g l ih => intro k; simp only [List.map_cons, AL, ← ih (k + 1)]; rfl
  exact this l 0
theorem AL_set (S : Nat → Bool) (l : List G) (j : Nat) (h : j < l.length) : (AL S 0 l).set j ⟨l[j].Address, 1, 0, 0⟩ = AL (fun i => S i || i == j) 0 l := by
  apply List.ext_getElem?
  intro i
  rw [AL_get, List.getElem?_set, AL_get]
  simp only [AL_len, Nat.zero_add]
  by_cases e : j = i
  · subst e
    simp [h]
  · have e' : (i == j) = false := by simpa using fun h => e h.symm
    simp [e, e']
theorem AL_valid (S : Nat → Bool) (m : Mtg) (f t : Int) (hf : (mtgFault m).1 = 0) (hr : m.round ≠ 1000000) (hp : possB f t = true) : (mtgFault ⟨m.org, AL S 0 m.guests, m.round + 1, f, t, false⟩) = (0, 0) := by
  obtain ⟨h1, h2, h3, h4⟩ := fault_ok hf
  obtain ⟨hn, he⟩ := fault_each hf
  unfold mtgFault
  simp only [AL_len]
  rw [if_neg (by simp [hn]), if_neg (by omega), if_neg (by omega), if_neg (by simp [hp]; omega)]
  refine gf_ok fun i hi => ?_
  rw [AL_len] at hi
  have h0 := he i hi
  rw [AL_at S m.guests i hi, Nat.zero_add]
  have hg : gidx (fun x => x.Address.toList == m.guests[i].Address.toList) 0 ((AL S 0 m.guests).take i) = gidx (fun x => x.Address.toList == m.guests[i].Address.toList) 0 (m.guests.take i) := gidx_addr (by rw [List.map_take, List.map_take, AL_addr])
  unfold guestBad at h0 ⊢
  simp only [hg]
  split at h0
  · cases h0
  · rename_i hnm
    rw [if_neg hnm]
    split at h0
    · cases h0
    · split at h0
      · cases h0
      · split at h0
        · cases h0
        · rename_i hd
          have hS : (if S i = true then (1 : Int) else 0) = 1 ∨ (if S i = true then (1 : Int) else 0) = 0 := by cases S i <;> simp
          rw [if_neg (by omega), if_neg (by
            rintro (⟨hz, _⟩ | ⟨hz, _⟩ | ⟨_, hz⟩)
            · omega
            · omega
            · simp at hz), if_neg hd]
/-- a guest is found at his place -/
theorem find_at {m : Mtg} (hf : (mtgFault m).1 = 0) {j : Nat} (hj : j < m.guests.length) : gidx (fun g => g.Address.toList == m.guests[j].Address.toList) 0 m.guests = j := by
  obtain ⟨_, he⟩ := fault_each hf
  have h0 := he j hj
  have hd : ¬ (0 ≤ gidx (fun x => x.Address.toList == m.guests[j].Address.toList) 0 (m.guests.take j)) := by
    intro hc
    unfold guestBad at h0
    split at h0
    · cases h0
    · split at h0
      · cases h0
      · split at h0
        · cases h0
        · rw [if_pos (by simp [hc])] at h0
          cases h0
  rw [gidx_first (j := j) hj (by simp) ?_]
  · simp
  · intro i hi hij
    cases hb : (m.guests[i].Address.toList == m.guests[j].Address.toList) with
    | false => rfl
    | true =>
      refine absurd (gidx_nonneg (g := m.guests[i]) ?_ hb) hd
      rw [List.mem_take_iff_getElem]
      exact ⟨i, by omega, rfl⟩

theorem mod_two {a n : Nat} (h : a < 2 * n) : a % n = if a < n then a else a - n := by
  split
  · rename_i h1; exact Nat.mod_eq_of_lt h1
  · rename_i h1
    rw [Nat.mod_eq_sub_mod (by omega), Nat.mod_eq_of_lt (by omega)]
/-- who has accepted after i rounds -/
def SS (fr n : Nat) : Nat → Nat → Bool
  | 0, _ => false
  | i + 1, j => SS fr n i j || j == (fr + i) % n
theorem SS_iff (fr n : Nat) : ∀ (i j : Nat), SS fr n i j = true ↔ ∃ s, s < i ∧ j = (fr + s) % n
  | 0, j => by simp [SS]
  | i + 1, j => by
    simp only [SS, Bool.or_eq_true, SS_iff fr n i j, beq_iff_eq]
    constructor
    · rintro (⟨s, h, e⟩ | e)
      · exact ⟨s, by omega, e⟩
      · exact ⟨i, by omega, e⟩
    · rintro ⟨s, h, e⟩
      by_cases hs : s = i
      · subst hs; exact .inr e
      · exact .inl ⟨s, by omega, e⟩
theorem SS_new {fr n i : Nat} (hfr : fr < n) (hi : i < n) : SS fr n i ((fr + i) % n) = false := by
  cases h : SS fr n i ((fr + i) % n) with
  | false => rfl
  | true =>
    obtain ⟨s, hs, e⟩ := (SS_iff fr n i _).1 h
    rw [mod_two (by omega), mod_two (by omega)] at e
    split at e <;> split at e <;> omega
theorem SS_all {fr n j : Nat} (hfr : fr < n) (hj : j < n) : SS fr n n j = true := by
  rw [SS_iff]
  by_cases h : fr ≤ j
  · exact ⟨j - fr, by omega, by rw [mod_two (by omega), if_pos (by omega)]; omega⟩
  · exact ⟨j + n - fr, by omega, by rw [mod_two (by omega), if_neg (by omega)]; omega⟩

theorem needs_loop (m : Mtg) (f t x y : Int) (fr : Nat) (hfr : fr < m.guests.length) (hf : (mtgFault m).1 = 0) (hr : m.round ≠ 1000000) (hp : possB f t = true) : ∀ (q i : Nat), i + q = m.guests.length →
    posthouselaw6_MeetingNeedsAll_l7 fr i m.org m.guests m.round m.pf m.pt m.can x y m.org m.guests.length (m.round + 1) f t false (AL (SS fr m.guests.length i) 0 m.guests) =
      some (.inr (((fr : Int), (), (), (), (m.guests.length : Int), false), ((m.org, m.guests, m.round, m.pf, m.pt, m.can), (x, y), (m.org, m.guests.length, m.round + 1, f, t, false), AL (SS fr m.guests.length m.guests.length) 0 m.guests))) := by
  obtain ⟨g1, g2, g3, g4⟩ := fault_ok hf
  intro q
  induction q with
  | zero =>
    intro i hi
    have : i = m.guests.length := by omega
    subst this
    refine posthouselaw6_MeetingNeedsAll_l7_eq ?_
    simp only [posthouselaw6_MeetingNeedsAll_l7_t, brE_if, gdE_if, EC.decL_encL, EC.isL_encL, EC.encL_length, isE_48, at_48_0]
    simp
  | succ q ih =>
    intro i hi
    have hlt : i < m.guests.length := by omega
    have hlt' : (i : Int) < (m.guests.length : Int) := by omega
    have hj : (fr + i) % m.guests.length < m.guests.length := Nat.mod_lt _ (by omega)
    have hw : IntKind.i64.wrap ((fr : Int) + (i : Int)) = ((fr + i : Nat) : Int) := by rw [IntWalk.i64_in _ (by omega)]; rfl
    have hmod : Int.tmod ((fr + i : Nat) : Int) (m.guests.length : Int) = (((fr + i) % m.guests.length : Nat) : Int) := rfl
    have hv := AL_valid (SS fr m.guests.length i) m f t hf hr hp
    have hal : (AL (SS fr m.guests.length i) 0 m.guests).length = m.guests.length := AL_len ..
    have hgx : gidx (fun g => g.Address.toList == m.guests[(fr + i) % m.guests.length].Address.toList) 0 (AL (SS fr m.guests.length i) 0 m.guests) = (((fr + i) % m.guests.length : Nat) : Int) := by
      rw [gidx_addr (AL_addr _ _ _)]
      exact find_at hf hj
    have hac := accept_s ⟨m.org, AL (SS fr m.guests.length i) 0 m.guests, m.round + 1, f, t, false⟩ m.guests[(fr + i) % m.guests.length].Address x y ((fr + i) % m.guests.length) (by rw [hv]) rfl (by simp only; omega) hgx (by simpa [hal] using hj)
    simp only [AL_at _ m.guests _ hj, AL_set _ _ _ hj, hal] at hac
    have hag : agRes ⟨m.org, AL (SS fr m.guests.length i) 0 m.guests, m.round + 1, f, t, false⟩ = (false, (0, 0)) := by
      unfold agRes
      rw [hv]
      have : 0 ≤ gidx (fun g => g.Answer != 1) 0 (AL (SS fr m.guests.length i) 0 m.guests) := by
        refine gidx_nonneg (g := (AL (SS fr m.guests.length i) 0 m.guests)[(fr + i) % m.guests.length]'(by rw [hal]; exact hj)) (List.getElem_mem _) ?_
        rw [AL_at _ _ _ hj, SS_new hfr hlt]
        simp
      simp [this]
    have hne : ((m.guests.length : Int) == 0) = false := beq_eq_false_iff_ne.2 (by omega)
    have hih := ih (i + 1) (by omega)
    have hS : (fun a => SS fr m.guests.length i a || a == (fr + i) % m.guests.length) = SS fr m.guests.length (i + 1) := rfl
    rw [hS] at hac
    refine posthouselaw6_MeetingNeedsAll_l7_eq ?_
    simp only [posthouselaw6_MeetingNeedsAll_l7_t, brE_if, gdE_if, EC.decL_encL, EC.isL_encL, EC.encL_length, isE_48, at_48_0, hlt', hw, hmod, hne, Int.toNat_natCast, getD_in hj, Agreed' _ _ _ _ _ _ (by omega : (AL (SS fr m.guests.length i) 0 m.guests).length ≤ 9223372036854775807), hag, hac, Option.bind_some, beq_f, bne_self_eq_false, Bool.not_false, Bool.false_eq_true, if_false, if_true, decide_true, wrap_nat hlt (by omega : m.guests.length ≤ 9223372036854775807), hih, hj, Int.natCast_nonneg, Bool.and_self]

theorem law_needs (m : Mtg) (f t x y fr : Int) (hn : m.guests.length ≤ 9223372036854775807) : posthouselaw6_MeetingNeedsAll_s m.org m.guests m.round m.pf m.pt m.can f t x y fr = some true := posthouselaw6_MeetingNeedsAll_eq (by
  have hw : IntKind.i64.wrap ((m.guests.length : Int) - 1) = (m.guests.length : Int) - 1 := IntWalk.i64_in _ (by omega)
  simp only [posthouselaw6_MeetingNeedsAll_t, brE_if, gdE_if, EC.decL_encL, EC.isL_encL, EC.encL_length, if_true, Propose_s m f t hn, in_s, agreed_s, hw, Option.bind_some, beq_f]
  by_cases h0 : (runFault m).1 = 0
  · obtain ⟨hf, hc, hr⟩ := run_ok h0
    obtain ⟨g1, g2, g3, g4⟩ := fault_ok hf
    cases hp : possB f t with
    | false =>
      have e : propOf m f t = ((zrow, (3, -5)), []) := by unfold propOf; rw [if_neg (by simp [h0]), if_pos hp]
      simp [e]
    | true =>
      have e : propOf m f t = (((m.org, m.guests.length, m.round + 1, f, t, m.can), (0, 0)), m.guests.map clr) := by unfold propOf; rw [if_neg (by simp [h0]), if_neg (by simp [hp])]
      rw [e]
      by_cases hin : 0 ≤ fr ∧ fr ≤ (m.guests.length : Int) - 1
      · obtain ⟨k, rfl⟩ : ∃ k : Nat, fr = (k : Int) := ⟨fr.toNat, by omega⟩
        have hk : k < m.guests.length := by omega
        have hl := needs_loop m f t x y k hk hf hr hp m.guests.length 0 (by omega)
        have hv := AL_valid (SS k m.guests.length m.guests.length) m f t hf hr hp
        have hal : (AL (SS k m.guests.length m.guests.length) 0 m.guests).length = m.guests.length := AL_len ..
        have hag : agRes ⟨m.org, AL (SS k m.guests.length m.guests.length) 0 m.guests, m.round + 1, f, t, false⟩ = (true, (0, 0)) := by
          unfold agRes
          rw [hv]
          have : gidx (fun g => g.Answer != 1) 0 (AL (SS k m.guests.length m.guests.length) 0 m.guests) = -1 := by
            refine gidx_neg fun g hg => ?_
            obtain ⟨i, hi, rfl⟩ := List.getElem_of_mem hg
            rw [hal] at hi
            rw [AL_at _ _ _ hi, SS_all hk hi]
            rfl
          have hr1 : 0 < m.round + 1 := by omega
          simp [this, hr1]
        have hSZ : (fun _ => false : Nat → Bool) = SS k m.guests.length 0 := rfl
        simp only [Int.natCast_zero, hc] at hl
        simp only [AL_clr, hSZ, hc, bne_self_eq_false, Bool.not_false, if_true, hin.1, hin.2, decide_true, Bool.and_self, Bool.not_true, Bool.false_eq_true, if_false, hl, Option.bind_some, Sum.elim_inr, Agreed' _ _ _ _ _ _ (by omega : (AL (SS k m.guests.length m.guests.length) 0 m.guests).length ≤ 9223372036854775807), hag, Propose' _ _ _ _ _ _ _ _ (by omega : (AL (SS k m.guests.length m.guests.length) 0 m.guests).length ≤ 9223372036854775807)]
        by_cases h2 : (runFault ⟨m.org, AL (SS k m.guests.length m.guests.length) 0 m.guests, m.round + 1, f, t, false⟩).1 = 0
        · cases hq : possB x y with
          | false =>
            have e2 : propOf ⟨m.org, AL (SS k m.guests.length m.guests.length) 0 m.guests, m.round + 1, f, t, false⟩ x y = ((zrow, (3, -5)), []) := by unfold propOf; rw [if_neg (by simp [h2]), if_pos hq]
            simp [e2]
          | true =>
            have e2 : propOf ⟨m.org, AL (SS k m.guests.length m.guests.length) 0 m.guests, m.round + 1, f, t, false⟩ x y = (((m.org, (AL (SS k m.guests.length m.guests.length) 0 m.guests).length, m.round + 1 + 1, x, y, false), (0, 0)), (AL (SS k m.guests.length m.guests.length) 0 m.guests).map clr) := by unfold propOf; rw [if_neg (by simp [h2]), if_neg (by simp [hq])]
            obtain ⟨j1, j2, j3⟩ := run_ok h2
            have hv2 := AL_valid (fun _ => false) ⟨m.org, AL (SS k m.guests.length m.guests.length) 0 m.guests, m.round + 1, f, t, false⟩ x y j1 j3 hq
            have hl2 : (AL (fun _ => false) 0 (AL (SS k m.guests.length m.guests.length) 0 m.guests)).length = m.guests.length := by rw [AL_len, hal]
            have hag2 : agRes ⟨m.org, AL (fun _ => false) 0 (AL (SS k m.guests.length m.guests.length) 0 m.guests), m.round + 1 + 1, x, y, false⟩ = (false, (0, 0)) := by
              unfold agRes
              simp only at hv2
              rw [hv2]
              have : 0 ≤ gidx (fun g => g.Answer != 1) 0 (AL (fun _ => false) 0 (AL (SS k m.guests.length m.guests.length) 0 m.guests)) := by
                refine gidx_nonneg (g := (AL (fun _ => false) 0 (AL (SS k m.guests.length m.guests.length) 0 m.guests))[0]'(by omega)) (List.getElem_mem _) ?_
                rw [AL_at _ _ _ (by omega)]
                rfl
              simp [this]
            rw [e2]
            simp only [AL_clr, Agreed' _ _ _ _ _ _ (by omega : (AL (fun _ => false) 0 (AL (SS k m.guests.length m.guests.length) 0 m.guests)).length ≤ 9223372036854775807), hag2]
            simp
        · have e3 : runFault ⟨m.org, AL (SS k m.guests.length m.guests.length) 0 m.guests, m.round + 1, f, t, false⟩ = (8, -4) := by
            unfold runFault at h2 ⊢
            rw [hv] at h2 ⊢
            simp only [ne_eq, not_true_eq_false, if_false] at h2 ⊢
            split
            · rfl
            · rename_i h3; rw [if_neg h3] at h2; exact absurd rfl h2
          have e2 : propOf ⟨m.org, AL (SS k m.guests.length m.guests.length) 0 m.guests, m.round + 1, f, t, false⟩ x y = ((zrow, (8, -4)), []) := by unfold propOf; rw [e3, if_pos (by decide)]
          simp [e2]
      · have : (decide (0 ≤ fr) && decide (fr ≤ (m.guests.length : Int) - 1)) = false := by
          rw [Bool.and_eq_false_iff, decide_eq_false_iff_not, decide_eq_false_iff_not]
          omega
        simp [this]
  · have e : propOf m f t = ((zrow, runFault m), []) := by unfold propOf; rw [if_pos h0]
    simp [e, h0])
end Go.Proofs.Ytgmjhnijnpfkgaa
