/- The laws of freebusy hold: plain words. -/
import Derived.Test.YtbbaldhmeifloaaV3
namespace Go.Proofs.Ytbbaldhmeifloaa
open Go.RowKit

theorem busy_in {l : List Pd} (hb : Bnd l) {x : Int} (h : Inn l x) : -68719476736 ≤ x ∧ x < 68719476736 := by
  obtain ⟨p, hp, h1, h2⟩ := h
  have := hb p hp
  omega
theorem within_union {l : List Pd} (hb : Bnd l) : withinU l (-68719476736) 68719476736 true = unionU l := by
  obtain ⟨h1, h2⟩ := withinU_spec (l := l) (f := -68719476736) (t := 68719476736) (by omega) true
  obtain ⟨u1, u2⟩ := unionU_spec l
  refine NF_ext h1 u1 fun x => ?_
  rw [h2, u2]
  constructor
  · rintro ⟨_, _, h⟩; exact h.2 rfl
  · intro h
    have := busy_in hb h
    exact ⟨this.1, this.2, fun _ => rfl, fun _ => h⟩
theorem within_gaps {l : List Pd} {f t : Int} (hft : f ≤ t) : withinU l f t false = gp t 1 f (unionU l) := by
  obtain ⟨h1, h2⟩ := withinU_spec (l := l) hft false
  obtain ⟨u1, u2⟩ := unionU_spec l
  obtain ⟨g1, g2⟩ := gp_ok (til := t) (unionU l) f u1
  refine NF_ext h1 g1 fun x => ?_
  rw [h2, g2, u2]
  constructor
  · rintro ⟨a, b, c⟩; exact ⟨a, b, fun h => by have := c.1 h; cases this⟩
  · rintro ⟨a, b, c⟩; exact ⟨a, b, fun h => absurd h c, fun h => by cases h⟩
theorem within_bnd {l : List Pd} {f t : Int} (hf : -68719476736 ≤ f) (hft : f ≤ t) (ht : t ≤ 68719476736) (busy : Bool) : ∀ p ∈ withinU l f t busy, -68719476736 ≤ p.From ∧ p.From ≤ 68719476736 ∧ -68719476736 ≤ p.To ∧ p.To ≤ 68719476736 := by
  intro p hp
  obtain ⟨h1, h2⟩ := withinU_spec (l := l) hft busy
  have hpt := NF_mem h1 hp
  have a := (h2 p.From).1 ⟨p, hp, by omega⟩
  have b := (h2 (p.To - 1)).1 ⟨p, hp, by omega⟩
  omega
theorem within_len {l : List Pd} {f t : Int} (hft : f ≤ t) (busy : Bool) (hs : t - f ≤ 200000000000) : (withinU l f t busy).length ≤ 1000000000000 := by
  obtain ⟨r, e, _, _, hlen, _⟩ := bnds_spec (l := l) hft
  have key : ∀ (q : Nat) (b : List Int) (out : List Pd), b.length ≤ q → (wiU (fun a => busyB l a == busy) out b).length ≤ out.length + b.length := by
    intro q
    induction q with
    | zero => intro b out hb; rw [wiU_none _ _ _ (by omega)]; omega
    | succ q ih =>
      intro b out hb
      match b, hb with
      | [], _ => rw [wiU_none _ _ _ (by simp)]; omega
      | [a], _ => rw [wiU_none _ _ _ (by simp)]; omega
      | a :: c :: r, hb =>
        have h1 := ih (c :: r) (if (busyB l a == busy) = true then stepW out a c else out) (by simp at hb ⊢; omega)
        have h2 := stepW_length out a c
        simp only [wiU]
        simp only [List.length_cons] at h1 ⊢
        split at h1 <;> rename_i hx <;> simp only [hx, if_true, Bool.false_eq_true, if_false] <;> omega
  have := key _ (bnds l f t) [] (Nat.le_refl _)
  unfold withinU
  simp only [List.length_nil] at this
  omega
def freeR (l : List Pd) (f t n : Int) : (Nat × (Int × Int)) × List Pd :=
  if (perFault l).1 ≠ 0 then ((0, perFault l), []) else if (spanFault f t).1 ≠ 0 then ((0, spanFault f t), [])
  else if n < 1 ∨ 68719476736 < n then ((0, 3, -3), []) else (((gp t n f (unionU l)).length, 0, 0), gp t n f (unionU l))
theorem free_s (l : List Pd) (f t n : Int) (hn : l.length ≤ 9223372036854775807) : freebusy_Free_s l f t n = some (freeR l f t n) := freebusy_Free_eq (by
  simp only [freebusy_Free_t, brE_if, gdE_if, EC.decL_encL, EC.isL_encL, EC_nilD, check_s l hn, span_s, failed_s, fault_s, none_s, Option.bind_some, if_true, beq_f]
  unfold freeR
  by_cases h1 : (perFault l).1 = 0
  · obtain ⟨hb, hl, _⟩ := per_zero h1
    by_cases h2 : (spanFault f t).1 = 0
    · obtain ⟨a, b, c, _⟩ := span_zero h2
      by_cases h3 : n < 1
      · simp [h1, h2, h3]
      · by_cases h4 : 68719476736 < n
        · simp [h1, h2, h3, h4]
        · simp [h1, h2, h3, h4, gaps_s l f t n hb (by omega) (by omega) (by omega)]
    · simp [h1, h2]
  · simp [h1])
theorem sameL_self (a : List Pd) : sameL a a = true := by simp [sameL]
theorem united_s : posthouselaw6_united_s = some true := posthouselaw6_united_eq (by
  have e1 : ec_58.decL [[C.int .i64 5, C.int .i64 9], [C.int .i64 1, C.int .i64 5], [C.int .i64 20, C.int .i64 20]] = [⟨5, 9⟩, ⟨1, 5⟩, ⟨20, 20⟩] := rfl
  have e2 : ec_58.decL [[C.int .i64 1, C.int .i64 9]] = [⟨1, 9⟩] := rfl
  have e3 : ec_58.decL [[C.int .i64 9, C.int .i64 20]] = [⟨9, 20⟩] := rfl
  have u1 : unionU [⟨5, 9⟩, ⟨1, 5⟩, ⟨20, 20⟩] = [⟨1, 9⟩] := unionU_eq ⟨by decide, by simp, trivial⟩ fun x => by simp [Inn]; omega
  have u2 : unionU [⟨1, 9⟩] = [⟨1, 9⟩] := unionU_eq ⟨by decide, by simp, trivial⟩ fun x => Iff.rfl
  have p1 : perFault [⟨5, 9⟩, ⟨1, 5⟩, ⟨20, 20⟩] = (0, 0) := by decide
  have p2 : perFault [⟨1, 9⟩] = (0, 0) := by decide
  have f1 : freeR [⟨1, 9⟩] 0 20 5 = ((1, 0, 0), [⟨9, 20⟩]) := by
    unfold freeR
    rw [p2, u2]
    have : spanFault 0 20 = (0, 0) := by decide
    rw [this]
    have : gp 20 5 0 [⟨1, 9⟩] = [⟨9, 20⟩] := by decide
    simp [this]
  simp only [posthouselaw6_united_t, brE_if, gdE_if, EC.decL_encL, EC.isL_encL, e1, e2, e3, merge_s _ (show [(⟨5, 9⟩ : Pd), ⟨1, 5⟩, ⟨20, 20⟩].length ≤ 9223372036854775807 by decide), p1, u1, Option.bind_some, if_true, free_s _ _ _ _ (show [(⟨1, 9⟩ : Pd)].length ≤ 9223372036854775807 by decide), f1, same_s _ _ (show [(⟨1, 9⟩ : Pd)].length ≤ 9223372036854775807 by decide), same_s _ _ (show [(⟨9, 20⟩ : Pd)].length ≤ 9223372036854775807 by decide), sameL_self]
  simp)
theorem law_merge (l : List Pd) (hn : l.length ≤ 9223372036854775807) : posthouselaw6_FreebusyMergeMatchesSpec_s l = some true := posthouselaw6_FreebusyMergeMatchesSpec_eq (by
  simp only [posthouselaw6_FreebusyMergeMatchesSpec_t, brE_if, gdE_if, EC.decL_encL, EC.isL_encL, EC.encL_length, merge_s l hn, pfault_s l hn, united_s, Option.bind_some, if_true, beq_t]
  by_cases h1 : (perFault l).1 = 0
  · obtain ⟨hb, hl, h0⟩ := per_zero h1
    have hu := unionU_length l
    by_cases h2 : 40 < l.length
    · have : (40 : Int) < l.length := by omega
      simp [h0, this]
    · have : ¬ (40 : Int) < l.length := by omega
      simp only [within_s l _ _ true (by omega) (Int.le_refl _) (by omega) (Int.le_refl _), within_union hb, Option.bind_some]
      simp [h0, this, same_s (unionU l) _ (by omega), sameL_self]
  · simp [h1])
theorem law_free (l : List Pd) (f t n : Int) (hn : l.length ≤ 9223372036854775807) : posthouselaw6_FreebusyFreeMatchesSpec_s l f t n = some true := posthouselaw6_FreebusyFreeMatchesSpec_eq (by
  simp only [posthouselaw6_FreebusyFreeMatchesSpec_t, brE_if, gdE_if, EC.decL_encL, EC.isL_encL, EC.encL_length, free_s l f t n hn, pfault_s l hn, sfault_s, in_s, at_s, united_s, Option.bind_some, if_true, beq_t]
  unfold freeR
  by_cases h1 : (perFault l).1 = 0
  · obtain ⟨hb, hl, h0⟩ := per_zero h1
    by_cases h2 : (spanFault f t).1 = 0
    · obtain ⟨a, b, c, h3⟩ := span_zero h2
      by_cases h4 : n < 1 ∨ 68719476736 < n
      · have : inB n 1 68719476736 = false := by simp [inB]; omega
        simp [h0, h3, h4, this]
      · have : inB n 1 68719476736 = true := by simp [inB]; omega
        by_cases h5 : 40 < l.length
        · have h6 : (40 : Int) < l.length := by omega
          simp [h0, h3, h4, this, h6]
        · have h6 : ¬ (40 : Int) < l.length := by omega
          have hw := within_len (l := l) b false (by omega)
          have hlong := long_s n (withinU l f t false) hw (within_bnd a b c false)
          have eg : ((withinU l f t false).filter fun q => decide (n ≤ q.To - q.From)) = gp t n f (unionU l) := by
            rw [within_gaps b]; exact (gp_len (by omega) _ _).symm
          rw [eg] at hlong
          have hgl : (gp t n f (unionU l)).length ≤ 9223372036854775807 := by
            rw [← eg]
            have := List.length_filter_le (fun q : Pd => decide (n ≤ q.To - q.From)) (withinU l f t false)
            omega
          simp [h0, h3, h4, this, h6, within_s l f t false (by omega) a b c, hlong, same_s _ (gp t n f (unionU l)) hgl, sameL_self]
    · simp [h0, h2]
  · simp [h1])
end Go.Proofs.Ytbbaldhmeifloaa
