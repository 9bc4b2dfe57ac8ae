/- What the pieces of freebusy.Union compute, in plain words. -/
import Derived.Test.YtbbaldhmeifloaaGFu
import Derived.Test.YtbbaldhmeifloaaK0
namespace Go.Proofs.Ytbbaldhmeifloaa
open Go.RowKit

abbrev Pd := S58
/-- a period with no instant -/
def badP (p : Pd) : Bool := decide (p.To ≤ p.From)
theorem ubad_sp (a b : Int) : ubad_s a b = some (decide (b ≤ a)) := ubad_eq (by simp [ubad_t, ge_iff_le])
theorem isP2_58 (xs : List Pd) (n : Nat) (h : n < xs.length) : isP [.int .i64, .int .i64] 0 ((ec_58.encL xs).getD n []) = true := by rw [EC.getD_lt _ _ h]; rfl
theorem isP1_58 (xs : List Pd) (n : Nat) (h : n < xs.length) : isP [.int .i64] 1 ((ec_58.encL xs).getD n []) = true := by rw [EC.getD_lt _ _ h]; rfl

theorem uidx_loop (l : List Pd) (hn : l.length ≤ 9223372036854775807) : ∀ (m k : Nat), k + m = l.length →
    (uidx_l2 l l.length k).bind (Sum.elim (fun x => some x.1) (fun _ => some (-1))) = some (gidx badP k (l.drop k)) := by
  intro m
  induction m with
  | zero =>
    intro k hk
    have : k = l.length := by omega
    subst this
    have h1 : uidx_l2 l l.length l.length = some (.inr ((l, (), (l.length : Int), (l.length : Int), false), ())) := uidx_l2_eq (by
      simp only [uidx_l2_t, brE_if, gdE_if, EC.decL_encL, EC.isL_encL, EC.encL_length, isE_58, at_58_0, at_58_1]
      simp)
    rw [h1]
    simp [gidx]
  | succ m ih =>
    intro k hk
    have hlt : k < l.length := by omega
    rw [drop_at hlt, gidx]
    have hk' : (k : Int) < (l.length : Int) := by omega
    by_cases hp : badP l[k] = true
    · have h1 : uidx_l2 l l.length k = some (.inl ((k : Int), ())) := uidx_l2_eq (by
        have hp' := hp
        unfold badP at hp'
        simp only [uidx_l2_t, brE_if, gdE_if, EC.decL_encL, EC.isL_encL, EC.encL_length, isE_58, at_58_0, at_58_1, Int.toNat_natCast, getD_in hlt, ubad_sp, Option.bind_some, hp']
        simp [hlt])
      rw [h1, if_pos hp]
      rfl
    · have h2 := ih (k + 1) (by omega)
      cases hz : uidx_l2 l l.length ((k + 1 : Nat) : Int) with
      | none => rw [hz] at h2; cases h2
      | some r =>
        have h1 : uidx_l2 l l.length k = some r := uidx_l2_eq (by
          have hp' := hp
          unfold badP at hp'
          simp only [uidx_l2_t, brE_if, gdE_if, EC.decL_encL, EC.isL_encL, EC.encL_length, isE_58, at_58_0, at_58_1, Int.toNat_natCast, getD_in hlt, ubad_sp, Option.bind_some, hp', wrap_nat hlt hn, hz]
          simp [hlt])
        rw [if_neg hp, h1]
        rw [hz] at h2
        exact h2
theorem uidx_sp (l : List Pd) (hn : l.length ≤ 9223372036854775807) : uidx_s l = some (gidx badP 0 l) := uidx_eq (by
  have := uidx_loop l hn l.length 0 (by omega)
  simp only [uidx_t, gdE_if, EC.decL_encL, EC.isL_encL, EC.encL_length, if_true]
  exact this)
theorem uclone_sp (l : List Pd) (hn : l.length ≤ 8796093022208) : uclone_s l = some (l.length, l) := by
  cases l with
  | nil => exact uclone_nil
  | cons x xs =>
    refine uclone_eq ?_
    simp only [uclone_t, gdE_if, EC.decL_encL, EC.isL_encL, EC.encL_length, all_58, List.nil_append, EC_empty, Nat.zero_add, List.all_nil]
    simp only [List.length_cons] at hn
    simp
    omega

theorem udel_loop (n : Nat) (hn : n ≤ 9223372036854775807) : ∀ (m i j : Nat) (b : List Pd), j + m = n → i ≤ j → b.length = n → (i < j ∨ m = 0) →
    ∃ b' : List Pd, udel_l5 n i j b = some ((n, (), ((i + ((b.drop j).filter fun p => !badP p).length : Nat) : Int), (n : Int), false), b') ∧ b'.length = n ∧ b'.take (i + ((b.drop j).filter fun p => !badP p).length) = b.take i ++ (b.drop j).filter fun p => !badP p := by
  intro m
  induction m with
  | zero =>
    intro i j b hk hi hl _
    have hj : j = n := by omega
    subst hj
    refine ⟨b, udel_l5_eq ?_, hl, ?_⟩
    · rw [← hl]
      simp only [udel_l5_t, brE_if, gdE_if, EC.decL_encL, EC.isL_encL, EC.encL_length, at_58_0, at_58_1, set_58_0_2]
      simp
    · rw [← hl]; simp
  | succ m ih =>
    intro i j b hk hi hl hij
    have hj : j < b.length := by omega
    have hi' : i < b.length := by omega
    rw [drop_at hj]
    cases hp : badP b[j] with
    | true =>
      have ef : (b[j] :: b.drop (j + 1)).filter (fun p => !badP p) = (b.drop (j + 1)).filter fun p => !badP p := by rw [List.filter_cons, hp]; rfl
      rw [ef]
      obtain ⟨b', h1, h2, h3⟩ := ih i (j + 1) b (by omega) (by omega) hl (by omega)
      refine ⟨b', udel_l5_eq ?_, h2, ?_⟩
      · have hp' := hp
        unfold badP at hp'
        simp only [udel_l5_t, brE_if, gdE_if, EC.decL_encL, EC.isL_encL, EC.encL_length, at_58_0, at_58_1, set_58_0_2, Int.toNat_natCast, getD_in hj, isP2_58 b j hj, len_58 b j hj, ubad_sp, Option.bind_some, hp', wrap_nat (show j < n by omega) hn, h1]
        have c2 : ((j : Nat) : Int) < (n : Int) := by omega
        simp [hj, c2]
      · exact h3
    | false =>
      have ef : (b[j] :: b.drop (j + 1)).filter (fun p => !badP p) = b[j] :: (b.drop (j + 1)).filter fun p => !badP p := by rw [List.filter_cons, hp]; rfl
      rw [ef]
      have hset : (b.set i b[j]).drop (j + 1) = b.drop (j + 1) := by
        apply List.ext_getElem?
        intro q
        rw [List.getElem?_drop, List.getElem?_drop, List.getElem?_set_ne (by omega)]
      obtain ⟨b', h1, h2, h3⟩ := ih (i + 1) (j + 1) (b.set i b[j]) (by omega) (by omega) (by simpa using hl) (by omega)
      rw [hset] at h1 h3
      have htake : (b.set i b[j]).take (i + 1) = b.take i ++ [b[j]] := by
        rw [take_at (by simpa using hi')]
        simp [List.take_set_of_le (Nat.le_refl i)]
      rw [htake] at h3
      have e : i + 1 + ((b.drop (j + 1)).filter fun p => !badP p).length = i + (b[j] :: (b.drop (j + 1)).filter fun p => !badP p).length := by
        rw [List.length_cons]; omega
      rw [e] at h1 h3
      refine ⟨b', udel_l5_eq ?_, h2, ?_⟩
      · have hp' := hp
        unfold badP at hp'
        have hb : ({ b[i] with From := b[j].From, To := b[j].To } : Pd) = b[j] := by cases b[j]; rfl
        have c1 : ((i : Nat) : Int) < (n : Int) := by omega
        have c2 : ((j : Nat) : Int) < (n : Int) := by omega
        simp only [udel_l5_t, brE_if, gdE_if, EC.decL_encL, EC.isL_encL, EC.encL_length, at_58_0, at_58_1, set_58_0_2, Int.toNat_natCast, getD_in hj, isP2_58 b j hj, len_58 b j hj, len_58 b i hi', ubad_sp, Option.bind_some, hp', wrap_nat (show j < n by omega) hn, wrap_nat (show i < n by omega) hn, hb, h1]
        simp [hj, hi', c1, c2]
      · rw [h3, List.append_assoc]; rfl
end Go.Proofs.Ytbbaldhmeifloaa
