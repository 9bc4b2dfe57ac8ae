/- Several texts of this proof in one file. -/
import Derived.Test.YtokahibbkdbndaaQB
import Derived.Test.YtokahibbkdbndaaGP5
/- Does a run keep the message: the program's answer, the reference's. -/
namespace Go.Proofs.Ytokahibbkdbndaa
open Go.RowKit

def kB (k : Int) : Bool := k == 1 || k == 2
def dB (k : Int) : Bool := k != 6 && k != 7
def keptB (ks : List Int) : Bool := ks.any kB || !ks.any dB
theorem kk_s (k n : Int) (t : ByteArray) : prove_Keeps_1_1_s k t n = some (kB k) := by
  refine prove_Keeps_1_1_eq ?_
  simp only [prove_Keeps_1_1_t, brE_if, kB]
  cases (k == 1) <;> rfl
theorem idx_loop (l : List S49) (hl : l.length ≤ big) : ∀ m k, k + m = l.length → ∃ x, idxKeep_l2 l l.length k = some x ∧ Sum.elim (fun r => decide (r.1 ≥ 0)) (fun _ => false) x = (l.drop k).any fun a => kB a.Kind := by
  intro m
  induction m with
  | zero =>
    intro k hk
    have hk : k = l.length := by omega
    subst hk
    refine ⟨.inr ((l, ((), ((l.length : Int), ((l.length : Int), false)))), ()), idxKeep_l2_eq (by
      simp only [idxKeep_l2_t, brE_if, gdE_if, EC.decL_encL, EC.isL_encL, EC.encL_length, isE_49, at_49_0, at_49_1, at_49_2]
      simp), ?_⟩
    rw [List.drop_length]; rfl
  | succ m ihm =>
    intro k hk
    have hlt : k < l.length := by omega
    have e1 : decide ((k : Int) < (l.length : Int)) = true := by simp; omega
    have e0 : decide ((0 : Int) ≤ (k : Int)) = true := by simp
    have e2 : IntKind.i64.wrap ((k : Int) + 1) = ((k + 1 : Nat) : Int) := wr_nat hlt (by unfold big at hl; omega)
    have hd2 : decide (k < l.length) = true := by simp [hlt]
    rw [drop_at hlt, List.any_cons]
    cases hs : kB l[k].Kind with
    | true =>
      refine ⟨.inl ((k : Int), ()), idxKeep_l2_eq ?_, by simp⟩
      simp only [idxKeep_l2_t, brE_if, gdE_if, EC.decL_encL, EC.isL_encL, EC.encL_length, isE_49, at_49_0, at_49_1, at_49_2, e1, e0, if_true, Int.toNat_natCast, hd2, Bool.and_self, getD_in hlt, kk_s, Option.bind_some, hs]
    | false =>
      obtain ⟨x, h1, h2⟩ := ihm (k + 1) (by omega)
      refine ⟨x, idxKeep_l2_eq ?_, by rw [Bool.false_or]; exact h2⟩
      simp only [idxKeep_l2_t, brE_if, gdE_if, EC.decL_encL, EC.isL_encL, EC.encL_length, isE_49, at_49_0, at_49_1, at_49_2, e1, e0, if_true, Int.toNat_natCast, hd2, Bool.and_self, getD_in hlt, kk_s, Option.bind_some, hs, Bool.false_eq_true, if_false, e2]
      exact h1
theorem hasKeep_ok (l : List S49) (hl : l.length ≤ big) : hasKeep_s l = some (l.any fun a => kB a.Kind) := by
  obtain ⟨x, h1, h2⟩ := idx_loop l hl l.length 0 (by omega)
  have h1 : idxKeep_l2 l l.length 0 = some x := h1
  rw [List.drop_zero] at h2
  have h3 : ∃ i, idxKeep_s l = some i ∧ decide (i ≥ 0) = l.any fun a => kB a.Kind := by
    rcases x with ⟨i, u⟩ | u
    · exact ⟨i, idxKeep_eq (by simp only [idxKeep_t, gdE_if, EC.decL_encL, EC.isL_encL, EC.encL_length, if_true, h1, Option.bind_some, Sum.elim_inl]), h2⟩
    · exact ⟨-1, idxKeep_eq (by simp only [idxKeep_t, gdE_if, EC.decL_encL, EC.isL_encL, EC.encL_length, if_true, h1, Option.bind_some, Sum.elim_inr]), by rw [← h2]; rfl⟩
  obtain ⟨i, h4, h5⟩ := h3
  refine hasKeep_eq ?_
  simp only [hasKeep_t, gdE_if, EC.decL_encL, EC.isL_encL, if_true, h4, Option.bind_some, h5]
theorem dec_loop (l : List S49) (hl : l.length ≤ big) : ∀ m k, k + m = l.length → ∃ x, evaluate_Decided_l2 l l.length k = some x ∧ Sum.elim (fun r => r.1) (fun _ => false) x = (l.drop k).any fun a => dB a.Kind := by
  intro m
  induction m with
  | zero =>
    intro k hk
    have hk : k = l.length := by omega
    subst hk
    refine ⟨.inr ((l, ((l.length : Int), ((l.length : Int), false))), ()), evaluate_Decided_l2_eq (by
      simp only [evaluate_Decided_l2_t, brE_if, gdE_if, EC.decL_encL, EC.isL_encL, EC.encL_length, isE_49, at_49_0]
      simp), ?_⟩
    rw [List.drop_length]; rfl
  | succ m ihm =>
    intro k hk
    have hlt : k < l.length := by omega
    have e1 : decide ((k : Int) < (l.length : Int)) = true := by simp; omega
    have e0 : decide ((0 : Int) ≤ (k : Int)) = true := by simp
    have e2 : IntKind.i64.wrap ((k : Int) + 1) = ((k + 1 : Nat) : Int) := wr_nat hlt (by unfold big at hl; omega)
    have hd2 : decide (k < l.length) = true := by simp [hlt]
    obtain ⟨x, h1, h2⟩ := ihm (k + 1) (by omega)
    rw [drop_at hlt, List.any_cons, dB]
    cases h6 : (l[k].Kind != 6) with
    | false =>
      refine ⟨x, evaluate_Decided_l2_eq ?_, by rw [Bool.false_and, Bool.false_or]; exact h2⟩
      simp only [evaluate_Decided_l2_t, brE_if, gdE_if, EC.decL_encL, EC.isL_encL, EC.encL_length, isE_49, at_49_0, e1, e0, if_true, Int.toNat_natCast, hd2, Bool.and_self, getD_in hlt, h6, Bool.false_eq_true, if_false, e2, show (false == true) = false from rfl]
      exact h1
    | true =>
    cases h7 : (l[k].Kind != 7) with
    | false =>
      refine ⟨x, evaluate_Decided_l2_eq ?_, by rw [Bool.true_and, Bool.false_or]; exact h2⟩
      simp only [evaluate_Decided_l2_t, brE_if, gdE_if, EC.decL_encL, EC.isL_encL, EC.encL_length, isE_49, at_49_0, e1, e0, if_true, Int.toNat_natCast, hd2, Bool.and_self, getD_in hlt, h6, h7, Bool.false_eq_true, if_false, e2, beq_self_eq_true]
      exact h1
    | true =>
      refine ⟨.inl (true, ()), evaluate_Decided_l2_eq ?_, rfl⟩
      simp only [evaluate_Decided_l2_t, brE_if, gdE_if, EC.decL_encL, EC.isL_encL, EC.encL_length, isE_49, at_49_0, e1, e0, if_true, Int.toNat_natCast, hd2, Bool.and_self, getD_in hlt, h6, h7, beq_self_eq_true]
theorem decided_ok (l : List S49) (hl : l.length ≤ big) : evaluate_Decided_s l = some (l.any fun a => dB a.Kind) := by
  obtain ⟨x, h1, h2⟩ := dec_loop l hl l.length 0 (by omega)
  have h1 : evaluate_Decided_l2 l l.length 0 = some x := h1
  rw [List.drop_zero] at h2
  refine evaluate_Decided_eq ?_
  simp only [evaluate_Decided_t, gdE_if, EC.decL_encL, EC.isL_encL, EC.encL_length, if_true, h1, Option.bind_some, ← h2]
  rcases x with x | x <;> rfl
theorem any_act (f : Int → Bool) (ks : List Int) : ((ks.map actOf).any fun a => f a.Kind) = ks.any f := by
  rw [List.any_map]; rfl
/-- the program: all runs kept so far -/
theorem h15_s (n : Nat) (ks : List Int) (hk : ks.length ≤ big) (b : Bool) : prove_Keeps_1_h15 n (ks.map actOf) b = some ((), ((), b && keptB ks)) := by
  have h1 := hasKeep_ok (ks.map actOf) (by simpa using hk)
  have h2 := decided_ok (ks.map actOf) (by simpa using hk)
  rw [any_act] at h1 h2
  refine prove_Keeps_1_h15_eq ?_
  unfold keptB
  simp only [prove_Keeps_1_h15_t, brE_if, gdE_if, EC.decL_encL, EC.isL_encL, if_true, h1, Option.bind_some]
  cases b with
  | false => rfl
  | true => cases ks.any kB with
    | true => rfl
    | false => simp only [beq_self_eq_true, if_true, h2, Option.bind_some]; rfl
theorem decides_s (k : Int) : posthouseref6_Decides_s k = some (dB k) := by
  refine posthouseref6_Decides_eq ?_
  simp only [posthouseref6_Decides_t, brE_if, dB]
  cases (k != 6) <;> rfl
theorem kept_loop (l : List Int) (hl : l.length ≤ big) : ∀ m k (d : Bool), k + m = l.length → ∃ x, posthouseref6_KeptBy_l3 l d k = some x ∧ Sum.elim (fun r => r.1) (fun r => !r.1.2.1) x = ((l.drop k).any kB || !(d || (l.drop k).any dB)) := by
  intro m
  induction m with
  | zero =>
    intro k d hk
    have hk : k = l.length := by omega
    subst hk
    refine ⟨.inr ((l, (d, ((l.length : Int), false))), ()), posthouseref6_KeptBy_l3_eq (by
      simp only [posthouseref6_KeptBy_l3_t, brE_if, gdE_if, EC.decL_encL, EC.isL_encL, EC.encL_length, isE_3, at_3_0]
      simp), ?_⟩
    rw [List.drop_length]; simp
  | succ m ihm =>
    intro k d hk
    have hlt : k < l.length := by omega
    have e1 : decide ((k : Int) < (l.length : Int)) = true := by simp; omega
    have e0 : decide ((0 : Int) ≤ (k : Int)) = true := by simp
    have e2 : IntKind.i64.wrap ((k : Int) + 1) = ((k + 1 : Nat) : Int) := wr_nat hlt (by unfold big at hl; omega)
    have hd2 : decide (k < l.length) = true := by simp [hlt]
    rw [drop_at hlt, List.any_cons, List.any_cons]
    cases h1 : (l[k] == 1) with
    | true =>
      refine ⟨.inl (true, ()), posthouseref6_KeptBy_l3_eq ?_, by simp [kB, h1]⟩
      simp only [posthouseref6_KeptBy_l3_t, brE_if, gdE_if, EC.decL_encL, EC.isL_encL, EC.encL_length, isE_3, at_3_0, e1, e0, if_true, Int.toNat_natCast, hd2, Bool.and_self, getD_in hlt, h1, Bool.false_eq_true, if_false, show (true == false) = false from rfl]
    | false =>
    cases h2 : (l[k] == 2) with
    | true =>
      refine ⟨.inl (true, ()), posthouseref6_KeptBy_l3_eq ?_, by simp [kB, h2]⟩
      simp only [posthouseref6_KeptBy_l3_t, brE_if, gdE_if, EC.decL_encL, EC.isL_encL, EC.encL_length, isE_3, at_3_0, e1, e0, if_true, Int.toNat_natCast, hd2, Bool.and_self, getD_in hlt, h1, h2, beq_self_eq_true]
    | false =>
      have hkB : kB l[k] = false := by simp only [kB, h1, h2]; rfl
      cases d with
      | true =>
        obtain ⟨x, x1, x2⟩ := ihm (k + 1) true (by omega)
        refine ⟨x, posthouseref6_KeptBy_l3_eq ?_, by rw [x2, hkB]; simp⟩
        simp only [posthouseref6_KeptBy_l3_t, brE_if, gdE_if, EC.decL_encL, EC.isL_encL, EC.encL_length, isE_3, at_3_0, e1, e0, if_true, Int.toNat_natCast, hd2, Bool.and_self, getD_in hlt, h1, h2, beq_self_eq_true, show (true == false) = false from rfl, Bool.false_eq_true, if_false, e2]
        exact x1
      | false =>
        obtain ⟨x, x1, x2⟩ := ihm (k + 1) (dB l[k]) (by omega)
        refine ⟨x, posthouseref6_KeptBy_l3_eq ?_, by rw [x2, hkB]; simp⟩
        simp only [posthouseref6_KeptBy_l3_t, brE_if, gdE_if, EC.decL_encL, EC.isL_encL, EC.encL_length, isE_3, at_3_0, e1, e0, if_true, Int.toNat_natCast, hd2, Bool.and_self, getD_in hlt, h1, h2, beq_self_eq_true, Bool.false_eq_true, if_false, decides_s, Option.bind_some, e2]
        exact x1
theorem keptBy_s (l : List Int) (hl : l.length ≤ big) : posthouseref6_KeptBy_s l = some (keptB l) := by
  obtain ⟨x, h1, h2⟩ := kept_loop l hl l.length 0 false (by omega)
  have h1 : posthouseref6_KeptBy_l3 l false 0 = some x := h1
  rw [List.drop_zero, Bool.false_or] at h2
  refine posthouseref6_KeptBy_eq ?_
  simp only [posthouseref6_KeptBy_t, gdE_if, EC.decL_encL, EC.isL_encL, if_true, h1, Option.bind_some, keptB, ← h2]
  rcases x with x | x <;> rfl
end Go.Proofs.Ytokahibbkdbndaa
/- prove.Reachable, prove.Keeps, the reference's ProveFault. -/
namespace Go.Proofs.Ytokahibbkdbndaa
open Go.RowKit

/-- a script of a size that the model holds -/
structure SOk (s : List S44) : Prop where
  len : s.length ≤ big
  ok : okL s
  few : tszL s ≤ many
/-- the fault of a script -/
def faultP (s : List S44) : Int × Int := if (scriptF s).1 ≠ 0 then scriptF s else if (tsL [] s).length > 10 then (17, -4) else (0, 0)
theorem proveFault_s {s : List S44} (h : SOk s) : posthouseref6_ProveFault_s s = some (faultP s) := by
  have h1 := rulesFault_s s h.len h.ok
  refine posthouseref6_ProveFault_eq ?_
  unfold faultP
  simp only [posthouseref6_ProveFault_t, brE_if, gdE_if, EC_nilD, EC.decL_encL, EC.isL_encL, EC.encL_length, if_true, h1, Option.bind_some, bne_iff_ne]
  by_cases hf : (scriptF s).1 = 0
  · obtain ⟨m, m1, m2, m3⟩ := script_ok hf
    have hv : okvL s := ⟨0, 1, m, by omega, m1⟩
    have h2 := (simpleTests_s _ s rfl h.len h.ok hv [] (fun x hx => by cases hx) (by have := h.few; simp; omega)).1
    rw [if_neg (by simp [hf]), if_neg (by simp [hf])]
    simp only [h2, Option.bind_some, decide_eq_true_eq]
    by_cases h10 : (tsL [] s).length > 10
    · rw [if_pos (by omega), if_pos h10, at_s]; rfl
    · rw [if_neg (by omega), if_neg h10]
  · rw [if_pos hf, if_pos hf]

/-- a script that can be tried -/
structure Tried (s : List S44) : Prop extends SOk s where
  val : okvL s
  sz : szL s ≤ 100
  ten : (tsL [] s).length ≤ 10
theorem tried {s : List S44} (h : SOk s) (h0 : (faultP s).1 = 0) : Tried s ∧ (scriptF s).1 = 0 := by
  unfold faultP at h0
  by_cases hf : (scriptF s).1 = 0
  · obtain ⟨m, m1, m2, m3⟩ := script_ok hf
    rw [if_neg (by simp [hf])] at h0
    by_cases h10 : (tsL [] s).length > 10
    · rw [if_pos h10] at h0; cases h0
    · exact ⟨⟨h, ⟨0, 1, m, by omega, m1⟩, m3, by omega⟩, hf⟩
  · rw [if_pos hf] at h0; exact absurd h0 hf

/-- the rounds over the outcomes -/
def loopM (c : List S42) (s : List S44) : Nat → Nat → List Bool → List Bool
  | 0, _, rs => rs
  | m + 1, o, rs => loopM c s m (o + 1) (mark rs (runL o c s 0).1)
def loopK (c : List S42) (s : List S44) : Nat → Nat → Bool → Bool
  | 0, _, b => b
  | m + 1, o, b => loopK c s m (o + 1) (b && keptB (runL o c s 0).2.1)
theorem loopM_len (c : List S42) (s : List S44) : ∀ m o rs, (loopM c s m o rs).length = rs.length
  | 0, o, rs => rfl
  | m + 1, o, rs => by rw [loopM, loopM_len c s m, mark_len]
theorem pow_c (n : Nat) (hn : n ≤ 10) : IntKind.i64.wrap (1 * ((2 : Int) ^ (Min.min (Int.toNat ((n : Nat) : Int)) (IntKind.bits IntKind.i64)))) = ((2 ^ n : Nat) : Int) := by
  have h : ∀ i : _root_.Fin 11, IntKind.i64.wrap (1 * ((2 : Int) ^ (Min.min (Int.toNat ((i.1 : Nat) : Int)) (IntKind.bits IntKind.i64)))) = ((2 ^ i.1 : Nat) : Int) := by decide
  exact h ⟨n, by omega⟩
theorem pow_r (n : Nat) (hn : n ≤ 10) : IntKind.i64.wrap (1 * ((2 : Int) ^ (Min.min (Int.toNat (IntKind.u64.wrap ((n : Nat) : Int))) (IntKind.bits IntKind.i64)))) = ((2 ^ n : Nat) : Int) := by
  have h : ∀ i : _root_.Fin 11, IntKind.i64.wrap (1 * ((2 : Int) ^ (Min.min (Int.toNat (IntKind.u64.wrap ((i.1 : Nat) : Int))) (IntKind.bits IntKind.i64)))) = ((2 ^ i.1 : Nat) : Int) := by decide
  exact h ⟨n, by omega⟩
theorem pow_le (n : Nat) (hn : n ≤ 10) : 2 ^ n ≤ 1024 := by
  have h : ∀ i : _root_.Fin 11, 2 ^ i.1 ≤ 1024 := by decide
  exact h ⟨n, by omega⟩
theorem rep_4 (n : Nat) : List.replicate n [C.bool false] = ec_4.encL (List.replicate n false) := by simp [EC.encL, ec_4]
theorem h13_s (n : Nat) (a : List S49) : prove_Reachable_1_h13 n a = some ((), ((), ())) := prove_Reachable_1_h13_eq rfl

section
variable {s : List S44} (h : Tried s) (n0 : Nat) (b0 b1 : Int)
include h in
theorem round_s (o : Nat) (rs : List Bool) (hr : rs.length = szL s) : prove_trial_execute_h6 s 0 n0 o (szL s) 0 (tsL [] s) rs [] = some (!(runL o (tsL [] s) s 0).2.2, (!(runL o (tsL [] s) s 0).2.2, ((n0, ((o : Int), (szL s, (runL o (tsL [] s) s 0).2.1.length))), (tsL [] s, (mark rs (runL o (tsL [] s) s 0).1, (runL o (tsL [] s) s 0).2.1.map actOf))))) := by
  have := ex_s (o : Int) (tsL [] s) n0 (by omega) h.ten _ s rfl h.len h.ok h.val (tsL_in s []) 0 (szL s) 0 rs [] hr.symm rfl (by omega) (by omega) (by have := h.sz; omega) (by have := h.sz; omega)
  rw [this]
  simp [st]
include h in
theorem all3_loop (t : Nat) (ht : t ≤ 1024) : ∀ m (o : Nat) (rs : List Bool), o + m = t → rs.length = szL s → prove_all_h3_l9 s n0 (szL s) t o b0 b1 (tsL [] s) rs = some ((s, ((), ((), (n0, (szL s, ((t : Int), ((t : Int), false))))))), ((b0, b1), (tsL [] s, loopM (tsL [] s) s m o rs))) := by
  intro m
  induction m with
  | zero =>
    intro o rs ho hr
    have ho : o = t := by omega
    subst ho
    refine prove_all_h3_l9_eq ?_
    simp only [prove_all_h3_l9_t, brE_if, gdE_if, EC.decL_encL, EC.isL_encL]
    simp [loopM]
  | succ m ihm =>
    intro o rs ho hr
    have e1 : decide ((o : Int) < (t : Int)) = true := decide_eq_true (by omega)
    have e2 : IntKind.i64.wrap ((o : Int) + 1) = ((o + 1 : Nat) : Int) := wr_nat (n := t) (by omega) (by omega)
    have hx := round_s h n0 o rs hr
    refine prove_all_h3_l9_eq ?_
    simp only [prove_all_h3_l9_t, brE_if, gdE_if, EC_nilD, EC.decL_encL, EC.isL_encL, e1, if_true, hx, Option.bind_some, h13_s, e2]
    exact ihm (o + 1) _ (by omega) (by rw [mark_len, hr])
include h in
theorem all14_loop (t : Nat) (ht : t ≤ 1024) : ∀ m (o : Nat) (rs : List Bool) (b : Bool), o + m = t → rs.length = szL s → prove_all_h14_l9 s n0 (szL s) t o b b0 b1 (tsL [] s) rs = some ((s, ((), ((), (n0, (szL s, ((t : Int), ((t : Int), false))))))), (loopK (tsL [] s) s m o b, ((b0, b1), (tsL [] s, loopM (tsL [] s) s m o rs)))) := by
  intro m
  induction m with
  | zero =>
    intro o rs b ho hr
    have ho : o = t := by omega
    subst ho
    refine prove_all_h14_l9_eq ?_
    simp only [prove_all_h14_l9_t, brE_if, gdE_if, EC.decL_encL, EC.isL_encL]
    simp [loopM, loopK]
  | succ m ihm =>
    intro o rs b ho hr
    have e1 : decide ((o : Int) < (t : Int)) = true := decide_eq_true (by omega)
    have e2 : IntKind.i64.wrap ((o : Int) + 1) = ((o + 1 : Nat) : Int) := wr_nat (n := t) (by omega) (by omega)
    have hx := round_s h n0 o rs hr
    have hk := h15_s (runL o (tsL [] s) s 0).2.1.length (runL o (tsL [] s) s 0).2.1 (by have := (runL_len o (tsL [] s) s 0).2; have := h.sz; unfold big; omega) b
    refine prove_all_h14_l9_eq ?_
    simp only [prove_all_h14_l9_t, brE_if, gdE_if, EC_nilD, EC.decL_encL, EC.isL_encL, e1, if_true, hx, Option.bind_some, hk, e2]
    exact ihm (o + 1) _ _ (by omega) (by rw [mark_len, hr])
end
/-- what Reachable and Keeps answer -/
def reachF (s : List S44) : List Bool := if (faultP s).1 = 0 then loopM (tsL [] s) s (2 ^ (tsL [] s).length) 0 (List.replicate (szL s) false) else []
def lenF (s : List S44) : Nat := if (faultP s).1 = 0 then szL s else 0
def keepsF (s : List S44) : Bool := if (faultP s).1 = 0 then loopK (tsL [] s) s (2 ^ (tsL [] s).length) 0 true else true
theorem faultP_snd {s : List S44} (h : (faultP s).1 = 0) : faultP s = (0, 0) := by
  unfold faultP at *
  by_cases hf : (scriptF s).1 = 0
  · rw [if_neg (by simp [hf])] at h ⊢
    by_cases h10 : (tsL [] s).length > 10
    · rw [if_pos h10] at h; cases h
    · rw [if_neg h10]
  · rw [if_pos hf] at h; exact absurd h hf
theorem all3_s {s : List S44} (h : SOk s) : prove_all_h3 s = some ((lenF s, faultP s), ((lenF s, faultP s), reachF s)) := by
  have h1 := validate_s s h.len h.ok
  refine prove_all_h3_eq ?_
  simp only [prove_all_h3_t, brE_if, gdE_if, EC_nilD, EC.decL_encL, EC.isL_encL, if_true, h1, Option.bind_some, failed_s, bne_iff_ne]
  by_cases hf : (scriptF s).1 = 0
  · have hT := tests_s _ s rfl h.len h.ok [] (by have := h.few; simp; omega)
    have hT : prove_tests_h4 0 s [] = _ := hT
    rw [if_neg (by simp [hf])]
    simp only [hT, Option.bind_some, decide_eq_true_eq, fault_s]
    by_cases h10 : (tsL [] s).length > 10
    · have hp : faultP s = (17, -4) := by unfold faultP; rw [if_neg (by simp [hf]), if_pos h10]
      rw [if_pos (by omega)]
      simp [lenF, reachF, hp]
    · have hp : faultP s = (0, 0) := by unfold faultP; rw [if_neg (by simp [hf]), if_neg h10]
      obtain ⟨ht, _⟩ := tried h (by rw [hp])
      have hsz := size_s s h.len h.ok
      have := ht.sz
      rw [wr_in (by omega)] at hsz
      have hl := all3_loop ht (tsL [] s).length 0 0 (2 ^ (tsL [] s).length) (pow_le _ (by omega)) (2 ^ (tsL [] s).length) 0 (List.replicate (szL s) false) (by omega) (by simp)
      have hl : prove_all_h3_l9 s (tsL [] s).length (szL s) ((2 ^ (tsL [] s).length : Nat) : Int) 0 0 0 (tsL [] s) (List.replicate (szL s) false) = _ := hl
      rw [if_neg (by omega)]
      have hpw := pow_c (tsL [] s).length (by omega)
      rw [Int.toNat_natCast] at hpw
      have q1 : (0 : Int) ≤ (szL s : Int) := by omega
      have q2 : (szL s : Int) * (((1 : Nat) : Nat) : Int) ≤ 140737488355328 := by omega
      have q3 : (szL s : Int) ≤ 9223372036854775807 := by omega
      simp only [hsz, Option.bind_some, decide_true, q1, q2, q3, Bool.and_self, if_true, Int.toNat_natCast, rep_4, EC.decL_encL, EC.isL_encL, hpw, hl, none_s]
      simp [lenF, reachF, hp]
  · have hp : faultP s = scriptF s := by unfold faultP; rw [if_pos hf]
    rw [if_pos hf]
    simp [lenF, reachF, hp, hf]
theorem all14_s {s : List S44} (h : SOk s) : prove_all_h14 s true = some ((lenF s, faultP s), ((lenF s, faultP s), (reachF s, keepsF s))) := by
  have h1 := validate_s s h.len h.ok
  refine prove_all_h14_eq ?_
  simp only [prove_all_h14_t, brE_if, gdE_if, EC_nilD, EC.decL_encL, EC.isL_encL, if_true, h1, Option.bind_some, failed_s, bne_iff_ne]
  by_cases hf : (scriptF s).1 = 0
  · have hT := tests_s _ s rfl h.len h.ok [] (by have := h.few; simp; omega)
    have hT : prove_tests_h4 0 s [] = _ := hT
    rw [if_neg (by simp [hf])]
    simp only [hT, Option.bind_some, decide_eq_true_eq, fault_s]
    by_cases h10 : (tsL [] s).length > 10
    · have hp : faultP s = (17, -4) := by unfold faultP; rw [if_neg (by simp [hf]), if_pos h10]
      rw [if_pos (by omega)]
      simp [lenF, reachF, keepsF, hp]
    · have hp : faultP s = (0, 0) := by unfold faultP; rw [if_neg (by simp [hf]), if_neg h10]
      obtain ⟨ht, _⟩ := tried h (by rw [hp])
      have hsz := size_s s h.len h.ok
      have := ht.sz
      rw [wr_in (by omega)] at hsz
      have hl := all14_loop ht (tsL [] s).length 0 0 (2 ^ (tsL [] s).length) (pow_le _ (by omega)) (2 ^ (tsL [] s).length) 0 (List.replicate (szL s) false) true (by omega) (by simp)
      have hl : prove_all_h14_l9 s (tsL [] s).length (szL s) ((2 ^ (tsL [] s).length : Nat) : Int) 0 true 0 0 (tsL [] s) (List.replicate (szL s) false) = _ := hl
      rw [if_neg (by omega)]
      have hpw := pow_c (tsL [] s).length (by omega)
      rw [Int.toNat_natCast] at hpw
      have q1 : (0 : Int) ≤ (szL s : Int) := by omega
      have q2 : (szL s : Int) * (((1 : Nat) : Nat) : Int) ≤ 140737488355328 := by omega
      have q3 : (szL s : Int) ≤ 9223372036854775807 := by omega
      simp only [hsz, Option.bind_some, decide_true, q1, q2, q3, Bool.and_self, if_true, Int.toNat_natCast, rep_4, EC.decL_encL, EC.isL_encL, hpw, hl, none_s]
      simp [lenF, reachF, keepsF, hp]
  · have hp : faultP s = scriptF s := by unfold faultP; rw [if_pos hf]
    rw [if_pos hf]
    simp [lenF, reachF, keepsF, hp, hf]
theorem reachable_s {s : List S44} (h : SOk s) : prove_Reachable_s s = some ((lenF s, faultP s), reachF s) := by
  refine prove_Reachable_eq ?_
  simp only [prove_Reachable_t, gdE_if, EC.decL_encL, EC.isL_encL, if_true, all3_s h, Option.bind_some]
theorem keeps_s {s : List S44} (h : SOk s) : prove_Keeps_s s = some (keepsF s && decide ((faultP s).1 = 0), faultP s) := by
  refine prove_Keeps_eq ?_
  simp only [prove_Keeps_t, brE_if, gdE_if, EC.decL_encL, EC.isL_encL, if_true, all14_s h, Option.bind_some, failed_s]
  cases keepsF s with
  | false => simp
  | true =>
    by_cases hf : (faultP s).1 = 0
    · simp [faultP_snd hf]
    · simp [hf]
end Go.Proofs.Ytokahibbkdbndaa
/- The law ProveMatchesSpec answers true. -/
namespace Go.Proofs.Ytokahibbkdbndaa
open Go.RowKit

section
variable (s : List S44) (is_ : Bool) (l : Nat) (tests : List S42) (b0 b0_1 b2 b2_1 : Int) (b1 : List Bool)
theorem l15_s (want : Bool) (reached : Nat) (o : Int) (path : List Int) (hp : path.length ≤ big) (hn : ∀ n ∈ path, 0 ≤ n ∧ n < (reached : Int)) :
    ∀ m k (b3 : List Bool), k + m = path.length → b3.length = reached → posthouselaw6_ProveMatchesSpec_l15 s is_ l tests want reached o path k b0 b0_1 b1 b2 b2_1 b3 = some ((s, (is_, ((), (l, ((), (tests, (want, (reached, (o, (path, ((path.length : Int), false))))))))))), ((b0, b0_1), (b1, ((b2, b2_1), mark b3 (path.drop k))))) := by
  intro m
  induction m with
  | zero =>
    intro k b3 hk hb
    have hk : k = path.length := by omega
    subst hk
    refine posthouselaw6_ProveMatchesSpec_l15_eq ?_
    simp only [posthouselaw6_ProveMatchesSpec_l15_t, brE_if, gdE_if, EC.decL_encL, EC.isL_encL, EC.encL_length, isE_3, at_3_0, set_4_0_1]
    simp [mark]
  | succ m ihm =>
    intro k b3 hk hb
    have hlt : k < path.length := by omega
    have e1 : decide ((k : Int) < (path.length : Int)) = true := by simp; omega
    have e0 : decide ((0 : Int) ≤ (k : Int)) = true := by simp
    have e2 : IntKind.i64.wrap ((k : Int) + 1) = ((k + 1 : Nat) : Int) := wr_nat hlt (by unfold big at hp; omega)
    have hd2 : decide (k < path.length) = true := by simp [hlt]
    obtain ⟨n1, n2⟩ := hn path[k] (List.getElem_mem hlt)
    have f1 : decide (0 ≤ path[k]) = true := decide_eq_true n1
    have f2 : decide (path[k] < (reached : Int)) = true := decide_eq_true n2
    have f3 : decide (path[k].toNat < b3.length) = true := decide_eq_true (by omega)
    have f4 : (((ec_4.encL b3).getD path[k].toNat []).length == 1) = true := by rw [len_4 b3 path[k].toNat (by omega)]; rfl
    refine posthouselaw6_ProveMatchesSpec_l15_eq ?_
    simp only [posthouselaw6_ProveMatchesSpec_l15_t, brE_if, gdE_if, EC.decL_encL, EC.isL_encL, EC.encL_length, isE_3, at_3_0, set_4_0_1, e1, e0, if_true, Int.toNat_natCast, hd2, Bool.and_self, getD_in hlt, f1, f2, f3, f4, e2]
    rw [ihm (k + 1) _ (by omega) (by rw [List.length_set, hb]), drop_at hlt, mark_cons]
variable {s} (h : Tried s)
include h in
theorem l10_s : ∀ m (o : Nat) (want : Bool) (b3 : List Bool), o + m = 2 ^ (tsL [] s).length → b3.length = szL s → posthouselaw6_ProveMatchesSpec_l10 s is_ l (tsL [] s) want (szL s) o b0 b0_1 b1 b2 b2_1 b3 = some ((s, (is_, ((), (l, ((), (tsL [] s, (loopK (tsL [] s) s m o want, (szL s, (((2 ^ (tsL [] s).length : Nat) : Int), false))))))))), ((b0, b0_1), (b1, ((b2, b2_1), loopM (tsL [] s) s m o b3)))) := by
  have hpw := pow_r (tsL [] s).length h.ten
  have hle := pow_le (tsL [] s).length h.ten
  intro m
  induction m with
  | zero =>
    intro o want b3 ho hb
    have ho : o = 2 ^ (tsL [] s).length := by omega
    subst ho
    refine posthouselaw6_ProveMatchesSpec_l10_eq ?_
    simp only [posthouselaw6_ProveMatchesSpec_l10_t, brE_if, gdE_if, EC.decL_encL, EC.isL_encL, EC.encL_length, hpw]
    simp [loopM, loopK]
  | succ m ihm =>
    intro o want b3 ho hb
    have e1 : decide ((o : Int) < ((2 ^ (tsL [] s).length : Nat) : Int)) = true := decide_eq_true (by omega)
    have e2 : IntKind.i64.wrap ((o : Int) + 1) = ((o + 1 : Nat) : Int) := wr_nat (n := 2 ^ (tsL [] s).length) (by omega) (by omega)
    have hlf : leafs (tsL [] s) := (simpleTests_s _ s rfl h.len h.ok h.val [] (fun x hx => by cases hx) (by have := h.few; simp; omega)).2
    have hsz := h.sz
    have hp := path_s (o : Int) (by omega) (by omega) (tsL [] s) h.ten hlf _ s rfl h.len h.ok h.val (tsL_in s []) 0 (by omega) (by omega)
    obtain ⟨q1, q2⟩ := runL_len (o : Int) (tsL [] s) s 0
    have hnum := runL_num (o : Int) (tsL [] s) s 0
    have hih := ihm (o + 1) (want && keptB (runL (o : Int) (tsL [] s) s 0).2.1) (mark b3 (runL (o : Int) (tsL [] s) s 0).1) (by omega) (by rw [mark_len, hb])
    rw [loopK, loopM]
    generalize runL (o : Int) (tsL [] s) s 0 = u at hp q1 q2 hnum hih
    have hk := keptBy_s u.2.1 (by unfold big; omega)
    have h15 := fun w => l15_s s is_ l (tsL [] s) b0 b0_1 b2 b2_1 b1 w (szL s) (o : Int) u.1 (by unfold big; omega) (fun n hn => by have := hnum n hn; omega) u.1.length 0 b3 (by omega) hb
    simp only [Int.natCast_zero, List.drop_zero] at h15
    refine posthouselaw6_ProveMatchesSpec_l10_eq ?_
    simp only [posthouselaw6_ProveMatchesSpec_l10_t, brE_if, gdE_if, EC.decL_encL, EC.isL_encL, EC.encL_length, hpw, e1, if_true, hp, Option.bind_some]
    cases want with
    | true =>
      simp only [beq_self_eq_true, if_true, hk, Option.bind_some, h15, e2]
      rw [Bool.true_and] at hih
      rw [Bool.true_and]
      exact hih
    | false =>
      simp only [show (false == true) = false from rfl, Bool.false_eq_true, if_false, h15, Option.bind_some, e2]
      rw [Bool.false_and] at hih
      rw [Bool.false_and]
      exact hih
end
theorem l21_s (b : List Bool) (hb : b.length ≤ big) : ∀ m k, k + m = b.length → posthouselaw6_ProveMatchesSpec_l21 b.length b.length k b b = some (.inr ((b.length, (b.length, ((b.length : Int), false))), (b, b))) := by
  intro m
  induction m with
  | zero =>
    intro k hk
    have hk : k = b.length := by omega
    subst hk
    refine posthouselaw6_ProveMatchesSpec_l21_eq ?_
    simp only [posthouselaw6_ProveMatchesSpec_l21_t, brE_if, gdE_if, EC.decL_encL, EC.isL_encL, EC.encL_length, at_4_0]
    simp
  | succ m ihm =>
    intro k hk
    have hlt : k < b.length := by omega
    have e1 : decide ((k : Int) < (b.length : Int)) = true := by simp; omega
    have e0 : decide ((0 : Int) ≤ (k : Int)) = true := by simp
    have e2 : IntKind.i64.wrap ((k : Int) + 1) = ((k + 1 : Nat) : Int) := wr_nat hlt (by unfold big at hb; omega)
    have hd2 : decide (k < b.length) = true := by simp [hlt]
    have f4 : (((ec_4.encL b).getD k []).length == 1) = true := by rw [len_4 b k hlt]; rfl
    have f5 : isP [K1.bool] 0 ((ec_4.encL b).getD k []) = true := by rw [EC.getD_lt _ _ hlt]; rfl
    refine posthouselaw6_ProveMatchesSpec_l21_eq ?_
    simp only [posthouselaw6_ProveMatchesSpec_l21_t, brE_if, gdE_if, EC.decL_encL, EC.isL_encL, EC.encL_length, at_4_0, e1, e0, if_true, Int.toNat_natCast, hd2, Bool.and_self, getD_in hlt, f4, f5, e2, beq_self_eq_true, Bool.not_true, Bool.false_eq_true, if_false]
    exact ihm (k + 1) (by omega)
theorem spec_s {s : List S44} (h : SOk s) : posthouselaw6_ProveMatchesSpec_s s = some true := by
  refine posthouselaw6_ProveMatchesSpec_eq ?_
  simp only [posthouselaw6_ProveMatchesSpec_t, brE_if, gdE_if, EC_nilD, EC.decL_encL, EC.isL_encL, if_true, keeps_s h, reachable_s h, proveFault_s h, Option.bind_some, bne_iff_ne]
  by_cases hf : (faultP s).1 = 0
  · obtain ⟨ht, _⟩ := tried h hf
    have h1 := (simpleTests_s _ s rfl h.len h.ok ht.val [] (fun x hx => by cases hx) (by have := h.few; simp; omega)).1
    have h2 := count_s s h.len h.ok
    have := ht.sz
    rw [wr_in (by omega)] at h2
    have q1 : (0 : Int) ≤ (szL s : Int) := by omega
    have q2 : (szL s : Int) * (((1 : Nat) : Nat) : Int) ≤ 140737488355328 := by omega
    have q3 : (szL s : Int) ≤ 9223372036854775807 := by omega
    have h10 := fun is_ l b0 b0_1 b2 b2_1 b1 => l10_s is_ l b0 b0_1 b2 b2_1 b1 ht (2 ^ (tsL [] s).length) 0 true (List.replicate (szL s) false) (by omega) (by simp)
    simp only [Int.natCast_zero] at h10
    have hrl : (reachF s).length = szL s := by unfold reachF; rw [if_pos hf, loopM_len]; simp
    have hr : loopM (tsL [] s) s (2 ^ (tsL [] s).length) 0 (List.replicate (szL s) false) = reachF s := by unfold reachF; rw [if_pos hf]
    have hk : loopK (tsL [] s) s (2 ^ (tsL [] s).length) 0 true = keepsF s := by unfold keepsF; rw [if_pos hf]
    have hl : lenF s = szL s := by unfold lenF; rw [if_pos hf]
    have h21 := l21_s (reachF s) (by unfold big; omega) (reachF s).length 0 (by omega)
    rw [hrl, Int.natCast_zero] at h21
    rw [if_neg (by simp [hf])]
    simp only [h1, h2, Option.bind_some, decide_true, q1, q2, q3, Bool.and_self, if_true, Int.toNat_natCast, rep_4, EC.decL_encL, EC.isL_encL, h10, hr, hk, hl, faultP_snd hf, h21, Sum.elim_inr]
    simp
  · have hl : lenF s = 0 := by unfold lenF; rw [if_neg hf]
    rw [if_pos hf]
    simp [hl, hf]
end Go.Proofs.Ytokahibbkdbndaa
/- A script with a rule that keeps ahead of it. -/
namespace Go.Proofs.Ytokahibbkdbndaa
open Go.RowKit

abbrev E0 : ByteArray := ByteArray.mk (List.toArray [])
abbrev keepR : S44 := ⟨2, 0, [], E0, 0, E0, 0, [], [], 1, E0, E0, 0⟩
mutual
theorem ckR_n : ∀ (r : S44) (n d m : Nat), ckR r n d = .inr m → m = n + szR r
  | ⟨kd, k, ts, nm, p, tx, nn, t, e, a1, a2, a3, a4⟩, n, d, m, h => by
    rw [ckR] at h
    rw [szR]
    cases hq : ckL t (n + 1) (d + 1) with
    | inl f => rw [hq] at h; cases h
    | inr n1 =>
      rw [hq] at h
      have h1 := ckL_n t (n + 1) (d + 1) n1 hq
      have h2 := ckL_n e n1 (d + 1) m h
      omega
theorem ckL_n : ∀ (l : List S44) (n d m : Nat), ckL l n d = .inr m → m = n + szL l
  | [], n, d, m, h => by
    rw [ckL] at h
    have : n = m := by injection h
    rw [szL]; omega
  | r :: l, n, d, m, h => by
    rw [ckL] at h
    rw [szL]
    split at h
    · cases h
    split at h
    · cases h
    cases hq : ckR r n d with
    | inl f => rw [hq] at h; cases h
    | inr n2 =>
      rw [hq] at h
      have h1 := ckR_n r n d n2 hq
      have h2 := ckL_n l n2 d m h
      omega
end
theorem szR_pos (r : S44) : 1 ≤ szR r := by rw [szR_eq]; omega
mutual
theorem ckR_up : ∀ (r : S44) (n d m : Nat), ckR r n d = .inr m → m + 1 ≤ 100 → ckR r (n + 1) d = .inr (m + 1)
  | ⟨kd, k, ts, nm, p, tx, nn, t, e, a1, a2, a3, a4⟩, n, d, m, h, hm => by
    rw [ckR] at h ⊢
    cases hq : ckL t (n + 1) (d + 1) with
    | inl f => rw [hq] at h; cases h
    | inr n1 =>
      rw [hq] at h
      have h2 := ckL_n e n1 (d + 1) m h
      rw [ckL_up t (n + 1) (d + 1) n1 hq (by omega)]
      exact ckL_up e n1 (d + 1) m h hm
theorem ckL_up : ∀ (l : List S44) (n d m : Nat), ckL l n d = .inr m → m + 1 ≤ 100 → ckL l (n + 1) d = .inr (m + 1)
  | [], n, d, m, h, hm => by
    rw [ckL] at h ⊢
    have : n = m := by injection h
    rw [this]
  | r :: l, n, d, m, h, hm => by
    have hn := ckL_n (r :: l) n d m h
    rw [szL] at hn
    have hp := szR_pos r
    rw [ckL] at h ⊢
    split at h
    · cases h
    split at h
    · cases h
    rename_i hrc
    cases hq : ckR r n d with
    | inl f => rw [hq] at h; cases h
    | inr n2 =>
      rw [hq] at h
      have h2 := ckL_n l n2 d m h
      rw [if_neg (by omega), if_neg hrc, ckR_up r n d n2 hq (by omega)]
      exact ckL_up l n2 d m h hm
end
mutual
theorem ckR_down : ∀ (r : S44) (n d m : Nat), ckR r (n + 1) d = .inr m → ∃ m0, m = m0 + 1 ∧ ckR r n d = .inr m0
  | ⟨kd, k, ts, nm, p, tx, nn, t, e, a1, a2, a3, a4⟩, n, d, m, h => by
    rw [ckR] at h ⊢
    cases hq : ckL t (n + 1 + 1) (d + 1) with
    | inl f => rw [hq] at h; cases h
    | inr n1 =>
      rw [hq] at h
      obtain ⟨m1, rfl, h1⟩ := ckL_down t (n + 1) (d + 1) n1 hq
      rw [h1]
      exact ckL_down e m1 (d + 1) m h
theorem ckL_down : ∀ (l : List S44) (n d m : Nat), ckL l (n + 1) d = .inr m → ∃ m0, m = m0 + 1 ∧ ckL l n d = .inr m0
  | [], n, d, m, h => by
    rw [ckL] at h ⊢
    have : n + 1 = m := by injection h
    exact ⟨n, this.symm, rfl⟩
  | r :: l, n, d, m, h => by
    rw [ckL] at h ⊢
    split at h
    · cases h
    rename_i h100
    split at h
    · cases h
    rename_i hrc
    cases hq : ckR r (n + 1) d with
    | inl f => rw [hq] at h; cases h
    | inr n2 =>
      rw [hq] at h
      obtain ⟨m1, rfl, h1⟩ := ckR_down r n d n2 hq
      rw [if_neg (by omega), if_neg hrc, h1]
      exact ckL_down l m1 d m h
end
theorem rc_keep : rc keepR 1 = 0 := by decide +kernel
theorem ckL_keep (s : List S44) : ckL (keepR :: s) 0 1 = ckL s 1 1 := by
  rw [ckL, if_neg (by decide), if_neg (by rw [rc_keep]; simp)]
  rfl
theorem ts_keep (s : List S44) : tsL [] (keepR :: s) = tsL [] s := by rw [tsL]; rfl
theorem sz_keep (s : List S44) : szL (keepR :: s) = szL s + 1 := by
  rw [szL, show szR keepR = 1 from rfl]; omega
theorem scriptF_zero {s : List S44} {m : Nat} (h : ckL s 0 1 = .inr m) : scriptF s = (0, 0) := by unfold scriptF; rw [h]
theorem keep_down {s : List S44} (h : (faultP (keepR :: s)).1 = 0) : (faultP s).1 = 0 := by
  unfold faultP at h ⊢
  by_cases hf : (scriptF (keepR :: s)).1 = 0
  · rw [if_neg (by simp [hf]), ts_keep] at h
    obtain ⟨m, m1, _⟩ := script_ok hf
    rw [ckL_keep] at m1
    obtain ⟨m0, _, h0⟩ := ckL_down s 0 1 m m1
    rw [scriptF_zero h0, if_neg (by simp)]
    exact h
  · rw [if_pos hf] at h; exact absurd h hf
theorem keep_up {s : List S44} (h : (faultP s).1 = 0) (hz : szL s < 100) : (faultP (keepR :: s)).1 = 0 := by
  unfold faultP at h ⊢
  by_cases hf : (scriptF s).1 = 0
  · rw [if_neg (by simp [hf])] at h
    obtain ⟨m, m1, m2, _⟩ := script_ok hf
    have h0 := ckL_up s 0 1 m m1 (by omega)
    have h0 : ckL (keepR :: s) 0 1 = .inr (m + 1) := by rw [ckL_keep]; exact h0
    rw [scriptF_zero h0, if_neg (by simp), ts_keep]
    exact h
  · rw [if_pos hf] at h; exact absurd h hf
mutual
theorem runR_shift (o : Int) (c : List S42) : ∀ (r : S44) (i : Int), runR o c r (i + 1) = ((runR o c r i).1.map (· + 1), (runR o c r i).2)
  | ⟨kd, k, ts, nm, p, tx, n, t, e, ak, a1, a2, a3⟩, i => by
    have h1 := runL_shift o c t (i + 1)
    have h2 := runL_shift o c e (i + 1 + szL t)
    rw [runR, runR, h1, show i + 1 + 1 + (szL t : Int) = i + 1 + szL t + 1 by omega, h2]
    split
    · rfl
    · split
      · rfl
      · split
        · split <;> rfl
        · rfl
theorem runL_shift (o : Int) (c : List S42) : ∀ (l : List S44) (i : Int), runL o c l (i + 1) = ((runL o c l i).1.map (· + 1), (runL o c l i).2)
  | [], i => by rw [runL, runL]; rfl
  | r :: l, i => by
    have h1 := runR_shift o c r i
    have h2 := runL_shift o c l (i + szR r)
    rw [runL, runL, h1, show i + 1 + (szR r : Int) = i + szR r + 1 by omega, h2]
    split
    · rfl
    · simp
end
theorem runL_keep (o : Int) (c : List S42) (s : List S44) : runL o c (keepR :: s) 0 = (0 :: (runL o c s 0).1.map (· + 1), (1 :: (runL o c s 0).2.1, (runL o c s 0).2.2)) := by
  have h := runL_shift o c s 0
  have h : runL o c s ((0 : Int) + (szR keepR : Int)) = _ := h
  have hr : runR o c keepR 0 = ([0], [1], false) := by rw [runR_eq]; rfl
  rw [runL, h, hr]
  rfl
theorem mark_shift : ∀ (a : List Int) (rs : List Bool) (b : Bool), (∀ n ∈ a, 0 ≤ n) → mark (b :: rs) (a.map (· + 1)) = b :: mark rs a
  | [], rs, b, _ => rfl
  | n :: a, rs, b, h => by
    have hn : (n + 1).toNat = n.toNat + 1 := by have := h n (by simp); omega
    rw [List.map_cons, mark_cons, mark_cons, hn, List.set_cons_succ]
    exact mark_shift a _ b fun x hx => h x (by simp [hx])
theorem loopM_one (c : List S42) (s : List S44) (o : Nat) (b : Bool) (rs : List Bool) : mark (b :: rs) (runL o c (keepR :: s) 0).1 = true :: mark rs (runL o c s 0).1 := by
  rw [runL_keep, mark_cons]
  exact mark_shift _ rs true fun n hn => (runL_num (o : Int) c s 0 n hn).1
theorem loopM_keep (c : List S42) (s : List S44) : ∀ m o rs, loopM c (keepR :: s) m o (true :: rs) = true :: loopM c s m o rs
  | 0, o, rs => rfl
  | m + 1, o, rs => by rw [loopM, loopM, loopM_one, loopM_keep c s m]
theorem loopM_keep' (c : List S42) (s : List S44) (m o : Nat) (hm : 0 < m) (rs : List Bool) (b : Bool) : loopM c (keepR :: s) m o (b :: rs) = true :: loopM c s m o rs := by
  cases m with
  | zero => omega
  | succ m => rw [loopM, loopM, loopM_one, loopM_keep c s m]
theorem loopK_keep (c : List S42) (s : List S44) : ∀ m o, loopK c (keepR :: s) m o true = true
  | 0, o => rfl
  | m + 1, o => by
    have : keptB (runL (o : Int) c (keepR :: s) 0).2.1 = true := by rw [runL_keep]; rfl
    rw [loopK, this, Bool.and_self, loopK_keep c s m]
theorem reach_keep {s : List S44} (h : (faultP (keepR :: s)).1 = 0) : reachF (keepR :: s) = true :: reachF s ∧ lenF (keepR :: s) = lenF s + 1 ∧ keepsF (keepR :: s) = true := by
  have h0 := keep_down h
  refine ⟨?_, ?_, ?_⟩
  · unfold reachF
    rw [if_pos h, if_pos h0, ts_keep, sz_keep, List.replicate_succ]
    exact loopM_keep' _ _ _ _ (Nat.pow_pos (by decide)) _ _
  · unfold lenF
    rw [if_pos h, if_pos h0, sz_keep]
  · unfold keepsF
    rw [if_pos h]
    exact loopK_keep _ _ _ _
end Go.Proofs.Ytokahibbkdbndaa
/- The law ProveKeepAtTheEnd answers true. -/
namespace Go.Proofs.Ytokahibbkdbndaa
open Go.RowKit

theorem keep_l10 (b : List Bool) (hb : b.length ≤ big) : ∀ m k, k + m = b.length → posthouselaw6_ProveKeepAtTheEnd_l10 b.length (b.length + 1) k b (true :: b) = some (.inr ((b.length, (b.length + 1, ((b.length : Int), false))), (b, true :: b))) := by
  intro m
  induction m with
  | zero =>
    intro k hk
    have hk : k = b.length := by omega
    subst hk
    refine posthouselaw6_ProveKeepAtTheEnd_l10_eq ?_
    simp only [posthouselaw6_ProveKeepAtTheEnd_l10_t, brE_if, gdE_if, EC.decL_encL, EC.isL_encL, EC.encL_length, at_4_0]
    simp
  | succ m ihm =>
    intro k hk
    have hlt : k < b.length := by omega
    have hlt' : k + 1 < (true :: b).length := by simp; omega
    have e1 : decide ((k : Int) < (b.length : Int)) = true := by simp; omega
    have e0 : decide ((0 : Int) ≤ (k : Int)) = true := by simp
    have e2 : IntKind.i64.wrap ((k : Int) + 1) = ((k + 1 : Nat) : Int) := wr_nat hlt (by unfold big at hb; omega)
    have hd2 : decide (k < b.length) = true := by simp [hlt]
    have f0 : decide ((0 : Int) ≤ ((k + 1 : Nat) : Int)) = true := decide_eq_true (by omega)
    have f1 : decide (((k + 1 : Nat) : Int) < ((b.length + 1 : Nat) : Int)) = true := decide_eq_true (by omega)
    have f2 : decide (k + 1 < (true :: b).length) = true := decide_eq_true hlt'
    have f4 : (((ec_4.encL b).getD k []).length == 1) = true := by rw [len_4 b k hlt]; rfl
    have f5 : isP [K1.bool] 0 ((ec_4.encL b).getD k []) = true := by rw [EC.getD_lt _ _ hlt]; rfl
    have f6 : (((ec_4.encL (true :: b)).getD (k + 1) []).length == 1) = true := by rw [len_4 (true :: b) (k + 1) hlt']; rfl
    have f7 : isP [K1.bool] 0 ((ec_4.encL (true :: b)).getD (k + 1) []) = true := by rw [EC.getD_lt _ _ hlt']; rfl
    have f8 : (true :: b)[k + 1] = b[k] := rfl
    refine posthouselaw6_ProveKeepAtTheEnd_l10_eq ?_
    simp only [posthouselaw6_ProveKeepAtTheEnd_l10_t, brE_if, gdE_if, EC.decL_encL, EC.isL_encL, EC.encL_length, at_4_0, e1, e0, if_true, Int.toNat_natCast, hd2, Bool.and_self, getD_in hlt, f4, f5, e2, f0, f1, f2, f6, f7, getD_in hlt', f8, beq_self_eq_true, Bool.not_true, Bool.false_eq_true, if_false]
    exact ihm (k + 1) (by omega)
theorem lit_keep (s : List S44) : [[C.int IntKind.i64 2, C.int IntKind.i64 0, C.sl [], C.str (ByteArray.mk (List.toArray [])), C.int IntKind.i64 0, C.str (ByteArray.mk (List.toArray [])), C.int IntKind.i64 0, C.sl [], C.sl [], C.int IntKind.i64 1, C.str (ByteArray.mk (List.toArray [])), C.str (ByteArray.mk (List.toArray [])), C.int IntKind.i64 0]] ++ ec_44.encL s = ec_44.encL (keepR :: s) := rfl
theorem lit_all : List.all [[C.int IntKind.i64 2, C.int IntKind.i64 0, C.sl [], C.str (ByteArray.mk (List.toArray [])), C.int IntKind.i64 0, C.str (ByteArray.mk (List.toArray [])), C.int IntKind.i64 0, C.sl [], C.sl [], C.int IntKind.i64 1, C.str (ByteArray.mk (List.toArray [])), C.str (ByteArray.mk (List.toArray [])), C.int IntKind.i64 0]] (fun (el : List C) => el.length == 13) = true := rfl
theorem keep_ok {s : List S44} (h : SOk s) (hl : s.length + 1 ≤ big) (hf : tszL s + 1 ≤ many) : SOk (keepR :: s) where
  len := by simpa using hl
  ok := by
    refine ⟨?_, h.ok⟩
    refine (okR_eq _).2 ⟨⟨?_, trivial⟩, ⟨?_, trivial⟩, ⟨?_, trivial⟩, Nat.zero_le _⟩ <;> simp
  few := by
    have : tsz keepR = 1 := rfl
    rw [tszL, this]; omega
theorem keep_s {s : List S44} (h : SOk s) (hl : s.length ≤ 1000000000) (hf : tszL s + 1 ≤ many) : posthouselaw6_ProveKeepAtTheEnd_s s = some true := by
  have hk := keep_ok h (by unfold big; omega) hf
  have g1 : decide ((1 + s.length + (1 + s.length) / 4 + 192) * 184 ≤ 281474976710656) = true := decide_eq_true (by omega)
  have g2 : decide (1 + s.length ≤ 9223372036854775807) = true := decide_eq_true (by omega)
  have h1 := reachable_s h
  have h2 := keeps_s hk
  have h3 := reachable_s hk
  have h4 := count_s s h.len h.ok
  refine posthouselaw6_ProveKeepAtTheEnd_eq ?_
  simp only [posthouselaw6_ProveKeepAtTheEnd_t, brE_if, gdE_if, lit_keep, lit_all, EC.decL_encL, EC.isL_encL, EC.encL_length, all_44, at_4_0, Bool.and_self, g1, g2, if_true, h1, h2, h3, Option.bind_some]
  by_cases hf' : (faultP (keepR :: s)).1 = 0
  · have hf0 := keep_down hf'
    obtain ⟨r1, r2, r3⟩ := reach_keep hf'
    obtain ⟨ht, _⟩ := tried h hf0
    have hz := ht.sz
    have hlen : lenF s = szL s := by unfold lenF; rw [if_pos hf0]
    have hrl : (reachF s).length = szL s := by unfold reachF; rw [if_pos hf0, loopM_len]; simp
    have hw : IntKind.i64.wrap ((szL s : Int) + 1) = ((szL s + 1 : Nat) : Int) := by rw [wr_in (by omega)]; rfl
    have hlp := keep_l10 (reachF s) (by unfold big; omega) (reachF s).length 0 (by omega)
    rw [hrl, Int.natCast_zero] at hlp
    have p1 : decide ((0 : Int) < ((szL s + 1 : Nat) : Int)) = true := decide_eq_true (by omega)
    have p2 : decide (0 < (true :: reachF s).length) = true := decide_eq_true (by simp)
    have p3 : (((ec_4.encL (true :: reachF s)).getD 0 []).length == 1) = true := rfl
    have p4 : isP [K1.bool] 0 ((ec_4.encL (true :: reachF s)).getD 0 []) = true := rfl
    have p5 : (true :: reachF s).getD 0 (ec_4.dec []) = true := rfl
    have b0 : ((0 : Int) != 0) = false := rfl
    simp only [r1, r2, r3, hlen, faultP_snd hf', faultP_snd hf0, b0, beq_self_eq_true, if_true, decide_true, Bool.and_self, Bool.not_true, hw, bne_self_eq_false, Int.toNat_zero, p1, p2, p3, p4, p5, Bool.false_eq_true, if_false, hlp, Option.bind_some, Sum.elim_inr, Int.le_refl]
  · have hb : ((faultP (keepR :: s)).1 != 0) = true := by simpa using hf'
    by_cases hf0 : (faultP s).1 = 0
    · have hz : szL s = 100 := by
        obtain ⟨ht, _⟩ := tried h hf0
        have := ht.sz
        rcases Nat.lt_or_ge (szL s) 100 with hz | hz
        · exact absurd (keep_up hf0 hz) hf'
        · omega
      rw [hz] at h4
      have h4 : posthouseref6_Count_s s = some 100 := h4
      have hb0 : ((faultP s).1 != 0) = false := by simp [hf0]
      simp only [hb, hb0, h4, Option.bind_some]
      rfl
    · have hb0 : ((faultP s).1 != 0) = true := by simpa using hf0
      simp only [hb, hb0, beq_self_eq_true, Bool.and_self]
      rfl
end Go.Proofs.Ytokahibbkdbndaa
