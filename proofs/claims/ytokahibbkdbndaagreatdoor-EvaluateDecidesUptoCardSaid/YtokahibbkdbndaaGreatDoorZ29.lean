/- evaluate.Run's execute is exL. -/
import Derived.Test.YtokahibbkdbndaaGreatDoorZ28
import Derived.Test.YtokahibbkdbndaaGreatDoorZ01
import Derived.Test.YtokahibbkdbndaaGreatDoorChecked
import Derived.ProofKit
import Derived.OpenShut
import Derived.JoinedCond
import Derived.Deep.Slices
import Derived.Deep.Fields
import Derived.Lib.SmallJoins
namespace Go.Proofs.YtokahibbkdbndaaGreatDoor
open Go.RowKit
theorem e_note (i : Int) (b : Bool) (s : ByteArray) : evaluate_Run_1_h7 i b s = some ((), ((), ())) := evaluate_Run_1_h7_eq rfl
section
variable (f : ByteArray) (rc : List S118) (e : ByteArray) (fs : List S55) (bd : List Int) (sz : Int)
abbrev e_st (na : Nat) (m : MM) (a : List S45) := (((f, (rc, (e, (fs, (bd, (sz, ((), (na, ())))))))), (m, a)) : (ByteArray × (List S118) × ByteArray × (List S55) × (List Int) × Int × Unit × Nat × Unit) × MM × List S45)
def e_execAt (s : List S50) : Prop := ∀ (i : Int) (n : Nat) (m : MM) (a : List S45) (st : List S62), 0 ≤ i → i + szL s ≤ 1000 → n + szL s ≤ 1000 → a.length + szL s ≤ 1000 → Inv n m →
  evaluate_run_execute_h3 s i f rc e fs bd sz a.length m a = some ((exL f rc fs sz s i m a st).1, ((exL f rc fs sz s i m a st).1, e_st f rc e fs bd sz (exL f rc fs sz s i m a st).2.2.1.length (exL f rc fs sz s i m a st).2.1 (exL f rc fs sz s i m a st).2.2.1))
theorem e_exec_loop (s : List S50) (hl : s.length ≤ big) (ho : okL s) (hv : okvL s) (hT : ∀ r ∈ s, r.Kind = 1 → e_testAt f rc e fs bd sz 0 [] (tOf r) ∧ ∀ na ac, e_testAt f rc e fs bd sz na ac (tOf r)) (ihE : ∀ r ∈ s, e_execAt f rc e fs bd sz r.Then ∧ e_execAt f rc e fs bd sz r.Else) :
    ∀ (q k : Nat) (i : Int) (n : Nat) (m : MM) (a : List S45) (st : List S62), k + q = s.length → 0 ≤ i → i + szL (s.drop k) ≤ 1000 → n + szL (s.drop k) ≤ 1000 → a.length + szL (s.drop k) ≤ 1000 → Inv n m →
    ∃ x, evaluate_run_execute_h3_l2 i s s.length k f rc e fs bd sz a.length m a = some x ∧ Sum.elim (fun r => (r.1, r.2)) (fun r => (true, r.2)) x = ((exL f rc fs sz (s.drop k) i m a st).1, e_st f rc e fs bd sz (exL f rc fs sz (s.drop k) i m a st).2.2.1.length (exL f rc fs sz (s.drop k) i m a st).2.1 (exL f rc fs sz (s.drop k) i m a st).2.2.1) := by
  intro q
  induction q with
  | zero =>
    intro k i n m a st hk h0 h1 h2 h3 hI
    have hk : k = s.length := by omega
    subst hk
    refine ⟨.inr (((), (i, (s, ((s.length : Int), ((s.length : Int), false))))), e_st f rc e fs bd sz a.length m a), evaluate_run_execute_h3_l2_eq (by
      simp only [evaluate_run_execute_h3_l2_t, brE_if, gdE_if, EC.decL_encL, EC.isL_encL, EC.encL_length, isE_50, at_50_0, at_50_1, at_50_2, at_50_3, at_50_4, at_50_5, at_50_6, at_50_7, at_50_8, at_50_9, at_50_10, at_50_11, at_50_12, all_45, apd_45]
      simp), ?_⟩
    rw [List.drop_length, exL]; rfl
  | succ q ihm =>
    intro k i n m a st hk h0 h1 h2 h3 hI
    have hlt : k < s.length := by omega
    have e1 : decide ((k : Int) < (s.length : Int)) = true := by simp; omega
    have e0 : decide ((0 : Int) ≤ (k : Int)) = true := by simp
    have e2 : IntKind.i64.wrap ((k : Int) + 1) = ((k + 1 : Nat) : Int) := wr_nat hlt (by unfold big at hl; omega)
    have hd2 : decide (k < s.length) = true := by simp [hlt]
    have hmem : s[k] ∈ s := List.getElem_mem hlt
    have hdr : szL (s.drop k) = szR s[k] + szL (s.drop (k + 1)) := by rw [drop_at hlt]; rfl
    rw [hdr] at h1 h2 h3
    have hsz := szR_eq s[k]
    obtain ⟨_, ⟨ht1, ht2⟩, ⟨he1, he2⟩, _⟩ := (okR_eq s[k]).1 (okL_get ho hmem)
    obtain ⟨hh, hvt, hve⟩ := okvR hv hmem
    obtain ⟨hkk, htx, hvar, hnil⟩ := rule_text hh
    obtain ⟨iT, iE⟩ := ihE s[k] hmem
    have hcT := size_s s[k].Then ht1 ht2
    have hcE := size_s s[k].Else he1 he2
    rw [wr_in (by omega)] at hcT hcE
    have w1 : IntKind.i64.wrap (i + 1) = i + 1 := wr_in (by omega)
    have w2 : IntKind.i64.wrap (i + 1 + (szL s[k].Then : Int)) = i + 1 + szL s[k].Then := wr_in (by omega)
    have w3 : IntKind.i64.wrap (1 + (szL s[k].Then : Int)) = 1 + szL s[k].Then := wr_in (by omega)
    have w4 : IntKind.i64.wrap (1 + (szL s[k].Then : Int) + (szL s[k].Else : Int)) = 1 + szL s[k].Then + szL s[k].Else := wr_in (by omega)
    have w5 : IntKind.i64.wrap (i + (1 + (szL s[k].Then : Int) + (szL s[k].Else : Int))) = i + szR s[k] := by rw [wr_in (by omega)]; omega
    have hma : m.length ≤ 10000 := by have := hI.all; omega
    rw [drop_at hlt, exL]
    by_cases k1 : s[k].Kind = 1
    · have c1 : (s[k].Kind == 1) = true := by simpa using k1
      have ht : evaluate_run_test_h4 s[k].Test_Kind s[k].Test_Tests s[k].Test_Name s[k].Test_Pattern s[k].Test_Text s[k].Test_N f rc e fs bd sz a.length m a = _ := (hT s[k] hmem k1).2 a.length a n m (by omega) hI
      have hI2 := tsT_inv f rc fs sz n (tOf s[k]) m hI
      rw [exR_eq, if_pos k1]
      generalize tsT f rc fs sz (tOf s[k]) m = u at ht hI2
      obtain ⟨ub, um⟩ := u
      cases ub with
      | true =>
        rw [if_pos rfl]
        have hp := iT (i + 1) n um a (st ++ [⟨i, true, noTx⟩]) (by omega) (by omega) (by omega) (by omega) hI2
        have hinv := exL_inv f rc fs sz _ s[k].Then rfl hvt n (i + 1) um a (st ++ [⟨i, true, noTx⟩]) hI2
        generalize exL f rc fs sz s[k].Then (i + 1) um a (st ++ [⟨i, true, noTx⟩]) = v at hp hinv
        obtain ⟨vb, vm, va, vs⟩ := v
        obtain ⟨g1, g2, g3⟩ := hinv
        simp only at hp g1 g2 g3
        cases vb with
        | false =>
          simp only [Bool.false_eq_true, if_false]
          refine ⟨.inl (false, e_st f rc e fs bd sz va.length vm va), evaluate_run_execute_h3_l2_eq ?_, rfl⟩
          simp only [evaluate_run_execute_h3_l2_t, brE_if, gdE_if, EC.decL_encL, EC.isL_encL, EC.encL_length, isE_50, at_50_0, at_50_1, at_50_2, at_50_3, at_50_4, at_50_5, at_50_6, at_50_7, at_50_8, at_50_9, at_50_10, at_50_11, at_50_12, all_45, apd_45, e1, e0, if_true, Int.toNat_natCast, hd2, Bool.and_self, getD_in hlt, c1, ht, e_note, Option.bind_some, Bool.not_true, Bool.not_false, Bool.false_eq_true, if_false, w1, hp, e_st]
        | true =>
          rw [if_pos rfl]
          obtain ⟨x, x1, x2⟩ := ihm (k + 1) (i + szR s[k]) (n + szL s[k].Then) vm va vs (by omega) (by omega) (by omega) (by omega) (by omega) g1
          refine ⟨x, evaluate_run_execute_h3_l2_eq ?_, x2⟩
          simp only [evaluate_run_execute_h3_l2_t, brE_if, gdE_if, EC.decL_encL, EC.isL_encL, EC.encL_length, isE_50, at_50_0, at_50_1, at_50_2, at_50_3, at_50_4, at_50_5, at_50_6, at_50_7, at_50_8, at_50_9, at_50_10, at_50_11, at_50_12, all_45, apd_45, e1, e0, if_true, Int.toNat_natCast, hd2, Bool.and_self, getD_in hlt, c1, ht, e_note, Option.bind_some, Bool.not_true, Bool.false_eq_true, if_false, w1, hp, e_st, hcT, hcE, w3, w4, w5, e2]
          exact x1
      | false =>
        simp only [Bool.false_eq_true, if_false]
        have hp := iE (i + 1 + szL s[k].Then) n um a (st ++ [⟨i, false, noTx⟩]) (by omega) (by omega) (by omega) (by omega) hI2
        have hinv := exL_inv f rc fs sz _ s[k].Else rfl hve n (i + 1 + szL s[k].Then) um a (st ++ [⟨i, false, noTx⟩]) hI2
        generalize exL f rc fs sz s[k].Else (i + 1 + szL s[k].Then) um a (st ++ [⟨i, false, noTx⟩]) = v at hp hinv
        obtain ⟨vb, vm, va, vs⟩ := v
        obtain ⟨g1, g2, g3⟩ := hinv
        simp only at hp g1 g2 g3
        cases vb with
        | false =>
          simp only [Bool.false_eq_true, if_false]
          refine ⟨.inl (false, e_st f rc e fs bd sz va.length vm va), evaluate_run_execute_h3_l2_eq ?_, rfl⟩
          simp only [evaluate_run_execute_h3_l2_t, brE_if, gdE_if, EC.decL_encL, EC.isL_encL, EC.encL_length, isE_50, at_50_0, at_50_1, at_50_2, at_50_3, at_50_4, at_50_5, at_50_6, at_50_7, at_50_8, at_50_9, at_50_10, at_50_11, at_50_12, all_45, apd_45, e1, e0, if_true, Int.toNat_natCast, hd2, Bool.and_self, getD_in hlt, c1, ht, e_note, Option.bind_some, Bool.not_false, w1, hcT, w2, hp, e_st]
        | true =>
          rw [if_pos rfl]
          obtain ⟨x, x1, x2⟩ := ihm (k + 1) (i + szR s[k]) (n + szL s[k].Else) vm va vs (by omega) (by omega) (by omega) (by omega) (by omega) g1
          refine ⟨x, evaluate_run_execute_h3_l2_eq ?_, x2⟩
          simp only [evaluate_run_execute_h3_l2_t, brE_if, gdE_if, EC.decL_encL, EC.isL_encL, EC.encL_length, isE_50, at_50_0, at_50_1, at_50_2, at_50_3, at_50_4, at_50_5, at_50_6, at_50_7, at_50_8, at_50_9, at_50_10, at_50_11, at_50_12, all_45, apd_45, e1, e0, if_true, Int.toNat_natCast, hd2, Bool.and_self, getD_in hlt, c1, ht, e_note, Option.bind_some, Bool.not_true, Bool.not_false, Bool.false_eq_true, if_false, w1, hcT, w2, hp, e_st, hcE, w3, w4, w5, e2]
          exact x1
    · have c1 : (s[k].Kind == 1) = false := by simpa using k1
      obtain ⟨n1, n2⟩ := hnil k1
      have htx' := htx k1
      have hex := expP_s hI.val s[k].Text (by omega)
      have hxs := exT_size m s[k].Text
      have hR1 : szR s[k] = 1 := by rw [hsz, n1, n2]; rfl
      rw [exR_eq, if_neg k1]
      by_cases k2 : s[k].Kind = 2
      · have c2 : (s[k].Kind == 2) = true := by simpa using k2
        have g1 : decide ((a.length + 1 + (a.length + 1) / 4 + 192) * 32 ≤ 281474976710656) = true := decide_eq_true (by omega)
        have g2 : decide (a.length + 1 ≤ 9223372036854775807) = true := decide_eq_true (by omega)
        rw [if_pos k2, if_pos rfl]
        obtain ⟨x, x1, x2⟩ := ihm (k + 1) (i + szR s[k]) n m (a ++ [⟨s[k].Act, exT m s[k].Text, s[k].N⟩]) (st ++ [⟨i, false, exT m s[k].Text⟩]) (by omega) (by omega) (by omega) (by omega) (by simp; omega) hI
        rw [List.length_append] at x1
        refine ⟨x, evaluate_run_execute_h3_l2_eq ?_, x2⟩
        simp only [evaluate_run_execute_h3_l2_t, brE_if, gdE_if, EC.decL_encL, EC.isL_encL, EC.encL_length, isE_50, at_50_0, at_50_1, at_50_2, at_50_3, at_50_4, at_50_5, at_50_6, at_50_7, at_50_8, at_50_9, at_50_10, at_50_11, at_50_12, all_45, apd_45, e1, e0, if_true, Int.toNat_natCast, hd2, Bool.and_self, getD_in hlt, c1, c2, Bool.false_eq_true, if_false, hex, e_note, Option.bind_some, List.all_cons, List.all_nil, List.length_cons, List.length_nil, Nat.zero_add, beq_self_eq_true, g1, g2, hcT, hcE, w3, w4, w5, e2]
        exact x1
      · have c2 : (s[k].Kind == 2) = false := by simpa using k2
        rw [if_neg k2]
        by_cases k3 : s[k].Kind = 3
        · have c3 : (s[k].Kind == 3) = true := by simpa using k3
          have hvb := hvar k3
          have hnm : s[k].Name.size ≠ 0 ∧ s[k].Name.size ≤ 60 := by
            unfold varB at hvb
            simp at hvb
            omega
          have g1 : decide (s[k].Name.size ≤ maxLen) = true := decide_eq_true (by unfold maxLen; omega)
          have g2 : decide ((exT m s[k].Text).size ≤ maxLen) = true := decide_eq_true (by unfold maxLen; omega)
          have g3 : decide (m.length < maxLen) = true := decide_eq_true (by unfold maxLen; omega)
          rw [if_pos k3, if_pos rfl]
          obtain ⟨x, x1, x2⟩ := ihm (k + 1) (i + szR s[k]) (n + 1) (putM m s[k].Name (exT m s[k].Text)) a (st ++ [⟨i, false, exT m s[k].Text⟩]) (by omega) (by omega) (by omega) (by omega) (by omega) (hI.set hnm.1 (by omega))
          refine ⟨x, evaluate_run_execute_h3_l2_eq ?_, x2⟩
          simp only [evaluate_run_execute_h3_l2_t, brE_if, gdE_if, EC.decL_encL, EC.isL_encL, EC.encL_length, isE_50, at_50_0, at_50_1, at_50_2, at_50_3, at_50_4, at_50_5, at_50_6, at_50_7, at_50_8, at_50_9, at_50_10, at_50_11, at_50_12, all_45, apd_45, e1, e0, if_true, Int.toNat_natCast, hd2, Bool.and_self, getD_in hlt, c1, c2, c3, Bool.false_eq_true, if_false, hex, e_note, Option.bind_some, g1, g2, g3, hcT, hcE, w3, w4, w5, e2]
          exact x1
        · have c3 : (s[k].Kind == 3) = false := by simpa using k3
          rw [if_neg k3]
          simp only [Bool.false_eq_true, if_false]
          refine ⟨.inl (false, e_st f rc e fs bd sz a.length m a), evaluate_run_execute_h3_l2_eq ?_, rfl⟩
          simp only [evaluate_run_execute_h3_l2_t, brE_if, gdE_if, EC.decL_encL, EC.isL_encL, EC.encL_length, isE_50, at_50_0, at_50_1, at_50_2, at_50_3, at_50_4, at_50_5, at_50_6, at_50_7, at_50_8, at_50_9, at_50_10, at_50_11, at_50_12, all_45, apd_45, e1, e0, if_true, Int.toNat_natCast, hd2, Bool.and_self, getD_in hlt, c1, c2, c3, Bool.false_eq_true, if_false, e_note, Option.bind_some, e_st]
theorem e_exec_s (hH : HdrOk fs) (hE : envB f rc) : ∀ (q : Nat) (s : List S50), szL s = q → s.length ≤ big → okL s → okvL s → e_execAt f rc e fs bd sz s := by
  intro q
  induction q using Nat.strongRecOn with
  | _ q ihq =>
    intro s hq hl ho hv i n m a st h0 h1 h2 h3 hI
    subst hq
    have hT : ∀ r ∈ s, r.Kind = 1 → ∀ na ac, e_testAt f rc e fs bd sz na ac (tOf r) := fun r hr hk na ac => by
      have hok := ((okR_eq r).1 (okL_get ho hr)).1
      have hvt := okvR_test (okvR hv hr).1 (by simpa using hk)
      have hin := (okvT_head hvt).2
      refine e_test_s f rc e fs bd sz na ac hH hE _ (tOf r) rfl hok hvt ?_
      unfold innerB at hin
      split at hin
      · have : (tOf r).Tests.length = 1 := by simpa using hin
        omega
      · split at hin
        · simp at hin; omega
        · have : (tOf r).Tests.length = 0 := by simpa using hin
          omega
    obtain ⟨x, x1, x2⟩ := e_exec_loop f rc e fs bd sz s hl ho hv (fun r hr hk => ⟨hT r hr hk 0 [], hT r hr hk⟩) (fun r hr => by
      obtain ⟨_, ⟨ht1, ht2⟩, ⟨he1, he2⟩, _⟩ := (okR_eq r).1 (okL_get ho hr)
      obtain ⟨_, hvt, hve⟩ := okvR hv hr
      exact ⟨ihq (szL r.Then) (sz_then hr) r.Then rfl ht1 ht2 hvt, ihq (szL r.Else) (sz_else hr) r.Else rfl he1 he2 hve⟩) s.length 0 i n m a st (by omega) h0 (by rw [List.drop_zero]; exact h1) (by rw [List.drop_zero]; exact h2) (by rw [List.drop_zero]; exact h3) hI
    rw [List.drop_zero] at x2
    have x1 : evaluate_run_execute_h3_l2 i s s.length 0 f rc e fs bd sz a.length m a = some x := x1
    refine evaluate_run_execute_h3_eq ?_
    simp only [evaluate_run_execute_h3_t, gdE_if, EC.decL_encL, EC.isL_encL, EC.encL_length, if_true, x1, Option.bind_some]
    generalize exL f rc fs sz s i m a st = v at x2
    obtain ⟨vb, vm, va, vs⟩ := v
    rcases x with x | x
    · simp only [Sum.elim_inl] at x2 ⊢
      injection x2 with y1 y2
      rw [y2, y1]
    · simp only [Sum.elim_inr] at x2 ⊢
      injection x2 with y1 y2
      rw [y2]
      have y1 : true = vb := y1
      rw [← y1]
end
end Go.Proofs.YtokahibbkdbndaaGreatDoor
namespace Go.Proofs.YtokahibbkdbndaaGreatDoor
open Go.RowKit
def dB (k : Int) : Bool := k != 6 && k != 7
theorem dec_loop (l : List S45) (hl : l.length ≤ big) : ∀ m k, k + m = l.length → ∃ x, evaluate_Decided_l2 l l.length k = some x ∧ Sum.elim (fun r => r.1) (fun _ => false) x = (l.drop k).any fun a => dB a.Kind := by
  intro m
  induction m with
  | zero =>
    intro k hk
    have hk : k = l.length := by omega
    subst hk
    refine ⟨.inr ((l, ((l.length : Int), ((l.length : Int), false))), ()), evaluate_Decided_l2_eq (by
      simp only [evaluate_Decided_l2_t, brE_if, gdE_if, EC.decL_encL, EC.isL_encL, EC.encL_length, isE_45, at_45_0]
      simp), ?_⟩
    rw [List.drop_length]; rfl
  | succ m ihm =>
    intro k hk
    have hlt : k < l.length := by omega
    have e1 : decide ((k : Int) < (l.length : Int)) = true := by simp; omega
    have e0 : decide ((0 : Int) ≤ (k : Int)) = true := by simp
    have e2 : IntKind.i64.wrap ((k : Int) + 1) = ((k + 1 : Nat) : Int) := wr_nat hlt (by unfold big at hl; omega)
    have hd2 : decide (k < l.length) = true := by simp [hlt]
    obtain ⟨x, h1, h2⟩ := ihm (k + 1) (by omega)
    rw [drop_at hlt, List.any_cons, dB]
    cases h6 : (l[k].Kind != 6) with
    | false =>
      refine ⟨x, evaluate_Decided_l2_eq ?_, by rw [Bool.false_and, Bool.false_or]; exact h2⟩
      simp only [evaluate_Decided_l2_t, brE_if, gdE_if, EC.decL_encL, EC.isL_encL, EC.encL_length, isE_45, at_45_0, e1, e0, if_true, Int.toNat_natCast, hd2, Bool.and_self, getD_in hlt, h6, Bool.false_eq_true, if_false, e2, show (false == true) = false from rfl]
      exact h1
    | true =>
    cases h7 : (l[k].Kind != 7) with
    | false =>
      refine ⟨x, evaluate_Decided_l2_eq ?_, by rw [Bool.true_and, Bool.false_or]; exact h2⟩
      simp only [evaluate_Decided_l2_t, brE_if, gdE_if, EC.decL_encL, EC.isL_encL, EC.encL_length, isE_45, at_45_0, e1, e0, if_true, Int.toNat_natCast, hd2, Bool.and_self, getD_in hlt, h6, h7, Bool.false_eq_true, if_false, e2, beq_self_eq_true]
      exact h1
    | true =>
      refine ⟨.inl (true, ()), evaluate_Decided_l2_eq ?_, rfl⟩
      simp only [evaluate_Decided_l2_t, brE_if, gdE_if, EC.decL_encL, EC.isL_encL, EC.encL_length, isE_45, at_45_0, e1, e0, if_true, Int.toNat_natCast, hd2, Bool.and_self, getD_in hlt, h6, h7, beq_self_eq_true]
theorem decided_ok (l : List S45) (hl : l.length ≤ big) : evaluate_Decided_s l = some (l.any fun a => dB a.Kind) := by
  obtain ⟨x, h1, h2⟩ := dec_loop l hl l.length 0 (by omega)
  have h1 : evaluate_Decided_l2 l l.length 0 = some x := h1
  rw [List.drop_zero] at h2
  refine evaluate_Decided_eq ?_
  simp only [evaluate_Decided_t, gdE_if, EC.decL_encL, EC.isL_encL, EC.encL_length, if_true, h1, Option.bind_some, ← h2]
  rcases x with x | x <;> rfl
/-- the actions, with a keep if nothing else decides -/
def finA (a : List S45) : List S45 := if (a.any fun x => dB x.Kind) = true then a else a ++ [⟨1, noTx, 0⟩]
/-- a script and a mail of sizes that the model holds -/
structure MOk (s : List S50) (f : ByteArray) (rc : List S118) (bd : List Int) : Prop where
  len : s.length ≤ big
  ok : okL s
  fr : f.size ≤ 2000000
  rl : rc.length ≤ 2000000
  ad : ∀ x ∈ rc, x.Address.size ≤ 2000000
  bl : bd.length ≤ 2000000
noncomputable def envF (f : ByteArray) (rc : List S118) (e : ByteArray) : Int × Int := (envelope_Validate_s f rc e).getD (0, 0)
noncomputable def msgF (fs : List S55) (bd : List Int) : (Nat × (Int × Int)) × List Int := (message_Write_s fs bd).getD ((0, (0, 0)), [])
theorem envF_s {s : List S50} {f : ByteArray} {rc : List S118} {bd : List Int} (h : MOk s f rc bd) (e : ByteArray) : envelope_Validate_s f rc e = some (envF f rc e) ∧ ((envF f rc e).1 = 0 → envB f rc) := by
  obtain ⟨r, e1, h1⟩ := env_ok f rc e h.fr h.rl h.ad
  unfold envF
  rw [e1]
  exact ⟨rfl, h1⟩
theorem msgF_s (fs : List S55) {bd : List Int} (h : bd.length ≤ 2000000) : message_Write_s fs bd = some (msgF fs bd) ∧ ((msgF fs bd).1.2.1 = 0 → HdrOk fs) ∧ (msgF fs bd).1.1 = (msgF fs bd).2.length := by
  obtain ⟨r, e1, h1, h2⟩ := msgW_ok fs bd h
  unfold msgF
  rw [e1]
  exact ⟨rfl, h1, h2⟩
/-- the fault of a run -/
noncomputable def runF (s : List S50) (f : ByteArray) (rc : List S118) (e : ByteArray) (fs : List S55) (bd : List Int) : Int × Int :=
  if (scriptF s).1 ≠ 0 then scriptF s else if (envF f rc e).1 ≠ 0 then ((envF f rc e).1, -3) else if (msgF fs bd).1.2.1 ≠ 0 then ((msgF fs bd).1.2.1, -2) else (0, 0)
/-- the run itself -/
noncomputable def theRun (s : List S50) (f : ByteArray) (rc : List S118) (fs : List S55) (bd : List Int) : Bool × MM × List S45 × List S62 := exL f rc fs (((msgF fs bd).1.1 : Nat) : Int) s 0 [] [] []
noncomputable def runA (s : List S50) (f : ByteArray) (rc : List S118) (e : ByteArray) (fs : List S55) (bd : List Int) : List S45 := if (runF s f rc e fs bd).1 ≠ 0 then [] else finA (theRun s f rc fs bd).2.2.1
theorem runF_0 {s : List S50} {f : ByteArray} {rc : List S118} {e : ByteArray} {fs : List S55} {bd : List Int} (h : (runF s f rc e fs bd).1 = 0) : (scriptF s).1 = 0 ∧ (envF f rc e).1 = 0 ∧ (msgF fs bd).1.2.1 = 0 := by
  unfold runF at h
  split at h
  · rename_i h0; exact absurd h h0
  · rename_i h0
    split at h
    · rename_i h1; exact absurd h h1
    · rename_i h1
      split at h
      · rename_i h2; exact absurd h h2
      · rename_i h2
        exact ⟨by simpa using h0, by simpa using h1, by simpa using h2⟩
theorem val_ok {s : List S50} (h : (scriptF s).1 = 0) : okvL s ∧ szL s ≤ 100 := by
  obtain ⟨m, m1, m2, m3⟩ := script_ok h
  exact ⟨⟨0, 1, m, by omega, m1⟩, m3⟩
theorem theRun_ok {s : List S50} (f : ByteArray) (rc : List S118) (fs : List S55) (bd : List Int) (h : (scriptF s).1 = 0) : exP 0 [] [] (szL s) (theRun s f rc fs bd) := exL_inv f rc fs _ (szL s) s rfl (val_ok h).1 0 0 [] [] [] Inv.nil
theorem e_noted_s {s : List S50} {f : ByteArray} {rc : List S118} {bd : List Int} (h : MOk s f rc bd) (e : ByteArray) (fs : List S55) :
    evaluate_Noted_h2 s f rc e fs bd = some (((runA s f rc e fs bd).length, runF s f rc e fs bd), (((runA s f rc e fs bd).length, runF s f rc e fs bd), runA s f rc e fs bd)) := by
  have hv := validate_s s h.len h.ok
  obtain ⟨he1, he2⟩ := envF_s h e
  obtain ⟨hm1, hm2, hm3⟩ := msgF_s fs h.bl
  refine evaluate_Noted_h2_eq ?_
  simp only [evaluate_Noted_h2_t, brE_if, gdE_if, EC.decL_encL, EC.isL_encL, all_45, apd_45, EC_nilD, if_true, hv, Option.bind_some, failed_s, fault_s, none_s]
  by_cases h1 : (scriptF s).1 = 0
  · have c1 : ((scriptF s).1 != 0) = false := by simpa using h1
    simp only [c1, Bool.false_eq_true, if_false, he1, Option.bind_some]
    by_cases h2 : (envF f rc e).1 = 0
    · have c2 : ((envF f rc e).1 != 0) = false := by simpa using h2
      simp only [c2, Bool.false_eq_true, if_false, hm1, Option.bind_some]
      by_cases h3 : (msgF fs bd).1.2.1 = 0
      · have c3 : ((msgF fs bd).1.2.1 != 0) = false := by simpa using h3
        have hF : runF s f rc e fs bd = (0, 0) := by unfold runF; rw [if_neg (by simp [h1]), if_neg (by simp [h2]), if_neg (by simp [h3])]
        obtain ⟨hvl, h100⟩ := val_ok h1
        have hx := e_exec_s f rc e fs bd (((msgF fs bd).1.1 : Nat) : Int) (hm2 h3) (he2 h2) _ s rfl h.len h.ok hvl 0 0 [] [] [] (by omega) (by omega) (by omega) (by simp; omega) Inv.nil
        have hx : evaluate_run_execute_h3 s 0 f rc e fs bd (((msgF fs bd).1.1 : Nat) : Int) 0 [] [] = some ((theRun s f rc fs bd).1, ((theRun s f rc fs bd).1, e_st f rc e fs bd (((msgF fs bd).1.1 : Nat) : Int) (theRun s f rc fs bd).2.2.1.length (theRun s f rc fs bd).2.1 (theRun s f rc fs bd).2.2.1)) := hx
        have hinv := theRun_ok f rc fs bd h1
        obtain ⟨_, hal, _⟩ := hinv
        simp only [List.length_nil, Nat.zero_add] at hal
        have hA : runA s f rc e fs bd = finA (theRun s f rc fs bd).2.2.1 := by unfold runA; rw [hF, if_neg (by simp)]
        rw [hF, hA]
        simp only [c3, Bool.false_eq_true, if_false, hx, Option.bind_some, e_st]
        generalize (theRun s f rc fs bd).2.2.1 = a at hal
        have hd := decided_ok a (by unfold big; omega)
        simp only [hd, Option.bind_some]
        unfold finA
        cases hb : a.any fun x => dB x.Kind with
        | true => simp
        | false =>
          have g1 : decide ((a.length + 1 + (a.length + 1) / 4 + 192) * 32 ≤ 281474976710656) = true := decide_eq_true (by omega)
          have g2 : decide (a.length + 1 ≤ 9223372036854775807) = true := decide_eq_true (by omega)
          simp only [Bool.not_false, if_true, List.all_cons, List.all_nil, List.length_cons, List.length_nil, Nat.zero_add, beq_self_eq_true, Bool.and_self, g1, g2, Bool.false_eq_true, if_false, List.length_append]
          rfl
      · have c3 : ((msgF fs bd).1.2.1 != 0) = true := by simpa using h3
        have hF : runF s f rc e fs bd = ((msgF fs bd).1.2.1, -2) := by unfold runF; rw [if_neg (by simp [h1]), if_neg (by simp [h2]), if_pos h3]
        have hA : runA s f rc e fs bd = [] := by unfold runA; rw [hF, if_pos h3]
        rw [hF, hA]
        simp only [c3, if_true, List.length_nil]
    · have c2 : ((envF f rc e).1 != 0) = true := by simpa using h2
      have hF : runF s f rc e fs bd = ((envF f rc e).1, -3) := by unfold runF; rw [if_neg (by simp [h1]), if_pos h2]
      have hA : runA s f rc e fs bd = [] := by unfold runA; rw [hF, if_pos h2]
      rw [hF, hA]
      simp only [c2, if_true, List.length_nil]
  · have c1 : ((scriptF s).1 != 0) = true := by simpa using h1
    have hF : runF s f rc e fs bd = scriptF s := by unfold runF; rw [if_pos h1]
    have hA : runA s f rc e fs bd = [] := by unfold runA; rw [hF, if_pos h1]
    rw [hF, hA]
    simp only [c1, if_true, List.length_nil]
theorem run_s {s : List S50} {f : ByteArray} {rc : List S118} {bd : List Int} (h : MOk s f rc bd) (e : ByteArray) (fs : List S55) :
    evaluate_Run_s s f rc e fs bd = some (((runA s f rc e fs bd).length, runF s f rc e fs bd), runA s f rc e fs bd) := by
  refine evaluate_Run_eq ?_
  simp only [evaluate_Run_t, gdE_if, EC.decL_encL, EC.isL_encL, if_true, e_noted_s h e fs, Option.bind_some]
end Go.Proofs.YtokahibbkdbndaaGreatDoor
namespace Go.Proofs.YtokahibbkdbndaaGreatDoor
open Go.RowKit
set_option maxRecDepth 100000
noncomputable section
end
end Go.Proofs.YtokahibbkdbndaaGreatDoor
namespace Go.Proofs.YtokahibbkdbndaaGreatDoor
open Go.RowKit
set_option maxRecDepth 1000000 in
theorem evd_run : callD Tryz.prog (fzL lv) X0.c (execD Tryz.prog lv X0 200) 16 [] = some (.c (.bool true), []) := by kernel_rfl
def evd_ca : Cod (List V) Unit := lNil
def evd_cr : Cod (V × List B) Bool := cFstU (cPair (vC cBool) lNil)
def evdS : Option Bool := some true
theorem evd_call (x : Unit) (r : Bool) (h : evdS = some r) : Call Tryz.prog lv X0 16 (evd_ca.enc x) = some (evd_cr.enc r) := by
  cases r with
  | true => exact Call_fuel evd_run
  | false => unfold evdS at h; cases h
noncomputable def evd_e : Ent Tryz.prog lv X0 := entS Tryz.prog lv X0 16 [] evd_ca evd_cr (fun _ => evdS) evd_call
noncomputable def tabk : List (Ent Tryz.prog lv X0) := evd_e :: tab_evaluate_Run
end Go.Proofs.YtokahibbkdbndaaGreatDoor
namespace Go.Proofs.YtokahibbkdbndaaGreatDoor
open Go.RowKit
set_option maxRecDepth 100000
noncomputable section
def posthouselaw6_EvaluateDecides_ca : Cod (List V) ((List S50) × (ByteArray × (List S118) × ByteArray × (List S55) × (List Int))) := (lCons (vC (cSl ec_50)) (lOne (vAgg (lCons (vC cStr) (lCons (vC (cSl ec_118)) (lCons (vC cStr) (lCons (vC (cSl ec_55)) (lOne (vC (cSl ec_5))))))))))
def posthouselaw6_EvaluateDecides_l6_s : SC ((Nat × Int × Int) × (List S45)) := sLS [5, 7, 8] (lCons (vRow 0) (lCons (vC (cInt .i64)) (lOne (vC (cInt .i64))))) (lOne (oSome (bRow ec_45))) [false] [] (by decide) (fun _ => rfl)
def posthouselaw6_EvaluateDecides_l6_o2 : SC ((Nat × Int × Int × Bool) × (List S45)) := sLS [5, 7, 8, 22] (lCons (vRow 0) (lCons (vC (cInt .i64)) (lCons (vC (cInt .i64)) (lOne (vC cBool))))) (lOne (oSome (bRow ec_45))) [false] [] (by decide) (fun _ => rfl)
def posthouselaw6_EvaluateDecides_l6_o : OC ((Nat × Int × Int × Bool) × (List S45)) := oAt 2 posthouselaw6_EvaluateDecides_l6_o2
def posthouselaw6_EvaluateDecides_l6 (l : Nat) (n : Int) (i : Int) (b0 : (List S45)) : Option ((Nat × Int × Int × Bool) × (List S45)) := lS Tryz.prog lv X0 4 38 (getLoop (cdF Tryz.f4) 6) posthouselaw6_EvaluateDecides_l6_s posthouselaw6_EvaluateDecides_l6_o ((l, n, i), b0)
def posthouselaw6_EvaluateDecides_l6_t (l : Nat) (n : Int) (i : Int) (b0 : (List S45)) : Option ((Nat × Int × Int × Bool) × (List S45)) :=
 (brE (decide (i < ((l : Nat) : Int)))
 (gdE ((decide ((0 : Int) ≤ i)) && (decide (i < ((l : Nat) : Int)))) <|
 (gdE ((decide ((Int.toNat i) < (List.length (EC.encL ec_45 b0)))) && ((List.length (List.getD (EC.encL ec_45 b0) (Int.toNat i) [])) == (3 : Nat))) <|
 (gdE (isP [(K1.int Go.IntKind.i64)] (0 : Nat) (List.getD (EC.encL ec_45 b0) (Int.toNat i) [])) <|
 (Option.bind (posthouseref6_Decides_s (intOf (List.getD (List.getD (EC.encL ec_45 b0) (Int.toNat i) []) (0 : Nat) C.ne))) fun r0 =>
 (brE r0
 (gdE (EC.isL ec_45 (EC.encL ec_45 b0)) <|
 (posthouselaw6_EvaluateDecides_l6 l (IntKind.wrap .i64 (n + (1 : Int))) (IntKind.wrap .i64 (i + (1 : Int))) (EC.decL ec_45 (EC.encL ec_45 b0))))
 (gdE (EC.isL ec_45 (EC.encL ec_45 b0)) <|
 (posthouselaw6_EvaluateDecides_l6 l n (IntKind.wrap .i64 (i + (1 : Int))) (EC.decL ec_45 (EC.encL ec_45 b0)))))))))
 (gdE (EC.isL ec_45 (EC.encL ec_45 b0)) <|
 (some ((l, (n, (i, false))), (EC.decL ec_45 (EC.encL ec_45 b0))))))
theorem posthouselaw6_EvaluateDecides_l6_eq {l : Nat} {n : Int} {i : Int} {b0 : (List S45)} {r : ((Nat × Int × Int × Bool) × (List S45))} (h : posthouselaw6_EvaluateDecides_l6_t l n i b0 = some r) : posthouselaw6_EvaluateDecides_l6 l n i b0 = some r :=
  lS_tree (es := tabk) (hs := htab_evaluate_Run_1_h7) [] (by kernel_rfl) trivial trivial (by kernel_rfl) h
def posthouselaw6_EvaluateDecides_l6_e : LEnt Tryz.prog lv X0 4 38 := lentS Tryz.prog lv X0 6 (getLoop (cdF Tryz.f4) 6) posthouselaw6_EvaluateDecides_l6_s posthouselaw6_EvaluateDecides_l6_o (fun x => posthouselaw6_EvaluateDecides_l6 x.1.1 x.1.2.1 x.1.2.2 x.2) (fun _ _ h => lS_from h)
def posthouselaw6_EvaluateDecides_cr : Cod (V × List B) Bool := (cFstU (cPair (vC cBool) lNil))
def posthouselaw6_EvaluateDecides_s (s : (List S50)) (m_Envelope_From : ByteArray) (m_Envelope_To : (List S118)) (m_Envelope_Id : ByteArray) (m_Message_Fields : (List S55)) (m_Message_Body : (List Int)) : Option Bool := fS Tryz.prog lv X0 4 posthouselaw6_EvaluateDecides_ca posthouselaw6_EvaluateDecides_cr (s, (m_Envelope_From, m_Envelope_To, m_Envelope_Id, m_Message_Fields, m_Message_Body))
def posthouselaw6_EvaluateDecides_t (s : (List S50)) (m_Envelope_From : ByteArray) (m_Envelope_To : (List S118)) (m_Envelope_Id : ByteArray) (m_Message_Fields : (List S55)) (m_Message_Body : (List Int)) : Option Bool :=
 (gdE (EC.isL ec_50 (EC.encL ec_50 s)) <|
 (gdE (EC.isL ec_118 (EC.encL ec_118 m_Envelope_To)) <|
 (gdE (EC.isL ec_55 (EC.encL ec_55 m_Message_Fields)) <|
 (gdE (EC.isL ec_5 (EC.encL ec_5 m_Message_Body)) <|
 (Option.bind (evaluate_Run_s (EC.decL ec_50 (EC.encL ec_50 s)) m_Envelope_From (EC.decL ec_118 (EC.encL ec_118 m_Envelope_To)) m_Envelope_Id (EC.decL ec_55 (EC.encL ec_55 m_Message_Fields)) (EC.decL ec_5 (EC.encL ec_5 m_Message_Body))) fun r0 =>
 (brE ((((r0).1).2).1 != 0)
 (some true)
 (gdE (EC.isL ec_45 (EC.encL ec_45 (r0).2)) <|
 (Option.bind (posthouselaw6_EvaluateDecides_l6 ((r0).1).1 (0 : Int) (0 : Int) (EC.decL ec_45 (EC.encL ec_45 (r0).2))) fun r1 =>
 (brE ((decide ((((r1).1).2).1 > (0 : Int))) == true)
 (some true)
 (some false))))))))))
theorem posthouselaw6_EvaluateDecides_eq {s : (List S50)} {m_Envelope_From : ByteArray} {m_Envelope_To : (List S118)} {m_Envelope_Id : ByteArray} {m_Message_Fields : (List S55)} {m_Message_Body : (List Int)} {r : Bool} (h : posthouselaw6_EvaluateDecides_t s m_Envelope_From m_Envelope_To m_Envelope_Id m_Message_Fields m_Message_Body = some r) : posthouselaw6_EvaluateDecides_s s m_Envelope_From m_Envelope_To m_Envelope_Id m_Message_Fields m_Message_Body = some r :=
  fS_tree (es := tabk) (hs := htab_evaluate_Run_1_h7) [posthouselaw6_EvaluateDecides_l6_e] Tryz.func4 rfl (by kernel_rfl) rfl (by kernel_rfl) (by kernel_rfl) ⟨⟨_, rfl, rfl⟩, trivial⟩ trivial (by kernel_rfl) h
end
end Go.Proofs.YtokahibbkdbndaaGreatDoor
namespace Go.Proofs.YtokahibbkdbndaaGreatDoor
open Go.RowKit
theorem decides_s (k : Int) : posthouseref6_Decides_s k = some (dB k) := by
  refine posthouseref6_Decides_eq ?_
  simp only [posthouseref6_Decides_t, brE_if, dB]
  cases (k != 6) <;> rfl
def nD (l : List S45) : Nat := (l.filter fun x => dB x.Kind).length
theorem nD_cons (x : S45) (l : List S45) : nD (x :: l) = (if dB x.Kind = true then 1 else 0) + nD l := by
  unfold nD
  rw [List.filter_cons]
  split <;> simp <;> omega
theorem cntD_loop (l : List S45) (hl : l.length ≤ 10000) : ∀ (m k : Nat) (n : Nat), k + m = l.length → n ≤ k → ∃ x, posthouselaw6_EvaluateDecides_l6 l.length n k l = some x ∧ x.1.2.1 = ((n + nD (l.drop k) : Nat) : Int) := by
  intro m
  induction m with
  | zero =>
    intro k n hk hn
    have hk : k = l.length := by omega
    subst hk
    refine ⟨((l.length, ((n : Int), ((l.length : Int), false))), l), posthouselaw6_EvaluateDecides_l6_eq (by
      simp only [posthouselaw6_EvaluateDecides_l6_t, brE_if, gdE_if, EC.decL_encL, EC.isL_encL, EC.encL_length, at_45_0]
      simp), ?_⟩
    rw [List.drop_length]; rfl
  | succ m ih =>
    intro k n hk hn
    have hlt : k < l.length := by omega
    have e1 : decide ((k : Int) < (l.length : Int)) = true := by simp; omega
    have e0 : decide ((0 : Int) ≤ (k : Int)) = true := by simp
    have e2 : IntKind.i64.wrap ((k : Int) + 1) = ((k + 1 : Nat) : Int) := wr_nat hlt (by omega)
    have e3 : IntKind.i64.wrap ((n : Int) + 1) = ((n + 1 : Nat) : Int) := wr_nat (n := 100000) (by omega) (by omega)
    have hd2 : decide (k < l.length) = true := by simp [hlt]
    have hlen : (((ec_45.encL l).getD k []).length == 3) = true := by rw [EC.getD_lt _ _ hlt]; rfl
    have hisP : isP [(K1.int Go.IntKind.i64)] 0 ((ec_45.encL l).getD k []) = true := by rw [EC.getD_lt _ _ hlt]; rfl
    rw [drop_at hlt, nD_cons]
    cases hb : dB l[k].Kind with
    | true =>
      obtain ⟨x, x1, x2⟩ := ih (k + 1) (n + 1) (by omega) (by omega)
      refine ⟨x, posthouselaw6_EvaluateDecides_l6_eq ?_, by rw [x2, if_pos rfl]; congr 1; omega⟩
      simp only [posthouselaw6_EvaluateDecides_l6_t, brE_if, gdE_if, EC.decL_encL, EC.isL_encL, EC.encL_length, at_45_0, e1, e0, if_true, Int.toNat_natCast, hd2, Bool.and_self, hlen, hisP, getD_in hlt, decides_s, hb, Option.bind_some, e2, e3]
      exact x1
    | false =>
      obtain ⟨x, x1, x2⟩ := ih (k + 1) n (by omega) (by omega)
      refine ⟨x, posthouselaw6_EvaluateDecides_l6_eq ?_, by rw [x2, if_neg Bool.false_ne_true]; congr 1; omega⟩
      simp only [posthouselaw6_EvaluateDecides_l6_t, brE_if, gdE_if, EC.decL_encL, EC.isL_encL, EC.encL_length, at_45_0, e1, e0, if_true, Int.toNat_natCast, hd2, Bool.and_self, hlen, hisP, getD_in hlt, decides_s, hb, Option.bind_some, Bool.false_eq_true, if_false, e2]
      exact x1
theorem finA_len (a : List S45) : (finA a).length ≤ a.length + 1 := by
  unfold finA
  split <;> simp
theorem finA_any (a : List S45) : ((finA a).any fun x => dB x.Kind) = true := by
  unfold finA
  split
  · rename_i h; exact h
  · rw [List.any_append]
    simp [dB]
theorem nD_pos {l : List S45} (h : (l.any fun x => dB x.Kind) = true) : 0 < nD l := by
  obtain ⟨x, hx, hb⟩ := List.any_eq_true.1 h
  exact List.length_pos_of_mem (List.mem_filter.2 ⟨hx, hb⟩)
theorem runA_len {s : List S50} {f : ByteArray} {rc : List S118} {e : ByteArray} {fs : List S55} {bd : List Int} : (runA s f rc e fs bd).length ≤ 101 := by
  unfold runA
  split
  · simp
  · rename_i h
    have h0 := runF_0 (s := s) (f := f) (rc := rc) (e := e) (fs := fs) (bd := bd) (by simpa using h)
    obtain ⟨_, h2, _⟩ := theRun_ok f rc fs bd h0.1
    have := finA_len (theRun s f rc fs bd).2.2.1
    have := (val_ok h0.1).2
    simp only [List.length_nil, Nat.zero_add] at h2
    omega
theorem decidesLaw {s : List S50} {f : ByteArray} {rc : List S118} {bd : List Int} (h : MOk s f rc bd) (e : ByteArray) (fs : List S55) : posthouselaw6_EvaluateDecides_s s f rc e fs bd = some true := by
  refine posthouselaw6_EvaluateDecides_eq ?_
  have hlen := runA_len (s := s) (f := f) (rc := rc) (e := e) (fs := fs) (bd := bd)
  obtain ⟨x, x1, x2⟩ := cntD_loop (runA s f rc e fs bd) (by omega) (runA s f rc e fs bd).length 0 0 (by omega) (Nat.le_refl _)
  have x1 : posthouselaw6_EvaluateDecides_l6 (runA s f rc e fs bd).length 0 0 (runA s f rc e fs bd) = some x := x1
  rw [List.drop_zero, Nat.zero_add] at x2
  simp only [posthouselaw6_EvaluateDecides_t, brE_if, gdE_if, EC.decL_encL, EC.isL_encL, if_true, run_s h e fs, Option.bind_some, x1, x2]
  by_cases hF : (runF s f rc e fs bd).1 = 0
  · have hA : runA s f rc e fs bd = finA (theRun s f rc fs bd).2.2.1 := by unfold runA; rw [hF, if_neg (by simp)]
    have hp : 0 < nD (runA s f rc e fs bd) := by rw [hA]; exact nD_pos (finA_any _)
    have hp' : decide (((nD (runA s f rc e fs bd) : Nat) : Int) > 0) = true := decide_eq_true (by omega)
    rw [hp']
    simp [hF]
  · simp [hF]
end Go.Proofs.YtokahibbkdbndaaGreatDoor
namespace Go.Proofs.YtokahibbkdbndaaGreatDoor
open Go.ChangeShapes Go.WideShapes Go.ChangeAt Go.RowKit Go.Deep
theorem Try_own : ownKnob Tryz.prog.godebug = none := by kernel_rfl
theorem Try_laid : laidOutB Tryz.prog = true := by kernel_rfl
section
variable {H : Type} {enc : TypeId × Value → H} {P : Program}
theorem trodAll_bel (hl : laidOutB P = true) {W W' : World} (hb : Bel W W') : ∀ {ts : List TypeId} {vs : List Value} {ds : List (DataW H)} {ps : List MemPlace}, ts.all (fun t => P.readableRec t && decide (t < P.types.size)) = true →
    DataW.TrodAll enc P W 0 (fun _ => true) true ts vs ds ps → (∀ x ∈ ps, x.block < W.heap.size) → DataW.TrodAll enc P W' 0 (fun b => decide (b < W.heap.size)) true ts vs ds ps
  | [], [], [], _, _, h, _ => h
  | [], [], _ :: _, _, _, h, _ => h.elim
  | [], _ :: _, _, _, _, h, _ => h.elim
  | _ :: _, [], _, _, _, h, _ => h.elim
  | _ :: _, _ :: _, [], _, _, h, _ => h.elim
  | t :: ts, v :: vs, d :: ds, ps, hr, h, hlt => by
    obtain ⟨p, q, h1, h2, rfl⟩ := h
    simp only [List.all_cons, Bool.and_eq_true, decide_eq_true_eq] at hr
    exact ⟨p, q, Below.trod hl hr.1.1 hr.1.2 h1 hb (fun x hx => hlt x (List.mem_append_left _ hx)), trodAll_bel hl hb hr.2 h2 (fun x hx => hlt x (List.mem_append_right _ hx)), rfl⟩
/-- A law that returned true and left memory as it was: its row's post. -/
theorem law_post {fn : Func} {s : ChangeSpec} {W W' : World} {args : Array Value} {ds gs : List (DataW H)} {before : List MemPlace} {tb : TypeId} (hl : laidOutB P = true)
    (hr : fn.params.toList.all (fun t => P.readableRec t && decide (t < P.types.size)) = true) (hrt : fn.resultTypes = #[tb]) (htb : P.underlying tb = some .bool) (hvars : s.vars = [])
    (hfn : s.fn H ds = { results := [.lit (.bool true)], args := ds })
    (hW : DataW.Whole enc P fn.params.toList s.vars false W args.toList ds gs before) (hb : Bel W W') : s.post enc P fn false true false false W args (.bool true) W' := by
  have hW' := hW
  have hlt : ∀ x ∈ before, x.block < W.heap.size := fun x hx => hW.lt x hx
  obtain ⟨p, q, hA, hV, rfl, hfz, hnd⟩ := hW
  rw [hvars] at hV
  obtain ⟨rfl, rfl⟩ := trodVars_none hV
  have e : s.fn H (ds ++ []) = { results := [.lit (.bool true)], args := ds } := by rw [List.append_nil]; exact hfn
  refine ⟨ds, [], p ++ [], [], p, [], hW', ?_, ?_, ?_, hb.frame _, fun h => by cases h⟩
  · rw [e, hrt]
    exact trodAll_mk1 (shut_bool htb true)
  · rw [e]
    exact trodAll_bel hl hb hr hA (fun x hx => hlt x (by simpa using hx))
  · rw [e, hvars]
    rfl
end
end Go.Proofs.YtokahibbkdbndaaGreatDoor
