/- evaluate.Run's execute is exL. -/
import Derived.Test.YtokahibbkdbndaaGreatDoorZ29
namespace Go.Proofs.YtokahibbkdbndaaGreatDoor
open Go.RowKit
theorem e_note (i : Int) (b : Bool) (s : ByteArray) : qcy i b s = some ((), ((), ())) := qd0 rfl
section
variable (f : ByteArray) (rc : List S118) (e : ByteArray) (fs : List S55) (bd : List Int) (sz : Int)
abbrev e_st (na : Nat) (m : MM) (a : List S45) := (((f, (rc, (e, (fs, (bd, (sz, ((), (na, ())))))))), (m, a)) : (ByteArray × (List S118) × ByteArray × (List S55) × (List Int) × Int × Unit × Nat × Unit) × MM × List S45)
def q9c (s : List S50) : Prop := ∀ (i : Int) (n : Nat) (m : MM) (a : List S45) (st : List S62), 0 ≤ i → i + szL s ≤ 1000 → n + szL s ≤ 1000 → a.length + szL s ≤ 1000 → Inv n m →
 qdb s i f rc e fs bd sz a.length m a = some ((exL f rc fs sz s i m a st).1, ((exL f rc fs sz s i m a st).1, e_st f rc e fs bd sz (exL f rc fs sz s i m a st).2.2.1.length (exL f rc fs sz s i m a st).2.1 (exL f rc fs sz s i m a st).2.2.1))
theorem q9d (s : List S50) (hl : s.length ≤ big) (ho : okL s) (hv : okvL s) (hT : ∀ r ∈ s, r.Kind = 1 → q9k f rc e fs bd sz 0 [] (tOf r) ∧ ∀ na ac, q9k f rc e fs bd sz na ac (tOf r)) (ihE : ∀ r ∈ s, q9c f rc e fs bd sz r.Then ∧ q9c f rc e fs bd sz r.Else) :
  ∀ (q k : Nat) (i : Int) (n : Nat) (m : MM) (a : List S45) (st : List S62), k + q = s.length → 0 ≤ i → i + szL (s.drop k) ≤ 1000 → n + szL (s.drop k) ≤ 1000 → a.length + szL (s.drop k) ≤ 1000 → Inv n m →
  ∃ x, qde i s s.length k f rc e fs bd sz a.length m a = some x ∧ Sum.elim (fun r => (r.1, r.2)) (fun r => (true, r.2)) x = ((exL f rc fs sz (s.drop k) i m a st).1, e_st f rc e fs bd sz (exL f rc fs sz (s.drop k) i m a st).2.2.1.length (exL f rc fs sz (s.drop k) i m a st).2.1 (exL f rc fs sz (s.drop k) i m a st).2.2.1) := by
 intro q
 induction q with
 | zero =>
  intro k i n m a st hk h0 h1 h2 h3 hI
  have hk : k = s.length := by omega
  subst hk
  refine ⟨.inr (((), (i, (s, ((s.length : Int), ((s.length : Int), false))))), e_st f rc e fs bd sz a.length m a), qdg (by
   simp only [qdl, brE_if, gdE_if, EC.decL_encL, EC.isL_encL, EC.encL_length, isE_50, q43, q44, q48, q49, q4a, q4b, q4c, q4d, q4e, q4f, q45, q46, q47, all_45, apd_45]
   simp), ?_⟩
  rw [List.drop_length, exL]; rfl
 | succ q ihm =>
  intro k i n m a st hk h0 h1 h2 h3 hI
  have hlt : k < s.length := by omega
  have e1 : decide ((k : Int) < (s.length : Int)) = true := by simp; omega
  have e0 : decide ((0 : Int) ≤ (k : Int)) = true := by simp
  have e2 : IntKind.i64.wrap ((k : Int) + 1) = ((k + 1 : Nat) : Int) := wr_nat hlt (by unfold big at hl; omega)
  have hd2 : decide (k < s.length) = true := by simp [hlt]
  have hmem : s[k] ∈ s := List.getElem_mem hlt
  have hdr : szL (s.drop k) = szR s[k] + szL (s.drop (k + 1)) := by rw [q99 hlt]; rfl
  rw [hdr] at h1 h2 h3
  have hsz := szR_eq s[k]
  obtain ⟨_, ⟨ht1, ht2⟩, ⟨he1, he2⟩, _⟩ := (okR_eq s[k]).1 (qpq ho hmem)
  obtain ⟨hh, hvt, hve⟩ := okvR hv hmem
  obtain ⟨hkk, htx, hvar, hnil⟩ := qu0 hh
  obtain ⟨iT, iE⟩ := ihE s[k] hmem
  have hcT := size_s s[k].Then ht1 ht2
  have hcE := size_s s[k].Else he1 he2
  rw [wr_in (by omega)] at hcT hcE
  have w1 : IntKind.i64.wrap (i + 1) = i + 1 := wr_in (by omega)
  have w2 : IntKind.i64.wrap (i + 1 + (szL s[k].Then : Int)) = i + 1 + szL s[k].Then := wr_in (by omega)
  have w3 : IntKind.i64.wrap (1 + (szL s[k].Then : Int)) = 1 + szL s[k].Then := wr_in (by omega)
  have w4 : IntKind.i64.wrap (1 + (szL s[k].Then : Int) + (szL s[k].Else : Int)) = 1 + szL s[k].Then + szL s[k].Else := wr_in (by omega)
  have w5 : IntKind.i64.wrap (i + (1 + (szL s[k].Then : Int) + (szL s[k].Else : Int))) = i + szR s[k] := by rw [wr_in (by omega)]; omega
  have hma : m.length ≤ 10000 := by have := hI.all; omega
  rw [q99 hlt, exL]
  by_cases k1 : s[k].Kind = 1
  ·have c1 : (s[k].Kind == 1) = true := by simpa using k1
   have ht : qej s[k].Test_Kind s[k].Test_Tests s[k].Test_Name s[k].Test_Pattern s[k].Test_Text s[k].Test_N f rc e fs bd sz a.length m a = _ := (hT s[k] hmem k1).2 a.length a n m (by omega) hI
   have hI2 := q121 f rc fs sz n (tOf s[k]) m hI
   rw [exR_eq, if_pos k1]
   generalize tsT f rc fs sz (tOf s[k]) m = u at ht hI2
   obtain ⟨ub, um⟩ := u
   cases ub with
   | true =>
    rw [if_pos rfl]
    have hp := iT (i + 1) n um a (st ++ [⟨i, true, noTx⟩]) (by omega) (by omega) (by omega) (by omega) hI2
    have hinv := qf8 f rc fs sz _ s[k].Then rfl hvt n (i + 1) um a (st ++ [⟨i, true, noTx⟩]) hI2
    generalize exL f rc fs sz s[k].Then (i + 1) um a (st ++ [⟨i, true, noTx⟩]) = v at hp hinv
    obtain ⟨vb, vm, va, vs⟩ := v
    obtain ⟨g1, g2, g3⟩ := hinv
    simp only at hp g1 g2 g3
    cases vb with
    | false =>
     simp only [Bool.false_eq_true, if_false]
     refine ⟨.inl (false, e_st f rc e fs bd sz va.length vm va), qdg ?_, rfl⟩
     simp only [qdl, brE_if, gdE_if, EC.decL_encL, EC.isL_encL, EC.encL_length, isE_50, q43, q44, q48, q49, q4a, q4b, q4c, q4d, q4e, q4f, q45, q46, q47, all_45, apd_45, e1, e0, if_true, Int.toNat_natCast, hd2, Bool.and_self, qiz hlt, c1, ht, e_note, Option.bind_some, Bool.not_true, Bool.not_false, Bool.false_eq_true, if_false, w1, hp, e_st]
    | true =>
     rw [if_pos rfl]
     obtain ⟨x, x1, x2⟩ := ihm (k + 1) (i + szR s[k]) (n + szL s[k].Then) vm va vs (by omega) (by omega) (by omega) (by omega) (by omega) g1
     refine ⟨x, qdg ?_, x2⟩
     simp only [qdl, brE_if, gdE_if, EC.decL_encL, EC.isL_encL, EC.encL_length, isE_50, q43, q44, q48, q49, q4a, q4b, q4c, q4d, q4e, q4f, q45, q46, q47, all_45, apd_45, e1, e0, if_true, Int.toNat_natCast, hd2, Bool.and_self, qiz hlt, c1, ht, e_note, Option.bind_some, Bool.not_true, Bool.false_eq_true, if_false, w1, hp, e_st, hcT, hcE, w3, w4, w5, e2]
     exact x1
   | false =>
    simp only [Bool.false_eq_true, if_false]
    have hp := iE (i + 1 + szL s[k].Then) n um a (st ++ [⟨i, false, noTx⟩]) (by omega) (by omega) (by omega) (by omega) hI2
    have hinv := qf8 f rc fs sz _ s[k].Else rfl hve n (i + 1 + szL s[k].Then) um a (st ++ [⟨i, false, noTx⟩]) hI2
    generalize exL f rc fs sz s[k].Else (i + 1 + szL s[k].Then) um a (st ++ [⟨i, false, noTx⟩]) = v at hp hinv
    obtain ⟨vb, vm, va, vs⟩ := v
    obtain ⟨g1, g2, g3⟩ := hinv
    simp only at hp g1 g2 g3
    cases vb with
    | false =>
     simp only [Bool.false_eq_true, if_false]
     refine ⟨.inl (false, e_st f rc e fs bd sz va.length vm va), qdg ?_, rfl⟩
     simp only [qdl, brE_if, gdE_if, EC.decL_encL, EC.isL_encL, EC.encL_length, isE_50, q43, q44, q48, q49, q4a, q4b, q4c, q4d, q4e, q4f, q45, q46, q47, all_45, apd_45, e1, e0, if_true, Int.toNat_natCast, hd2, Bool.and_self, qiz hlt, c1, ht, e_note, Option.bind_some, Bool.not_false, w1, hcT, w2, hp, e_st]
    | true =>
     rw [if_pos rfl]
     obtain ⟨x, x1, x2⟩ := ihm (k + 1) (i + szR s[k]) (n + szL s[k].Else) vm va vs (by omega) (by omega) (by omega) (by omega) (by omega) g1
     refine ⟨x, qdg ?_, x2⟩
     simp only [qdl, brE_if, gdE_if, EC.decL_encL, EC.isL_encL, EC.encL_length, isE_50, q43, q44, q48, q49, q4a, q4b, q4c, q4d, q4e, q4f, q45, q46, q47, all_45, apd_45, e1, e0, if_true, Int.toNat_natCast, hd2, Bool.and_self, qiz hlt, c1, ht, e_note, Option.bind_some, Bool.not_true, Bool.not_false, Bool.false_eq_true, if_false, w1, hcT, w2, hp, e_st, hcE, w3, w4, w5, e2]
     exact x1
  ·have c1 : (s[k].Kind == 1) = false := by simpa using k1
   obtain ⟨n1, n2⟩ := hnil k1
   have htx' := htx k1
   have hex := expP_s hI.val s[k].Text (by omega)
   have hxs := qfa m s[k].Text
   have hR1 : szR s[k] = 1 := by rw [hsz, n1, n2]; rfl
   rw [exR_eq, if_neg k1]
   by_cases k2 : s[k].Kind = 2
   ·have c2 : (s[k].Kind == 2) = true := by simpa using k2
    have g1 : decide ((a.length + 1 + (a.length + 1) / 4 + 192) * 32 ≤ 281474976710656) = true := decide_eq_true (by omega)
    have g2 : decide (a.length + 1 ≤ 9223372036854775807) = true := decide_eq_true (by omega)
    rw [if_pos k2, if_pos rfl]
    obtain ⟨x, x1, x2⟩ := ihm (k + 1) (i + szR s[k]) n m (a ++ [⟨s[k].Act, exT m s[k].Text, s[k].N⟩]) (st ++ [⟨i, false, exT m s[k].Text⟩]) (by omega) (by omega) (by omega) (by omega) (by simp; omega) hI
    rw [List.length_append] at x1
    refine ⟨x, qdg ?_, x2⟩
    simp only [qdl, brE_if, gdE_if, EC.decL_encL, EC.isL_encL, EC.encL_length, isE_50, q43, q44, q48, q49, q4a, q4b, q4c, q4d, q4e, q4f, q45, q46, q47, all_45, apd_45, e1, e0, if_true, Int.toNat_natCast, hd2, Bool.and_self, qiz hlt, c1, c2, Bool.false_eq_true, if_false, hex, e_note, Option.bind_some, List.all_cons, List.all_nil, List.length_cons, List.length_nil, Nat.zero_add, beq_self_eq_true, g1, g2, hcT, hcE, w3, w4, w5, e2]
    exact x1
   ·have c2 : (s[k].Kind == 2) = false := by simpa using k2
    rw [if_neg k2]
    by_cases k3 : s[k].Kind = 3
    ·have c3 : (s[k].Kind == 3) = true := by simpa using k3
     have hvb := hvar k3
     have hnm : s[k].Name.size ≠ 0 ∧ s[k].Name.size ≤ 60 := by
      unfold varB at hvb
      simp at hvb
      omega
     have g1 : decide (s[k].Name.size ≤ maxLen) = true := decide_eq_true (by unfold maxLen; omega)
     have g2 : decide ((exT m s[k].Text).size ≤ maxLen) = true := decide_eq_true (by unfold maxLen; omega)
     have g3 : decide (m.length < maxLen) = true := decide_eq_true (by unfold maxLen; omega)
     rw [if_pos k3, if_pos rfl]
     obtain ⟨x, x1, x2⟩ := ihm (k + 1) (i + szR s[k]) (n + 1) (putM m s[k].Name (exT m s[k].Text)) a (st ++ [⟨i, false, exT m s[k].Text⟩]) (by omega) (by omega) (by omega) (by omega) (by omega) (hI.set hnm.1 (by omega))
     refine ⟨x, qdg ?_, x2⟩
     simp only [qdl, brE_if, gdE_if, EC.decL_encL, EC.isL_encL, EC.encL_length, isE_50, q43, q44, q48, q49, q4a, q4b, q4c, q4d, q4e, q4f, q45, q46, q47, all_45, apd_45, e1, e0, if_true, Int.toNat_natCast, hd2, Bool.and_self, qiz hlt, c1, c2, c3, Bool.false_eq_true, if_false, hex, e_note, Option.bind_some, g1, g2, g3, hcT, hcE, w3, w4, w5, e2]
     exact x1
    ·have c3 : (s[k].Kind == 3) = false := by simpa using k3
     rw [if_neg k3]
     simp only [Bool.false_eq_true, if_false]
     refine ⟨.inl (false, e_st f rc e fs bd sz a.length m a), qdg ?_, rfl⟩
     simp only [qdl, brE_if, gdE_if, EC.decL_encL, EC.isL_encL, EC.encL_length, isE_50, q43, q44, q48, q49, q4a, q4b, q4c, q4d, q4e, q4f, q45, q46, q47, all_45, apd_45, e1, e0, if_true, Int.toNat_natCast, hd2, Bool.and_self, qiz hlt, c1, c2, c3, Bool.false_eq_true, if_false, e_note, Option.bind_some, e_st]
theorem q9e (hH : HdrOk fs) (hE : envB f rc) : ∀ (q : Nat) (s : List S50), szL s = q → s.length ≤ big → okL s → okvL s → q9c f rc e fs bd sz s := by
 intro q
 induction q using Nat.strongRecOn with
 | _ q ihq =>
  intro s hq hl ho hv i n m a st h0 h1 h2 h3 hI
  subst hq
  have hT : ∀ r ∈ s, r.Kind = 1 → ∀ na ac, q9k f rc e fs bd sz na ac (tOf r) := fun r hr hk na ac => by
   have hok := ((okR_eq r).1 (qpq ho hr)).1
   have hvt := qpv (okvR hv hr).1 (by simpa using hk)
   have hin := (qpx hvt).2
   refine q9l f rc e fs bd sz na ac hH hE _ (tOf r) rfl hok hvt ?_
   unfold innerB at hin
   split at hin
   ·have : (tOf r).Tests.length = 1 := by simpa using hin
    omega
   ·split at hin
    ·simp at hin; omega
    ·have : (tOf r).Tests.length = 0 := by simpa using hin
     omega
  obtain ⟨x, x1, x2⟩ := q9d f rc e fs bd sz s hl ho hv (fun r hr hk => ⟨hT r hr hk 0 [], hT r hr hk⟩) (fun r hr => by
   obtain ⟨_, ⟨ht1, ht2⟩, ⟨he1, he2⟩, _⟩ := (okR_eq r).1 (qpq ho hr)
   obtain ⟨_, hvt, hve⟩ := okvR hv hr
   exact ⟨ihq (szL r.Then) (qzt hr) r.Then rfl ht1 ht2 hvt, ihq (szL r.Else) (qzs hr) r.Else rfl he1 he2 hve⟩) s.length 0 i n m a st (by omega) h0 (by rw [List.drop_zero]; exact h1) (by rw [List.drop_zero]; exact h2) (by rw [List.drop_zero]; exact h3) hI
  rw [List.drop_zero] at x2
  have x1 : qde i s s.length 0 f rc e fs bd sz a.length m a = some x := x1
  refine qdd ?_
  simp only [qdp, gdE_if, EC.decL_encL, EC.isL_encL, EC.encL_length, if_true, x1, Option.bind_some]
  generalize exL f rc fs sz s i m a st = v at x2
  obtain ⟨vb, vm, va, vs⟩ := v
  rcases x with x | x
  ·simp only [Sum.elim_inl] at x2 ⊢
   injection x2 with y1 y2
   rw [y2, y1]
  ·simp only [Sum.elim_inr] at x2 ⊢
   injection x2 with y1 y2
   rw [y2]
   have y1 : true = vb := y1
   rw [← y1]
end
end Go.Proofs.YtokahibbkdbndaaGreatDoor
namespace Go.Proofs.YtokahibbkdbndaaGreatDoor
open Go.RowKit
def dB (k : Int) : Bool := k != 6 && k != 7
theorem q8v (l : List S45) (hl : l.length ≤ big) : ∀ m k, k + m = l.length → ∃ x, qch l l.length k = some x ∧ Sum.elim (fun r => r.1) (fun _ => false) x = (l.drop k).any fun a => dB a.Kind := by
 intro m
 induction m with
 | zero =>
  intro k hk
  have hk : k = l.length := by omega
  subst hk
  refine ⟨.inr ((l, ((l.length : Int), ((l.length : Int), false))), ()), qcj (by
   simp only [qco, brE_if, gdE_if, EC.decL_encL, EC.isL_encL, EC.encL_length, isE_45, q3u]
   simp), ?_⟩
  rw [List.drop_length]; rfl
 | succ m ihm =>
  intro k hk
  have hlt : k < l.length := by omega
  have e1 : decide ((k : Int) < (l.length : Int)) = true := by simp; omega
  have e0 : decide ((0 : Int) ≤ (k : Int)) = true := by simp
  have e2 : IntKind.i64.wrap ((k : Int) + 1) = ((k + 1 : Nat) : Int) := wr_nat hlt (by unfold big at hl; omega)
  have hd2 : decide (k < l.length) = true := by simp [hlt]
  obtain ⟨x, h1, h2⟩ := ihm (k + 1) (by omega)
  rw [q99 hlt, List.any_cons, dB]
  cases h6 : (l[k].Kind != 6) with
  | false =>
   refine ⟨x, qcj ?_, by rw [Bool.false_and, Bool.false_or]; exact h2⟩
   simp only [qco, brE_if, gdE_if, EC.decL_encL, EC.isL_encL, EC.encL_length, isE_45, q3u, e1, e0, if_true, Int.toNat_natCast, hd2, Bool.and_self, qiz hlt, h6, Bool.false_eq_true, if_false, e2, show (false == true) = false from rfl]
   exact h1
  | true =>
  cases h7 : (l[k].Kind != 7) with
  | false =>
   refine ⟨x, qcj ?_, by rw [Bool.true_and, Bool.false_or]; exact h2⟩
   simp only [qco, brE_if, gdE_if, EC.decL_encL, EC.isL_encL, EC.encL_length, isE_45, q3u, e1, e0, if_true, Int.toNat_natCast, hd2, Bool.and_self, qiz hlt, h6, h7, Bool.false_eq_true, if_false, e2, beq_self_eq_true]
   exact h1
  | true =>
   refine ⟨.inl (true, ()), qcj ?_, rfl⟩
   simp only [qco, brE_if, gdE_if, EC.decL_encL, EC.isL_encL, EC.encL_length, isE_45, q3u, e1, e0, if_true, Int.toNat_natCast, hd2, Bool.and_self, qiz hlt, h6, h7, beq_self_eq_true]
theorem q8z (l : List S45) (hl : l.length ≤ big) : qcp l = some (l.any fun a => dB a.Kind) := by
 obtain ⟨x, h1, h2⟩ := q8v l hl l.length 0 (by omega)
 have h1 : qch l l.length 0 = some x := h1
 rw [List.drop_zero] at h2
 refine qcg ?_
 simp only [qcq, gdE_if, EC.decL_encL, EC.isL_encL, EC.encL_length, if_true, h1, Option.bind_some, ← h2]
 rcases x with x | x <;> rfl
def finA (a : List S45) : List S45 := if (a.any fun x => dB x.Kind) = true then a else a ++ [⟨1, noTx, 0⟩]
structure MOk (s : List S50) (f : ByteArray) (rc : List S118) (bd : List Int) : Prop where
 len : s.length ≤ big
 ok : okL s
 fr : f.size ≤ 2000000
 rl : rc.length ≤ 2000000
 ad : ∀ x ∈ rc, x.Address.size ≤ 2000000
 bl : bd.length ≤ 2000000
noncomputable def envF (f : ByteArray) (rc : List S118) (e : ByteArray) : Int × Int := (qbs f rc e).getD (0, 0)
noncomputable def msgF (fs : List S55) (bd : List Int) : (Nat × (Int × Int)) × List Int := (qoa fs bd).getD ((0, (0, 0)), [])
theorem envF_s {s : List S50} {f : ByteArray} {rc : List S118} {bd : List Int} (h : MOk s f rc bd) (e : ByteArray) : qbs f rc e = some (envF f rc e) ∧ ((envF f rc e).1 = 0 → envB f rc) := by
 obtain ⟨r, e1, h1⟩ := env_ok f rc e h.fr h.rl h.ad
 unfold envF
 rw [e1]
 exact ⟨rfl, h1⟩
theorem msgF_s (fs : List S55) {bd : List Int} (h : bd.length ≤ 2000000) : qoa fs bd = some (msgF fs bd) ∧ ((msgF fs bd).1.2.1 = 0 → HdrOk fs) ∧ (msgF fs bd).1.1 = (msgF fs bd).2.length := by
 obtain ⟨r, e1, h1, h2⟩ := qp5 fs bd h
 unfold msgF
 rw [e1]
 exact ⟨rfl, h1, h2⟩
noncomputable def runF (s : List S50) (f : ByteArray) (rc : List S118) (e : ByteArray) (fs : List S55) (bd : List Int) : Int × Int :=
 if (scriptF s).1 ≠ 0 then scriptF s else if (envF f rc e).1 ≠ 0 then ((envF f rc e).1, -3) else if (msgF fs bd).1.2.1 ≠ 0 then ((msgF fs bd).1.2.1, -2) else (0, 0)
noncomputable def theRun (s : List S50) (f : ByteArray) (rc : List S118) (fs : List S55) (bd : List Int) : Bool × MM × List S45 × List S62 := exL f rc fs (((msgF fs bd).1.1 : Nat) : Int) s 0 [] [] []
noncomputable def runA (s : List S50) (f : ByteArray) (rc : List S118) (e : ByteArray) (fs : List S55) (bd : List Int) : List S45 := if (runF s f rc e fs bd).1 ≠ 0 then [] else finA (theRun s f rc fs bd).2.2.1
theorem runF_0 {s : List S50} {f : ByteArray} {rc : List S118} {e : ByteArray} {fs : List S55} {bd : List Int} (h : (runF s f rc e fs bd).1 = 0) : (scriptF s).1 = 0 ∧ (envF f rc e).1 = 0 ∧ (msgF fs bd).1.2.1 = 0 := by
 unfold runF at h
 split at h
 ·rename_i h0; exact absurd h h0
 ·rename_i h0
  split at h
  ·rename_i h1; exact absurd h h1
  ·rename_i h1
   split at h
   ·rename_i h2; exact absurd h h2
   ·rename_i h2
    exact ⟨by simpa using h0, by simpa using h1, by simpa using h2⟩
theorem val_ok {s : List S50} (h : (scriptF s).1 = 0) : okvL s ∧ szL s ≤ 100 := by
 obtain ⟨m, m1, m2, m3⟩ := qxx h
 exact ⟨⟨0, 1, m, by omega, m1⟩, m3⟩
theorem q11s {s : List S50} (f : ByteArray) (rc : List S118) (fs : List S55) (bd : List Int) (h : (scriptF s).1 = 0) : exP 0 [] [] (szL s) (theRun s f rc fs bd) := qf8 f rc fs _ (szL s) s rfl (val_ok h).1 0 0 [] [] [] Inv.nil
theorem q9i {s : List S50} {f : ByteArray} {rc : List S118} {bd : List Int} (h : MOk s f rc bd) (e : ByteArray) (fs : List S55) :
  qcr s f rc e fs bd = some (((runA s f rc e fs bd).length, runF s f rc e fs bd), (((runA s f rc e fs bd).length, runF s f rc e fs bd), runA s f rc e fs bd)) := by
 have hv := q12b s h.len h.ok
 obtain ⟨he1, he2⟩ := envF_s h e
 obtain ⟨hm1, hm2, hm3⟩ := msgF_s fs h.bl
 refine qct ?_
 simp only [qcx, brE_if, gdE_if, EC.decL_encL, EC.isL_encL, all_45, apd_45, qg, if_true, hv, Option.bind_some, qfi, qfk, none_s]
 by_cases h1 : (scriptF s).1 = 0
 ·have c1 : ((scriptF s).1 != 0) = false := by simpa using h1
  simp only [c1, Bool.false_eq_true, if_false, he1, Option.bind_some]
  by_cases h2 : (envF f rc e).1 = 0
  ·have c2 : ((envF f rc e).1 != 0) = false := by simpa using h2
   simp only [c2, Bool.false_eq_true, if_false, hm1, Option.bind_some]
   by_cases h3 : (msgF fs bd).1.2.1 = 0
   ·have c3 : ((msgF fs bd).1.2.1 != 0) = false := by simpa using h3
    have hF : runF s f rc e fs bd = (0, 0) := by unfold runF; rw [if_neg (by simp [h1]), if_neg (by simp [h2]), if_neg (by simp [h3])]
    obtain ⟨hvl, h100⟩ := val_ok h1
    have hx := q9e f rc e fs bd (((msgF fs bd).1.1 : Nat) : Int) (hm2 h3) (he2 h2) _ s rfl h.len h.ok hvl 0 0 [] [] [] (by omega) (by omega) (by omega) (by simp; omega) Inv.nil
    have hx : qdb s 0 f rc e fs bd (((msgF fs bd).1.1 : Nat) : Int) 0 [] [] = some ((theRun s f rc fs bd).1, ((theRun s f rc fs bd).1, e_st f rc e fs bd (((msgF fs bd).1.1 : Nat) : Int) (theRun s f rc fs bd).2.2.1.length (theRun s f rc fs bd).2.1 (theRun s f rc fs bd).2.2.1)) := hx
    have hinv := q11s f rc fs bd h1
    obtain ⟨_, hal, _⟩ := hinv
    simp only [List.length_nil, Nat.zero_add] at hal
    have hA : runA s f rc e fs bd = finA (theRun s f rc fs bd).2.2.1 := by unfold runA; rw [hF, if_neg (by simp)]
    rw [hF, hA]
    simp only [c3, Bool.false_eq_true, if_false, hx, Option.bind_some, e_st]
    generalize (theRun s f rc fs bd).2.2.1 = a at hal
    have hd := q8z a (by unfold big; omega)
    simp only [hd, Option.bind_some]
    unfold finA
    cases hb : a.any fun x => dB x.Kind with
    | true => simp
    | false =>
     have g1 : decide ((a.length + 1 + (a.length + 1) / 4 + 192) * 32 ≤ 281474976710656) = true := decide_eq_true (by omega)
     have g2 : decide (a.length + 1 ≤ 9223372036854775807) = true := decide_eq_true (by omega)
     simp only [Bool.not_false, if_true, List.all_cons, List.all_nil, List.length_cons, List.length_nil, Nat.zero_add, beq_self_eq_true, Bool.and_self, g1, g2, Bool.false_eq_true, if_false, List.length_append]
     rfl
   ·have c3 : ((msgF fs bd).1.2.1 != 0) = true := by simpa using h3
    have hF : runF s f rc e fs bd = ((msgF fs bd).1.2.1, -2) := by unfold runF; rw [if_neg (by simp [h1]), if_neg (by simp [h2]), if_pos h3]
    have hA : runA s f rc e fs bd = [] := by unfold runA; rw [hF, if_pos h3]
    rw [hF, hA]
    simp only [c3, if_true, List.length_nil]
  ·have c2 : ((envF f rc e).1 != 0) = true := by simpa using h2
   have hF : runF s f rc e fs bd = ((envF f rc e).1, -3) := by unfold runF; rw [if_neg (by simp [h1]), if_pos h2]
   have hA : runA s f rc e fs bd = [] := by unfold runA; rw [hF, if_pos h2]
   rw [hF, hA]
   simp only [c2, if_true, List.length_nil]
 ·have c1 : ((scriptF s).1 != 0) = true := by simpa using h1
  have hF : runF s f rc e fs bd = scriptF s := by unfold runF; rw [if_pos h1]
  have hA : runA s f rc e fs bd = [] := by unfold runA; rw [hF, if_pos h1]
  rw [hF, hA]
  simp only [c1, if_true, List.length_nil]
theorem run_s {s : List S50} {f : ByteArray} {rc : List S118} {bd : List Int} (h : MOk s f rc bd) (e : ByteArray) (fs : List S55) :
  qd9 s f rc e fs bd = some (((runA s f rc e fs bd).length, runF s f rc e fs bd), runA s f rc e fs bd) := by
 refine qd8 ?_
 simp only [qda, gdE_if, EC.decL_encL, EC.isL_encL, if_true, q9i h e fs, Option.bind_some]
end Go.Proofs.YtokahibbkdbndaaGreatDoor
namespace Go.Proofs.YtokahibbkdbndaaGreatDoor
open Go.RowKit
set_option maxRecDepth 100000
noncomputable section
def qss := (lCons (vC (cSl ec_45)) (lOne (vC (cSl ec_45))))
def qt2 := sLS [0, 1, 5] (lCons (vC (cSl ec_45)) (lCons (vC (cSl ec_45)) (lOne (vC (cInt .i64))))) lNil [] [] (by decide) (fun _ => rfl)
def qt1 := sLS [0, 1, 5, 14] (lCons (vC (cSl ec_45)) (lCons (vC (cSl ec_45)) (lCons (vC (cInt .i64)) (lOne (vC cBool))))) lNil [] [] (by decide) (fun _ => rfl)
def qt0 := sLS [4] (lOne (vC cBool)) lNil [] [] (by decide) (fun _ => rfl)
def qsz := oOr 1 qt0 (oAt 2 qt1) (fun x => (by decide : (2 : Nat) ≠ 1))
def qsw (a : (List S45)) (b : (List S45)) (i : Int) : Option ((Bool × Unit) ⊕ (((List S45) × (List S45) × Int × Bool) × Unit)) := lS Tryz.prog lv X0 17 26 (getLoop (cdF Tryz.f17) 4) qt2 qsz ((a, b, i), ())
def qt3 (a : (List S45)) (b : (List S45)) (i : Int) : Option ((Bool × Unit) ⊕ (((List S45) × (List S45) × Int × Bool) × Unit)) :=
 (brE (decide (i < (List.length (EC.encL ec_45 a) : Int)))
 (gdE (decide (0 ≤ i)) <|
 (gdE ((decide ((Int.toNat i) < (List.length (EC.encL ec_45 a)))) && (isE [(K1.int Go.IntKind.i64), K1.str, (K1.int Go.IntKind.i64)] 0 (List.getD (EC.encL ec_45 a) (Int.toNat i) []))) <|
 (gdE (decide (0 ≤ i)) <|
 (gdE ((decide ((Int.toNat i) < (List.length (EC.encL ec_45 b)))) && (isE [(K1.int Go.IntKind.i64), K1.str, (K1.int Go.IntKind.i64)] 0 (List.getD (EC.encL ec_45 b) (Int.toNat i) []))) <|
 (brE (!(((intOf (List.getD (List.getD (EC.encL ec_45 a) (Int.toNat i) []) 0 C.ne)) == (intOf (List.getD (List.getD (EC.encL ec_45 b) (Int.toNat i) []) 0 C.ne))) && (((strOf (List.getD (List.getD (EC.encL ec_45 a) (Int.toNat i) []) 1 C.ne)) == (strOf (List.getD (List.getD (EC.encL ec_45 b) (Int.toNat i) []) 1 C.ne))) && (((intOf (List.getD (List.getD (EC.encL ec_45 a) (Int.toNat i) []) 2 C.ne)) == (intOf (List.getD (List.getD (EC.encL ec_45 b) (Int.toNat i) []) 2 C.ne))) && true))))
 (some (.inl (false, ())))
 (gdE (EC.isL ec_45 (EC.encL ec_45 a)) <|
 (gdE (EC.isL ec_45 (EC.encL ec_45 b)) <|
 (qsw (EC.decL ec_45 (EC.encL ec_45 a)) (EC.decL ec_45 (EC.encL ec_45 b)) (IntKind.wrap .i64 (i + 1))))))))))
 (gdE (EC.isL ec_45 (EC.encL ec_45 a)) <|
 (gdE (EC.isL ec_45 (EC.encL ec_45 b)) <|
 (some (.inr (((EC.decL ec_45 (EC.encL ec_45 a)), ((EC.decL ec_45 (EC.encL ec_45 b)), (i, false))), ()))))))
theorem qsy {a} {b} {i} {r} (h : qt3 a b i = some r) : qsw a b i = some r :=
 qmj (es := q10i) (hs := qkt) [] (by kernel_rfl) trivial trivial (by kernel_rfl) h
def qsx := lentS Tryz.prog lv X0 4 (getLoop (cdF Tryz.f17) 4) qt2 qsz (fun x => qsw x.1.1 x.1.2.1 x.1.2.2) (fun _ _ h => qmi h)
def qst : Cod (V × List B) Bool := (cFstU (cPair (vC cBool) lNil))
def qt4 (a : (List S45)) (b : (List S45)) : Option Bool := fS Tryz.prog lv X0 17 qss qst (a, b)
def qt5 (a : (List S45)) (b : (List S45)) : Option Bool :=
 (brE ((List.length (EC.encL ec_45 a) : Int) != (List.length (EC.encL ec_45 b) : Int))
 (some false)
 (gdE (EC.isL ec_45 (EC.encL ec_45 a)) <|
 (gdE (EC.isL ec_45 (EC.encL ec_45 b)) <|
 (Option.bind (qsw (EC.decL ec_45 (EC.encL ec_45 a)) (EC.decL ec_45 (EC.encL ec_45 b)) 0) fun r0 =>
 (Sum.elim (fun r1 => (some r1.1))
 (fun r1 => (some true)) r0)))))
theorem qsv {a} {b} {r} (h : qt5 a b = some r) : qt4 a b = some r :=
 qfh (es := q10i) (hs := qkt) [qsx] Tryz.func17 rfl (by kernel_rfl) rfl (by kernel_rfl) (by kernel_rfl) ⟨⟨_, rfl, rfl⟩, trivial⟩ trivial (by kernel_rfl) h
def qsu := entS Tryz.prog lv X0 17 [] qss qst (fun x => qt4 x.1 x.2) (fun _ _ h => qfg h)
def q115 := qsu :: q10i
end
end Go.Proofs.YtokahibbkdbndaaGreatDoor
namespace Go.Proofs.YtokahibbkdbndaaGreatDoor
open Go.RowKit
set_option maxRecDepth 1000000 in
theorem qf6 : callD Tryz.prog (fzL lv) X0.c (execD Tryz.prog lv X0 200) 16 [] = some (.c (.bool true), []) := by kernel_rfl
def evd_ca : Cod (List V) Unit := lNil
def evd_cr : Cod (V × List B) Bool := cFstU (cPair (vC cBool) lNil)
def evdS : Option Bool := some true
theorem qf5 (x : Unit) (r : Bool) (h : evdS = some r) : Call Tryz.prog lv X0 16 (evd_ca.enc x) = some (evd_cr.enc r) := by
 cases r with
 | true => exact qc qf6
 | false => unfold evdS at h; cases h
noncomputable def evd_e := entS Tryz.prog lv X0 16 [] evd_ca evd_cr (fun _ => evdS) qf5
noncomputable def tabk := evd_e :: q115
end Go.Proofs.YtokahibbkdbndaaGreatDoor
namespace Go.Proofs.YtokahibbkdbndaaGreatDoor
open Go.RowKit
set_option maxRecDepth 100000
noncomputable section
def qs4 := (lCons (vC (cSl ec_50)) (lCons (vC (cSl ec_50)) (lOne (vAgg (lCons (vC cStr) (lCons (vC (cSl ec_118)) (lCons (vC cStr) (lCons (vC (cSl ec_55)) (lOne (vC (cSl ec_5)))))))))))
def qs5 : Cod (V × List B) Bool := (cFstU (cPair (vC cBool) lNil))
def qs7 (s : (List S50)) (more : (List S50)) (m_Envelope_From : ByteArray) (m_Envelope_To : (List S118)) (m_Envelope_Id : ByteArray) (m_Message_Fields : (List S55)) (m_Message_Body : (List Int)) : Option Bool := fS Tryz.prog lv X0 5 qs4 qs5 (s, more, (m_Envelope_From, m_Envelope_To, m_Envelope_Id, m_Message_Fields, m_Message_Body))
def qs8 (s : (List S50)) (more : (List S50)) (m_Envelope_From : ByteArray) (m_Envelope_To : (List S118)) (m_Envelope_Id : ByteArray) (m_Message_Fields : (List S55)) (m_Message_Body : (List Int)) : Option Bool :=
 (gdE (((List.all (EC.encL ec_50 s) (fun (el : (List C)) => ((List.length el) == 13))) && (decide (((((List.length (EC.encL ec_50 s)) + ((List.length (EC.encL ec_50 s)) / 4)) + 192) * 184) ≤ 281474976710656))) && (decide ((List.length (EC.encL ec_50 s)) ≤ 9223372036854775807))) <|
 (gdE ((((List.all [[(C.int Go.IntKind.i64 4), (C.int Go.IntKind.i64 0), (C.sl []), (C.str ⟨#[]⟩), (C.int Go.IntKind.i64 0), (C.str ⟨#[]⟩), (C.int Go.IntKind.i64 0), (C.sl []), (C.sl []), (C.int Go.IntKind.i64 0), (C.str ⟨#[]⟩), (C.str ⟨#[]⟩), (C.int Go.IntKind.i64 0)]] (fun (el : (List C)) => ((List.length el) == 13))) && (List.all (EC.encL ec_50 s) (fun (el : (List C)) => ((List.length el) == 13)))) && (decide ((((((List.length (EC.encL ec_50 s)) + (List.length [[(C.int Go.IntKind.i64 4), (C.int Go.IntKind.i64 0), (C.sl []), (C.str ⟨#[]⟩), (C.int Go.IntKind.i64 0), (C.str ⟨#[]⟩), (C.int Go.IntKind.i64 0), (C.sl []), (C.sl []), (C.int Go.IntKind.i64 0), (C.str ⟨#[]⟩), (C.str ⟨#[]⟩), (C.int Go.IntKind.i64 0)]])) + (((List.length (EC.encL ec_50 s)) + (List.length [[(C.int Go.IntKind.i64 4), (C.int Go.IntKind.i64 0), (C.sl []), (C.str ⟨#[]⟩), (C.int Go.IntKind.i64 0), (C.str ⟨#[]⟩), (C.int Go.IntKind.i64 0), (C.sl []), (C.sl []), (C.int Go.IntKind.i64 0), (C.str ⟨#[]⟩), (C.str ⟨#[]⟩), (C.int Go.IntKind.i64 0)]])) / 4)) + 192) * 184) ≤ 281474976710656))) && (decide (((List.length (EC.encL ec_50 s)) + (List.length [[(C.int Go.IntKind.i64 4), (C.int Go.IntKind.i64 0), (C.sl []), (C.str ⟨#[]⟩), (C.int Go.IntKind.i64 0), (C.str ⟨#[]⟩), (C.int Go.IntKind.i64 0), (C.sl []), (C.sl []), (C.int Go.IntKind.i64 0), (C.str ⟨#[]⟩), (C.str ⟨#[]⟩), (C.int Go.IntKind.i64 0)]])) ≤ 9223372036854775807))) <|
 (gdE (((List.all ((EC.encL ec_50 s) ++ [[(C.int Go.IntKind.i64 4), (C.int Go.IntKind.i64 0), (C.sl []), (C.str ⟨#[]⟩), (C.int Go.IntKind.i64 0), (C.str ⟨#[]⟩), (C.int Go.IntKind.i64 0), (C.sl []), (C.sl []), (C.int Go.IntKind.i64 0), (C.str ⟨#[]⟩), (C.str ⟨#[]⟩), (C.int Go.IntKind.i64 0)]]) (fun (el : (List C)) => ((List.length el) == 13))) && (decide (((((List.length ((EC.encL ec_50 s) ++ [[(C.int Go.IntKind.i64 4), (C.int Go.IntKind.i64 0), (C.sl []), (C.str ⟨#[]⟩), (C.int Go.IntKind.i64 0), (C.str ⟨#[]⟩), (C.int Go.IntKind.i64 0), (C.sl []), (C.sl []), (C.int Go.IntKind.i64 0), (C.str ⟨#[]⟩), (C.str ⟨#[]⟩), (C.int Go.IntKind.i64 0)]])) + ((List.length ((EC.encL ec_50 s) ++ [[(C.int Go.IntKind.i64 4), (C.int Go.IntKind.i64 0), (C.sl []), (C.str ⟨#[]⟩), (C.int Go.IntKind.i64 0), (C.str ⟨#[]⟩), (C.int Go.IntKind.i64 0), (C.sl []), (C.sl []), (C.int Go.IntKind.i64 0), (C.str ⟨#[]⟩), (C.str ⟨#[]⟩), (C.int Go.IntKind.i64 0)]])) / 4)) + 192) * 184) ≤ 281474976710656))) && (decide ((List.length ((EC.encL ec_50 s) ++ [[(C.int Go.IntKind.i64 4), (C.int Go.IntKind.i64 0), (C.sl []), (C.str ⟨#[]⟩), (C.int Go.IntKind.i64 0), (C.str ⟨#[]⟩), (C.int Go.IntKind.i64 0), (C.sl []), (C.sl []), (C.int Go.IntKind.i64 0), (C.str ⟨#[]⟩), (C.str ⟨#[]⟩), (C.int Go.IntKind.i64 0)]])) ≤ 9223372036854775807))) <|
 (gdE ((((List.all (EC.encL ec_50 more) (fun (el : (List C)) => ((List.length el) == 13))) && (List.all ((EC.encL ec_50 s) ++ [[(C.int Go.IntKind.i64 4), (C.int Go.IntKind.i64 0), (C.sl []), (C.str ⟨#[]⟩), (C.int Go.IntKind.i64 0), (C.str ⟨#[]⟩), (C.int Go.IntKind.i64 0), (C.sl []), (C.sl []), (C.int Go.IntKind.i64 0), (C.str ⟨#[]⟩), (C.str ⟨#[]⟩), (C.int Go.IntKind.i64 0)]]) (fun (el : (List C)) => ((List.length el) == 13)))) && (decide ((((((List.length ((EC.encL ec_50 s) ++ [[(C.int Go.IntKind.i64 4), (C.int Go.IntKind.i64 0), (C.sl []), (C.str ⟨#[]⟩), (C.int Go.IntKind.i64 0), (C.str ⟨#[]⟩), (C.int Go.IntKind.i64 0), (C.sl []), (C.sl []), (C.int Go.IntKind.i64 0), (C.str ⟨#[]⟩), (C.str ⟨#[]⟩), (C.int Go.IntKind.i64 0)]])) + (List.length (EC.encL ec_50 more))) + (((List.length ((EC.encL ec_50 s) ++ [[(C.int Go.IntKind.i64 4), (C.int Go.IntKind.i64 0), (C.sl []), (C.str ⟨#[]⟩), (C.int Go.IntKind.i64 0), (C.str ⟨#[]⟩), (C.int Go.IntKind.i64 0), (C.sl []), (C.sl []), (C.int Go.IntKind.i64 0), (C.str ⟨#[]⟩), (C.str ⟨#[]⟩), (C.int Go.IntKind.i64 0)]])) + (List.length (EC.encL ec_50 more))) / 4)) + 192) * 184) ≤ 281474976710656))) && (decide (((List.length ((EC.encL ec_50 s) ++ [[(C.int Go.IntKind.i64 4), (C.int Go.IntKind.i64 0), (C.sl []), (C.str ⟨#[]⟩), (C.int Go.IntKind.i64 0), (C.str ⟨#[]⟩), (C.int Go.IntKind.i64 0), (C.sl []), (C.sl []), (C.int Go.IntKind.i64 0), (C.str ⟨#[]⟩), (C.str ⟨#[]⟩), (C.int Go.IntKind.i64 0)]])) + (List.length (EC.encL ec_50 more))) ≤ 9223372036854775807))) <|
 (gdE (EC.isL ec_50 ((EC.encL ec_50 s) ++ [[(C.int Go.IntKind.i64 4), (C.int Go.IntKind.i64 0), (C.sl []), (C.str ⟨#[]⟩), (C.int Go.IntKind.i64 0), (C.str ⟨#[]⟩), (C.int Go.IntKind.i64 0), (C.sl []), (C.sl []), (C.int Go.IntKind.i64 0), (C.str ⟨#[]⟩), (C.str ⟨#[]⟩), (C.int Go.IntKind.i64 0)]])) <|
 (gdE (EC.isL ec_118 (EC.encL ec_118 m_Envelope_To)) <|
 (gdE (EC.isL ec_55 (EC.encL ec_55 m_Message_Fields)) <|
 (gdE (EC.isL ec_5 (EC.encL ec_5 m_Message_Body)) <|
 (Option.bind (qd9 (EC.decL ec_50 ((EC.encL ec_50 s) ++ [[(C.int Go.IntKind.i64 4), (C.int Go.IntKind.i64 0), (C.sl []), (C.str ⟨#[]⟩), (C.int Go.IntKind.i64 0), (C.str ⟨#[]⟩), (C.int Go.IntKind.i64 0), (C.sl []), (C.sl []), (C.int Go.IntKind.i64 0), (C.str ⟨#[]⟩), (C.str ⟨#[]⟩), (C.int Go.IntKind.i64 0)]])) m_Envelope_From (EC.decL ec_118 (EC.encL ec_118 m_Envelope_To)) m_Envelope_Id (EC.decL ec_55 (EC.encL ec_55 m_Message_Fields)) (EC.decL ec_5 (EC.encL ec_5 m_Message_Body))) fun r0 =>
 (gdE (EC.isL ec_50 (((EC.encL ec_50 s) ++ [[(C.int Go.IntKind.i64 4), (C.int Go.IntKind.i64 0), (C.sl []), (C.str ⟨#[]⟩), (C.int Go.IntKind.i64 0), (C.str ⟨#[]⟩), (C.int Go.IntKind.i64 0), (C.sl []), (C.sl []), (C.int Go.IntKind.i64 0), (C.str ⟨#[]⟩), (C.str ⟨#[]⟩), (C.int Go.IntKind.i64 0)]]) ++ (EC.encL ec_50 more))) <|
 (gdE (EC.isL ec_118 (EC.encL ec_118 m_Envelope_To)) <|
 (gdE (EC.isL ec_55 (EC.encL ec_55 m_Message_Fields)) <|
 (gdE (EC.isL ec_5 (EC.encL ec_5 m_Message_Body)) <|
 (Option.bind (qd9 (EC.decL ec_50 (((EC.encL ec_50 s) ++ [[(C.int Go.IntKind.i64 4), (C.int Go.IntKind.i64 0), (C.sl []), (C.str ⟨#[]⟩), (C.int Go.IntKind.i64 0), (C.str ⟨#[]⟩), (C.int Go.IntKind.i64 0), (C.sl []), (C.sl []), (C.int Go.IntKind.i64 0), (C.str ⟨#[]⟩), (C.str ⟨#[]⟩), (C.int Go.IntKind.i64 0)]]) ++ (EC.encL ec_50 more))) m_Envelope_From (EC.decL ec_118 (EC.encL ec_118 m_Envelope_To)) m_Envelope_Id (EC.decL ec_55 (EC.encL ec_55 m_Message_Fields)) (EC.decL ec_5 (EC.encL ec_5 m_Message_Body))) fun r1 =>
 (brE ((r0.1.2.1 != 0) == false)
 (brE (r1.1.2.1 != 0)
 (some true)
 (gdE (EC.isL ec_45 (EC.encL ec_45 r0.2)) <|
 (gdE (EC.isL ec_45 (EC.encL ec_45 r1.2)) <|
 (Option.bind (qt4 (EC.decL ec_45 (EC.encL ec_45 r0.2)) (EC.decL ec_45 (EC.encL ec_45 r1.2))) fun r2 =>
 (brE (r2 == true)
 (some true)
 (some false))))))
 (some true))))))))))))))))
theorem qs6 {s} {more} {m_Envelope_From} {m_Envelope_To} {m_Envelope_Id} {m_Message_Fields} {m_Message_Body} {r} (h : qs8 s more m_Envelope_From m_Envelope_To m_Envelope_Id m_Message_Fields m_Message_Body = some r) : qs7 s more m_Envelope_From m_Envelope_To m_Envelope_Id m_Message_Fields m_Message_Body = some r :=
 qfh (es := tabk) (hs := qkt) [] Tryz.func5 rfl (by kernel_rfl) rfl (by kernel_rfl) (by kernel_rfl) trivial trivial (by kernel_rfl) h
end
end Go.Proofs.YtokahibbkdbndaaGreatDoor
