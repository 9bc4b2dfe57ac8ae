/- explain.Run's execute is exL, the steps noted. -/
import Derived.Test.YtokahibbkdbndaaGreatDoorZ29
import Derived.Test.YtokahibbkdbndaaGreatDoorH6
import Derived.Test.YtokahibbkdbndaaGreatDoorZ01
import Derived.Test.YtokahibbkdbndaaGreatDoorChecked
import Derived.ProofKit
import Derived.OpenShut
import Derived.JoinedCond
import Derived.Deep.Slices
import Derived.Deep.Fields
import Derived.Lib.SmallJoins
namespace Go.Proofs.YtokahibbkdbndaaGreatDoor
open Go.RowKit
theorem x_note (i : Int) (b : Bool) (s : ByteArray) (st : List S62) (h : st.length ≤ 10000) : qen i b s st.length st = some ((), ((), ((st ++ [(⟨i, b, s⟩ : S62)]).length, st ++ [(⟨i, b, s⟩ : S62)]))) := by
 have g1 : decide ((st.length + 1 + (st.length + 1) / 4 + 192) * 32 ≤ 281474976710656) = true := decide_eq_true (by omega)
 have g2 : decide (st.length + 1 ≤ 9223372036854775807) = true := decide_eq_true (by omega)
 refine qep ?_
 simp only [qet, gdE_if, EC.decL_encL, EC.isL_encL, all_62, apd_62, List.all_cons, List.all_nil, List.length_cons, List.length_nil, Nat.zero_add, beq_self_eq_true, Bool.and_self, g1, g2, if_true, List.length_append]
section
variable (f : ByteArray) (rc : List S118) (e : ByteArray) (fs : List S55) (bd : List Int) (sz : Int)
abbrev x_st (m : MM) (a : List S45) (st : List S62) := (((f, (rc, (e, (fs, (bd, (sz, ((), (a.length, ())))))))), (m, (st.length, (a, st)))) : (ByteArray × (List S118) × ByteArray × (List S55) × (List Int) × Int × Unit × Nat × Unit) × MM × Nat × List S45 × List S62)
def q128 (s : List S50) : Prop := ∀ (i : Int) (n : Nat) (m : MM) (a : List S45) (st : List S62), 0 ≤ i → i + szL s ≤ 1000 → n + szL s ≤ 1000 → a.length + szL s ≤ 1000 → st.length + szL s ≤ 1000 → Inv n m →
 qcj s i f rc e fs bd sz a.length m st.length a st = some ((exL f rc fs sz s i m a st).1, ((exL f rc fs sz s i m a st).1, x_st f rc e fs bd sz (exL f rc fs sz s i m a st).2.1 (exL f rc fs sz s i m a st).2.2.1 (exL f rc fs sz s i m a st).2.2.2))
theorem q129 (s : List S50) (hl : s.length ≤ big) (ho : okL s) (hv : okvL s) (hT : ∀ r ∈ s, r.Kind = 1 → ∀ na ac ns st, q12g f rc e fs bd sz na ac ns st (tOf r)) (ihE : ∀ r ∈ s, q128 f rc e fs bd sz r.Then ∧ q128 f rc e fs bd sz r.Else) :
  ∀ (q k : Nat) (i : Int) (n : Nat) (m : MM) (a : List S45) (st : List S62), k + q = s.length → 0 ≤ i → i + szL (s.drop k) ≤ 1000 → n + szL (s.drop k) ≤ 1000 → a.length + szL (s.drop k) ≤ 1000 → st.length + szL (s.drop k) ≤ 1000 → Inv n m →
  ∃ x, qcm i s s.length k f rc e fs bd sz a.length m st.length a st = some x ∧ Sum.elim (fun r => (r.1, r.2)) (fun r => (true, r.2)) x = ((exL f rc fs sz (s.drop k) i m a st).1, x_st f rc e fs bd sz (exL f rc fs sz (s.drop k) i m a st).2.1 (exL f rc fs sz (s.drop k) i m a st).2.2.1 (exL f rc fs sz (s.drop k) i m a st).2.2.2) := by
 intro q
 induction q with
 | zero =>
  intro k i n m a st hk h0 h1 h2 h3 h4 hI
  have hk : k = s.length := by omega
  subst hk
  refine ⟨.inr (((), (i, (s, ((s.length : Int), ((s.length : Int), false))))), x_st f rc e fs bd sz m a st), qco (by
   simp only [qct, brE_if, gdE_if, EC.decL_encL, EC.isL_encL, EC.encL_length, isE_50, q41, q42, q46, q47, q48, q49, q4a, q4b, q4c, q4d, q43, q44, q45, all_45, apd_45]
   simp), ?_⟩
  rw [List.drop_length, exL]; rfl
 | succ q ihm =>
  intro k i n m a st hk h0 h1 h2 h3 h4 hI
  have hlt : k < s.length := by omega
  have e1 : decide ((k : Int) < (s.length : Int)) = true := by simp; omega
  have e0 : decide ((0 : Int) ≤ (k : Int)) = true := by simp
  have e2 : IntKind.i64.wrap ((k : Int) + 1) = ((k + 1 : Nat) : Int) := wr_nat hlt (by unfold big at hl; omega)
  have hd2 : decide (k < s.length) = true := by simp [hlt]
  have hmem : s[k] ∈ s := List.getElem_mem hlt
  have hdr : szL (s.drop k) = szR s[k] + szL (s.drop (k + 1)) := by rw [q97 hlt]; rfl
  rw [hdr] at h1 h2 h3 h4
  have hsz := szR_eq s[k]
  obtain ⟨_, ⟨ht1, ht2⟩, ⟨he1, he2⟩, _⟩ := (okR_eq s[k]).1 (qpa ho hmem)
  obtain ⟨hh, hvt, hve⟩ := okvR hv hmem
  obtain ⟨hkk, htx, hvar, hnil⟩ := qtd hh
  obtain ⟨iT, iE⟩ := ihE s[k] hmem
  have hcT := size_s s[k].Then ht1 ht2
  have hcE := size_s s[k].Else he1 he2
  rw [wr_in (by omega)] at hcT hcE
  have w1 : IntKind.i64.wrap (i + 1) = i + 1 := wr_in (by omega)
  have w2 : IntKind.i64.wrap (i + 1 + (szL s[k].Then : Int)) = i + 1 + szL s[k].Then := wr_in (by omega)
  have w3 : IntKind.i64.wrap (1 + (szL s[k].Then : Int)) = 1 + szL s[k].Then := wr_in (by omega)
  have w4 : IntKind.i64.wrap (1 + (szL s[k].Then : Int) + (szL s[k].Else : Int)) = 1 + szL s[k].Then + szL s[k].Else := wr_in (by omega)
  have w5 : IntKind.i64.wrap (i + (1 + (szL s[k].Then : Int) + (szL s[k].Else : Int))) = i + szR s[k] := by rw [wr_in (by omega)]; omega
  have hst : st.length ≤ 10000 := by omega
  have nt := x_note i true (ByteArray.mk (List.toArray [])) st hst
  have nf := x_note i false (ByteArray.mk (List.toArray [])) st hst
  have nx := x_note i false (exT m s[k].Text) st hst
  have nt : _ = some ((), ((), ((st ++ [(⟨i, true, noTx⟩ : S62)]).length, st ++ [(⟨i, true, noTx⟩ : S62)]))) := nt
  have nf : _ = some ((), ((), ((st ++ [(⟨i, false, noTx⟩ : S62)]).length, st ++ [(⟨i, false, noTx⟩ : S62)]))) := nf
  have hma : m.length ≤ 10000 := by have := hI.all; omega
  rw [q97 hlt, exL]
  by_cases k1 : s[k].Kind = 1
  ·have c1 : (s[k].Kind == 1) = true := by simpa using k1
   have ht : qdr s[k].Test_Kind s[k].Test_Tests s[k].Test_Name s[k].Test_Pattern s[k].Test_Text s[k].Test_N f rc e fs bd sz a.length m st.length a st = _ := hT s[k] hmem k1 a.length a st.length st n m (by omega) hI
   have hI2 := q11c f rc fs sz n (tOf s[k]) m hI
   rw [exR_eq, if_pos k1]
   generalize tsT f rc fs sz (tOf s[k]) m = u at ht hI2
   obtain ⟨ub, um⟩ := u
   cases ub with
   | true =>
    rw [if_pos rfl]
    have hp := iT (i + 1) n um a (st ++ [⟨i, true, noTx⟩]) (by omega) (by omega) (by omega) (by omega) (by simp; omega) hI2
    have hinv := qed f rc fs sz _ s[k].Then rfl hvt n (i + 1) um a (st ++ [⟨i, true, noTx⟩]) hI2
    generalize exL f rc fs sz s[k].Then (i + 1) um a (st ++ [⟨i, true, noTx⟩]) = v at hp hinv
    obtain ⟨vb, vm, va, vs⟩ := v
    obtain ⟨g1, g2, g3⟩ := hinv
    simp only [List.length_append, List.length_singleton] at g1 g2 g3
    cases vb with
    | false =>
     simp only [Bool.false_eq_true, if_false]
     refine ⟨.inl (false, x_st f rc e fs bd sz vm va vs), qco ?_, rfl⟩
     simp only [qct, brE_if, gdE_if, EC.decL_encL, EC.isL_encL, EC.encL_length, isE_50, q41, q42, q46, q47, q48, q49, q4a, q4b, q4c, q4d, q43, q44, q45, all_45, apd_45, e1, e0, if_true, Int.toNat_natCast, hd2, Bool.and_self, qik hlt, c1, ht, nt, nf, Option.bind_some, Bool.not_true, Bool.not_false, Bool.false_eq_true, if_false, w1, hp, x_st]
    | true =>
     rw [if_pos rfl]
     obtain ⟨x, x1, x2⟩ := ihm (k + 1) (i + szR s[k]) (n + szL s[k].Then) vm va vs (by omega) (by omega) (by omega) (by omega) (by omega) (by omega) g1
     refine ⟨x, qco ?_, x2⟩
     simp only [qct, brE_if, gdE_if, EC.decL_encL, EC.isL_encL, EC.encL_length, isE_50, q41, q42, q46, q47, q48, q49, q4a, q4b, q4c, q4d, q43, q44, q45, all_45, apd_45, e1, e0, if_true, Int.toNat_natCast, hd2, Bool.and_self, qik hlt, c1, ht, nt, nf, Option.bind_some, Bool.not_true, Bool.false_eq_true, if_false, w1, hp, x_st, hcT, hcE, w3, w4, w5, e2]
     exact x1
   | false =>
    simp only [Bool.false_eq_true, if_false]
    have hp := iE (i + 1 + szL s[k].Then) n um a (st ++ [⟨i, false, noTx⟩]) (by omega) (by omega) (by omega) (by omega) (by simp; omega) hI2
    have hinv := qed f rc fs sz _ s[k].Else rfl hve n (i + 1 + szL s[k].Then) um a (st ++ [⟨i, false, noTx⟩]) hI2
    generalize exL f rc fs sz s[k].Else (i + 1 + szL s[k].Then) um a (st ++ [⟨i, false, noTx⟩]) = v at hp hinv
    obtain ⟨vb, vm, va, vs⟩ := v
    obtain ⟨g1, g2, g3⟩ := hinv
    simp only [List.length_append, List.length_singleton] at g1 g2 g3
    cases vb with
    | false =>
     simp only [Bool.false_eq_true, if_false]
     refine ⟨.inl (false, x_st f rc e fs bd sz vm va vs), qco ?_, rfl⟩
     simp only [qct, brE_if, gdE_if, EC.decL_encL, EC.isL_encL, EC.encL_length, isE_50, q41, q42, q46, q47, q48, q49, q4a, q4b, q4c, q4d, q43, q44, q45, all_45, apd_45, e1, e0, if_true, Int.toNat_natCast, hd2, Bool.and_self, qik hlt, c1, ht, nf, Option.bind_some, Bool.not_false, w1, hcT, w2, hp, x_st]
    | true =>
     rw [if_pos rfl]
     obtain ⟨x, x1, x2⟩ := ihm (k + 1) (i + szR s[k]) (n + szL s[k].Else) vm va vs (by omega) (by omega) (by omega) (by omega) (by omega) (by omega) g1
     refine ⟨x, qco ?_, x2⟩
     simp only [qct, brE_if, gdE_if, EC.decL_encL, EC.isL_encL, EC.encL_length, isE_50, q41, q42, q46, q47, q48, q49, q4a, q4b, q4c, q4d, q43, q44, q45, all_45, apd_45, e1, e0, if_true, Int.toNat_natCast, hd2, Bool.and_self, qik hlt, c1, ht, nf, Option.bind_some, Bool.not_true, Bool.not_false, Bool.false_eq_true, if_false, w1, hcT, w2, hp, x_st, hcE, w3, w4, w5, e2]
     exact x1
  ·have c1 : (s[k].Kind == 1) = false := by simpa using k1
   obtain ⟨n1, n2⟩ := hnil k1
   have htx' := htx k1
   have hex := expP_s hI.val s[k].Text (by omega)
   have hxs := qef m s[k].Text
   have hR1 : szR s[k] = 1 := by rw [hsz, n1, n2]; rfl
   rw [exR_eq, if_neg k1]
   by_cases k2 : s[k].Kind = 2
   ·have c2 : (s[k].Kind == 2) = true := by simpa using k2
    have g1 : decide ((a.length + 1 + (a.length + 1) / 4 + 192) * 32 ≤ 281474976710656) = true := decide_eq_true (by omega)
    have g2 : decide (a.length + 1 ≤ 9223372036854775807) = true := decide_eq_true (by omega)
    rw [if_pos k2, if_pos rfl]
    obtain ⟨x, x1, x2⟩ := ihm (k + 1) (i + szR s[k]) n m (a ++ [⟨s[k].Act, exT m s[k].Text, s[k].N⟩]) (st ++ [⟨i, false, exT m s[k].Text⟩]) (by omega) (by omega) (by omega) (by omega) (by simp; omega) (by simp; omega) hI
    rw [List.length_append] at x1
    refine ⟨x, qco ?_, x2⟩
    simp only [qct, brE_if, gdE_if, EC.decL_encL, EC.isL_encL, EC.encL_length, isE_50, q41, q42, q46, q47, q48, q49, q4a, q4b, q4c, q4d, q43, q44, q45, all_45, apd_45, e1, e0, if_true, Int.toNat_natCast, hd2, Bool.and_self, qik hlt, c1, c2, Bool.false_eq_true, if_false, hex, nf, nx, Option.bind_some, List.all_cons, List.all_nil, List.length_cons, List.length_nil, Nat.zero_add, beq_self_eq_true, g1, g2, hcT, hcE, w3, w4, w5, e2]
    exact x1
   ·have c2 : (s[k].Kind == 2) = false := by simpa using k2
    rw [if_neg k2]
    by_cases k3 : s[k].Kind = 3
    ·have c3 : (s[k].Kind == 3) = true := by simpa using k3
     have hvb := hvar k3
     have hnm : s[k].Name.size ≠ 0 ∧ s[k].Name.size ≤ 60 := by
      unfold varB at hvb
      simp at hvb
      omega
     have g1 : decide (s[k].Name.size ≤ maxLen) = true := decide_eq_true (by unfold maxLen; omega)
     have g2 : decide ((exT m s[k].Text).size ≤ maxLen) = true := decide_eq_true (by unfold maxLen; omega)
     have g3 : decide (m.length < maxLen) = true := decide_eq_true (by unfold maxLen; omega)
     rw [if_pos k3, if_pos rfl]
     obtain ⟨x, x1, x2⟩ := ihm (k + 1) (i + szR s[k]) (n + 1) (putM m s[k].Name (exT m s[k].Text)) a (st ++ [⟨i, false, exT m s[k].Text⟩]) (by omega) (by omega) (by omega) (by omega) (by omega) (by simp; omega) (hI.set hnm.1 (by omega))
     refine ⟨x, qco ?_, x2⟩
     simp only [qct, brE_if, gdE_if, EC.decL_encL, EC.isL_encL, EC.encL_length, isE_50, q41, q42, q46, q47, q48, q49, q4a, q4b, q4c, q4d, q43, q44, q45, all_45, apd_45, e1, e0, if_true, Int.toNat_natCast, hd2, Bool.and_self, qik hlt, c1, c2, c3, Bool.false_eq_true, if_false, hex, nf, nx, Option.bind_some, g1, g2, g3, hcT, hcE, w3, w4, w5, e2]
     exact x1
    ·have c3 : (s[k].Kind == 3) = false := by simpa using k3
     rw [if_neg k3]
     simp only [Bool.false_eq_true, if_false]
     refine ⟨.inl (false, x_st f rc e fs bd sz m a (st ++ [⟨i, false, noTx⟩])), qco ?_, rfl⟩
     simp only [qct, brE_if, gdE_if, EC.decL_encL, EC.isL_encL, EC.encL_length, isE_50, q41, q42, q46, q47, q48, q49, q4a, q4b, q4c, q4d, q43, q44, q45, all_45, apd_45, e1, e0, if_true, Int.toNat_natCast, hd2, Bool.and_self, qik hlt, c1, c2, c3, Bool.false_eq_true, if_false, nf, Option.bind_some, x_st]
theorem q12a (hH : HdrOk fs) (hE : envB f rc) : ∀ (q : Nat) (s : List S50), szL s = q → s.length ≤ big → okL s → okvL s → q128 f rc e fs bd sz s := by
 intro q
 induction q using Nat.strongRecOn with
 | _ q ihq =>
  intro s hq hl ho hv i n m a st h0 h1 h2 h3 h4 hI
  subst hq
  have hT : ∀ r ∈ s, r.Kind = 1 → ∀ na ac ns st, q12g f rc e fs bd sz na ac ns st (tOf r) := fun r hr hk na ac ns st => by
   have hok := ((okR_eq r).1 (qpa ho hr)).1
   have hvt := qpe (okvR hv hr).1 (by simpa using hk)
   have hin := (qpg hvt).2
   refine q12h f rc e fs bd sz na ac ns st hH hE _ (tOf r) rfl hok hvt ?_
   unfold innerB at hin
   split at hin
   ·have : (tOf r).Tests.length = 1 := by simpa using hin
    omega
   ·split at hin
    ·simp at hin; omega
    ·have : (tOf r).Tests.length = 0 := by simpa using hin
     omega
  obtain ⟨x, x1, x2⟩ := q129 f rc e fs bd sz s hl ho hv hT (fun r hr => by
   obtain ⟨_, ⟨ht1, ht2⟩, ⟨he1, he2⟩, _⟩ := (okR_eq r).1 (qpa ho hr)
   obtain ⟨_, hvt, hve⟩ := okvR hv hr
   exact ⟨ihq (szL r.Then) (qz5 hr) r.Then rfl ht1 ht2 hvt, ihq (szL r.Else) (qz4 hr) r.Else rfl he1 he2 hve⟩) s.length 0 i n m a st (by omega) h0 (by rw [List.drop_zero]; exact h1) (by rw [List.drop_zero]; exact h2) (by rw [List.drop_zero]; exact h3) (by rw [List.drop_zero]; exact h4) hI
  rw [List.drop_zero] at x2
  have x1 : qcm i s s.length 0 f rc e fs bd sz a.length m st.length a st = some x := x1
  refine qcl ?_
  simp only [qcx, gdE_if, EC.decL_encL, EC.isL_encL, EC.encL_length, if_true, x1, Option.bind_some]
  generalize exL f rc fs sz s i m a st = v at x2
  obtain ⟨vb, vm, va, vs⟩ := v
  rcases x with x | x
  ·simp only [Sum.elim_inl] at x2 ⊢
   injection x2 with y1 y2
   rw [y2, y1]
  ·simp only [Sum.elim_inr] at x2 ⊢
   injection x2 with y1 y2
   rw [y2]
   have y1 : true = vb := y1
   rw [← y1]
end
end Go.Proofs.YtokahibbkdbndaaGreatDoor
namespace Go.Proofs.YtokahibbkdbndaaGreatDoor
open Go.RowKit
noncomputable def runS (s : List S50) (f : ByteArray) (rc : List S118) (e : ByteArray) (fs : List S55) (bd : List Int) : List S62 := if (runF s f rc e fs bd).1 ≠ 0 then [] else (theRun s f rc fs bd).2.2.2
theorem q12e {s : List S50} {f : ByteArray} {rc : List S118} {bd : List Int} (h : MOk s f rc bd) (e : ByteArray) (fs : List S55) :
  qcc s f rc e fs bd 0 [] = some (((runA s f rc e fs bd).length, runF s f rc e fs bd), (((runA s f rc e fs bd).length, runF s f rc e fs bd), (runA s f rc e fs bd, ((runS s f rc e fs bd).length, runS s f rc e fs bd)))) := by
 have hv := q11m s h.len h.ok
 obtain ⟨he1, he2⟩ := envF_s h e
 obtain ⟨hm1, hm2, hm3⟩ := msgF_s fs h.bl
 refine qce ?_
 simp only [qci, brE_if, gdE_if, EC.decL_encL, EC.isL_encL, all_45, apd_45, qg, if_true, hv, Option.bind_some, qf3, qf5, none_s]
 by_cases h1 : (scriptF s).1 = 0
 ·have c1 : ((scriptF s).1 != 0) = false := by simpa using h1
  simp only [c1, Bool.false_eq_true, if_false, he1, Option.bind_some]
  by_cases h2 : (envF f rc e).1 = 0
  ·have c2 : ((envF f rc e).1 != 0) = false := by simpa using h2
   simp only [c2, Bool.false_eq_true, if_false, hm1, Option.bind_some]
   by_cases h3 : (msgF fs bd).1.2.1 = 0
   ·have c3 : ((msgF fs bd).1.2.1 != 0) = false := by simpa using h3
    have hF : runF s f rc e fs bd = (0, 0) := by unfold runF; rw [if_neg (by simp [h1]), if_neg (by simp [h2]), if_neg (by simp [h3])]
    obtain ⟨hvl, h100⟩ := val_ok h1
    have hx := q12a f rc e fs bd (((msgF fs bd).1.1 : Nat) : Int) (hm2 h3) (he2 h2) _ s rfl h.len h.ok hvl 0 0 [] [] [] (by omega) (by omega) (by omega) (by simp; omega) (by simp; omega) Inv.nil
    have hx : qcj s 0 f rc e fs bd (((msgF fs bd).1.1 : Nat) : Int) 0 [] 0 [] [] = some ((theRun s f rc fs bd).1, ((theRun s f rc fs bd).1, x_st f rc e fs bd (((msgF fs bd).1.1 : Nat) : Int) (theRun s f rc fs bd).2.1 (theRun s f rc fs bd).2.2.1 (theRun s f rc fs bd).2.2.2)) := hx
    have hinv := q113 f rc fs bd h1
    obtain ⟨_, hal, _⟩ := hinv
    simp only [List.length_nil, Nat.zero_add] at hal
    have hA : runA s f rc e fs bd = finA (theRun s f rc fs bd).2.2.1 := by unfold runA; rw [hF, if_neg (by simp)]
    have hS : runS s f rc e fs bd = (theRun s f rc fs bd).2.2.2 := by unfold runS; rw [hF, if_neg (by simp)]
    rw [hF, hA, hS]
    simp only [c3, Bool.false_eq_true, if_false, hx, Option.bind_some, x_st]
    generalize (theRun s f rc fs bd).2.2.1 = a at hal
    have hd := q8x a (by unfold big; omega)
    simp only [hd, Option.bind_some]
    unfold finA
    cases hb : a.any fun x => dB x.Kind with
    | true => simp
    | false =>
     have g1 : decide ((a.length + 1 + (a.length + 1) / 4 + 192) * 32 ≤ 281474976710656) = true := decide_eq_true (by omega)
     have g2 : decide (a.length + 1 ≤ 9223372036854775807) = true := decide_eq_true (by omega)
     simp only [Bool.not_false, if_true, List.all_cons, List.all_nil, List.length_cons, List.length_nil, Nat.zero_add, beq_self_eq_true, Bool.and_self, g1, g2, Bool.false_eq_true, if_false, List.length_append]
     rfl
   ·have c3 : ((msgF fs bd).1.2.1 != 0) = true := by simpa using h3
    have hF : runF s f rc e fs bd = ((msgF fs bd).1.2.1, -2) := by unfold runF; rw [if_neg (by simp [h1]), if_neg (by simp [h2]), if_pos h3]
    have hA : runA s f rc e fs bd = [] := by unfold runA; rw [hF, if_pos h3]
    have hS : runS s f rc e fs bd = [] := by unfold runS; rw [hF, if_pos h3]
    rw [hF, hA, hS]
    simp only [c3, if_true, List.length_nil]
  ·have c2 : ((envF f rc e).1 != 0) = true := by simpa using h2
   have hF : runF s f rc e fs bd = ((envF f rc e).1, -3) := by unfold runF; rw [if_neg (by simp [h1]), if_pos h2]
   have hA : runA s f rc e fs bd = [] := by unfold runA; rw [hF, if_pos h2]
   have hS : runS s f rc e fs bd = [] := by unfold runS; rw [hF, if_pos h2]
   rw [hF, hA, hS]
   simp only [c2, if_true, List.length_nil]
 ·have c1 : ((scriptF s).1 != 0) = true := by simpa using h1
  have hF : runF s f rc e fs bd = scriptF s := by unfold runF; rw [if_pos h1]
  have hA : runA s f rc e fs bd = [] := by unfold runA; rw [hF, if_pos h1]
  have hS : runS s f rc e fs bd = [] := by unfold runS; rw [hF, if_pos h1]
  rw [hF, hA, hS]
  simp only [c1, if_true, List.length_nil]
theorem qf0 {s : List S50} {f : ByteArray} {rc : List S118} {bd : List Int} (h : MOk s f rc bd) (e : ByteArray) (fs : List S55) :
  qey s f rc e fs bd = some (((runS s f rc e fs bd).length, ((runA s f rc e fs bd).length, runF s f rc e fs bd)), (runS s f rc e fs bd, runA s f rc e fs bd)) := by
 have hn := q12e h e fs
 refine qex ?_
 simp only [qez, brE_if, gdE_if, EC.decL_encL, EC.isL_encL, qg, if_true, hn, Option.bind_some, qf3]
 by_cases hF : (runF s f rc e fs bd).1 = 0
 ·have c1 : ((runF s f rc e fs bd).1 != 0) = false := by simpa using hF
  simp only [c1, Bool.false_eq_true, if_false]
 ·have c1 : ((runF s f rc e fs bd).1 != 0) = true := by simpa using hF
  have hA : runA s f rc e fs bd = [] := by unfold runA; rw [if_pos hF]
  have hS : runS s f rc e fs bd = [] := by unfold runS; rw [if_pos hF]
  rw [hA, hS]
  simp only [c1, if_true, List.length_nil]
end Go.Proofs.YtokahibbkdbndaaGreatDoor
namespace Go.Proofs.YtokahibbkdbndaaGreatDoor
open Go.RowKit
set_option maxRecDepth 100000
noncomputable section
end
end Go.Proofs.YtokahibbkdbndaaGreatDoor
namespace Go.Proofs.YtokahibbkdbndaaGreatDoor
open Go.RowKit
set_option maxRecDepth 1000000 in
theorem qeh : callD Tryz.prog (fzL lv) X0.c (execD Tryz.prog lv X0 200) 23 [] = some (.c (.bool true), []) := by kernel_rfl
def evd_ca : Cod (List V) Unit := lNil
def evd_cr : Cod (V × List B) Bool := cFstU (cPair (vC cBool) lNil)
def evdS : Option Bool := some true
theorem qeg (x : Unit) (r : Bool) (h : evdS = some r) : Call Tryz.prog lv X0 23 (evd_ca.enc x) = some (evd_cr.enc r) := by
 cases r with
 | true => exact qc qeh
 | false => unfold evdS at h; cases h
noncomputable def exd_e := entS Tryz.prog lv X0 23 [] evd_ca evd_cr (fun _ => evdS) qeg
noncomputable def tabk := exd_e :: qzu
end Go.Proofs.YtokahibbkdbndaaGreatDoor
namespace Go.Proofs.YtokahibbkdbndaaGreatDoor
open Go.RowKit
set_option maxRecDepth 100000
noncomputable section
def qrn := (lCons (vC (cSl ec_50)) (lOne (vAgg (lCons (vC cStr) (lCons (vC (cSl ec_118)) (lCons (vC cStr) (lCons (vC (cSl ec_55)) (lOne (vC (cSl ec_5))))))))))
def qrw := sLS [0, 5, 8] (lCons (vC (cSl ec_50)) (lCons (vRow 0) (lOne (vC (cInt .i64))))) (lOne (oSome (bRow ec_62))) [false] [] (by decide) (fun _ => rfl)
def qrv := sLS [0, 5, 8, 23] (lCons (vC (cSl ec_50)) (lCons (vRow 0) (lCons (vC (cInt .i64)) (lOne (vC cBool))))) (lOne (oSome (bRow ec_62))) [false] [] (by decide) (fun _ => rfl)
def qru := sLS [4] (lOne (vC cBool)) lNil [] [] (by decide) (fun _ => rfl)
def qrt := oOr 1 qru (oAt 2 qrv) (fun x => (by decide : (2 : Nat) ≠ 1))
def qrq (s : (List S50)) (l : Nat) (i : Int) (b0 : (List S62)) : Option ((Bool × Unit) ⊕ (((List S50) × Nat × Int × Bool) × (List S62))) := lS Tryz.prog lv X0 7 55 (getLoop (cdF Tryz.f7) 5) qrw qrt ((s, l, i), b0)
def qrx (s : (List S50)) (l : Nat) (i : Int) (b0 : (List S62)) : Option ((Bool × Unit) ⊕ (((List S50) × Nat × Int × Bool) × (List S62))) :=
 (brE (decide (i < ((l : Nat) : Int)))
 (gdE ((decide (0 ≤ i)) && (decide (i < ((l : Nat) : Int)))) <|
 (gdE ((decide ((Int.toNat i) < (List.length (EC.encL ec_62 b0)))) && ((List.length (List.getD (EC.encL ec_62 b0) (Int.toNat i) [])) == 3)) <|
 (gdE (isP [(K1.int Go.IntKind.i64)] 0 (List.getD (EC.encL ec_62 b0) (Int.toNat i) [])) <|
 (gdE (EC.isL ec_50 (EC.encL ec_50 s)) <|
 (Option.bind (qsh (EC.decL ec_50 (EC.encL ec_50 s))) fun r0 =>
 (Option.bind (qs4 (intOf (List.getD (List.getD (EC.encL ec_62 b0) (Int.toNat i) []) 0 C.ne)) 0 (IntKind.wrap .i64 (r0 - 1))) fun r1 =>
 (brE ((!r1) == false)
 (brE ((decide (i > 0)) == true)
 (gdE ((decide (0 ≤ i)) && (decide (i < ((l : Nat) : Int)))) <|
 (gdE ((decide ((Int.toNat i) < (List.length (EC.encL ec_62 b0)))) && ((List.length (List.getD (EC.encL ec_62 b0) (Int.toNat i) [])) == 3)) <|
 (gdE (isP [(K1.int Go.IntKind.i64)] 0 (List.getD (EC.encL ec_62 b0) (Int.toNat i) [])) <|
 (gdE ((decide (0 ≤ (IntKind.wrap .i64 (i - 1)))) && (decide ((IntKind.wrap .i64 (i - 1)) < ((l : Nat) : Int)))) <|
 (gdE ((decide ((Int.toNat (IntKind.wrap .i64 (i - 1))) < (List.length (EC.encL ec_62 b0)))) && ((List.length (List.getD (EC.encL ec_62 b0) (Int.toNat (IntKind.wrap .i64 (i - 1))) [])) == 3)) <|
 (gdE (isP [(K1.int Go.IntKind.i64)] 0 (List.getD (EC.encL ec_62 b0) (Int.toNat (IntKind.wrap .i64 (i - 1))) [])) <|
 (brE (decide ((intOf (List.getD (List.getD (EC.encL ec_62 b0) (Int.toNat i) []) 0 C.ne)) ≤ (intOf (List.getD (List.getD (EC.encL ec_62 b0) (Int.toNat (IntKind.wrap .i64 (i - 1))) []) 0 C.ne))))
 (some (.inl (false, ())))
 (gdE (EC.isL ec_50 (EC.encL ec_50 s)) <|
 (gdE (EC.isL ec_62 (EC.encL ec_62 b0)) <|
 (qrq (EC.decL ec_50 (EC.encL ec_50 s)) l (IntKind.wrap .i64 (i + 1)) (EC.decL ec_62 (EC.encL ec_62 b0))))))))))))
 (gdE (EC.isL ec_50 (EC.encL ec_50 s)) <|
 (gdE (EC.isL ec_62 (EC.encL ec_62 b0)) <|
 (qrq (EC.decL ec_50 (EC.encL ec_50 s)) l (IntKind.wrap .i64 (i + 1)) (EC.decL ec_62 (EC.encL ec_62 b0))))))
 (some (.inl (false, ()))))))))))
 (gdE (EC.isL ec_50 (EC.encL ec_50 s)) <|
 (gdE (EC.isL ec_62 (EC.encL ec_62 b0)) <|
 (some (.inr (((EC.decL ec_50 (EC.encL ec_50 s)), (l, (i, false))), (EC.decL ec_62 (EC.encL ec_62 b0))))))))
theorem qrs {s} {l} {i} {b0} {r} (h : qrx s l i b0 = some r) : qrq s l i b0 = some r :=
 qm5 (es := tabk) (hs := qkj) [] (by kernel_rfl) trivial trivial (by kernel_rfl) h
def qrr := lentS Tryz.prog lv X0 5 (getLoop (cdF Tryz.f7) 5) qrw qrt (fun x => qrq x.1.1 x.1.2.1 x.1.2.2 x.2) (fun _ _ h => qm4 h)
def qro : Cod (V × List B) Bool := (cFstU (cPair (vC cBool) lNil))
def qry (s : (List S50)) (m_Envelope_From : ByteArray) (m_Envelope_To : (List S118)) (m_Envelope_Id : ByteArray) (m_Message_Fields : (List S55)) (m_Message_Body : (List Int)) : Option Bool := fS Tryz.prog lv X0 7 qrn qro (s, (m_Envelope_From, m_Envelope_To, m_Envelope_Id, m_Message_Fields, m_Message_Body))
def qrz (s : (List S50)) (m_Envelope_From : ByteArray) (m_Envelope_To : (List S118)) (m_Envelope_Id : ByteArray) (m_Message_Fields : (List S55)) (m_Message_Body : (List Int)) : Option Bool :=
 (gdE (EC.isL ec_50 (EC.encL ec_50 s)) <|
 (gdE (EC.isL ec_118 (EC.encL ec_118 m_Envelope_To)) <|
 (gdE (EC.isL ec_55 (EC.encL ec_55 m_Message_Fields)) <|
 (gdE (EC.isL ec_5 (EC.encL ec_5 m_Message_Body)) <|
 (Option.bind (qey (EC.decL ec_50 (EC.encL ec_50 s)) m_Envelope_From (EC.decL ec_118 (EC.encL ec_118 m_Envelope_To)) m_Envelope_Id (EC.decL ec_55 (EC.encL ec_55 m_Message_Fields)) (EC.decL ec_5 (EC.encL ec_5 m_Message_Body))) fun r0 =>
 (brE (r0.1.2.2.1 != 0)
 (some true)
 (gdE (EC.isL ec_50 (EC.encL ec_50 s)) <|
 (gdE (EC.isL ec_62 (EC.encL ec_62 r0.2.1)) <|
 (Option.bind (qrq (EC.decL ec_50 (EC.encL ec_50 s)) r0.1.1 0 (EC.decL ec_62 (EC.encL ec_62 r0.2.1))) fun r1 =>
 (Sum.elim (fun r2 => (some r2.1))
 (fun r2 => (some true)) r1))))))))))
theorem qrp {s} {m_Envelope_From} {m_Envelope_To} {m_Envelope_Id} {m_Message_Fields} {m_Message_Body} {r} (h : qrz s m_Envelope_From m_Envelope_To m_Envelope_Id m_Message_Fields m_Message_Body = some r) : qry s m_Envelope_From m_Envelope_To m_Envelope_Id m_Message_Fields m_Message_Body = some r :=
 qf2 (es := tabk) (hs := qkj) [qrr] Tryz.func7 rfl (by kernel_rfl) rfl (by kernel_rfl) (by kernel_rfl) ⟨⟨_, rfl, rfl⟩, trivial⟩ trivial (by kernel_rfl) h
end
end Go.Proofs.YtokahibbkdbndaaGreatDoor
namespace Go.Proofs.YtokahibbkdbndaaGreatDoor
open Go.RowKit
def Asc : Int → Int → List S62 → Prop
 | _, _, [] => True
 | i, j, x :: l => i ≤ x.Rule ∧ x.Rule < j ∧ Asc (x.Rule + 1) j l
theorem Asc.mono : ∀ {l : List S62} {i i' j j' : Int}, Asc i j l → i' ≤ i → j ≤ j' → Asc i' j' l
 | [], _, _, _, _, _, _, _ => trivial
 | _ :: l, _, _, _, _, h, h1, h2 => ⟨by have := h.1; omega, by have := h.2.1; omega, h.2.2.mono (Int.le_refl _) h2⟩
theorem Asc.app : ∀ {l l' : List S62} {i j k : Int}, Asc i j l → Asc j k l' → i ≤ j → j ≤ k → Asc i k (l ++ l')
 | [], _, _, _, _, _, h', h1, _ => h'.mono h1 (Int.le_refl _)
 | x :: l, _, _, _, _, h, h', _, h2 => ⟨h.1, by have := h.2.1; omega, h.2.2.app h' (by have := h.2.1; omega) h2⟩
theorem Asc.get : ∀ {l : List S62} {i j : Int}, Asc i j l → (∀ k (hk : k < l.length), i ≤ l[k].Rule ∧ l[k].Rule < j) ∧ ∀ k (hk : k + 1 < l.length), l[k].Rule < l[k + 1].Rule
 | [], _, _, _ => ⟨fun k hk => by simp at hk, fun k hk => by simp at hk⟩
 | x :: l, i, j, h => by
  obtain ⟨g1, g2⟩ := h.2.2.get
  refine ⟨fun k hk => ?_, fun k hk => ?_⟩
  ·cases k with
   | zero => exact ⟨h.1, h.2.1⟩
   | succ k =>
    have := g1 k (by simpa using hk)
    have := h.1
    simp only [List.getElem_cons_succ]
    omega
  ·cases k with
   | zero =>
    have := g1 0 (by simpa using hk)
    simp only [List.getElem_cons_succ, List.getElem_cons_zero]
    omega
   | succ k => exact g2 k (by simpa using hk)
section
variable (f : ByteArray) (rc : List S118) (fs : List S55) (sz : Int)
def risesL (s : List S50) : Prop := ∀ (i : Int) (m : MM) (a : List S45) (st : List S62), ∃ new, (exL f rc fs sz s i m a st).2.2.2 = st ++ new ∧ Asc i (i + szL s) new
theorem qee : ∀ (q : Nat) (s : List S50), szL s = q → risesL f rc fs sz s := by
 intro q
 induction q using Nat.strongRecOn with
 | _ q ihq =>
  intro s
  induction s with
  | nil =>
   intro _ i m a st
   refine ⟨[], ?_, trivial⟩
   rw [exL, List.append_nil]
  | cons r l ihl =>
   intro hq i m a st
   have hsz : szR r + szL l = q := by simpa [szL] using hq
   have hr := szR_eq r
   have h1 : ∃ new, (exR f rc fs sz r i m a st).2.2.2 = st ++ new ∧ Asc i (i + szR r) new := by
    rw [exR_eq]
    split
    ·split
     ·obtain ⟨new, e, g⟩ := ihq (szL r.Then) (by omega) r.Then rfl (i + 1) (tsT f rc fs sz (tOf r) m).2 a (st ++ [⟨i, true, noTx⟩])
      refine ⟨⟨i, true, noTx⟩ :: new, ?_, ?_⟩
      ·rw [e]; simp
      ·exact ⟨Int.le_refl _, by show i < _; omega, g.mono (Int.le_refl _) (by omega)⟩
     ·obtain ⟨new, e, g⟩ := ihq (szL r.Else) (by omega) r.Else rfl (i + 1 + szL r.Then) (tsT f rc fs sz (tOf r) m).2 a (st ++ [⟨i, false, noTx⟩])
      refine ⟨⟨i, false, noTx⟩ :: new, ?_, ?_⟩
      ·rw [e]; simp
      ·exact ⟨Int.le_refl _, by show i < _; omega, g.mono (by show i + 1 ≤ _; omega) (by omega)⟩
    ·split
     ·exact ⟨[⟨i, false, exT m r.Text⟩], rfl, Int.le_refl _, by show i < _; omega, trivial⟩
     ·split
      ·exact ⟨[⟨i, false, exT m r.Text⟩], rfl, Int.le_refl _, by show i < _; omega, trivial⟩
      ·exact ⟨[⟨i, false, noTx⟩], rfl, Int.le_refl _, by show i < _; omega, trivial⟩
   obtain ⟨new, e, g⟩ := h1
   have hs : (szL (r :: l) : Int) = szR r + szL l := by rw [szL]; omega
   rw [exL, hs]
   split
   ·obtain ⟨new', e', g'⟩ := ihq (szL l) (by omega) l rfl (i + szR r) (exR f rc fs sz r i m a st).2.1 (exR f rc fs sz r i m a st).2.2.1 (exR f rc fs sz r i m a st).2.2.2
    refine ⟨new ++ new', ?_, ?_⟩
    ·rw [e', e, List.append_assoc]
    ·exact (g.app (g'.mono (Int.le_refl _) (by omega)) (by omega) (by omega)).mono (Int.le_refl _) (Int.le_refl _)
   ·exact ⟨new, e, g.mono (Int.le_refl _) (by omega)⟩
end
theorem qwo (s : List S50) (f : ByteArray) (rc : List S118) (e : ByteArray) (fs : List S55) (bd : List Int) : Asc 0 (szL s) (runS s f rc e fs bd) := by
 unfold runS
 split
 ·trivial
 ·obtain ⟨new, e, g⟩ := qee f rc fs (((msgF fs bd).1.1 : Nat) : Int) _ s rfl 0 [] [] []
  have e : (theRun s f rc fs bd).2.2.2 = new := by simpa [theRun] using e
  rw [e]
  simpa using g
theorem qio (s : List S50) (n : Nat) (hn : n ≤ 100) (hc : qsh s = some (n : Int)) (l : List S62) (hl : l.length ≤ 10000) (h : Asc 0 n l) : ∀ (m k : Nat), k + m = l.length → qrq s l.length k l = some (.inr ((s, (l.length, ((l.length : Int), false))), l)) := by
 obtain ⟨g1, g2⟩ := h.get
 intro m
 induction m with
 | zero =>
  intro k hk
  have hk : k = l.length := by omega
  subst hk
  refine qrs ?_
  simp only [qrx, brE_if, gdE_if, EC.decL_encL, EC.isL_encL, EC.encL_length, q4g]
  simp
 | succ m ih =>
  intro k hk
  have hlt : k < l.length := by omega
  have e1 : decide ((k : Int) < (l.length : Int)) = true := by simp; omega
  have e0 : decide ((0 : Int) ≤ (k : Int)) = true := by simp
  have e2 : IntKind.i64.wrap ((k : Int) + 1) = ((k + 1 : Nat) : Int) := wr_nat hlt (by omega)
  have hd2 : decide (k < l.length) = true := by simp [hlt]
  have hlen : (((ec_62.encL l).getD k []).length == 3) = true := by rw [EC.getD_lt _ _ hlt]; rfl
  have hisP : isP [(K1.int Go.IntKind.i64)] 0 ((ec_62.encL l).getD k []) = true := by rw [EC.getD_lt _ _ hlt]; rfl
  obtain ⟨a1, a2⟩ := g1 k hlt
  have w1 : IntKind.i64.wrap ((n : Int) - 1) = (n : Int) - 1 := wr_in (by omega)
  have hin : qs4 l[k].Rule 0 ((n : Int) - 1) = some true := by
   have a3 : l[k].Rule ≤ (n : Int) - 1 := by omega
   rw [in_s, decide_eq_true a1, decide_eq_true a3]; rfl
  have ih' := ih (k + 1) (by omega)
  refine qrs ?_
  simp only [qrx, brE_if, gdE_if, EC.decL_encL, EC.isL_encL, EC.encL_length, q4g, e1, e0, if_true, Int.toNat_natCast, hd2, Bool.and_self, hlen, hisP, qik hlt, hc, hin, Option.bind_some, w1, Bool.not_true, beq_self_eq_true, e2]
  cases k with
  | zero =>
   have c0 : decide (((0 : Nat) : Int) > 0) = false := by simp
   simp only [c0, show (false == true) = false from rfl, Bool.false_eq_true, if_false]
   exact ih'
  | succ k =>
   have c0 : decide (((k + 1 : Nat) : Int) > 0) = true := decide_eq_true (by omega)
   have w2 : IntKind.i64.wrap (((k + 1 : Nat) : Int) - 1) = (k : Int) := by rw [wr_in (by omega)]; omega
   have hlt' : k < l.length := by omega
   have f1 : decide ((k : Int) < (l.length : Int)) = true := decide_eq_true (by omega)
   have f0 : decide ((0 : Int) ≤ (k : Int)) = true := by simp
   have f2 : decide (k < l.length) = true := by simp [hlt']
   have f3 : (((ec_62.encL l).getD k []).length == 3) = true := by rw [EC.getD_lt _ _ hlt']; rfl
   have f4 : isP [(K1.int Go.IntKind.i64)] 0 ((ec_62.encL l).getD k []) = true := by rw [EC.getD_lt _ _ hlt']; rfl
   have c1 : decide (l[k + 1].Rule ≤ l[k].Rule) = false := decide_eq_false (by have := g2 k hlt; omega)
   simp only [c0, beq_self_eq_true, if_true, w2, f0, f1, f2, f3, f4, Bool.and_self, Int.toNat_natCast, qik hlt', c1, Bool.false_eq_true, if_false]
   exact ih'
theorem qwp {s : List S50} {f : ByteArray} {rc : List S118} {e : ByteArray} {fs : List S55} {bd : List Int} : (runS s f rc e fs bd).length ≤ 101 := by
 unfold runS
 split
 ·simp
 ·rename_i h
  have h0 := runF_0 (s := s) (f := f) (rc := rc) (e := e) (fs := fs) (bd := bd) (by simpa using h)
  obtain ⟨_, _, h2⟩ := q113 f rc fs bd h0.1
  have := (val_ok h0.1).2
  simp only [List.length_nil, Nat.zero_add] at h2
  omega
theorem goesOnLaw {s : List S50} {f : ByteArray} {rc : List S118} {bd : List Int} (h : MOk s f rc bd) (e : ByteArray) (fs : List S55) : qry s f rc e fs bd = some true := by
 have hx := qf0 h e fs
 refine qrp ?_
 simp only [qrz, brE_if, gdE_if, EC.decL_encL, EC.isL_encL, if_true, hx, Option.bind_some]
 by_cases hF : (runF s f rc e fs bd).1 = 0
 ·have c1 : ((runF s f rc e fs bd).1 != 0) = false := by simpa using hF
  have h0 := runF_0 hF
  have h100 := (val_ok h0.1).2
  have hc := q8c s h.len h.ok
  rw [wr_in (by omega)] at hc
  have hl := qio s (szL s) h100 hc (runS s f rc e fs bd) (Nat.le_trans qwp (by omega)) (qwo s f rc e fs bd) (runS s f rc e fs bd).length 0 (by omega)
  rw [Int.natCast_zero] at hl
  simp only [c1, Bool.false_eq_true, if_false, hl, Option.bind_some]
  rfl
 ·have c1 : ((runF s f rc e fs bd).1 != 0) = true := by simpa using hF
  simp only [c1, if_true]
end Go.Proofs.YtokahibbkdbndaaGreatDoor
namespace Go.Proofs.YtokahibbkdbndaaGreatDoor
open Go.ChangeShapes Go.WideShapes Go.ChangeAt Go.RowKit Go.Deep
theorem qm : ownKnob Tryz.prog.godebug = none := by kernel_rfl
theorem ql : laidOutB Tryz.prog = true := by kernel_rfl
section
variable {H : Type} {enc : TypeId × Value → H} {P : Program}
theorem q119 (hl : laidOutB P = true) {W W' : World} (hb : Bel W W') : ∀ {ts : List TypeId} {vs : List Value} {ds : List (DataW H)} {ps : List MemPlace}, ts.all (fun t => P.readableRec t && decide (t < P.types.size)) = true →
  DataW.TrodAll enc P W 0 (fun _ => true) true ts vs ds ps → (∀ x ∈ ps, x.block < W.heap.size) → DataW.TrodAll enc P W' 0 (fun b => decide (b < W.heap.size)) true ts vs ds ps
 | [], [], [], _, _, h, _ => h
 | [], [], _ :: _, _, _, h, _ => h.elim
 | [], _ :: _, _, _, _, h, _ => h.elim
 | _ :: _, [], _, _, _, h, _ => h.elim
 | _ :: _, _ :: _, [], _, _, h, _ => h.elim
 | t :: ts, v :: vs, d :: ds, ps, hr, h, hlt => by
  obtain ⟨p, q, h1, h2, rfl⟩ := h
  simp only [List.all_cons, Bool.and_eq_true, decide_eq_true_eq] at hr
  exact ⟨p, q, Below.trod hl hr.1.1 hr.1.2 h1 hb (fun x hx => hlt x (List.mem_append_left _ hx)), q119 hl hb hr.2 h2 (fun x hx => hlt x (List.mem_append_right _ hx)), rfl⟩
theorem qmf {fn : Func} {s : ChangeSpec} {W W' : World} {args : Array Value} {ds gs : List (DataW H)} {before : List MemPlace} {tb : TypeId} (hl : laidOutB P = true)
  (hr : fn.params.toList.all (fun t => P.readableRec t && decide (t < P.types.size)) = true) (hrt : fn.resultTypes = #[tb]) (htb : P.underlying tb = some .bool) (hvars : s.vars = [])
  (hfn : s.fn H ds = { results := [.lit (.bool true)], args := ds })
  (hW : DataW.Whole enc P fn.params.toList s.vars false W args.toList ds gs before) (hb : Bel W W') : s.post enc P fn false true false false W args (.bool true) W' := by
 have hW' := hW
 have hlt : ∀ x ∈ before, x.block < W.heap.size := fun x hx => hW.lt x hx
 obtain ⟨p, q, hA, hV, rfl, hfz, hnd⟩ := hW
 rw [hvars] at hV
 obtain ⟨rfl, rfl⟩ := trodVars_none hV
 have e : s.fn H (ds ++ []) = { results := [.lit (.bool true)], args := ds } := by rw [List.append_nil]; exact hfn
 refine ⟨ds, [], p ++ [], [], p, [], hW', ?_, ?_, ?_, hb.frame _, fun h => by cases h⟩
 ·rw [e, hrt]
  exact trodAll_mk1 (shut_bool htb true)
 ·rw [e]
  exact q119 hl hb hr hA (fun x hx => hlt x (by simpa using hx))
 ·rw [e, hvars]
  rfl
end
end Go.Proofs.YtokahibbkdbndaaGreatDoor
