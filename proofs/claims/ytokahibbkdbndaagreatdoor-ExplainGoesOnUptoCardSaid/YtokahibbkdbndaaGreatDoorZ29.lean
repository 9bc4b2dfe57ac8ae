/- What a script does, in plain words. -/
import Derived.Test.YtokahibbkdbndaaGreatDoorZ27
import Derived.Test.YtokahibbkdbndaaGreatDoorH6
namespace Go.Proofs.YtokahibbkdbndaaGreatDoor
open Go.RowKit
def exF (l : MM) : Nat → List UInt8 → List UInt8 → List UInt8
 | 0, _, out => out
 | n + 1, s, out =>
  if (Lib.cut s [36, 123]).2.2 = false ∨ (Lib.cut (Lib.cut s [36, 123]).2.1 [125]).2.2 = false then out ++ s
  else exF l n (Lib.cut (Lib.cut s [36, 123]).2.1 [125]).2.1 (out ++ ((Lib.cut s [36, 123]).1 ++ getM l (Lib.cut (Lib.cut s [36, 123]).2.1 [125]).1))
def exT (m : MM) (s : ByteArray) : ByteArray := ⟨((exF m (s.size + 1) s.data.toList []).take 4000).toArray⟩
theorem qim {l : MM} (k : List UInt8) (h : ∀ p ∈ l, p.2.size ≤ 2000000) : (getM l k).length ≤ 2000000 := by
 unfold getM
 cases hf : l.find? fun p => p.1.data.toList == k with
 | none => simp
 | some p =>
  have := h p (List.mem_of_find?_eq_some hf)
  show p.2.data.toList.length ≤ 2000000
  rw [Array.length_toList]
  exact this
theorem expF_s {l : MM} (h : ∀ p ∈ l, p.2.size ≤ 2000000) : ∀ (n : Nat) (s out : List UInt8), s.length < n → s.length ≤ 1000 → out.length + s.length * 3000000 ≤ 100000000000000 → expF l n s out = some (exF l n s out) := by
 intro n
 induction n with
 | zero => intro s out h; omega
 | succ n ih =>
  intro s out hn hs ho
  rw [expF, exF]
  split
  ·rw [if_pos (by omega)]
  ·rename_i hc
   have h1 : (Lib.cut s [36, 123]).2.2 = true := by
    cases hh : (Lib.cut s [36, 123]).2.2 with
    | true => rfl
    | false => exact absurd (.inl hh) hc
   have h2 : (Lib.cut (Lib.cut s [36, 123]).2.1 [125]).2.2 = true := by
    cases hh : (Lib.cut (Lib.cut s [36, 123]).2.1 [125]).2.2 with
    | true => rfl
    | false => exact absurd (.inr hh) hc
   have c1 := q8i s [36, 123] h1
   have c2 := q8i (Lib.cut s [36, 123]).2.1 [125] h2
   have hv := qim (Lib.cut (Lib.cut s [36, 123]).2.1 [125]).1 h
   simp only [List.length_cons, List.length_nil] at c1 c2
   rw [if_pos (by omega)]
   refine ih _ _ (by omega) (by omega) ?_
   simp only [List.length_append]
   omega
theorem expP_s {l : MM} (h : ∀ p ∈ l, p.2.size ≤ 2000000) (s : ByteArray) (hs : s.size ≤ 1000) : expP l s = some (exT l s) := by
 have e : s.data.toList.length = s.size := by rw [Array.length_toList]; rfl
 unfold expP exT
 rw [if_pos (by omega), expF_s h (s.size + 1) s.data.toList [] (by omega) (by omega) (by simp; omega)]
 rfl
theorem qef (m : MM) (s : ByteArray) : (exT m s).size ≤ 4000 := by
 show ((exF m (s.size + 1) s.data.toList []).take 4000).toArray.size ≤ 4000
 rw [List.size_toArray, List.length_take]
 omega
def noTx : ByteArray := ByteArray.mk (List.toArray [])
section
variable (f : ByteArray) (rc : List S118) (fs : List S55) (sz : Int)
mutual
def exR : S50 → Int → MM → List S45 → List S62 → Bool × MM × List S45 × List S62
 | ⟨kd, k, ts, nm, p, tx, n, t, e, ak, name, text, q⟩, i, m, a, st =>
  if kd = 1 then (if (tsT f rc fs sz ⟨k, ts, nm, p, tx, n⟩ m).1 = true then exL t (i + 1) (tsT f rc fs sz ⟨k, ts, nm, p, tx, n⟩ m).2 a (st ++ [⟨i, true, noTx⟩]) else exL e (i + 1 + szL t) (tsT f rc fs sz ⟨k, ts, nm, p, tx, n⟩ m).2 a (st ++ [⟨i, false, noTx⟩]))
  else if kd = 2 then (true, m, a ++ [⟨ak, exT m text, q⟩], st ++ [⟨i, false, exT m text⟩])
  else if kd = 3 then (true, putM m name (exT m text), a, st ++ [⟨i, false, exT m text⟩])
  else (false, m, a, st ++ [⟨i, false, noTx⟩])
def exL : List S50 → Int → MM → List S45 → List S62 → Bool × MM × List S45 × List S62
 | [], _, m, a, st => (true, m, a, st)
 | r :: l, i, m, a, st => if (exR r i m a st).1 = true then exL l (i + szR r) (exR r i m a st).2.1 (exR r i m a st).2.2.1 (exR r i m a st).2.2.2 else exR r i m a st
end
theorem exR_eq (r : S50) (i : Int) (m : MM) (a : List S45) (st : List S62) : exR f rc fs sz r i m a st = if r.Kind = 1 then (if (tsT f rc fs sz (tOf r) m).1 = true then exL f rc fs sz r.Then (i + 1) (tsT f rc fs sz (tOf r) m).2 a (st ++ [⟨i, true, noTx⟩]) else exL f rc fs sz r.Else (i + 1 + szL r.Then) (tsT f rc fs sz (tOf r) m).2 a (st ++ [⟨i, false, noTx⟩]))
  else if r.Kind = 2 then (true, m, a ++ [⟨r.Act, exT m r.Text, r.N⟩], st ++ [⟨i, false, exT m r.Text⟩])
  else if r.Kind = 3 then (true, putM m r.Name (exT m r.Text), a, st ++ [⟨i, false, exT m r.Text⟩])
  else (false, m, a, st ++ [⟨i, false, noTx⟩]) := by cases r; rw [exR]; rfl
def exP (n : Nat) (a : List S45) (st : List S62) (q : Nat) (u : Bool × MM × List S45 × List S62) : Prop := Inv (n + q) u.2.1 ∧ u.2.2.1.length ≤ a.length + q ∧ u.2.2.2.length ≤ st.length + q
theorem qed : ∀ (q : Nat) (s : List S50), szL s = q → okvL s → ∀ (n : Nat) (i : Int) (m : MM) (a : List S45) (st : List S62), Inv n m → exP n a st q (exL f rc fs sz s i m a st) := by
 intro q
 induction q using Nat.strongRecOn with
 | _ q ihq =>
  intro s
  induction s with
  | nil =>
   intro hq hv n i m a st hI
   rw [exL]
   have : q = 0 := by simpa [szL] using hq.symm
   subst this
   exact ⟨hI, Nat.le_refl _, Nat.le_refl _⟩
  | cons r l ihl =>
   intro hq hv n i m a st hI
   have hsz : szR r + szL l = q := by simpa [szL] using hq
   have hr := szR_eq r
   obtain ⟨hh, hvt, hve⟩ := okvR hv (List.mem_cons_self ..)
   have hvl : okvL l := by
    obtain ⟨n0, d0, m0, hn0, hc0⟩ := hv
    unfold ckL at hc0
    split at hc0
    ·cases hc0
    rename_i h100
    split at hc0
    ·cases hc0
    rename_i hrc
    cases hq : ckR r n0 d0 with
    | inl g => rw [hq] at hc0; cases hc0
    | inr n2 =>
     rw [hq] at hc0
     have := (ck_sz (szL [r]) [r] rfl n0 d0 hn0).1 n2 (by simp only [ckL]; rw [if_neg h100, if_neg hrc, hq])
     exact ⟨n2, d0, m0, this.2, hc0⟩
   obtain ⟨hk, htx, hvar, _⟩ := qtd hh
   have h1 : exP n a st (szR r) (exR f rc fs sz r i m a st) := by
    rw [exR_eq]
    split
    ·rename_i hk1
     have hI2 := q11c f rc fs sz n (tOf r) m hI
     split
     ·obtain ⟨g1, g2, g3⟩ := ihq (szL r.Then) (by omega) r.Then rfl hvt n (i + 1) _ a (st ++ [⟨i, true, noTx⟩]) hI2
      simp only [List.length_append, List.length_singleton] at g3
      exact ⟨g1.mono (by omega), by omega, by omega⟩
     ·obtain ⟨g1, g2, g3⟩ := ihq (szL r.Else) (by omega) r.Else rfl hve n (i + 1 + szL r.Then) _ a (st ++ [⟨i, false, noTx⟩]) hI2
      simp only [List.length_append, List.length_singleton] at g3
      exact ⟨g1.mono (by omega), by omega, by omega⟩
    ·split
     ·exact ⟨hI.mono (by omega), by simp; omega, by simp; omega⟩
     ·split
      ·rename_i hk3
       have hvb := hvar hk3
       have hne : r.Name.size ≠ 0 := by
        unfold varB at hvb
        simp at hvb
        omega
       have := hI.set (k := r.Name) (v := exT m r.Text) hne (by have := qef m r.Text; omega)
       exact ⟨this.mono (by omega), by simp, by simp; omega⟩
      ·exact ⟨hI.mono (by omega), by simp, by simp; omega⟩
   rw [exL]
   obtain ⟨g1, g2, g3⟩ := h1
   split
   ·obtain ⟨k1, k2, k3⟩ : exP (n + szR r) (exR f rc fs sz r i m a st).2.2.1 (exR f rc fs sz r i m a st).2.2.2 (szL l) (exL f rc fs sz l (i + szR r) (exR f rc fs sz r i m a st).2.1 (exR f rc fs sz r i m a st).2.2.1 (exR f rc fs sz r i m a st).2.2.2) := by
     exact ihq (szL l) (by omega) l rfl hvl (n + szR r) _ _ _ _ g1
    exact ⟨k1.mono (by omega), by omega, by omega⟩
   ·exact ⟨g1.mono (by omega), by omega, by omega⟩
end
end Go.Proofs.YtokahibbkdbndaaGreatDoor
namespace Go.Proofs.YtokahibbkdbndaaGreatDoor
open Go.RowKit
def dB (k : Int) : Bool := k != 6 && k != 7
theorem q8t (l : List S45) (hl : l.length ≤ big) : ∀ m k, k + m = l.length → ∃ x, qc2 l l.length k = some x ∧ Sum.elim (fun r => r.1) (fun _ => false) x = (l.drop k).any fun a => dB a.Kind := by
 intro m
 induction m with
 | zero =>
  intro k hk
  have hk : k = l.length := by omega
  subst hk
  refine ⟨.inr ((l, ((l.length : Int), ((l.length : Int), false))), ()), qc4 (by
   simp only [qc9, brE_if, gdE_if, EC.decL_encL, EC.isL_encL, EC.encL_length, isE_45, q3u]
   simp), ?_⟩
  rw [List.drop_length]; rfl
 | succ m ihm =>
  intro k hk
  have hlt : k < l.length := by omega
  have e1 : decide ((k : Int) < (l.length : Int)) = true := by simp; omega
  have e0 : decide ((0 : Int) ≤ (k : Int)) = true := by simp
  have e2 : IntKind.i64.wrap ((k : Int) + 1) = ((k + 1 : Nat) : Int) := wr_nat hlt (by unfold big at hl; omega)
  have hd2 : decide (k < l.length) = true := by simp [hlt]
  obtain ⟨x, h1, h2⟩ := ihm (k + 1) (by omega)
  rw [q97 hlt, List.any_cons, dB]
  cases h6 : (l[k].Kind != 6) with
  | false =>
   refine ⟨x, qc4 ?_, by rw [Bool.false_and, Bool.false_or]; exact h2⟩
   simp only [qc9, brE_if, gdE_if, EC.decL_encL, EC.isL_encL, EC.encL_length, isE_45, q3u, e1, e0, if_true, Int.toNat_natCast, hd2, Bool.and_self, qik hlt, h6, Bool.false_eq_true, if_false, e2, show (false == true) = false from rfl]
   exact h1
  | true =>
  cases h7 : (l[k].Kind != 7) with
  | false =>
   refine ⟨x, qc4 ?_, by rw [Bool.true_and, Bool.false_or]; exact h2⟩
   simp only [qc9, brE_if, gdE_if, EC.decL_encL, EC.isL_encL, EC.encL_length, isE_45, q3u, e1, e0, if_true, Int.toNat_natCast, hd2, Bool.and_self, qik hlt, h6, h7, Bool.false_eq_true, if_false, e2, beq_self_eq_true]
   exact h1
  | true =>
   refine ⟨.inl (true, ()), qc4 ?_, rfl⟩
   simp only [qc9, brE_if, gdE_if, EC.decL_encL, EC.isL_encL, EC.encL_length, isE_45, q3u, e1, e0, if_true, Int.toNat_natCast, hd2, Bool.and_self, qik hlt, h6, h7, beq_self_eq_true]
theorem q8x (l : List S45) (hl : l.length ≤ big) : qca l = some (l.any fun a => dB a.Kind) := by
 obtain ⟨x, h1, h2⟩ := q8t l hl l.length 0 (by omega)
 have h1 : qc2 l l.length 0 = some x := h1
 rw [List.drop_zero] at h2
 refine qc1 ?_
 simp only [qcb, gdE_if, EC.decL_encL, EC.isL_encL, EC.encL_length, if_true, h1, Option.bind_some, ← h2]
 rcases x with x | x <;> rfl
def finA (a : List S45) : List S45 := if (a.any fun x => dB x.Kind) = true then a else a ++ [⟨1, noTx, 0⟩]
structure MOk (s : List S50) (f : ByteArray) (rc : List S118) (bd : List Int) : Prop where
 len : s.length ≤ big
 ok : okL s
 fr : f.size ≤ 2000000
 rl : rc.length ≤ 2000000
 ad : ∀ x ∈ rc, x.Address.size ≤ 2000000
 bl : bd.length ≤ 2000000
noncomputable def envF (f : ByteArray) (rc : List S118) (e : ByteArray) : Int × Int := (qbd f rc e).getD (0, 0)
noncomputable def msgF (fs : List S55) (bd : List Int) : (Nat × (Int × Int)) × List Int := (qnv fs bd).getD ((0, (0, 0)), [])
theorem envF_s {s : List S50} {f : ByteArray} {rc : List S118} {bd : List Int} (h : MOk s f rc bd) (e : ByteArray) : qbd f rc e = some (envF f rc e) ∧ ((envF f rc e).1 = 0 → envB f rc) := by
 obtain ⟨r, e1, h1⟩ := env_ok f rc e h.fr h.rl h.ad
 unfold envF
 rw [e1]
 exact ⟨rfl, h1⟩
theorem msgF_s (fs : List S55) {bd : List Int} (h : bd.length ≤ 2000000) : qnv fs bd = some (msgF fs bd) ∧ ((msgF fs bd).1.2.1 = 0 → HdrOk fs) ∧ (msgF fs bd).1.1 = (msgF fs bd).2.length := by
 obtain ⟨r, e1, h1, h2⟩ := qoq fs bd h
 unfold msgF
 rw [e1]
 exact ⟨rfl, h1, h2⟩
noncomputable def runF (s : List S50) (f : ByteArray) (rc : List S118) (e : ByteArray) (fs : List S55) (bd : List Int) : Int × Int :=
 if (scriptF s).1 ≠ 0 then scriptF s else if (envF f rc e).1 ≠ 0 then ((envF f rc e).1, -3) else if (msgF fs bd).1.2.1 ≠ 0 then ((msgF fs bd).1.2.1, -2) else (0, 0)
noncomputable def theRun (s : List S50) (f : ByteArray) (rc : List S118) (fs : List S55) (bd : List Int) : Bool × MM × List S45 × List S62 := exL f rc fs (((msgF fs bd).1.1 : Nat) : Int) s 0 [] [] []
noncomputable def runA (s : List S50) (f : ByteArray) (rc : List S118) (e : ByteArray) (fs : List S55) (bd : List Int) : List S45 := if (runF s f rc e fs bd).1 ≠ 0 then [] else finA (theRun s f rc fs bd).2.2.1
theorem runF_0 {s : List S50} {f : ByteArray} {rc : List S118} {e : ByteArray} {fs : List S55} {bd : List Int} (h : (runF s f rc e fs bd).1 = 0) : (scriptF s).1 = 0 ∧ (envF f rc e).1 = 0 ∧ (msgF fs bd).1.2.1 = 0 := by
 unfold runF at h
 split at h
 ·rename_i h0; exact absurd h h0
 ·rename_i h0
  split at h
  ·rename_i h1; exact absurd h h1
  ·rename_i h1
   split at h
   ·rename_i h2; exact absurd h h2
   ·rename_i h2
    exact ⟨by simpa using h0, by simpa using h1, by simpa using h2⟩
theorem val_ok {s : List S50} (h : (scriptF s).1 = 0) : okvL s ∧ szL s ≤ 100 := by
 obtain ⟨m, m1, m2, m3⟩ := qx9 h
 exact ⟨⟨0, 1, m, by omega, m1⟩, m3⟩
theorem q113 {s : List S50} (f : ByteArray) (rc : List S118) (fs : List S55) (bd : List Int) (h : (scriptF s).1 = 0) : exP 0 [] [] (szL s) (theRun s f rc fs bd) := qed f rc fs _ (szL s) s rfl (val_ok h).1 0 0 [] [] [] Inv.nil
end Go.Proofs.YtokahibbkdbndaaGreatDoor
namespace Go.Proofs.YtokahibbkdbndaaGreatDoor
open Go.RowKit
section
variable (f : ByteArray) (rc : List S118) (i : ByteArray) (fs : List S55) (bd : List Int) (sz : Int) (na : Nat) (ac : List S45) (ns : Nat) (st : List S62)
theorem q12f (ps : List ByteArray) (hp : ps.length ≤ 1000) (hv : ∀ v ∈ ps, v.size ≤ 2000000) : ∀ (m k : Nat) (mm : MM), k + m = ps.length → mm.length + m ≤ 100000000 → qdg ps.length ps.length k f rc i fs bd sz na ps mm ns ac st = some (((), (ps.length, ((ps.length : Int), ((ps.length : Int), false)))), ((f, (rc, (i, (fs, (bd, (sz, ((), (na, ())))))))), (ps, (putP (ps.drop k) k mm, (ns, (ac, st)))))) := by
 intro m
 induction m with
 | zero =>
  intro k mm hk hs
  have hk : k = ps.length := by omega
  subst hk
  refine qdi ?_
  rw [List.drop_length, putP]
  simp only [qdm, brE_if, gdE_if, EC.decL_encL, EC.isL_encL, EC.encL_length, at_9_0]
  simp
 | succ m ih =>
  intro k mm hk hs
  have hlt : k < ps.length := by omega
  have e1 : decide ((k : Int) < (ps.length : Int)) = true := by simp; omega
  have e0 : decide ((0 : Int) ≤ (k : Int)) = true := by simp
  have e2 : IntKind.i64.wrap ((k : Int) + 1) = ((k + 1 : Nat) : Int) := wr_nat hlt (by omega)
  have e3 : decide (k < ps.length) = true := by simp [hlt]
  have hi : itoaP ((k + 1 : Nat) : Int) = some (itB ((k + 1 : Nat) : Int)) := by unfold itoaP; rw [if_pos (by omega)]; rfl
  have g1 : decide ((itB ((k + 1 : Nat) : Int)).size ≤ maxLen) = true := decide_eq_true (by have := qln (k + 1); unfold maxLen; omega)
  have g2 : decide (ps[k].size ≤ maxLen) = true := decide_eq_true (by have := hv _ (List.getElem_mem hlt); unfold maxLen; omega)
  have g3 : decide (mm.length < maxLen) = true := decide_eq_true (by unfold maxLen; omega)
  refine qdi ?_
  rw [q97 hlt, putP]
  simp only [qdm, brE_if, gdE_if, EC.decL_encL, EC.isL_encL, EC.encL_length, at_9_0, e1, e0, e3, if_true, Int.toNat_natCast, Bool.and_self, len_9 ps k hlt, qll ps k hlt, qik hlt, beq_self_eq_true, e2, hi, Option.bind_some, g1, g2, g3]
  exact ih (k + 1) _ (by omega) (by have := qsk mm (itB ((k + 1 : Nat) : Int)) ps[k]; omega)
theorem q12c (t : S48) (ht : t.Text.size ≤ 2000000) (l : List ByteArray) (hl : l.length ≤ 2000000) (hv : ∀ v ∈ l, v.size ≤ 2000000) (n : Nat) (hn : n ≤ 1000000) (mm : MM) (hm : Inv n mm) : ∀ (m k : Nat), k + m = l.length → ∃ x, qd8 l.length l.length k f rc i fs bd sz na t.Kind t.Tests t.Name t.Pattern t.Text t.N l mm ns ac st = some x ∧
  Sum.elim (fun r => (r.1, (r.1, r.2))) (fun r => (false, (false, (r.2.1, (r.2.2.2.2.1, r.2.2.2.2.2))))) x = ((matL t.Pattern t.Text mm (l.drop k)).1, ((matL t.Pattern t.Text mm (l.drop k)).1, ((f, (rc, (i, (fs, (bd, (sz, ((), (na, ())))))))), ((matL t.Pattern t.Text mm (l.drop k)).2, (ns, (ac, st)))))) := by
 intro m
 induction m with
 | zero =>
  intro k hk
  have hk : k = l.length := by omega
  subst hk
  refine ⟨.inr (((), ((), (l.length, ((l.length : Int), ((l.length : Int), false))))), ((f, (rc, (i, (fs, (bd, (sz, ((), (na, ())))))))), ((t.Kind, (t.Tests, (t.Name, (t.Pattern, (t.Text, t.N))))), (l, (mm, (ns, (ac, st))))))), qda (by
   simp only [qdf, brE_if, gdE_if, EC.decL_encL, EC.isL_encL, EC.encL_length, at_9_0]
   simp), ?_⟩
  rw [List.drop_length]; rfl
 | succ m ih =>
  intro k hk
  have hlt : k < l.length := by omega
  have e1 : decide ((k : Int) < (l.length : Int)) = true := by simp; omega
  have e0 : decide ((0 : Int) ≤ (k : Int)) = true := by simp
  have e2 : IntKind.i64.wrap ((k : Int) + 1) = ((k + 1 : Nat) : Int) := wr_nat hlt (by omega)
  have e3 : decide (k < l.length) = true := by simp [hlt]
  have hs := hv _ (List.getElem_mem hlt)
  have hM := qnj t.Pattern t.Text l[k] (by omega) (by omega)
  obtain ⟨p1, p2, p3⟩ := qni t.Pattern t.Text l[k]
  obtain ⟨x, h1, h2⟩ := ih (k + 1) (by omega)
  rw [q97 hlt, matL]
  generalize matchR t.Pattern t.Text l[k] = r at hM p1 p2 p3
  cases hf : (r.1.2.2.1 != 0) with
  | true =>
   have hf' : ¬ (r.1.2.2.1 = 0 ∧ r.1.1 = true) := fun h => by rw [h.1] at hf; cases hf
   rw [if_neg hf']
   refine ⟨x, qda ?_, h2⟩
   simp only [qdf, brE_if, gdE_if, EC.decL_encL, EC.isL_encL, EC.encL_length, at_9_0, e1, e0, e3, if_true, Int.toNat_natCast, Bool.and_self, len_9 l k hlt, qll l k hlt, qik hlt, beq_self_eq_true, e2, hM, Option.bind_some, qf3, hf, show (true == false) = false from rfl, Bool.false_eq_true, if_false]
   exact h1
  | false =>
   have hf0 : r.1.2.2.1 = 0 := by simpa using hf
   cases hb : r.1.1 with
   | false =>
    rw [if_neg (by simp)]
    refine ⟨x, qda ?_, h2⟩
    simp only [qdf, brE_if, gdE_if, EC.decL_encL, EC.isL_encL, EC.encL_length, at_9_0, e1, e0, e3, if_true, Int.toNat_natCast, Bool.and_self, len_9 l k hlt, qll l k hlt, qik hlt, beq_self_eq_true, e2, hM, Option.bind_some, qf3, hf, hb, Bool.not_false]
    exact h1
   | true =>
    rw [if_pos ⟨hf0, rfl⟩]
    cases h3 : (t.Pattern == 3) with
    | false =>
     have h3' : ¬ t.Pattern = 3 := by simpa using h3
     refine ⟨.inl (true, ((f, (rc, (i, (fs, (bd, (sz, ((), (na, ())))))))), (mm, (ns, (ac, st))))), qda ?_, by rw [if_neg h3']; rfl⟩
     simp only [qdf, brE_if, gdE_if, EC.decL_encL, EC.isL_encL, EC.encL_length, at_9_0, e1, e0, e3, if_true, Int.toNat_natCast, Bool.and_self, len_9 l k hlt, qll l k hlt, qik hlt, beq_self_eq_true, e2, hM, Option.bind_some, qf3, hf, hb, h3, Bool.not_true, Bool.false_eq_true, if_false]
    | true =>
     have h3' : t.Pattern = 3 := by simpa using h3
     have hd : delP mm = some (noDig mm) := by
      unfold delP
      rw [if_pos (List.all_eq_true.2 fun p hp => decide_eq_true (hm.key p hp))]
      rfl
     have hln := qp2 mm
     have hma := hm.all
     have hpc := q12f f rc i fs bd sz na ac ns st r.2 p2 p3 r.2.length 0 (noDig mm) (by omega) (by omega)
     rw [List.drop_zero] at hpc
     have hpc : qdg r.2.length r.2.length 0 f rc i fs bd sz na r.2 (noDig mm) ns ac st = _ := hpc
     refine ⟨.inl (true, ((f, (rc, (i, (fs, (bd, (sz, ((), (na, ())))))))), (putP r.2 0 (noDig mm), (ns, (ac, st))))), qda ?_, by rw [if_pos h3']; rfl⟩
     simp only [qdf, brE_if, gdE_if, EC.decL_encL, EC.isL_encL, EC.encL_length, at_9_0, e1, e0, e3, if_true, Int.toNat_natCast, Bool.and_self, len_9 l k hlt, qll l k hlt, qik hlt, beq_self_eq_true, e2, hM, Option.bind_some, qf3, hf, hb, h3, Bool.not_true, Bool.false_eq_true, if_false, hd, p1, hpc]
theorem q12d (t : S48) (ht : t.Text.size ≤ 2000000) (l : List ByteArray) (hl : l.length ≤ 2000000) (hv : ∀ v ∈ l, v.size ≤ 2000000) (n : Nat) (hn : n ≤ 1000000) (mm : MM) (hm : Inv n mm) :
  qd5 t.Kind t.Tests t.Name t.Pattern t.Text t.N l.length f rc i fs bd sz na l mm ns ac st = some ((matL t.Pattern t.Text mm l).1, ((matL t.Pattern t.Text mm l).1, ((f, (rc, (i, (fs, (bd, (sz, ((), (na, ())))))))), ((matL t.Pattern t.Text mm l).2, (ns, (ac, st)))))) := by
 obtain ⟨x, h1, h2⟩ := q12c f rc i fs bd sz na ac ns st t ht l hl hv n hn mm hm l.length 0 (by omega)
 rw [List.drop_zero] at h2
 have h1 : qd8 l.length l.length 0 f rc i fs bd sz na t.Kind t.Tests t.Name t.Pattern t.Text t.N l mm ns ac st = some x := h1
 refine qd7 ?_
 simp only [qdq, gdE_if, EC.decL_encL, EC.isL_encL, if_true, h1, Option.bind_some]
 rcases x with x | x
 ·simp only [Sum.elim_inl] at h2 ⊢
  exact congrArg some h2
 ·simp only [Sum.elim_inr] at h2 ⊢
  exact congrArg some h2
theorem q12b (h : HdrOk fs) (n : ByteArray) (hn : n.size ≤ 2000000) (mm : MM) :
  qcy n f rc i fs bd sz na mm ns ac st = some ((valsL fs n).length, ((valsL fs n).length, (valsL fs n, ((f, (rc, (i, (fs, (bd, (sz, ((), (na, ())))))))), (mm, (ns, (ac, st))))))) := by
 obtain ⟨r, e, h1, h2⟩ := get_s h n hn
 refine qd0 ?_
 simp only [qd4, gdE_if, EC.decL_encL, EC.isL_encL, if_true, e, Option.bind_some]
 rw [h2, h1]
end
end Go.Proofs.YtokahibbkdbndaaGreatDoor
namespace Go.Proofs.YtokahibbkdbndaaGreatDoor
open Go.RowKit
section
variable (f : ByteArray) (rc : List S118) (i : ByteArray) (fs : List S55) (bd : List Int) (sz : Int) (na : Nat) (ac : List S45) (ns : Nat) (st : List S62)
theorem q126 (t : S48) (mm : MM) (hl : rc.length ≤ 60) : ∀ (m k : Nat) (acc : List ByteArray), k + m = rc.length → acc.length ≤ k → qdu acc.length rc rc.length k f rc i fs bd sz na t.Kind t.Tests t.Name t.Pattern t.Text t.N acc mm ns ac st = some (((), ((), (acc.length + m, (rc, ((rc.length : Int), ((rc.length : Int), false)))))), ((f, (rc, (i, (fs, (bd, (sz, ((), (na, ())))))))), ((t.Kind, (t.Tests, (t.Name, (t.Pattern, (t.Text, t.N))))), (acc ++ (rc.drop k).map (fun x => x.Address), (mm, (ns, (ac, st))))))) := by
 intro m
 induction m with
 | zero =>
  intro k acc hk ha
  have hk : k = rc.length := by omega
  subst hk
  refine qdw ?_
  rw [List.drop_length]
  simp only [qe0, brE_if, gdE_if, EC.decL_encL, EC.isL_encL, EC.encL_length, all_9, apd_9, qlh, q3o]
  simp
 | succ m ih =>
  intro k acc hk ha
  have hlt : k < rc.length := by omega
  have e1 : decide ((k : Int) < (rc.length : Int)) = true := by simp; omega
  have e0 : decide ((0 : Int) ≤ (k : Int)) = true := by simp
  have e2 : IntKind.i64.wrap ((k : Int) + 1) = ((k + 1 : Nat) : Int) := wr_nat hlt (by omega)
  have e3 : decide (k < rc.length) = true := by simp [hlt]
  have g1 : decide ((acc.length + 1 + (acc.length + 1) / 4 + 192) * 16 ≤ 281474976710656) = true := decide_eq_true (by omega)
  have g2 : decide (acc.length + 1 ≤ 9223372036854775807) = true := decide_eq_true (by omega)
  have hi := ih (k + 1) (acc ++ [rc[k].Address]) (by omega) (by simp; omega)
  rw [List.length_append] at hi
  refine qdw ?_
  rw [q97 hlt, List.map_cons]
  simp only [qe0, brE_if, gdE_if, EC.decL_encL, EC.isL_encL, EC.encL_length, all_9, apd_9, qlh, q3o, e1, e0, e3, if_true, Int.toNat_natCast, Bool.and_self, qik hlt, List.all_cons, List.all_nil, List.length_cons, List.length_nil, Nat.zero_add, beq_self_eq_true, g1, g2, e2]
  rw [show acc ++ rc[k].Address :: (rc.drop (k + 1)).map (fun x => x.Address) = acc ++ [rc[k].Address] ++ (rc.drop (k + 1)).map (fun x => x.Address) by simp, show acc.length + (m + 1) = acc.length + [rc[k].Address].length + m by simp; omega]
  exact hi
def q12g (t : S48) : Prop := ∀ (n : Nat) (mm : MM), n ≤ 1000000 → Inv n mm → qdr t.Kind t.Tests t.Name t.Pattern t.Text t.N f rc i fs bd sz na mm ns ac st = some ((tsT f rc fs sz t mm).1, ((tsT f rc fs sz t mm).1, ((f, (rc, (i, (fs, (bd, (sz, ((), (na, ())))))))), ((tsT f rc fs sz t mm).2, (ns, (ac, st))))))
theorem q127 (t : S48) (n : Nat) (hn : n ≤ 1000000) (hl : t.Tests.length ≤ 2000000) (ih0 : ∀ x ∈ t.Tests, q12g f rc i fs bd sz na ac ns st x) : ∀ (m k : Nat) (mm : MM), k + m = t.Tests.length → Inv n mm → ∃ x, qe1 t.Tests t.Tests.length k f rc i fs bd sz na t.Kind t.Tests t.Name t.Pattern t.Text t.N mm ns ac st = some x ∧
  Sum.elim (fun r => (r.1, (r.1, r.2))) (fun r => ((r.2.2.1.1 == 3), ((r.2.2.1.1 == 3), (r.2.1, (r.2.2.2.1, r.2.2.2.2))))) x = ((tsA f rc fs sz t.Kind (t.Tests.drop k) mm).1, ((tsA f rc fs sz t.Kind (t.Tests.drop k) mm).1, ((f, (rc, (i, (fs, (bd, (sz, ((), (na, ())))))))), ((tsA f rc fs sz t.Kind (t.Tests.drop k) mm).2, (ns, (ac, st)))))) := by
 intro m
 induction m with
 | zero =>
  intro k mm hk hI
  have hk : k = t.Tests.length := by omega
  subst hk
  refine ⟨.inr (((), ((), (t.Tests, ((t.Tests.length : Int), ((t.Tests.length : Int), false))))), ((f, (rc, (i, (fs, (bd, (sz, ((), (na, ())))))))), ((t.Kind, (t.Tests, (t.Name, (t.Pattern, (t.Text, t.N))))), (mm, (ns, (ac, st)))))), qe3 (by
   simp only [qe8, brE_if, gdE_if, EC.decL_encL, EC.isL_encL, EC.encL_length, isE_48, q3v, q3w, q3x, q3y, q3z, q40]
   simp), ?_⟩
  rw [List.drop_length, tsA]; rfl
 | succ m ih =>
  intro k mm hk hI
  have hlt : k < t.Tests.length := by omega
  have e1 : decide ((k : Int) < (t.Tests.length : Int)) = true := by simp; omega
  have e0 : decide ((0 : Int) ≤ (k : Int)) = true := by simp
  have e2 : IntKind.i64.wrap ((k : Int) + 1) = ((k + 1 : Nat) : Int) := wr_nat hlt (by omega)
  have e3 : decide (k < t.Tests.length) = true := by simp [hlt]
  have h0 := ih0 t.Tests[k] (List.getElem_mem hlt) n mm hn hI
  have hI2 := q11c f rc fs sz n t.Tests[k] mm hI
  rw [q97 hlt, tsA]
  generalize tsT f rc fs sz t.Tests[k] mm = u at h0 hI2
  obtain ⟨x, h1, h2⟩ := ih (k + 1) u.2 (by omega) hI2
  by_cases hb : u.1 = (t.Kind == 4)
  ·have hb' : (u.1 == (t.Kind == 4)) = true := by simpa using hb
   rw [if_pos hb]
   refine ⟨.inl ((t.Kind == 4), ((f, (rc, (i, (fs, (bd, (sz, ((), (na, ())))))))), (u.2, (ns, (ac, st))))), qe3 ?_, rfl⟩
   simp only [qe8, brE_if, gdE_if, EC.decL_encL, EC.isL_encL, EC.encL_length, isE_48, q3v, q3w, q3x, q3y, q3z, q40, e1, e0, e3, if_true, Int.toNat_natCast, Bool.and_self, qik hlt, h0, Option.bind_some, hb']
  ·have hb' : (u.1 == (t.Kind == 4)) = false := by simpa using hb
   rw [if_neg hb]
   refine ⟨x, qe3 ?_, h2⟩
   simp only [qe8, brE_if, gdE_if, EC.decL_encL, EC.isL_encL, EC.encL_length, isE_48, q3v, q3w, q3x, q3y, q3z, q40, e1, e0, e3, if_true, Int.toNat_natCast, Bool.and_self, qik hlt, h0, Option.bind_some, hb', Bool.false_eq_true, if_false, e2]
   exact h1
theorem q12h (hH : HdrOk fs) (hE : envB f rc) : ∀ (q : Nat) (t : S48), tzT t = q → okT t → okvT t → t.Tests.length ≤ 2000000 → q12g f rc i fs bd sz na ac ns st t := by
 intro q
 induction q using Nat.strongRecOn with
 | _ q ihq =>
  intro t hq ho hv hlen n mm hn hI
  subst hq
  obtain ⟨hl, hol⟩ := (okT_eq t).1 ho
  obtain ⟨⟨k1, k9⟩, hinn⟩ := qpg hv
  obtain ⟨ht1, ht2⟩ := qph hv
  obtain ⟨he1, he2, he3⟩ := hE
  have hkid : ∀ x ∈ t.Tests, x.Tests.length ≤ 60 := fun x hx => by
   have := (qpg (qpf hv hx)).2
   unfold innerB at this
   split at this
   ·have : x.Tests.length = 1 := by simpa using this
    omega
   ·split at this
    ·simp at this; omega
    ·have : x.Tests.length = 0 := by simpa using this
     omega
  have ihc : ∀ x ∈ t.Tests, q12g f rc i fs bd sz na ac ns st x := fun x hx => ihq (tzT x) (by have := tz_mem hx; have e := tzT_eq t; omega) x rfl (qpb hol hx) (qpf hv hx) (by have := hkid x hx; omega)
  have hvl : (valsL fs t.Name).length ≤ 60 := Nat.le_trans (q11o _ _) hH.len
  have hvs : ∀ v ∈ valsL fs t.Name, v.size ≤ 2000000 := fun v hv => by
   unfold valsL at hv
   obtain ⟨x, hx, rfl⟩ := List.mem_map.1 hv
   have := (hH.all x (List.mem_filter.1 hx).1).2
   omega
  refine qdt ?_
  rw [tsT_eq]
  by_cases h2 : t.Kind = 2
  ·rw [if_pos h2]
   cases hts : t.Tests with
   | nil =>
    unfold innerB at hinn
    rw [if_pos h2, hts] at hinn
    cases hinn
   | cons x l =>
    have hx : x ∈ t.Tests := by rw [hts]; exact List.mem_cons_self ..
    have h0 := ihc x hx n mm hn hI
    rw [tsH]
    have c2 : (t.Kind == 2) = true := by simpa using h2
    simp only [qec, brE_if, gdE_if, EC.decL_encL, EC.isL_encL, EC.encL_length, isE_48, q3v, q3w, q3x, q3y, q3z, q40, c2, if_true]
    simp only [Int.toNat_zero, List.length_cons, List.getD_cons_zero, h0, Option.bind_some]
    simp
  have c2 : (t.Kind == 2) = false := by simpa using h2
  rw [if_neg h2]
  by_cases h3 : t.Kind = 3
  ·rw [if_pos (.inl h3)]
   obtain ⟨x, h1, h2'⟩ := q127 f rc i fs bd sz na ac ns st t n hn hlen ihc t.Tests.length 0 mm (by omega) hI
   rw [List.drop_zero] at h2'
   have h1 : qe1 t.Tests t.Tests.length 0 f rc i fs bd sz na t.Kind t.Tests t.Name t.Pattern t.Text t.N mm ns ac st = some x := h1
   have c3 : (t.Kind == 3) = true := by simpa using h3
   simp only [qec, brE_if, gdE_if, EC.decL_encL, EC.isL_encL, EC.encL_length, isE_48, q3v, q3w, q3x, q3y, q3z, q40, c2, c3, if_true, Bool.false_eq_true, if_false, h1, Option.bind_some]
   rw [← h2']
   rcases x with x | x <;> rfl
  have c3 : (t.Kind == 3) = false := by simpa using h3
  by_cases h4 : t.Kind = 4
  ·rw [if_pos (.inr h4)]
   obtain ⟨x, h1, h2'⟩ := q127 f rc i fs bd sz na ac ns st t n hn hlen ihc t.Tests.length 0 mm (by omega) hI
   rw [List.drop_zero] at h2'
   have h1 : qe1 t.Tests t.Tests.length 0 f rc i fs bd sz na t.Kind t.Tests t.Name t.Pattern t.Text t.N mm ns ac st = some x := h1
   have c4 : (t.Kind == 4) = true := by simpa using h4
   simp only [qec, brE_if, gdE_if, EC.decL_encL, EC.isL_encL, EC.encL_length, isE_48, q3v, q3w, q3x, q3y, q3z, q40, c2, c3, c4, if_true, Bool.false_eq_true, if_false, h1, Option.bind_some]
   rw [← h2']
   rcases x with x | x <;> rfl
  have c4 : (t.Kind == 4) = false := by simpa using h4
  rw [if_neg (by rintro (h | h); exact h3 h; exact h4 h)]
  by_cases h5 : t.Kind = 5
  ·rw [if_pos h5]
   have c5 : (t.Kind == 5) = true := by simpa using h5
   have hf := q12b f rc i fs bd sz na ac ns st hH t.Name (by omega) mm
   have hm := q12d f rc i fs bd sz na ac ns st t (by omega) (valsL fs t.Name) (by omega) hvs n hn mm hI
   simp only [qec, brE_if, gdE_if, EC.decL_encL, EC.isL_encL, EC.encL_length, isE_48, q3v, q3w, q3x, q3y, q3z, q40, c2, c3, c4, c5, if_true, Bool.false_eq_true, if_false, hf, Option.bind_some, hm]
  have c5 : (t.Kind == 5) = false := by simpa using h5
  rw [if_neg h5]
  by_cases h6 : t.Kind = 6
  ·rw [if_pos h6]
   have c6 : (t.Kind == 6) = true := by simpa using h6
   have hm := q12d f rc i fs bd sz na ac ns st t (by omega) [f] (by simp) (fun v hv => by obtain rfl : v = f := (by simpa using hv); omega) n hn mm hI
   have hm : qd5 t.Kind t.Tests t.Name t.Pattern t.Text t.N 1 f rc i fs bd sz na [f] mm ns ac st = _ := hm
   have hd : ec_9.decL [[(C.str f)]] = [f] := rfl
   have hi : ec_9.isL [[(C.str f)]] = true := rfl
   simp only [qec, brE_if, gdE_if, EC.decL_encL, EC.isL_encL, EC.encL_length, isE_48, q3v, q3w, q3x, q3y, q3z, q40, c2, c3, c4, c5, c6, if_true, Bool.false_eq_true, if_false, hd]
   first
    | (rw [hm]; rfl)
    | (simp only [hm, Option.bind_some])
  have c6 : (t.Kind == 6) = false := by simpa using h6
  rw [if_neg h6]
  by_cases h7 : t.Kind = 7
  ·rw [if_pos h7]
   have c7 : (t.Kind == 7) = true := by simpa using h7
   have ha := q126 f rc i fs bd sz na ac ns st t mm he2 rc.length 0 [] (by omega) (by simp)
   have ha : qdu 0 rc rc.length 0 f rc i fs bd sz na t.Kind t.Tests t.Name t.Pattern t.Text t.N [] mm ns ac st = _ := ha
   rw [List.drop_zero, List.nil_append, List.length_nil, Nat.zero_add] at ha
   have hm := q12d f rc i fs bd sz na ac ns st t (by omega) (rc.map fun x => x.Address) (by simp; omega) (fun v hv => by
    obtain ⟨x, hx, rfl⟩ := List.mem_map.1 hv
    have := he3 x hx
    omega) n hn mm hI
   rw [List.length_map] at hm
   simp only [qec, brE_if, gdE_if, EC.decL_encL, EC.isL_encL, EC.encL_length, isE_48, q3v, q3w, q3x, q3y, q3z, q40, qg, c2, c3, c4, c5, c6, c7, if_true, Bool.false_eq_true, if_false, ha, Option.bind_some, hm]
  have c7 : (t.Kind == 7) = false := by simpa using h7
  rw [if_neg h7]
  by_cases h8 : t.Kind = 8
  ·rw [if_pos h8]
   have c8 : (t.Kind == 8) = true := by simpa using h8
   simp only [qec, brE_if, gdE_if, EC.decL_encL, EC.isL_encL, EC.encL_length, isE_48, q3v, q3w, q3x, q3y, q3z, q40, c2, c3, c4, c5, c6, c7, c8, if_true, Bool.false_eq_true, if_false]
  have c8 : (t.Kind == 8) = false := by simpa using h8
  rw [if_neg h8]
  by_cases h9 : t.Kind = 9
  ·rw [if_pos h9]
   have c9 : (t.Kind == 9) = true := by simpa using h9
   have hf := q12b f rc i fs bd sz na ac ns st hH t.Name (by omega) mm
   simp only [qec, brE_if, gdE_if, EC.decL_encL, EC.isL_encL, EC.encL_length, isE_48, q3v, q3w, q3x, q3y, q3z, q40, c2, c3, c4, c5, c6, c7, c8, c9, if_true, Bool.false_eq_true, if_false, hf, Option.bind_some]
  have c9 : (t.Kind == 9) = false := by simpa using h9
  rw [if_neg h9]
  simp only [qec, brE_if, gdE_if, EC.decL_encL, EC.isL_encL, EC.encL_length, isE_48, q3v, q3w, q3x, q3y, q3z, q40, c2, c3, c4, c5, c6, c7, c8, c9, if_true, Bool.false_eq_true, if_false]
end
end Go.Proofs.YtokahibbkdbndaaGreatDoor
