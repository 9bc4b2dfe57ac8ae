/- What a script does, in plain words. -/
import Derived.Test.YtokahibbkdbndaaGreatDoorZ27
import Derived.Test.YtokahibbkdbndaaGreatDoorH6
namespace Go.Proofs.YtokahibbkdbndaaGreatDoor
open Go.RowKit
def exF (l : MM) : Nat → List UInt8 → List UInt8 → List UInt8
 | 0, _, out => out
 | n + 1, s, out =>
  if (Lib.cut s [36, 123]).2.2 = false ∨ (Lib.cut (Lib.cut s [36, 123]).2.1 [125]).2.2 = false then out ++ s
  else exF l n (Lib.cut (Lib.cut s [36, 123]).2.1 [125]).2.1 (out ++ ((Lib.cut s [36, 123]).1 ++ getM l (Lib.cut (Lib.cut s [36, 123]).2.1 [125]).1))
def exT (m : MM) (s : ByteArray) : ByteArray := ⟨((exF m (s.size + 1) s.data.toList []).take 4000).toArray⟩
theorem qim {l : MM} (k : List UInt8) (h : ∀ p ∈ l, p.2.size ≤ 2000000) : (getM l k).length ≤ 2000000 := by
 unfold getM
 cases hf : l.find? fun p => p.1.data.toList == k with
 | none => simp
 | some p =>
  have := h p (List.mem_of_find?_eq_some hf)
  show p.2.data.toList.length ≤ 2000000
  rw [Array.length_toList]
  exact this
theorem expF_s {l : MM} (h : ∀ p ∈ l, p.2.size ≤ 2000000) : ∀ (n : Nat) (s out : List UInt8), s.length < n → s.length ≤ 1000 → out.length + s.length * 3000000 ≤ 100000000000000 → expF l n s out = some (exF l n s out) := by
 intro n
 induction n with
 | zero => intro s out h; omega
 | succ n ih =>
  intro s out hn hs ho
  rw [expF, exF]
  split
  ·rw [if_pos (by omega)]
  ·rename_i hc
   have h1 : (Lib.cut s [36, 123]).2.2 = true := by
    cases hh : (Lib.cut s [36, 123]).2.2 with
    | true => rfl
    | false => exact absurd (.inl hh) hc
   have h2 : (Lib.cut (Lib.cut s [36, 123]).2.1 [125]).2.2 = true := by
    cases hh : (Lib.cut (Lib.cut s [36, 123]).2.1 [125]).2.2 with
    | true => rfl
    | false => exact absurd (.inr hh) hc
   have c1 := q8i s [36, 123] h1
   have c2 := q8i (Lib.cut s [36, 123]).2.1 [125] h2
   have hv := qim (Lib.cut (Lib.cut s [36, 123]).2.1 [125]).1 h
   simp only [List.length_cons, List.length_nil] at c1 c2
   rw [if_pos (by omega)]
   refine ih _ _ (by omega) (by omega) ?_
   simp only [List.length_append]
   omega
theorem expP_s {l : MM} (h : ∀ p ∈ l, p.2.size ≤ 2000000) (s : ByteArray) (hs : s.size ≤ 1000) : expP l s = some (exT l s) := by
 have e : s.data.toList.length = s.size := by rw [Array.length_toList]; rfl
 unfold expP exT
 rw [if_pos (by omega), expF_s h (s.size + 1) s.data.toList [] (by omega) (by omega) (by simp; omega)]
 rfl
theorem qef (m : MM) (s : ByteArray) : (exT m s).size ≤ 4000 := by
 show ((exF m (s.size + 1) s.data.toList []).take 4000).toArray.size ≤ 4000
 rw [List.size_toArray, List.length_take]
 omega
def noTx : ByteArray := ByteArray.mk (List.toArray [])
section
variable (f : ByteArray) (rc : List S118) (fs : List S55) (sz : Int)
mutual
def exR : S50 → Int → MM → List S45 → List S62 → Bool × MM × List S45 × List S62
 | ⟨kd, k, ts, nm, p, tx, n, t, e, ak, name, text, q⟩, i, m, a, st =>
  if kd = 1 then (if (tsT f rc fs sz ⟨k, ts, nm, p, tx, n⟩ m).1 = true then exL t (i + 1) (tsT f rc fs sz ⟨k, ts, nm, p, tx, n⟩ m).2 a (st ++ [⟨i, true, noTx⟩]) else exL e (i + 1 + szL t) (tsT f rc fs sz ⟨k, ts, nm, p, tx, n⟩ m).2 a (st ++ [⟨i, false, noTx⟩]))
  else if kd = 2 then (true, m, a ++ [⟨ak, exT m text, q⟩], st ++ [⟨i, false, exT m text⟩])
  else if kd = 3 then (true, putM m name (exT m text), a, st ++ [⟨i, false, exT m text⟩])
  else (false, m, a, st ++ [⟨i, false, noTx⟩])
def exL : List S50 → Int → MM → List S45 → List S62 → Bool × MM × List S45 × List S62
 | [], _, m, a, st => (true, m, a, st)
 | r :: l, i, m, a, st => if (exR r i m a st).1 = true then exL l (i + szR r) (exR r i m a st).2.1 (exR r i m a st).2.2.1 (exR r i m a st).2.2.2 else exR r i m a st
end
theorem exR_eq (r : S50) (i : Int) (m : MM) (a : List S45) (st : List S62) : exR f rc fs sz r i m a st = if r.Kind = 1 then (if (tsT f rc fs sz (tOf r) m).1 = true then exL f rc fs sz r.Then (i + 1) (tsT f rc fs sz (tOf r) m).2 a (st ++ [⟨i, true, noTx⟩]) else exL f rc fs sz r.Else (i + 1 + szL r.Then) (tsT f rc fs sz (tOf r) m).2 a (st ++ [⟨i, false, noTx⟩]))
  else if r.Kind = 2 then (true, m, a ++ [⟨r.Act, exT m r.Text, r.N⟩], st ++ [⟨i, false, exT m r.Text⟩])
  else if r.Kind = 3 then (true, putM m r.Name (exT m r.Text), a, st ++ [⟨i, false, exT m r.Text⟩])
  else (false, m, a, st ++ [⟨i, false, noTx⟩]) := by cases r; rw [exR]; rfl
def exP (n : Nat) (a : List S45) (st : List S62) (q : Nat) (u : Bool × MM × List S45 × List S62) : Prop := Inv (n + q) u.2.1 ∧ u.2.2.1.length ≤ a.length + q ∧ u.2.2.2.length ≤ st.length + q
theorem qed : ∀ (q : Nat) (s : List S50), szL s = q → okvL s → ∀ (n : Nat) (i : Int) (m : MM) (a : List S45) (st : List S62), Inv n m → exP n a st q (exL f rc fs sz s i m a st) := by
 intro q
 induction q using Nat.strongRecOn with
 | _ q ihq =>
  intro s
  induction s with
  | nil =>
   intro hq hv n i m a st hI
   rw [exL]
   have : q = 0 := by simpa [szL] using hq.symm
   subst this
   exact ⟨hI, Nat.le_refl _, Nat.le_refl _⟩
  | cons r l ihl =>
   intro hq hv n i m a st hI
   have hsz : szR r + szL l = q := by simpa [szL] using hq
   have hr := szR_eq r
   obtain ⟨hh, hvt, hve⟩ := okvR hv (List.mem_cons_self ..)
   have hvl : okvL l := by
    obtain ⟨n0, d0, m0, hn0, hc0⟩ := hv
    unfold ckL at hc0
    split at hc0
    ·cases hc0
    rename_i h100
    split at hc0
    ·cases hc0
    rename_i hrc
    cases hq : ckR r n0 d0 with
    | inl g => rw [hq] at hc0; cases hc0
    | inr n2 =>
     rw [hq] at hc0
     have := (ck_sz (szL [r]) [r] rfl n0 d0 hn0).1 n2 (by simp only [ckL]; rw [if_neg h100, if_neg hrc, hq])
     exact ⟨n2, d0, m0, this.2, hc0⟩
   obtain ⟨hk, htx, hvar, _⟩ := qtd hh
   have h1 : exP n a st (szR r) (exR f rc fs sz r i m a st) := by
    rw [exR_eq]
    split
    ·rename_i hk1
     have hI2 := q11c f rc fs sz n (tOf r) m hI
     split
     ·obtain ⟨g1, g2, g3⟩ := ihq (szL r.Then) (by omega) r.Then rfl hvt n (i + 1) _ a (st ++ [⟨i, true, noTx⟩]) hI2
      simp only [List.length_append, List.length_singleton] at g3
      exact ⟨g1.mono (by omega), by omega, by omega⟩
     ·obtain ⟨g1, g2, g3⟩ := ihq (szL r.Else) (by omega) r.Else rfl hve n (i + 1 + szL r.Then) _ a (st ++ [⟨i, false, noTx⟩]) hI2
      simp only [List.length_append, List.length_singleton] at g3
      exact ⟨g1.mono (by omega), by omega, by omega⟩
    ·split
     ·exact ⟨hI.mono (by omega), by simp; omega, by simp; omega⟩
     ·split
      ·rename_i hk3
       have hvb := hvar hk3
       have hne : r.Name.size ≠ 0 := by
        unfold varB at hvb
        simp at hvb
        omega
       have := hI.set (k := r.Name) (v := exT m r.Text) hne (by have := qef m r.Text; omega)
       exact ⟨this.mono (by omega), by simp, by simp; omega⟩
      ·exact ⟨hI.mono (by omega), by simp, by simp; omega⟩
   rw [exL]
   obtain ⟨g1, g2, g3⟩ := h1
   split
   ·obtain ⟨k1, k2, k3⟩ : exP (n + szR r) (exR f rc fs sz r i m a st).2.2.1 (exR f rc fs sz r i m a st).2.2.2 (szL l) (exL f rc fs sz l (i + szR r) (exR f rc fs sz r i m a st).2.1 (exR f rc fs sz r i m a st).2.2.1 (exR f rc fs sz r i m a st).2.2.2) := by
     exact ihq (szL l) (by omega) l rfl hvl (n + szR r) _ _ _ _ g1
    exact ⟨k1.mono (by omega), by omega, by omega⟩
   ·exact ⟨g1.mono (by omega), by omega, by omega⟩
end
end Go.Proofs.YtokahibbkdbndaaGreatDoor
namespace Go.Proofs.YtokahibbkdbndaaGreatDoor
open Go.RowKit
def dB (k : Int) : Bool := k != 6 && k != 7
theorem q8t (l : List S45) (hl : l.length ≤ big) : ∀ m k, k + m = l.length → ∃ x, qc2 l l.length k = some x ∧ Sum.elim (fun r => r.1) (fun _ => false) x = (l.drop k).any fun a => dB a.Kind := by
 intro m
 induction m with
 | zero =>
  intro k hk
  have hk : k = l.length := by omega
  subst hk
  refine ⟨.inr ((l, ((l.length : Int), ((l.length : Int), false))), ()), qc4 (by
   simp only [qc9, brE_if, gdE_if, EC.decL_encL, EC.isL_encL, EC.encL_length, isE_45, q3u]
   simp), ?_⟩
  rw [List.drop_length]; rfl
 | succ m ihm =>
  intro k hk
  have hlt : k < l.length := by omega
  have e1 : decide ((k : Int) < (l.length : Int)) = true := by simp; omega
  have e0 : decide ((0 : Int) ≤ (k : Int)) = true := by simp
  have e2 : IntKind.i64.wrap ((k : Int) + 1) = ((k + 1 : Nat) : Int) := wr_nat hlt (by unfold big at hl; omega)
  have hd2 : decide (k < l.length) = true := by simp [hlt]
  obtain ⟨x, h1, h2⟩ := ihm (k + 1) (by omega)
  rw [q97 hlt, List.any_cons, dB]
  cases h6 : (l[k].Kind != 6) with
  | false =>
   refine ⟨x, qc4 ?_, by rw [Bool.false_and, Bool.false_or]; exact h2⟩
   simp only [qc9, brE_if, gdE_if, EC.decL_encL, EC.isL_encL, EC.encL_length, isE_45, q3u, e1, e0, if_true, Int.toNat_natCast, hd2, Bool.and_self, qik hlt, h6, Bool.false_eq_true, if_false, e2, show (false == true) = false from rfl]
   exact h1
  | true =>
  cases h7 : (l[k].Kind != 7) with
  | false =>
   refine ⟨x, qc4 ?_, by rw [Bool.true_and, Bool.false_or]; exact h2⟩
   simp only [qc9, brE_if, gdE_if, EC.decL_encL, EC.isL_encL, EC.encL_length, isE_45, q3u, e1, e0, if_true, Int.toNat_natCast, hd2, Bool.and_self, qik hlt, h6, h7, Bool.false_eq_true, if_false, e2, beq_self_eq_true]
   exact h1
  | true =>
   refine ⟨.inl (true, ()), qc4 ?_, rfl⟩
   simp only [qc9, brE_if, gdE_if, EC.decL_encL, EC.isL_encL, EC.encL_length, isE_45, q3u, e1, e0, if_true, Int.toNat_natCast, hd2, Bool.and_self, qik hlt, h6, h7, beq_self_eq_true]
theorem q8x (l : List S45) (hl : l.length ≤ big) : qca l = some (l.any fun a => dB a.Kind) := by
 obtain ⟨x, h1, h2⟩ := q8t l hl l.length 0 (by omega)
 have h1 : qc2 l l.length 0 = some x := h1
 rw [List.drop_zero] at h2
 refine qc1 ?_
 simp only [qcb, gdE_if, EC.decL_encL, EC.isL_encL, EC.encL_length, if_true, h1, Option.bind_some, ← h2]
 rcases x with x | x <;> rfl
def finA (a : List S45) : List S45 := if (a.any fun x => dB x.Kind) = true then a else a ++ [⟨1, noTx, 0⟩]
structure MOk (s : List S50) (f : ByteArray) (rc : List S118) (bd : List Int) : Prop where
 len : s.length ≤ big
 ok : okL s
 fr : f.size ≤ 2000000
 rl : rc.length ≤ 2000000
 ad : ∀ x ∈ rc, x.Address.size ≤ 2000000
 bl : bd.length ≤ 2000000
noncomputable def envF (f : ByteArray) (rc : List S118) (e : ByteArray) : Int × Int := (qbd f rc e).getD (0, 0)
noncomputable def msgF (fs : List S55) (bd : List Int) : (Nat × (Int × Int)) × List Int := (qnv fs bd).getD ((0, (0, 0)), [])
theorem envF_s {s : List S50} {f : ByteArray} {rc : List S118} {bd : List Int} (h : MOk s f rc bd) (e : ByteArray) : qbd f rc e = some (envF f rc e) ∧ ((envF f rc e).1 = 0 → envB f rc) := by
 obtain ⟨r, e1, h1⟩ := env_ok f rc e h.fr h.rl h.ad
 unfold envF
 rw [e1]
 exact ⟨rfl, h1⟩
theorem msgF_s (fs : List S55) {bd : List Int} (h : bd.length ≤ 2000000) : qnv fs bd = some (msgF fs bd) ∧ ((msgF fs bd).1.2.1 = 0 → HdrOk fs) ∧ (msgF fs bd).1.1 = (msgF fs bd).2.length := by
 obtain ⟨r, e1, h1, h2⟩ := qoq fs bd h
 unfold msgF
 rw [e1]
 exact ⟨rfl, h1, h2⟩
noncomputable def runF (s : List S50) (f : ByteArray) (rc : List S118) (e : ByteArray) (fs : List S55) (bd : List Int) : Int × Int :=
 if (scriptF s).1 ≠ 0 then scriptF s else if (envF f rc e).1 ≠ 0 then ((envF f rc e).1, -3) else if (msgF fs bd).1.2.1 ≠ 0 then ((msgF fs bd).1.2.1, -2) else (0, 0)
noncomputable def theRun (s : List S50) (f : ByteArray) (rc : List S118) (fs : List S55) (bd : List Int) : Bool × MM × List S45 × List S62 := exL f rc fs (((msgF fs bd).1.1 : Nat) : Int) s 0 [] [] []
noncomputable def runA (s : List S50) (f : ByteArray) (rc : List S118) (e : ByteArray) (fs : List S55) (bd : List Int) : List S45 := if (runF s f rc e fs bd).1 ≠ 0 then [] else finA (theRun s f rc fs bd).2.2.1
theorem runF_0 {s : List S50} {f : ByteArray} {rc : List S118} {e : ByteArray} {fs : List S55} {bd : List Int} (h : (runF s f rc e fs bd).1 = 0) : (scriptF s).1 = 0 ∧ (envF f rc e).1 = 0 ∧ (msgF fs bd).1.2.1 = 0 := by
 unfold runF at h
 split at h
 ·rename_i h0; exact absurd h h0
 ·rename_i h0
  split at h
  ·rename_i h1; exact absurd h h1
  ·rename_i h1
   split at h
   ·rename_i h2; exact absurd h h2
   ·rename_i h2
    exact ⟨by simpa using h0, by simpa using h1, by simpa using h2⟩
theorem val_ok {s : List S50} (h : (scriptF s).1 = 0) : okvL s ∧ szL s ≤ 100 := by
 obtain ⟨m, m1, m2, m3⟩ := qx9 h
 exact ⟨⟨0, 1, m, by omega, m1⟩, m3⟩
theorem q113 {s : List S50} (f : ByteArray) (rc : List S118) (fs : List S55) (bd : List Int) (h : (scriptF s).1 = 0) : exP 0 [] [] (szL s) (theRun s f rc fs bd) := qed f rc fs _ (szL s) s rfl (val_ok h).1 0 0 [] [] [] Inv.nil
end Go.Proofs.YtokahibbkdbndaaGreatDoor
namespace Go.Proofs.YtokahibbkdbndaaGreatDoor
open Go.RowKit
set_option maxRecDepth 100000
noncomputable section
def q1bg := (lOne (vC (cSl ec_45)))
def q1bq := sLS [0, 3] (lCons (vC (cSl ec_45)) (lOne (vC (cInt .i64)))) lNil [] [] (by decide) (fun _ => rfl)
def q1bp := sLS [0, 3, 7] (lCons (vC (cSl ec_45)) (lCons (vC (cInt .i64)) (lOne (vC cBool)))) lNil [] [] (by decide) (fun _ => rfl)
def q1bo := sLS [2] (lOne (vC (cSl ec_45))) lNil [] [] (by decide) (fun _ => rfl)
def q1bn := oOr 1 q1bo (oAt 2 q1bp) (fun x => (by decide : (2 : Nat) ≠ 1))
def q1bk (l : (List S45)) (i : Int) : Option (((List S45) × Unit) ⊕ (((List S45) × Int × Bool) × Unit)) := lS Tryz.prog lv X0 27 23 (getLoop (cdF Tryz.f27) 2) q1bq q1bn ((l, i), ())
def q1br (l : (List S45)) (i : Int) : Option (((List S45) × Unit) ⊕ (((List S45) × Int × Bool) × Unit)) :=
 (brE (decide (i < (List.length (EC.encL ec_45 l) : Int)))
 (gdE (decide (0 ≤ i)) <|
 (gdE ((decide ((Int.toNat i) < (List.length (EC.encL ec_45 l)))) && (isE [(K1.int Go.IntKind.i64), K1.str, (K1.int Go.IntKind.i64)] 0 (List.getD (EC.encL ec_45 l) (Int.toNat i) []))) <|
 (Option.bind (q1be (intOf (List.getD (List.getD (EC.encL ec_45 l) (Int.toNat i) []) 0 C.ne))) fun r0 =>
 (brE r0
 (gdE (EC.isL ec_45 (EC.encL ec_45 l)) <|
 (some (.inl ((EC.decL ec_45 (EC.encL ec_45 l)), ()))))
 (gdE (EC.isL ec_45 (EC.encL ec_45 l)) <|
 (q1bk (EC.decL ec_45 (EC.encL ec_45 l)) (IntKind.wrap .i64 (i + 1))))))))
 (gdE (EC.isL ec_45 (EC.encL ec_45 l)) <|
 (some (.inr (((EC.decL ec_45 (EC.encL ec_45 l)), (i, false)), ())))))
theorem q1bm {l} {i} {r} (h : q1br l i = some r) : q1bk l i = some r :=
 qm5 (es := qzu) (hs := qkj) [] (by kernel_rfl) trivial trivial (by kernel_rfl) h
def q1bl := lentS Tryz.prog lv X0 2 (getLoop (cdF Tryz.f27) 2) q1bq q1bn (fun x => q1bk x.1.1 x.1.2) (fun _ _ h => qm4 h)
def q1bh : Cod (V × List B) (List S45) := (cFstU (cPair (vC (cSl ec_45)) lNil))
def q1bs (l : (List S45)) : Option (List S45) := fS Tryz.prog lv X0 27 q1bg q1bh l
def q1bt (l : (List S45)) : Option (List S45) :=
 (gdE (EC.isL ec_45 (EC.encL ec_45 l)) <|
 (Option.bind (q1bk (EC.decL ec_45 (EC.encL ec_45 l)) 0) fun r0 =>
 (Sum.elim (fun r1 => (gdE (EC.isL ec_45 (EC.encL ec_45 r1.1)) <|
 (some (EC.decL ec_45 (EC.encL ec_45 r1.1)))))
 (fun r1 => (gdE (((List.all (EC.encL ec_45 r1.1.1) (fun (el : (List C)) => ((List.length el) == 3))) && (decide (((((List.length (EC.encL ec_45 r1.1.1)) + ((List.length (EC.encL ec_45 r1.1.1)) / 4)) + 192) * 32) ≤ 281474976710656))) && (decide ((List.length (EC.encL ec_45 r1.1.1)) ≤ 9223372036854775807))) <|
 (gdE ((((List.all [[(C.int Go.IntKind.i64 1), (C.str ⟨#[]⟩), (C.int Go.IntKind.i64 0)]] (fun (el : (List C)) => ((List.length el) == 3))) && (List.all (EC.encL ec_45 r1.1.1) (fun (el : (List C)) => ((List.length el) == 3)))) && (decide ((((((List.length (EC.encL ec_45 r1.1.1)) + (List.length [[(C.int Go.IntKind.i64 1), (C.str ⟨#[]⟩), (C.int Go.IntKind.i64 0)]])) + (((List.length (EC.encL ec_45 r1.1.1)) + (List.length [[(C.int Go.IntKind.i64 1), (C.str ⟨#[]⟩), (C.int Go.IntKind.i64 0)]])) / 4)) + 192) * 32) ≤ 281474976710656))) && (decide (((List.length (EC.encL ec_45 r1.1.1)) + (List.length [[(C.int Go.IntKind.i64 1), (C.str ⟨#[]⟩), (C.int Go.IntKind.i64 0)]])) ≤ 9223372036854775807))) <|
 (gdE (EC.isL ec_45 ((EC.encL ec_45 r1.1.1) ++ [[(C.int Go.IntKind.i64 1), (C.str ⟨#[]⟩), (C.int Go.IntKind.i64 0)]])) <|
 (some (EC.decL ec_45 ((EC.encL ec_45 r1.1.1) ++ [[(C.int Go.IntKind.i64 1), (C.str ⟨#[]⟩), (C.int Go.IntKind.i64 0)]]))))))) r0)))
theorem q1bj {l} {r} (h : q1bt l = some r) : q1bs l = some r :=
 qf2 (es := qzu) (hs := qkj) [q1bl] Tryz.func27 rfl (by kernel_rfl) rfl (by kernel_rfl) (by kernel_rfl) ⟨⟨_, rfl, rfl⟩, trivial⟩ trivial (by kernel_rfl) h
def q1bi := entS Tryz.prog lv X0 27 [] q1bg q1bh (fun x => q1bs x) (fun _ _ h => qf1 h)
def q1by := q1bi :: qzu
def q17j := (lCons (vC (cSl ec_45)) (lOne (vC (cSl ec_45))))
def q17t := sLS [0, 1, 5] (lCons (vC (cSl ec_45)) (lCons (vC (cSl ec_45)) (lOne (vC (cInt .i64))))) lNil [] [] (by decide) (fun _ => rfl)
def q17s := sLS [0, 1, 5, 14] (lCons (vC (cSl ec_45)) (lCons (vC (cSl ec_45)) (lCons (vC (cInt .i64)) (lOne (vC cBool))))) lNil [] [] (by decide) (fun _ => rfl)
def q17r := sLS [4] (lOne (vC cBool)) lNil [] [] (by decide) (fun _ => rfl)
def q17q := oOr 1 q17r (oAt 2 q17s) (fun x => (by decide : (2 : Nat) ≠ 1))
def q17n (a : (List S45)) (b : (List S45)) (i : Int) : Option ((Bool × Unit) ⊕ (((List S45) × (List S45) × Int × Bool) × Unit)) := lS Tryz.prog lv X0 17 26 (getLoop (cdF Tryz.f17) 4) q17t q17q ((a, b, i), ())
def q17u (a : (List S45)) (b : (List S45)) (i : Int) : Option ((Bool × Unit) ⊕ (((List S45) × (List S45) × Int × Bool) × Unit)) :=
 (brE (decide (i < (List.length (EC.encL ec_45 a) : Int)))
 (gdE (decide (0 ≤ i)) <|
 (gdE ((decide ((Int.toNat i) < (List.length (EC.encL ec_45 a)))) && (isE [(K1.int Go.IntKind.i64), K1.str, (K1.int Go.IntKind.i64)] 0 (List.getD (EC.encL ec_45 a) (Int.toNat i) []))) <|
 (gdE (decide (0 ≤ i)) <|
 (gdE ((decide ((Int.toNat i) < (List.length (EC.encL ec_45 b)))) && (isE [(K1.int Go.IntKind.i64), K1.str, (K1.int Go.IntKind.i64)] 0 (List.getD (EC.encL ec_45 b) (Int.toNat i) []))) <|
 (brE (!(((intOf (List.getD (List.getD (EC.encL ec_45 a) (Int.toNat i) []) 0 C.ne)) == (intOf (List.getD (List.getD (EC.encL ec_45 b) (Int.toNat i) []) 0 C.ne))) && (((strOf (List.getD (List.getD (EC.encL ec_45 a) (Int.toNat i) []) 1 C.ne)) == (strOf (List.getD (List.getD (EC.encL ec_45 b) (Int.toNat i) []) 1 C.ne))) && (((intOf (List.getD (List.getD (EC.encL ec_45 a) (Int.toNat i) []) 2 C.ne)) == (intOf (List.getD (List.getD (EC.encL ec_45 b) (Int.toNat i) []) 2 C.ne))) && true))))
 (some (.inl (false, ())))
 (gdE (EC.isL ec_45 (EC.encL ec_45 a)) <|
 (gdE (EC.isL ec_45 (EC.encL ec_45 b)) <|
 (q17n (EC.decL ec_45 (EC.encL ec_45 a)) (EC.decL ec_45 (EC.encL ec_45 b)) (IntKind.wrap .i64 (i + 1))))))))))
 (gdE (EC.isL ec_45 (EC.encL ec_45 a)) <|
 (gdE (EC.isL ec_45 (EC.encL ec_45 b)) <|
 (some (.inr (((EC.decL ec_45 (EC.encL ec_45 a)), ((EC.decL ec_45 (EC.encL ec_45 b)), (i, false))), ()))))))
theorem q17p {a} {b} {i} {r} (h : q17u a b i = some r) : q17n a b i = some r :=
 qm5 (es := q1by) (hs := qkj) [] (by kernel_rfl) trivial trivial (by kernel_rfl) h
def q17o := lentS Tryz.prog lv X0 4 (getLoop (cdF Tryz.f17) 4) q17t q17q (fun x => q17n x.1.1 x.1.2.1 x.1.2.2) (fun _ _ h => qm4 h)
def q17k : Cod (V × List B) Bool := (cFstU (cPair (vC cBool) lNil))
def q17v (a : (List S45)) (b : (List S45)) : Option Bool := fS Tryz.prog lv X0 17 q17j q17k (a, b)
def q17w (a : (List S45)) (b : (List S45)) : Option Bool :=
 (brE ((List.length (EC.encL ec_45 a) : Int) != (List.length (EC.encL ec_45 b) : Int))
 (some false)
 (gdE (EC.isL ec_45 (EC.encL ec_45 a)) <|
 (gdE (EC.isL ec_45 (EC.encL ec_45 b)) <|
 (Option.bind (q17n (EC.decL ec_45 (EC.encL ec_45 a)) (EC.decL ec_45 (EC.encL ec_45 b)) 0) fun r0 =>
 (Sum.elim (fun r1 => (some r1.1))
 (fun r1 => (some true)) r0)))))
theorem q17m {a} {b} {r} (h : q17w a b = some r) : q17v a b = some r :=
 qf2 (es := q1by) (hs := qkj) [q17o] Tryz.func17 rfl (by kernel_rfl) rfl (by kernel_rfl) (by kernel_rfl) ⟨⟨_, rfl, rfl⟩, trivial⟩ trivial (by kernel_rfl) h
def q17l := entS Tryz.prog lv X0 17 [] q17j q17k (fun x => q17v x.1 x.2) (fun _ _ h => qf1 h)
def q19s := q17l :: q1by
end
end Go.Proofs.YtokahibbkdbndaaGreatDoor
namespace Go.Proofs.YtokahibbkdbndaaGreatDoor
open Go.RowKit
set_option maxRecDepth 1000000 in
theorem qeh : callD Tryz.prog (fzL lv) X0.c (execD Tryz.prog lv X0 200) 23 [] = some (.c (.bool true), []) := by kernel_rfl
def evd_ca : Cod (List V) Unit := lNil
def evd_cr : Cod (V × List B) Bool := cFstU (cPair (vC cBool) lNil)
def evdS : Option Bool := some true
theorem qeg (x : Unit) (r : Bool) (h : evdS = some r) : Call Tryz.prog lv X0 23 (evd_ca.enc x) = some (evd_cr.enc r) := by
 cases r with
 | true => exact qc qeh
 | false => unfold evdS at h; cases h
noncomputable def exd_e := entS Tryz.prog lv X0 23 [] evd_ca evd_cr (fun _ => evdS) qeg
noncomputable def tabk := exd_e :: q19s
end Go.Proofs.YtokahibbkdbndaaGreatDoor
namespace Go.Proofs.YtokahibbkdbndaaGreatDoor
open Go.RowKit
set_option maxRecDepth 100000
noncomputable section
end
end Go.Proofs.YtokahibbkdbndaaGreatDoor
namespace Go.Proofs.YtokahibbkdbndaaGreatDoor
open Go.RowKit
theorem q12u (a : ByteArray) : (a == a) = true := by
 cases a with
 | mk d => show (d == d) = true; exact beq_self_eq_true d
theorem q19g (l : List S45) (hl : l.length ≤ 10000) : ∀ (m k : Nat), k + m = l.length → q17n l l k = some (.inr ((l, (l, ((l.length : Int), false))), ())) := by
 intro m
 induction m with
 | zero =>
  intro k hk
  have hk : k = l.length := by omega
  subst hk
  refine q17p ?_
  simp only [q17u, brE_if, gdE_if, EC.decL_encL, EC.isL_encL, EC.encL_length, isE_45, q3u, q12s, q12t]
  simp
 | succ m ih =>
  intro k hk
  have hlt : k < l.length := by omega
  have e1 : decide ((k : Int) < (l.length : Int)) = true := by simp; omega
  have e0 : decide ((0 : Int) ≤ (k : Int)) = true := by simp
  have e2 : IntKind.i64.wrap ((k : Int) + 1) = ((k + 1 : Nat) : Int) := wr_nat hlt (by omega)
  have hd2 : decide (k < l.length) = true := by simp [hlt]
  refine q17p ?_
  simp only [q17u, brE_if, gdE_if, EC.decL_encL, EC.isL_encL, EC.encL_length, isE_45, q3u, q12s, q12t, e1, e0, if_true, Int.toNat_natCast, hd2, q12u, Bool.and_self, beq_self_eq_true, Bool.not_true, Bool.false_eq_true, if_false, e2]
  exact ih (k + 1) (by omega)
theorem q19h (l : List S45) (hl : l.length ≤ 10000) : q17v l l = some true := by
 have h := q19g l hl l.length 0 (by omega)
 rw [Int.natCast_zero] at h
 refine q17m ?_
 simp only [q17w, brE_if, gdE_if, EC.decL_encL, EC.isL_encL, EC.encL_length, if_true, bne_self_eq_false, Bool.false_eq_true, if_false, h, Option.bind_some]
 rfl
section
variable (f : ByteArray) (rc : List S118) (fs : List S55) (sz : Int)
end
end Go.Proofs.YtokahibbkdbndaaGreatDoor
namespace Go.Proofs.YtokahibbkdbndaaGreatDoor
open Go.RowKit
section
variable (f : ByteArray) (rc : List S118) (i : ByteArray) (fs : List S55) (bd : List Int) (sz : Int) (na : Nat) (ac : List S45) (ns : Nat) (st : List S62)
theorem q12f (ps : List ByteArray) (hp : ps.length ≤ 1000) (hv : ∀ v ∈ ps, v.size ≤ 2000000) : ∀ (m k : Nat) (mm : MM), k + m = ps.length → mm.length + m ≤ 100000000 → qdg ps.length ps.length k f rc i fs bd sz na ps mm ns ac st = some (((), (ps.length, ((ps.length : Int), ((ps.length : Int), false)))), ((f, (rc, (i, (fs, (bd, (sz, ((), (na, ())))))))), (ps, (putP (ps.drop k) k mm, (ns, (ac, st)))))) := by
 intro m
 induction m with
 | zero =>
  intro k mm hk hs
  have hk : k = ps.length := by omega
  subst hk
  refine qdi ?_
  rw [List.drop_length, putP]
  simp only [qdm, brE_if, gdE_if, EC.decL_encL, EC.isL_encL, EC.encL_length, at_9_0]
  simp
 | succ m ih =>
  intro k mm hk hs
  have hlt : k < ps.length := by omega
  have e1 : decide ((k : Int) < (ps.length : Int)) = true := by simp; omega
  have e0 : decide ((0 : Int) ≤ (k : Int)) = true := by simp
  have e2 : IntKind.i64.wrap ((k : Int) + 1) = ((k + 1 : Nat) : Int) := wr_nat hlt (by omega)
  have e3 : decide (k < ps.length) = true := by simp [hlt]
  have hi : itoaP ((k + 1 : Nat) : Int) = some (itB ((k + 1 : Nat) : Int)) := by unfold itoaP; rw [if_pos (by omega)]; rfl
  have g1 : decide ((itB ((k + 1 : Nat) : Int)).size ≤ maxLen) = true := decide_eq_true (by have := qln (k + 1); unfold maxLen; omega)
  have g2 : decide (ps[k].size ≤ maxLen) = true := decide_eq_true (by have := hv _ (List.getElem_mem hlt); unfold maxLen; omega)
  have g3 : decide (mm.length < maxLen) = true := decide_eq_true (by unfold maxLen; omega)
  refine qdi ?_
  rw [q97 hlt, putP]
  simp only [qdm, brE_if, gdE_if, EC.decL_encL, EC.isL_encL, EC.encL_length, at_9_0, e1, e0, e3, if_true, Int.toNat_natCast, Bool.and_self, len_9 ps k hlt, qll ps k hlt, qik hlt, beq_self_eq_true, e2, hi, Option.bind_some, g1, g2, g3]
  exact ih (k + 1) _ (by omega) (by have := qsk mm (itB ((k + 1 : Nat) : Int)) ps[k]; omega)
theorem q12c (t : S48) (ht : t.Text.size ≤ 2000000) (l : List ByteArray) (hl : l.length ≤ 2000000) (hv : ∀ v ∈ l, v.size ≤ 2000000) (n : Nat) (hn : n ≤ 1000000) (mm : MM) (hm : Inv n mm) : ∀ (m k : Nat), k + m = l.length → ∃ x, qd8 l.length l.length k f rc i fs bd sz na t.Kind t.Tests t.Name t.Pattern t.Text t.N l mm ns ac st = some x ∧
  Sum.elim (fun r => (r.1, (r.1, r.2))) (fun r => (false, (false, (r.2.1, (r.2.2.2.2.1, r.2.2.2.2.2))))) x = ((matL t.Pattern t.Text mm (l.drop k)).1, ((matL t.Pattern t.Text mm (l.drop k)).1, ((f, (rc, (i, (fs, (bd, (sz, ((), (na, ())))))))), ((matL t.Pattern t.Text mm (l.drop k)).2, (ns, (ac, st)))))) := by
 intro m
 induction m with
 | zero =>
  intro k hk
  have hk : k = l.length := by omega
  subst hk
  refine ⟨.inr (((), ((), (l.length, ((l.length : Int), ((l.length : Int), false))))), ((f, (rc, (i, (fs, (bd, (sz, ((), (na, ())))))))), ((t.Kind, (t.Tests, (t.Name, (t.Pattern, (t.Text, t.N))))), (l, (mm, (ns, (ac, st))))))), qda (by
   simp only [qdf, brE_if, gdE_if, EC.decL_encL, EC.isL_encL, EC.encL_length, at_9_0]
   simp), ?_⟩
  rw [List.drop_length]; rfl
 | succ m ih =>
  intro k hk
  have hlt : k < l.length := by omega
  have e1 : decide ((k : Int) < (l.length : Int)) = true := by simp; omega
  have e0 : decide ((0 : Int) ≤ (k : Int)) = true := by simp
  have e2 : IntKind.i64.wrap ((k : Int) + 1) = ((k + 1 : Nat) : Int) := wr_nat hlt (by omega)
  have e3 : decide (k < l.length) = true := by simp [hlt]
  have hs := hv _ (List.getElem_mem hlt)
  have hM := qnj t.Pattern t.Text l[k] (by omega) (by omega)
  obtain ⟨p1, p2, p3⟩ := qni t.Pattern t.Text l[k]
  obtain ⟨x, h1, h2⟩ := ih (k + 1) (by omega)
  rw [q97 hlt, matL]
  generalize matchR t.Pattern t.Text l[k] = r at hM p1 p2 p3
  cases hf : (r.1.2.2.1 != 0) with
  | true =>
   have hf' : ¬ (r.1.2.2.1 = 0 ∧ r.1.1 = true) := fun h => by rw [h.1] at hf; cases hf
   rw [if_neg hf']
   refine ⟨x, qda ?_, h2⟩
   simp only [qdf, brE_if, gdE_if, EC.decL_encL, EC.isL_encL, EC.encL_length, at_9_0, e1, e0, e3, if_true, Int.toNat_natCast, Bool.and_self, len_9 l k hlt, qll l k hlt, qik hlt, beq_self_eq_true, e2, hM, Option.bind_some, qf3, hf, show (true == false) = false from rfl, Bool.false_eq_true, if_false]
   exact h1
  | false =>
   have hf0 : r.1.2.2.1 = 0 := by simpa using hf
   cases hb : r.1.1 with
   | false =>
    rw [if_neg (by simp)]
    refine ⟨x, qda ?_, h2⟩
    simp only [qdf, brE_if, gdE_if, EC.decL_encL, EC.isL_encL, EC.encL_length, at_9_0, e1, e0, e3, if_true, Int.toNat_natCast, Bool.and_self, len_9 l k hlt, qll l k hlt, qik hlt, beq_self_eq_true, e2, hM, Option.bind_some, qf3, hf, hb, Bool.not_false]
    exact h1
   | true =>
    rw [if_pos ⟨hf0, rfl⟩]
    cases h3 : (t.Pattern == 3) with
    | false =>
     have h3' : ¬ t.Pattern = 3 := by simpa using h3
     refine ⟨.inl (true, ((f, (rc, (i, (fs, (bd, (sz, ((), (na, ())))))))), (mm, (ns, (ac, st))))), qda ?_, by rw [if_neg h3']; rfl⟩
     simp only [qdf, brE_if, gdE_if, EC.decL_encL, EC.isL_encL, EC.encL_length, at_9_0, e1, e0, e3, if_true, Int.toNat_natCast, Bool.and_self, len_9 l k hlt, qll l k hlt, qik hlt, beq_self_eq_true, e2, hM, Option.bind_some, qf3, hf, hb, h3, Bool.not_true, Bool.false_eq_true, if_false]
    | true =>
     have h3' : t.Pattern = 3 := by simpa using h3
     have hd : delP mm = some (noDig mm) := by
      unfold delP
      rw [if_pos (List.all_eq_true.2 fun p hp => decide_eq_true (hm.key p hp))]
      rfl
     have hln := qp2 mm
     have hma := hm.all
     have hpc := q12f f rc i fs bd sz na ac ns st r.2 p2 p3 r.2.length 0 (noDig mm) (by omega) (by omega)
     rw [List.drop_zero] at hpc
     have hpc : qdg r.2.length r.2.length 0 f rc i fs bd sz na r.2 (noDig mm) ns ac st = _ := hpc
     refine ⟨.inl (true, ((f, (rc, (i, (fs, (bd, (sz, ((), (na, ())))))))), (putP r.2 0 (noDig mm), (ns, (ac, st))))), qda ?_, by rw [if_pos h3']; rfl⟩
     simp only [qdf, brE_if, gdE_if, EC.decL_encL, EC.isL_encL, EC.encL_length, at_9_0, e1, e0, e3, if_true, Int.toNat_natCast, Bool.and_self, len_9 l k hlt, qll l k hlt, qik hlt, beq_self_eq_true, e2, hM, Option.bind_some, qf3, hf, hb, h3, Bool.not_true, Bool.false_eq_true, if_false, hd, p1, hpc]
theorem q12d (t : S48) (ht : t.Text.size ≤ 2000000) (l : List ByteArray) (hl : l.length ≤ 2000000) (hv : ∀ v ∈ l, v.size ≤ 2000000) (n : Nat) (hn : n ≤ 1000000) (mm : MM) (hm : Inv n mm) :
  qd5 t.Kind t.Tests t.Name t.Pattern t.Text t.N l.length f rc i fs bd sz na l mm ns ac st = some ((matL t.Pattern t.Text mm l).1, ((matL t.Pattern t.Text mm l).1, ((f, (rc, (i, (fs, (bd, (sz, ((), (na, ())))))))), ((matL t.Pattern t.Text mm l).2, (ns, (ac, st)))))) := by
 obtain ⟨x, h1, h2⟩ := q12c f rc i fs bd sz na ac ns st t ht l hl hv n hn mm hm l.length 0 (by omega)
 rw [List.drop_zero] at h2
 have h1 : qd8 l.length l.length 0 f rc i fs bd sz na t.Kind t.Tests t.Name t.Pattern t.Text t.N l mm ns ac st = some x := h1
 refine qd7 ?_
 simp only [qdq, gdE_if, EC.decL_encL, EC.isL_encL, if_true, h1, Option.bind_some]
 rcases x with x | x
 ·simp only [Sum.elim_inl] at h2 ⊢
  exact congrArg some h2
 ·simp only [Sum.elim_inr] at h2 ⊢
  exact congrArg some h2
theorem q12b (h : HdrOk fs) (n : ByteArray) (hn : n.size ≤ 2000000) (mm : MM) :
  qcy n f rc i fs bd sz na mm ns ac st = some ((valsL fs n).length, ((valsL fs n).length, (valsL fs n, ((f, (rc, (i, (fs, (bd, (sz, ((), (na, ())))))))), (mm, (ns, (ac, st))))))) := by
 obtain ⟨r, e, h1, h2⟩ := get_s h n hn
 refine qd0 ?_
 simp only [qd4, gdE_if, EC.decL_encL, EC.isL_encL, if_true, e, Option.bind_some]
 rw [h2, h1]
end
end Go.Proofs.YtokahibbkdbndaaGreatDoor
