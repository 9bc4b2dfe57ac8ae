/- What a run of a script does, in plain words: variables, texts, matches. -/
import Derived.Test.YtokahibbkdbndaaGreatDoorZ26
import Derived.Test.YtokahibbkdbndaaGreatDoorZ22
namespace Go.Proofs.YtokahibbkdbndaaGreatDoor
open Go.RowKit
abbrev MM := List (ByteArray × ByteArray)
def itB (n : Int) : ByteArray := ⟨(Lib.itoa n).toArray⟩
def putP : List ByteArray → Nat → MM → MM
 | [], _, m => m
 | v :: vs, k, m => putP vs (k + 1) (putM m (itB ((k + 1 : Nat) : Int)) v)
def noDig (m : MM) : MM := m.filter fun p => !digP p.1
theorem decLen : ∀ u : Nat, (Lib.decDigits u).length ≤ u + 1 := by
 intro u
 induction u using Nat.strongRecOn with
 | _ u ih =>
  rw [Lib.decDigits]
  split
  ·simp
  ·have := ih (u / 10) (by omega)
   simp only [List.length_append, List.length_singleton]
   omega
theorem qln (k : Nat) : (itB (k : Int)).size ≤ k + 1 := by
 have := decLen k
 show (Lib.itoa (k : Int)).toArray.size ≤ _
 rw [List.size_toArray, Lib.itoa, if_neg (by omega)]
 simpa using this
theorem dec_ne (u : Nat) : ∃ b l, Lib.decDigits u = b :: l ∧ 48 ≤ b.toNat ∧ b.toNat ≤ 57 := by
 induction u using Nat.strongRecOn with
 | _ u ih =>
  rw [Lib.decDigits]
  split
  ·rename_i h
   refine ⟨_, [], rfl, ?_⟩
   rw [UInt8.toNat_ofNat']
   omega
  ·obtain ⟨b, l, e, h⟩ := ih (u / 10) (by omega)
   exact ⟨b, l ++ [UInt8.ofNat (48 + u % 10)], by rw [e]; rfl, h⟩
theorem qlm (k : Nat) : digP (itB (k : Int)) = true ∧ (itB (k : Int)).size ≠ 0 := by
 obtain ⟨b, l, e, h1, h2⟩ := dec_ne k
 have hi : Lib.itoa (k : Int) = b :: l := by rw [Lib.itoa, if_neg (by omega)]; simpa using e
 constructor
 ·unfold digP
  have : (itB (k : Int)).data.toList = b :: l := hi
  rw [this]
  simp [h1, h2]
 ·show (Lib.itoa (k : Int)).toArray.size ≠ 0
  rw [List.size_toArray, hi]
  simp
theorem ql7 (x q : ByteArray × ByteArray) : ∀ m : MM, q ∈ insM x m ↔ q = x ∨ q ∈ m
 | [] => by simp [insM]
 | y :: r => by
  unfold insM
  cases befM x.1 y.1 with
  | true => simp
  | false =>
   have := ql7 x q r
   simp only [cond_false, List.mem_cons, this]
   constructor
   ·rintro (h | h | h)
    ·exact .inr (.inl h)
    ·exact .inl h
    ·exact .inr (.inr h)
   ·rintro (h | h | h)
    ·exact .inr (.inl h)
    ·exact .inl h
    ·exact .inr (.inr h)
theorem qsm {m : MM} {k v : ByteArray} {q : ByteArray × ByteArray} (h : q ∈ putM m k v) : q = (k, v) ∨ q ∈ m := by
 unfold putM at h
 rcases (ql7 _ _ _).1 h with h | h
 ·exact .inl h
 ·exact .inr (List.mem_filter.1 h).1
theorem qsk (m : MM) (k v : ByteArray) : (putM m k v).length ≤ m.length + 1 := by
 unfold putM
 rw [ql5]
 have := List.length_filter_le (fun p : ByteArray × ByteArray => !(p.1.data.toList == k.data.toList)) m
 omega
structure Inv (n : Nat) (m : MM) : Prop where
 key : ∀ p ∈ m, p.1.size ≠ 0
 val : ∀ p ∈ m, p.2.size ≤ 2000000
 len : (noDig m).length ≤ n
 all : m.length ≤ n + 1000
theorem ql8 {k v : ByteArray} (h : digP k = true) : ∀ m : MM, (noDig (insM (k, v) m)) = noDig m
 | [] => by simp [insM, noDig, h]
 | y :: r => by
  unfold insM
  cases befM (k, v).1 y.1 with
  | true => simp [noDig, h]
  | false =>
   have := ql8 (v := v) h r
   simp only [noDig] at this
   simp only [cond_false, noDig, List.filter_cons, this]
theorem qp3 (m : MM) (k v : ByteArray) (h : digP k = true) : (noDig (putM m k v)).length ≤ (noDig m).length := by
 unfold putM
 rw [ql8 h]
 unfold noDig
 exact (List.Sublist.filter _ List.filter_sublist).length_le
theorem qp2 (m : MM) : (noDig m).length ≤ m.length := List.length_filter_le _ _
theorem qsn : ∀ (vs : List ByteArray) (k : Nat) (m : MM), (∀ v ∈ vs, v.size ≤ 2000000) → (∀ p ∈ m, p.1.size ≠ 0) → (∀ p ∈ m, p.2.size ≤ 2000000) → (∀ p ∈ putP vs k m, p.1.size ≠ 0) ∧ (∀ p ∈ putP vs k m, p.2.size ≤ 2000000) ∧ (noDig (putP vs k m)).length ≤ (noDig m).length ∧ (putP vs k m).length ≤ m.length + vs.length
 | [], k, m, _, h1, h2 => ⟨h1, h2, Nat.le_refl _, Nat.le_refl _⟩
 | v :: vs, k, m, hv, h1, h2 => by
  have hd := qlm (k + 1)
  have := qsn vs (k + 1) (putM m (itB ((k + 1 : Nat) : Int)) v) (fun x hx => hv x (List.mem_cons_of_mem _ hx)) (fun p hp => by
   rcases qsm hp with rfl | hp
   ·exact hd.2
   ·exact h1 p hp) (fun p hp => by
   rcases qsm hp with rfl | hp
   ·exact hv v (List.mem_cons_self ..)
   ·exact h2 p hp)
  have e1 := qp3 m (itB ((k + 1 : Nat) : Int)) v hd.1
  have e2 := qsk m (itB ((k + 1 : Nat) : Int)) v
  rw [putP]
  refine ⟨this.1, this.2.1, Nat.le_trans this.2.2.1 e1, ?_⟩
  have := this.2.2.2
  simp only [List.length_cons]
  omega
theorem Inv.pieces {n : Nat} {m : MM} (h : Inv n m) {vs : List ByteArray} (hv : ∀ v ∈ vs, v.size ≤ 2000000) (hl : vs.length ≤ 1000) : Inv n (putP vs 0 (noDig m)) := by
 have hm : ∀ p ∈ noDig m, p ∈ m := fun p hp => (List.mem_filter.1 hp).1
 have := qsn vs 0 (noDig m) hv (fun p hp => h.key p (hm p hp)) (fun p hp => h.val p (hm p hp))
 have hidem : noDig (noDig m) = noDig m := by unfold noDig; rw [List.filter_filter]; congr 1; funext p; simp
 rw [hidem] at this
 exact ⟨this.1, this.2.1, Nat.le_trans this.2.2.1 h.len, by have := this.2.2.2; have := h.len; omega⟩
theorem Inv.set {n : Nat} {m : MM} (h : Inv n m) {k v : ByteArray} (hk : k.size ≠ 0) (hv : v.size ≤ 2000000) : Inv (n + 1) (putM m k v) := by
 refine ⟨fun p hp => ?_, fun p hp => ?_, ?_, ?_⟩
 ·rcases qsm hp with rfl | hp
  ·exact hk
  ·exact h.key p hp
 ·rcases qsm hp with rfl | hp
  ·exact hv
  ·exact h.val p hp
 ·have hn : ∀ x : ByteArray × ByteArray, ∀ m : MM, (noDig (insM x m)).length ≤ (noDig m).length + 1 := by
   intro x m
   induction m with
   | nil => unfold insM noDig; rw [List.filter_cons]; split <;> simp
   | cons y r ih =>
    unfold insM
    cases befM x.1 y.1 with
    | true =>
     simp only [cond_true, noDig, List.filter_cons]
     split <;> simp
    | false =>
     simp only [noDig] at ih
     simp only [cond_false, noDig, List.filter_cons]
     split
     ·simp only [List.length_cons]; omega
     ·omega
  have h1 := hn (k, v) (m.filter fun p => !(p.1.data.toList == k.data.toList))
  have h2 : (noDig (m.filter fun p => !(p.1.data.toList == k.data.toList))).length ≤ (noDig m).length := by
   unfold noDig
   exact (List.Sublist.filter _ List.filter_sublist).length_le
  have h3 := h.len
  unfold putM
  omega
 ·have := qsk m k v
  have := h.all
  omega
theorem Inv.mono {n k : Nat} {m : MM} (h : Inv n m) (hk : n ≤ k) : Inv k m := ⟨h.key, h.val, Nat.le_trans h.len hk, Nat.le_trans h.all (by omega)⟩
theorem Inv.nil : Inv 0 [] := ⟨(fun p hp => by cases hp), (fun p hp => by cases hp), Nat.le_refl _, Nat.zero_le _⟩
def matL (p : Int) (tx : ByteArray) (m : MM) : List ByteArray → Bool × MM
 | [] => (false, m)
 | s :: l => if (matchR p tx s).1.2.2.1 = 0 ∧ (matchR p tx s).1.1 = true then (true, if p = 3 then putP (matchR p tx s).2 0 (noDig m) else m) else matL p tx m l
theorem qrh : ∀ (l : List El) (T : List UInt8), ∀ x ∈ pieces l T, x.length ≤ T.length
 | [], _ => by simp [pieces]
 | e :: l, T => by
  intro x hx
  rw [pieces] at hx
  split at hx
  ·rcases List.mem_cons.1 hx with rfl | hx
   ·simp; omega
   ·have := qrh l _ x hx; simp at this; omega
  ·split at hx
   ·rcases List.mem_cons.1 hx with rfl | hx
    ·simp; omega
    ·have := qrh l _ x hx; simp at this; omega
   ·have := qrh l _ x hx; simp at this; omega
theorem qni (k : Int) (p t : ByteArray) : (matchR k p t).1.2.1 = (matchR k p t).2.length ∧ (matchR k p t).2.length ≤ 1000 ∧ ∀ v ∈ (matchR k p t).2, v.size ≤ 2000000 := by
 unfold matchR
 split
 ·exact ⟨rfl, by simp, fun v hv => by cases hv⟩
 ·rename_i hf
  split
  ·exact ⟨rfl, by simp, fun v hv => by cases hv⟩
  ·rename_i ht
   have hp : p.size ≤ 200 := by
    have hf : faultP k p = (0, 0) := by simpa using hf
    unfold faultP at hf
    split at hf
    ·cases hf
    ·split at hf
     ·cases hf
     ·omega
   unfold matchedR
   split
   ·exact ⟨rfl, by simp, fun v hv => by cases hv⟩
   ·split
    ·exact ⟨rfl, by simp, fun v hv => by cases hv⟩
    ·unfold wildR
     split
     ·refine ⟨rfl, ?_, fun v hv => ?_⟩
      ·have h1 := qrg (elems2 (L p)) (L t)
       have h2 := q9c (L p)
       have h3 := L_len p
       simp
       omega
      ·obtain ⟨x, hx, rfl⟩ := List.mem_map.1 hv
       have := qrh _ _ x hx
       have h3 := L_len t
       show x.toArray.size ≤ _
       rw [List.size_toArray]
       omega
     ·exact ⟨rfl, by simp, fun v hv => by cases hv⟩
theorem qnh {n : Nat} {m : MM} (h : Inv n m) (p : Int) (tx : ByteArray) : ∀ l : List ByteArray, Inv n (matL p tx m l).2
 | [] => h
 | s :: l => by
  rw [matL]
  obtain ⟨_, h2, h3⟩ := qni p tx s
  split
  ·split
   ·exact h.pieces h3 h2
   ·exact h
  ·exact qnh h p tx l
end Go.Proofs.YtokahibbkdbndaaGreatDoor
namespace Go.Proofs.YtokahibbkdbndaaGreatDoor
open Go.RowKit
set_option maxRecDepth 100000
noncomputable section
end
end Go.Proofs.YtokahibbkdbndaaGreatDoor
namespace Go.Proofs.YtokahibbkdbndaaGreatDoor
open Go.RowKit
def tOf (r : S50) : S48 := ⟨r.Test_Kind, r.Test_Tests, r.Test_Name, r.Test_Pattern, r.Test_Text, r.Test_N⟩
def okvT (t : S48) : Prop := ∃ d, tfT t d = 0
def okvL (l : List S50) : Prop := ∃ n d m, n ≤ 100 ∧ ckL l n d = .inr m
theorem q111 {d : Nat} : ∀ {ts : List S48}, tfL ts d = 0 → ∀ t ∈ ts, tfT t d = 0
 | [], _, t, h => by cases h
 | x :: ts, h0, t, h => by
  unfold tfL at h0
  split at h0
  ·rename_i hne; exact absurd h0 hne
  ·rename_i hx
   rcases List.mem_cons.1 h with rfl | h
   ·simpa using hx
   ·exact q111 h0 t h
theorem qpf {t : S48} (h : okvT t) {t' : S48} (ht : t' ∈ t.Tests) : okvT t' := by
 obtain ⟨d, h⟩ := h
 rw [tfT_eq] at h
 split at h
 ·rename_i hne; exact absurd h hne
 ·exact ⟨d + 1, q111 h t' ht⟩
theorem qpg {t : S48} (h : okvT t) : (1 ≤ t.Kind ∧ t.Kind ≤ 9) ∧ innerB t.Kind t.Tests.length = true := by
 obtain ⟨d, h⟩ := h
 rw [tfT_eq] at h
 split at h
 ·rename_i hne; exact absurd h hne
 ·rename_i h0
  have h0 : tHead t.Kind t.Tests.length t.Name t.Pattern t.Text t.N d = 0 := by simpa using h0
  unfold tHead at h0
  split at h0
  ·cases h0
  split at h0
  ·cases h0
  rename_i h2
  split at h0
  ·cases h0
  rename_i h3
  simp only [Bool.or_eq_true, decide_eq_true_eq, not_or] at h2
  exact ⟨by omega, by simpa using h3⟩
theorem okvR {l : List S50} (h : okvL l) {r : S50} (hr : r ∈ l) : rHead r = 0 ∧ okvL r.Then ∧ okvL r.Else := by
 obtain ⟨n, d, m, hn, hc⟩ := h
 induction l generalizing n with
 | nil => cases hr
 | cons x l ih =>
  unfold ckL at hc
  split at hc
  ·cases hc
  rename_i h100
  split at hc
  ·cases hc
  rename_i hrc
  cases hq : ckR x n d with
  | inl f => rw [hq] at hc; cases hc
  | inr n2 =>
   rw [hq] at hc
   have hn2 : n2 ≤ 100 := by
    have := (ck_sz (szL [x]) [x] rfl n d hn).1 n2 (by simp only [ckL]; rw [if_neg h100, if_neg hrc, hq])
    exact this.2
   rcases List.mem_cons.1 hr with rfl | hr
   ·have h0 : rc r d = 0 := by simpa using hrc
    refine ⟨?_, ?_⟩
    ·unfold rc at h0
     split at h0
     ·cases h0
     ·exact h0
    ·rw [ckR_eq] at hq
     cases ht : ckL r.Then (n + 1) (d + 1) with
     | inl f => rw [ht] at hq; cases hq
     | inr n1 =>
      rw [ht] at hq
      exact ⟨⟨n + 1, d + 1, n1, by omega, ht⟩, ⟨n1, d + 1, n2, (ck_inr (by omega) ht).2, hq⟩⟩
   ·exact ih hr n2 hn2 hc
theorem qpe {r : S50} (h : rHead r = 0) (hk : (r.Kind == 1) = true) : okvT (tOf r) := by
 unfold rHead at h
 split at h
 ·cases h
 split at h
 ·cases h
 ·exact ⟨1, h⟩
theorem qph {t : S48} (h : okvT t) : t.Text.size ≤ 200 ∧ t.Name.size ≤ 60 := by
 obtain ⟨d, h⟩ := h
 rw [tfT_eq] at h
 split at h
 ·rename_i hne; exact absurd h hne
 ·rename_i h0
  have h0 : tHead t.Kind t.Tests.length t.Name t.Pattern t.Text t.N d = 0 := by simpa using h0
  unfold tHead at h0
  split at h0
  ·cases h0
  split at h0
  ·cases h0
  split at h0
  ·cases h0
  split at h0
  ·cases h0
  rename_i h4
  split at h0
  ·cases h0
  rename_i h5
  split at h0
  ·cases h0
  split at h0
  ·cases h0
  rename_i h7
  have h7 : ¬ (t.Text.size : Int) > 200 := by simpa using h7
  refine ⟨by omega, ?_⟩
  cases hk : (t.Kind == 5 || t.Kind == 9) with
  | true =>
   rw [hk] at h5
   have h5 : ¬ (em t.Name = true ∨ (t.Name.size : Int) > 60) := by simpa using h5
   omega
  | false =>
   rw [hk] at h4
   have he : em t.Name = true := by
    cases he : em t.Name with
    | true => rfl
    | false => rw [he] at h4; simp at h4
   rw [q9h] at he
   have := of_decide_eq_true he
   omega
theorem qtd {r : S50} (h : rHead r = 0) : (1 ≤ r.Kind ∧ r.Kind ≤ 4) ∧ (r.Kind ≠ 1 → r.Text.size ≤ 200) ∧ (r.Kind = 3 → varB r.Name = true) ∧ (r.Kind ≠ 1 → r.Then = [] ∧ r.Else = []) := by
 unfold rHead at h
 split at h
 ·cases h
 rename_i hk
 have hk : ¬ (r.Kind < 1 ∨ r.Kind > 4) := by simpa using hk
 refine ⟨by omega, ?_⟩
 split at h
 ·rename_i h1
  have h1 : r.Kind = 1 := by simpa using h1
  exact ⟨fun h => absurd h1 h, fun h => by omega, fun h => absurd h1 h⟩
 ·unfold pHead at h
  split at h
  ·cases h
  rename_i h0
  split at h
  ·cases h
  split at h
  ·cases h
  split at h
  ·cases h
  rename_i h4
  split at h
  ·cases h
  rename_i h5
  have h5 : ¬ (r.Text.size : Int) > 200 := by simpa using h5
  refine ⟨fun _ => by omega, fun h3 => ?_, fun _ => ?_⟩
  ·rw [h3] at h4
   simpa using h4
  ·simp only [Bool.or_eq_true, not_or] at h0
   have := h0.1.1.1.2
   simp at this
   exact this
theorem eta_T (t : S48) : (⟨t.Kind, t.Tests, t.Name, t.Pattern, t.Text, t.N⟩ : S48) = t := by cases t; rfl
mutual
def tsz : S50 → Nat
 | ⟨_, k, ts, nm, p, tx, n, t, e, _, _, _, _⟩ => tzT ⟨k, ts, nm, p, tx, n⟩ + tszL t + tszL e
def tszL : List S50 → Nat
 | [] => 0
 | r :: l => tsz r + tszL l
end
theorem tsz_eq (r : S50) : tsz r = tzT (tOf r) + tszL r.Then + tszL r.Else := by cases r; rfl
end Go.Proofs.YtokahibbkdbndaaGreatDoor
namespace Go.Proofs.YtokahibbkdbndaaGreatDoor
open Go.RowKit
section
variable (f : ByteArray) (rc : List S118) (fs : List S55) (sz : Int)
mutual
def tsT : S48 → MM → Bool × MM
 | ⟨k, ts, nm, p, tx, n⟩, m =>
  if k = 2 then tsH ts m else if k = 3 ∨ k = 4 then tsA k ts m else if k = 5 then matL p tx m (valsL fs nm) else if k = 6 then matL p tx m [f] else if k = 7 then matL p tx m (rc.map fun x => x.Address)
  else if k = 8 then (decide (sz > n), m) else if k = 9 then (decide (((valsL fs nm).length : Int) > 0), m) else (true, m)
def tsH : List S48 → MM → Bool × MM
 | [], m => (true, m)
 | t :: _, m => (!(tsT t m).1, (tsT t m).2)
def tsA (k : Int) : List S48 → MM → Bool × MM
 | [], m => (k == 3, m)
 | t :: l, m => if (tsT t m).1 = (k == 4) then (k == 4, (tsT t m).2) else tsA k l (tsT t m).2
end
theorem tsT_eq (t : S48) (m : MM) : tsT f rc fs sz t m = if t.Kind = 2 then tsH f rc fs sz t.Tests m else if t.Kind = 3 ∨ t.Kind = 4 then tsA f rc fs sz t.Kind t.Tests m else if t.Kind = 5 then matL t.Pattern t.Text m (valsL fs t.Name) else if t.Kind = 6 then matL t.Pattern t.Text m [f] else if t.Kind = 7 then matL t.Pattern t.Text m (rc.map fun x => x.Address)
  else if t.Kind = 8 then (decide (sz > t.N), m) else if t.Kind = 9 then (decide (((valsL fs t.Name).length : Int) > 0), m) else (true, m) := by cases t; rw [tsT]
mutual
theorem q11c (n : Nat) : ∀ (t : S48) (m : MM), Inv n m → Inv n (tsT f rc fs sz t m).2
 | ⟨k, ts, nm, p, tx, q⟩, m, h => by
  rw [tsT]
  split
  ·exact q11b n ts m h
  ·split
   ·exact q11a n k ts m h
   ·split
    ·exact qnh h _ _ _
    ·split
     ·exact qnh h _ _ _
     ·split
      ·exact qnh h _ _ _
      ·split
       ·exact h
       ·split
        ·exact h
        ·exact h
theorem q11b (n : Nat) : ∀ (ts : List S48) (m : MM), Inv n m → Inv n (tsH f rc fs sz ts m).2
 | [], m, h => by rw [tsH]; exact h
 | t :: _, m, h => by rw [tsH]; exact q11c n t m h
theorem q11a (n : Nat) (k : Int) : ∀ (ts : List S48) (m : MM), Inv n m → Inv n (tsA f rc fs sz k ts m).2
 | [], m, h => by rw [tsA]; exact h
 | t :: l, m, h => by
  rw [tsA]
  split
  ·exact q11c n t m h
  ·exact q11a n k l _ (q11c n t m h)
end
end
end Go.Proofs.YtokahibbkdbndaaGreatDoor
