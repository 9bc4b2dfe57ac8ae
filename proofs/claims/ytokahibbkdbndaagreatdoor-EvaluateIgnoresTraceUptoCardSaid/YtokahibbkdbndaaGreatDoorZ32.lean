/- The different simple tests of a valid script: the reference collects the same. -/
import Derived.Test.YtokahibbkdbndaaGreatDoorZ31
import Derived.Test.YtokahibbkdbndaaGreatDoorZ24
import Derived.Test.YtokahibbkdbndaaGreatDoorZ30
namespace Go.Proofs.YtokahibbkdbndaaGreatDoor
open Go.RowKit
def leafs (l : List S48) : Prop := ∀ x ∈ l, x.Tests = []
theorem q19j (a b : S48) (ha : a.Tests = []) (hb : b.Tests = []) : q18g a.Kind a.Tests a.Name a.Pattern a.Text a.N b.Kind b.Tests b.Name b.Pattern b.Text b.N = some (sameB a b) := by
 have h3 : q181 a.Kind [] a.Name a.Pattern a.Text a.N b.Kind [] b.Name b.Pattern b.Text b.N = some (true, ()) := by
  have h4 : q188 0 a.Kind [] a.Name a.Pattern a.Text a.N b.Kind [] b.Name b.Pattern b.Text b.N = some (.inr (((), (), 0, false), ((a.Kind, [], a.Name, a.Pattern, a.Text, a.N), (b.Kind, [], b.Name, b.Pattern, b.Text, b.N)))) := q18a (by
   simp only [q18f, brE_if, gdE_if, EC.decL_encL, EC.isL_encL, EC.encL_length, isE_48, q3v, q3w, q3x, q3y, q3z, q40]
   simp)
  refine q183 ?_
  simp only [q187, gdE_if, EC.decL_encL, EC.isL_encL, if_true, h4, Option.bind_some, Sum.elim_inr]
 refine q180 ?_
 rw [ha, hb]
 simp only [q18h, brE_if, gdE_if, EC.decL_encL, EC.isL_encL, EC.encL_length, if_true, h3, Option.bind_some, bne, sameB, List.length_nil]
 cases (a.Kind == b.Kind) <;> cases (a.Name.toList == b.Name.toList) <;> cases (a.Pattern == b.Pattern) <;> cases (a.Text.toList == b.Text.toList) <;> cases (a.N == b.N) <;> rfl
theorem q19n (l : List S48) (hl : l.length ≤ big) (hlf : leafs l) (t : S48) (ht : t.Tests = []) : ∀ m k, k + m = l.length → q196 l k t.Kind t.Tests t.Name t.Pattern t.Text t.N = some (if hasB (l.drop k) t = true then .inl (l, ()) else .inr ((l, (), (l.length : Int), false), (t.Kind, t.Tests, t.Name, t.Pattern, t.Text, t.N))) := by
 intro m
 induction m with
 | zero =>
  intro k hk
  have hk : k = l.length := by omega
  subst hk
  refine q198 ?_
  rw [List.drop_length]
  simp only [q19d, brE_if, gdE_if, EC.decL_encL, EC.isL_encL, EC.encL_length, isE_48, q3v, q3w, q3x, q3y, q3z, q40]
  simp [hasB]
 | succ m ihm =>
  intro k hk
  have hlt : k < l.length := by omega
  have e1 : decide ((k : Int) < (l.length : Int)) = true := by simp; omega
  have e0 : decide ((0 : Int) ≤ (k : Int)) = true := by simp
  have e2 : IntKind.i64.wrap ((k : Int) + 1) = ((k + 1 : Nat) : Int) := wr_nat hlt (by unfold big at hl; omega)
  have hd2 : decide (k < l.length) = true := by simp [hlt]
  have hs := q19j l[k] t (hlf _ (List.getElem_mem hlt)) ht
  refine q198 ?_
  rw [q97 hlt, hasB, List.any_cons]
  simp only [q19d, brE_if, gdE_if, EC.decL_encL, EC.isL_encL, EC.encL_length, isE_48, q3v, q3w, q3x, q3y, q3z, q40, e1, e0, if_true, Int.toNat_natCast, hd2, Bool.and_self, qik hlt, hs, Option.bind_some, e2, ihm (k + 1) (by omega)]
  cases sameB l[k] t <;> rfl
theorem q19m (ts : List S48) (hl : ts.length ≤ big) (b0 b3 b5 : Int) (b2 b4 : ByteArray) (ih : ∀ t ∈ ts, ∀ l : List S48, leafs l → l.length + tzT t ≤ many → q19e l t.Kind t.Tests t.Name t.Pattern t.Text t.N = some (colT l t) ∧ leafs (colT l t)) :
  ∀ m k (l : List S48), k + m = ts.length → leafs l → l.length + tzL (ts.drop k) ≤ many → (∃ x, q18z l k b0 ts b2 b3 b4 b5 = some x ∧ x.1.1 = colL l (ts.drop k)) ∧ leafs (colL l (ts.drop k)) := by
 intro m
 induction m with
 | zero =>
  intro k l hk hlf _
  have hk : k = ts.length := by omega
  subst hk
  rw [List.drop_length]
  exact ⟨⟨_, q191 (r := ((l, (), (ts.length : Int), false), (b0, ts, b2, b3, b4, b5))) (by
   simp only [q195, brE_if, gdE_if, EC.decL_encL, EC.isL_encL, EC.encL_length, isE_48, q3v, q3w, q3x, q3y, q3z, q40]
   simp), rfl⟩, hlf⟩
 | succ m ihm =>
  intro k l hk hlf hb
  have hlt : k < ts.length := by omega
  have e1 : decide ((k : Int) < (ts.length : Int)) = true := by simp; omega
  have e0 : decide ((0 : Int) ≤ (k : Int)) = true := by simp
  have e2 : IntKind.i64.wrap ((k : Int) + 1) = ((k + 1 : Nat) : Int) := wr_nat hlt (by unfold big at hl; omega)
  have hd2 : decide (k < ts.length) = true := by simp [hlt]
  rw [q1a5 hlt] at hb
  obtain ⟨i1, i2⟩ := ih ts[k] (List.getElem_mem hlt) l hlf (by omega)
  have hcl := q132 ts[k] l
  obtain ⟨⟨x, h1, h2⟩, h3⟩ := ihm (k + 1) (colT l ts[k]) (by omega) i2 (by omega)
  rw [q97 hlt, colL]
  refine ⟨⟨x, q191 ?_, h2⟩, h3⟩
  simp only [q195, brE_if, gdE_if, EC.decL_encL, EC.isL_encL, EC.encL_length, isE_48, q3v, q3w, q3x, q3y, q3z, q40, e1, e0, if_true, Int.toNat_natCast, hd2, Bool.and_self, qik hlt, i1, Option.bind_some, e2]
  exact h1
theorem room {n : Nat} (h : n ≤ many) : (n + n / 4 + 192) * 80 ≤ 281474976710656 := by unfold many at h; omega
theorem room' {n : Nat} (h : n ≤ many) : n ≤ 9223372036854775807 := by unfold many at h; omega
theorem q19o : ∀ (q : Nat) (t : S48), tzT t = q → okT t → okvT t → ∀ l : List S48, leafs l → l.length + tzT t ≤ many → q19e l t.Kind t.Tests t.Name t.Pattern t.Text t.N = some (colT l t) ∧ leafs (colT l t) := by
 intro q
 induction q using Nat.strongRecOn with
 | _ q ih =>
  intro t hq ho hv l hlf hb
  obtain ⟨hl, hol⟩ := (okT_eq t).1 ho
  have hz := tzT_eq t
  have hlb : l.length ≤ big := by unfold many at hb; unfold big; omega
  obtain ⟨⟨k1, k9⟩, _⟩ := qpg hv
  by_cases hk : 2 ≤ t.Kind ∧ t.Kind ≤ 4
  ·have ha : addT l t = l := by unfold addT; rw [show decide (t.Kind > 4) = false from decide_eq_false (by omega)]; rfl
   obtain ⟨⟨x, h1, h2⟩, h3⟩ := q19m t.Tests hl t.Kind t.Pattern t.N t.Name t.Text (fun t' ht' l' hlf' hb' => ih (tzT t') (by have := tz_mem ht'; omega) t' rfl (qpb hol ht') (qpf hv ht') l' hlf' hb') t.Tests.length 0 l (by omega) hlf (by rw [List.drop_zero]; omega)
   have h1 : q18z l 0 t.Kind t.Tests t.Name t.Pattern t.Text t.N = some x := h1
   rw [List.drop_zero] at h2 h3
   rw [q12z, ha]
   refine ⟨q18y ?_, h3⟩
   have hin : (decide ((2 : Int) ≤ t.Kind) && decide (t.Kind ≤ 4)) = true := by simp [hk.1, hk.2]
   simp only [q19f, brE_if, gdE_if, EC.decL_encL, EC.isL_encL, EC.encL_length, all_48, apd_48, in_s, hin, if_true, Option.bind_some, h1, h2]
  ·have hts := q16k hv hk
   have hin : (decide ((2 : Int) ≤ t.Kind) && decide (t.Kind ≤ 4)) = false := by
    rw [Bool.and_eq_false_iff, decide_eq_false_iff_not, decide_eq_false_iff_not]; omega
   have h8 := q19n l hlb hlf t hts l.length 0 (by omega)
   have h8 : q196 l 0 t.Kind t.Tests t.Name t.Pattern t.Text t.N = _ := h8
   rw [List.drop_zero] at h8
   have hcol : colT l t = addT l t := by rw [q12z, hts]; rfl
   rw [hcol]
   have g1 : (l.length + l.length / 4 + 192) * 80 ≤ 281474976710656 := room (by omega)
   have g2 : l.length ≤ 9223372036854775807 := room' (by omega)
   have g3 : (l.length + 1 + (l.length + 1) / 4 + 192) * 80 ≤ 281474976710656 := room (by omega)
   have g4 : l.length + 1 ≤ 9223372036854775807 := room' (by omega)
   cases hh : hasB l t with
   | true =>
    rw [hh, if_pos rfl] at h8
    have ha : addT l t = l := by unfold addT; rw [hh]; simp
    rw [ha]
    refine ⟨q18y ?_, hlf⟩
    simp only [q19f, brE_if, gdE_if, EC.decL_encL, EC.isL_encL, EC.encL_length, all_48, apd_48, in_s, hin, Bool.false_eq_true, if_false, if_true, Option.bind_some, h8, Sum.elim_inl]
   | false =>
    rw [hh, if_neg (by decide)] at h8
    by_cases h1 : t.Kind = 1
    ·have ha : addT l t = l := by unfold addT; rw [show decide (t.Kind > 4) = false from decide_eq_false (by omega)]; rfl
     rw [ha]
     have hb1 : (t.Kind == 1) = true := by simp [h1]
     refine ⟨q18y ?_, hlf⟩
     simp only [q19f, brE_if, gdE_if, EC.decL_encL, EC.isL_encL, EC.encL_length, all_48, apd_48, in_s, hin, Bool.false_eq_true, if_false, if_true, Option.bind_some, h8, Sum.elim_inr, hb1]
    ·have ha : addT l t = l ++ [t] := by unfold addT; rw [hh, show decide (t.Kind > 4) = true from decide_eq_true (by omega)]; rfl
     rw [ha]
     refine ⟨q18y ?_, fun x hx => ?_⟩
     ·have hne : (t.Kind == 1) = false := by simpa using h1
      simp only [q19f, brE_if, gdE_if, EC.decL_encL, EC.isL_encL, EC.encL_length, all_48, apd_48, in_s, hin, Bool.false_eq_true, if_false, if_true, Option.bind_some, h8, Sum.elim_inr, hne]
      simp [g1, g2, g3, g4, eta_T]
     ·rcases List.mem_append.1 hx with hx | hx
      ·exact hlf x hx
      ·have : x = t := by simpa using hx
       rw [this]; exact hts
end Go.Proofs.YtokahibbkdbndaaGreatDoor
namespace Go.Proofs.YtokahibbkdbndaaGreatDoor
open Go.RowKit
theorem q19k (s : List S50) (hl : s.length ≤ big) (ho : okL s) (hv : ∀ r ∈ s, rHead r = 0) (ih : ∀ r ∈ s, (∀ l : List S48, leafs l → l.length + tszL r.Then ≤ many → q18t l r.Then = some (tsL l r.Then) ∧ leafs (tsL l r.Then)) ∧ (∀ l : List S48, leafs l → l.length + tszL r.Else ≤ many → q18t l r.Else = some (tsL l r.Else) ∧ leafs (tsL l r.Else))) :
  ∀ m k (l : List S48), k + m = s.length → leafs l → l.length + tszL (s.drop k) ≤ many → (∃ x, q18m l s k = some x ∧ x.1.1 = tsL l (s.drop k)) ∧ leafs (tsL l (s.drop k)) := by
 intro m
 induction m with
 | zero =>
  intro k l hk hlf _
  have hk : k = s.length := by omega
  subst hk
  rw [List.drop_length]
  exact ⟨⟨((l, s, (s.length : Int), false), ()), q18o (by
   simp only [q18s, brE_if, gdE_if, EC.decL_encL, EC.isL_encL, EC.encL_length, isE_50, q41, q42, q46, q47, q48, q49, q4a, q4b, q4c]
   simp), rfl⟩, hlf⟩
 | succ m ihm =>
  intro k l hk hlf hb
  have hlt : k < s.length := by omega
  have e1 : decide ((k : Int) < (s.length : Int)) = true := by simp; omega
  have e0 : decide ((0 : Int) ≤ (k : Int)) = true := by simp
  have e2 : IntKind.i64.wrap ((k : Int) + 1) = ((k + 1 : Nat) : Int) := wr_nat hlt (by unfold big at hl; omega)
  have hd2 : decide (k < s.length) = true := by simp [hlt]
  rw [q1a4 hlt, tsz_eq] at hb
  obtain ⟨⟨o1, o2⟩, _⟩ := (okR_eq s[k]).1 (qpa ho (List.getElem_mem hlt))
  have hv0 := hv s[k] (List.getElem_mem hlt)
  obtain ⟨i1, i2⟩ := ih s[k] (List.getElem_mem hlt)
  have hcl := q132 (tOf s[k]) l
  have hrl := q1a2 s[k] l
  rw [tsz_eq] at hrl
  cases hk1 : (s[k].Kind == 1) with
  | true =>
   have hc := q19o _ (tOf s[k]) rfl ⟨o1, o2⟩ (qpe hv0 hk1) l hlf (by omega)
   obtain ⟨hc, hcf⟩ := hc
   have hc : q19e l s[k].Test_Kind s[k].Test_Tests s[k].Test_Name s[k].Test_Pattern s[k].Test_Text s[k].Test_N = _ := hc
   obtain ⟨j1, f1⟩ := i1 (colT l (tOf s[k])) hcf (by omega)
   have hl1 := q19z s[k].Then (colT l (tOf s[k]))
   obtain ⟨j2, f2⟩ := i2 (tsL (colT l (tOf s[k])) s[k].Then) f1 (by omega)
   have hR : tsR l s[k] = tsL (tsL (colT l (tOf s[k])) s[k].Then) s[k].Else := by rw [tsR_eq, hk1, if_pos rfl]
   obtain ⟨⟨x, h1, h2⟩, h3⟩ := ihm (k + 1) (tsR l s[k]) (by omega) (hR ▸ f2) (by omega)
   rw [q97 hlt, tsL]
   refine ⟨⟨x, q18o ?_, h2⟩, h3⟩
   rw [hR] at h1
   simp only [q18s, brE_if, gdE_if, EC.decL_encL, EC.isL_encL, EC.encL_length, isE_50, q41, q42, q46, q47, q48, q49, q4a, q4b, q4c, e1, e0, if_true, Int.toNat_natCast, hd2, Bool.and_self, qik hlt, hk1, hc, j1, j2, Option.bind_some, e2]
   exact h1
  | false =>
   obtain ⟨j1, f1⟩ := i1 l hlf (by omega)
   have hl1 := q19z s[k].Then l
   obtain ⟨j2, f2⟩ := i2 (tsL l s[k].Then) f1 (by omega)
   have hR : tsR l s[k] = tsL (tsL l s[k].Then) s[k].Else := by rw [tsR_eq, hk1, if_neg (by decide)]
   obtain ⟨⟨x, h1, h2⟩, h3⟩ := ihm (k + 1) (tsR l s[k]) (by omega) (hR ▸ f2) (by omega)
   rw [q97 hlt, tsL]
   refine ⟨⟨x, q18o ?_, h2⟩, h3⟩
   rw [hR] at h1
   simp only [q18s, brE_if, gdE_if, EC.decL_encL, EC.isL_encL, EC.encL_length, isE_50, q41, q42, q46, q47, q48, q49, q4a, q4b, q4c, e1, e0, if_true, Int.toNat_natCast, hd2, Bool.and_self, qik hlt, hk1, Bool.false_eq_true, if_false, j1, j2, Option.bind_some, e2]
   exact h1
theorem q19l : ∀ (q : Nat) (s : List S50), szL s = q → s.length ≤ big → okL s → okvL s → ∀ l : List S48, leafs l → l.length + tszL s ≤ many → q18t l s = some (tsL l s) ∧ leafs (tsL l s) := by
 intro q
 induction q using Nat.strongRecOn with
 | _ q ih =>
  intro s hq hl ho hv l hlf hb
  obtain ⟨⟨x, h1, h2⟩, h3⟩ := q19k s hl ho (fun r hr => (okvR hv hr).1) (fun r hr => by
   have := (okR_eq r).1 (qpa ho hr)
   have hvr := okvR hv hr
   exact ⟨fun l hlf hb => ih _ (hq ▸ qz5 hr) r.Then rfl this.2.1.1 this.2.1.2 hvr.2.1 l hlf hb, fun l hlf hb => ih _ (hq ▸ qz4 hr) r.Else rfl this.2.2.1.1 this.2.2.1.2 hvr.2.2 l hlf hb⟩) s.length 0 l (by omega) hlf (by rw [List.drop_zero]; exact hb)
  have e : q18m l s 0 = some x := h1
  rw [List.drop_zero] at h2 h3
  refine ⟨q18l ?_, h3⟩
  simp only [q18u, gdE_if, EC.decL_encL, EC.isL_encL, if_true, e, Option.bind_some, h2]
end Go.Proofs.YtokahibbkdbndaaGreatDoor
namespace Go.Proofs.YtokahibbkdbndaaGreatDoor
open Go.RowKit
def bitB (o i : Int) : Bool := (o / (2 ^ i.toNat)) % 2 == 1
mutual
def hT (o : Int) (c : List S48) : S48 → Bool
 | ⟨k, l, nm, p, tx, n⟩ => if (k == 1) = true then true else if (k == 2) = true then !hHd o c l else if (k == 3) = true then hAll o c l else if (k == 4) = true then hAny o c l else bitB o (fnd c ⟨k, l, nm, p, tx, n⟩ 0)
def hHd (o : Int) (c : List S48) : List S48 → Bool
 | [] => true
 | t :: _ => hT o c t
def hAll (o : Int) (c : List S48) : List S48 → Bool
 | [] => true
 | t :: l => hT o c t && hAll o c l
def hAny (o : Int) (c : List S48) : List S48 → Bool
 | [] => false
 | t :: l => hT o c t || hAny o c l
end
mutual
def inT (c : List S48) : S48 → Prop
 | ⟨k, l, nm, p, tx, n⟩ => (k > 4 → hasB c ⟨k, l, nm, p, tx, n⟩ = true) ∧ inL c l
def inL (c : List S48) : List S48 → Prop
 | [] => True
 | t :: l => inT c t ∧ inL c l
end
theorem inT_eq (c : List S48) (t : S48) : inT c t ↔ (t.Kind > 4 → hasB c t = true) ∧ inL c t.Tests := by cases t; rw [inT]
theorem q167 {c : List S48} : ∀ {l : List S48}, inL c l → ∀ {t}, t ∈ l → inT c t
 | [], _, t, h => by cases h
 | x :: l, h0, t, h => by
  rw [inL] at h0
  rcases List.mem_cons.1 h with rfl | h
  ·exact h0.1
  ·exact q167 h0.2 h
section
variable (o : Int) (ho : 0 ≤ o) (c : List S48) (hc : c.length ≤ 10) (n0 n2 n3 : Nat) (rs : List Bool) (ac : List S45)
include ho hc in
end
end Go.Proofs.YtokahibbkdbndaaGreatDoor
namespace Go.Proofs.YtokahibbkdbndaaGreatDoor
open Go.RowKit
mutual
def inR (c : List S48) : S50 → Prop
 | ⟨kd, k, ts, nm, p, tx, n, t, e, _, _, _, _⟩ => ((kd == 1) = true → inT c ⟨k, ts, nm, p, tx, n⟩) ∧ inRL c t ∧ inRL c e
def inRL (c : List S48) : List S50 → Prop
 | [] => True
 | r :: l => inR c r ∧ inRL c l
end
theorem inR_eq (c : List S48) (r : S50) : inR c r ↔ ((r.Kind == 1) = true → inT c (tOf r)) ∧ inRL c r.Then ∧ inRL c r.Else := by cases r; rw [inR]; rfl
end Go.Proofs.YtokahibbkdbndaaGreatDoor
namespace Go.Proofs.YtokahibbkdbndaaGreatDoor
open Go.RowKit
def mark (rs : List Bool) (ns : List Int) : List Bool := ns.foldl (fun b n => b.set n.toNat true) rs
def actOf (a : Int) : S45 := ⟨a, ByteArray.mk (List.toArray []), 0⟩
section
variable (o : Int) (c : List S48) (n0 : Nat)
def st (n2 n3 : Nat) (rs : List Bool) (ac : List S45) (u : List Int × List Int × Bool) : (Nat × Int × Nat × Nat) × List S48 × List Bool × List S45 := ((n0, (o, (n2, n3 + u.2.1.length))), (c, (mark rs u.1, ac ++ u.2.1.map actOf)))
end
end Go.Proofs.YtokahibbkdbndaaGreatDoor
namespace Go.Proofs.YtokahibbkdbndaaGreatDoor
open Go.RowKit
def ext (a b : List S48) : Prop := ∃ d, b = a ++ d
theorem q15x (a : List S48) : ext a a := ⟨[], by simp⟩
theorem q15y {a b c : List S48} (h1 : ext a b) (h2 : ext b c) : ext a c := by
 obtain ⟨d, rfl⟩ := h1
 obtain ⟨e, rfl⟩ := h2
 exact ⟨d ++ e, by simp⟩
theorem q15z {a b : List S48} (h : ext a b) {t : S48} (ht : hasB a t = true) : hasB b t = true := by
 obtain ⟨d, rfl⟩ := h
 unfold hasB at *
 rw [List.any_append, ht, Bool.true_or]
mutual
theorem q16a {a b : List S48} (h : ext a b) : ∀ (t : S48), inT a t → inT b t
 | ⟨k, l, nm, p, tx, n⟩, ht => by
  rw [inT] at *
  exact ⟨fun hk => q15z h (ht.1 hk), q166 h l ht.2⟩
theorem q166 {a b : List S48} (h : ext a b) : ∀ (l : List S48), inL a l → inL b l
 | [], _ => by rw [inL]; trivial
 | t :: l, ht => by
  rw [inL] at *
  exact ⟨q16a h t ht.1, q166 h l ht.2⟩
end
mutual
theorem q169 {a b : List S48} (h : ext a b) : ∀ (r : S50), inR a r → inR b r
 | ⟨kd, k, ts, nm, p, tx, n, t, e, a1, a2, a3, a4⟩, hr => by
  rw [inR] at *
  exact ⟨fun hk => q16a h _ (hr.1 hk), q168 h t hr.2.1, q168 h e hr.2.2⟩
theorem q168 {a b : List S48} (h : ext a b) : ∀ (l : List S50), inRL a l → inRL b l
 | [], _ => by rw [inRL]; trivial
 | r :: l, hr => by
  rw [inRL] at *
  exact ⟨q169 h r hr.1, q168 h l hr.2⟩
end
theorem q12m (l : List S48) (t : S48) : ext l (addT l t) := by
 unfold addT
 split
 ·exact ⟨[t], rfl⟩
 ·exact q15x l
theorem q19i (t : S48) : sameB t t = true := by simp [sameB]
theorem q12n (l : List S48) (t : S48) (hk : t.Kind > 4) : hasB (addT l t) t = true := by
 unfold addT
 cases hh : hasB l t with
 | true => simp [hh]
 | false =>
  rw [decide_eq_true hk]
  simp [hasB, q19i]
mutual
theorem q130 : ∀ (t : S48) (l : List S48), ext l (colT l t)
 | ⟨k, ts, nm, p, tx, n⟩, l => by
  rw [colT]
  exact q15y (q12m l _) (q12v ts _)
theorem q12v : ∀ (ts : List S48) (l : List S48), ext l (colL l ts)
 | [], l => by rw [colL]; exact q15x l
 | t :: ts, l => by rw [colL]; exact q15y (q130 t l) (q12v ts _)
end
mutual
theorem q131 : ∀ (t : S48) (l : List S48), inT (colT l t) t
 | ⟨k, ts, nm, p, tx, n⟩, l => by
  rw [colT, inT]
  exact ⟨fun hk => q15z (q12v ts _) (q12n l ⟨k, ts, nm, p, tx, n⟩ hk), q12w ts _⟩
theorem q12w : ∀ (ts : List S48) (l : List S48), inL (colL l ts) ts
 | [], l => by rw [inL]; trivial
 | t :: ts, l => by
  rw [colL, inL]
  exact ⟨q16a (q12v ts _) t (q131 t l), q12w ts _⟩
end
mutual
theorem q1a1 : ∀ (r : S50) (l : List S48), ext l (tsR l r)
 | ⟨kd, k, ts, nm, p, tx, n, t, e, a1, a2, a3, a4⟩, l => by
  rw [tsR]
  refine q15y ?_ (q15y (q19y t _) (q19y e _))
  split
  ·exact q130 _ l
  ·exact q15x l
theorem q19y : ∀ (rs : List S50) (l : List S48), ext l (tsL l rs)
 | [], l => by rw [tsL]; exact q15x l
 | r :: rs, l => by rw [tsL]; exact q15y (q1a1 r l) (q19y rs _)
end
mutual
theorem tsR_in : ∀ (r : S50) (l : List S48), inR (tsR l r) r
 | ⟨kd, k, ts, nm, p, tx, n, t, e, a1, a2, a3, a4⟩, l => by
  rw [tsR, inR]
  refine ⟨fun hk => ?_, q168 (q19y e _) t (tsL_in t _), tsL_in e _⟩
  rw [if_pos hk]
  exact q16a (q15y (q19y t _) (q19y e _)) _ (q131 ⟨k, ts, nm, p, tx, n⟩ l)
theorem tsL_in : ∀ (rs : List S50) (l : List S48), inRL (tsL l rs) rs
 | [], l => by rw [inRL]; trivial
 | r :: rs, l => by
  rw [tsL, inRL]
  exact ⟨q169 (q19y rs _) r (tsR_in r l), tsL_in rs _⟩
end
end Go.Proofs.YtokahibbkdbndaaGreatDoor
namespace Go.Proofs.YtokahibbkdbndaaGreatDoor
open Go.RowKit
structure SOk (s : List S50) : Prop where
 len : s.length ≤ big
 ok : okL s
 few : tszL s ≤ many
structure Tried (s : List S50) : Prop extends SOk s where
 val : okvL s
 sz : szL s ≤ 100
 ten : (tsL [] s).length ≤ 10
section
variable {s : List S50} (h : Tried s) (n0 : Nat) (b0 b1 : Int)
include h in
include h in
include h in
end
end Go.Proofs.YtokahibbkdbndaaGreatDoor
namespace Go.Proofs.YtokahibbkdbndaaGreatDoor
open Go.RowKit
theorem ba_ext {a b : ByteArray} (h : a.toList = b.toList) : a = b := by
 rw [ByteArray.toList_eq, ByteArray.toList_eq] at h
 cases a; cases b
 exact congrArg ByteArray.mk (Array.toList_inj.1 h)
section
variable (f : ByteArray) (rc : List S118) (fs : List S55) (sz : Int)
end
end Go.Proofs.YtokahibbkdbndaaGreatDoor
namespace Go.Proofs.YtokahibbkdbndaaGreatDoor
open Go.RowKit
section
variable (f : ByteArray) (rc : List S118) (fs : List S55) (sz sz' : Int) (x : S55) (c : List S48)
theorem q19x (k : Int) : ∀ (ts : List S48), (∀ t ∈ ts, ∀ m, tsT f rc (x :: fs) sz' t m = tsT f rc fs sz t m) → ∀ m, tsA f rc (x :: fs) sz' k ts m = tsA f rc fs sz k ts m
 | [], _, m => by rw [tsA, tsA]
 | t :: l, h, m => by
  rw [tsA, tsA, h t (List.mem_cons_self ..), q19x k l (fun y hy => h y (List.mem_cons_of_mem _ hy))]
variable (hc : ∀ t ∈ c, t.Kind ≠ 8 ∧ sm t.Name x = false)
include hc in
theorem q16g {t : S48} (hk : t.Kind > 4) (h : hasB c t = true) (m : MM) : tsT f rc (x :: fs) sz' t m = tsT f rc fs sz t m := by
 unfold hasB at h
 obtain ⟨y, hy, hs⟩ := List.any_eq_true.1 h
 obtain ⟨h8, hn⟩ := hc y hy
 unfold sameB at hs
 simp only [Bool.and_eq_true, beq_iff_eq] at hs
 obtain ⟨h1, h2, _⟩ := hs
 have h2 := ba_ext h2
 rw [h1] at h8
 rw [h2] at hn
 have n2 : ¬ t.Kind = 2 := by omega
 have n34 : ¬ (t.Kind = 3 ∨ t.Kind = 4) := by omega
 have n8 : ¬ t.Kind = 8 := h8
 rw [tsT_eq, tsT_eq, q11n, hn]
 simp only [n2, n34, n8, if_false, Bool.false_eq_true]
include hc in
theorem q1a3 : ∀ (q : Nat) (t : S48), tzT t = q → inT c t → ∀ m, tsT f rc (x :: fs) sz' t m = tsT f rc fs sz t m := by
 intro q
 induction q using Nat.strongRecOn with
 | _ q ih =>
  intro t hq hin m
  have hz := tzT_eq t
  obtain ⟨hi1, hi2⟩ := (inT_eq c t).1 hin
  have ihc : ∀ t' ∈ t.Tests, ∀ m, tsT f rc (x :: fs) sz' t' m = tsT f rc fs sz t' m := fun t' ht' => ih (tzT t') (by have := tz_mem ht'; omega) t' rfl (q167 hi2 ht')
  by_cases h4 : t.Kind > 4
  ·exact q16g f rc fs sz sz' x c hc h4 (hi1 h4) m
  rw [tsT_eq, tsT_eq]
  split
  ·generalize t.Tests = ts at ihc
   cases ts with
   | nil => rw [tsH, tsH]
   | cons y l => rw [tsH, tsH, ihc y (List.mem_cons_self ..)]
  ·split
   ·exact q19x f rc fs sz sz' x _ _ ihc m
   ·rw [if_neg (by omega), if_neg (by omega), if_neg (by omega), if_neg (by omega), if_neg (by omega), if_neg (by omega), if_neg (by omega), if_neg (by omega), if_neg (by omega), if_neg (by omega)]
include hc in
theorem q15w : ∀ (q : Nat) (s : List S50), szL s = q → inRL c s → ∀ (i : Int) (m : MM) (a : List S45) (st : List S62), exL f rc (x :: fs) sz' s i m a st = exL f rc fs sz s i m a st := by
 intro q
 induction q using Nat.strongRecOn with
 | _ q ihq =>
  intro s
  induction s with
  | nil => intro _ _ i m a st; rw [exL, exL]
  | cons r l ihl =>
   intro hq hin i m a st
   have hsz : szR r + szL l = q := by simpa [szL] using hq
   have hr := szR_eq r
   rw [inRL] at hin
   obtain ⟨hiT, hi2, hi3⟩ := (inR_eq c r).1 hin.1
   have hR : exR f rc (x :: fs) sz' r i m a st = exR f rc fs sz r i m a st := by
    rw [exR_eq, exR_eq]
    by_cases h : r.Kind = 1
    ·rw [if_pos h, if_pos h, q1a3 f rc fs sz sz' x c hc _ (tOf r) rfl (hiT (by simpa using h)), ihq (szL r.Then) (by omega) r.Then rfl hi2, ihq (szL r.Else) (by omega) r.Else rfl hi3]
    ·rw [if_neg h, if_neg h]
   rw [exL, exL, hR, ihq (szL l) (by omega) l rfl hin.2]
end
end Go.Proofs.YtokahibbkdbndaaGreatDoor
namespace Go.Proofs.YtokahibbkdbndaaGreatDoor
open Go.RowKit
set_option maxRecDepth 100000
noncomputable section
def q16m := (lCons (vC (cSl ec_50)) (lCons (vAgg (lCons (vC cStr) (lCons (vC (cSl ec_118)) (lCons (vC cStr) (lCons (vC (cSl ec_55)) (lOne (vC (cSl ec_5)))))))) (lCons (vC cStr) (lOne (vC cStr)))))
def q16v := sLS [0, 2, 3, 5, 9, 11, 12] (lCons (vC (cSl ec_50)) (lCons (vC cStr) (lCons (vC cStr) (lCons (vPtr 0 0) (lCons (vRow 1) (lCons (vC (cSl ec_48)) (lOne (vC (cInt .i64))))))))) (lCons (oSome (bBox (lCons (vC cStr) (lCons (vC (cSl ec_118)) (lCons (vC cStr) (lCons (vC (cSl ec_55)) (lOne (vC (cSl ec_5))))))))) (lOne (oSome (bRow ec_45)))) [false, false] [] (by decide) (fun _ => rfl)
def q16u := sLS [0, 2, 3, 5, 9, 11, 12, 31] (lCons (vC (cSl ec_50)) (lCons (vC cStr) (lCons (vC cStr) (lCons (vPtr 0 0) (lCons (vRow 1) (lCons (vC (cSl ec_48)) (lCons (vC (cInt .i64)) (lOne (vC cBool))))))))) (lCons (oSome (bBox (lCons (vC cStr) (lCons (vC (cSl ec_118)) (lCons (vC cStr) (lCons (vC (cSl ec_55)) (lOne (vC (cSl ec_5))))))))) (lOne (oSome (bRow ec_45)))) [false, false] [] (by decide) (fun _ => rfl)
def q16t := sLS [8] (lOne (vC cBool)) lNil [] [] (by decide) (fun _ => rfl)
def q16s := oOr 1 q16t (oAt 2 q16u) (fun x => (by decide : (2 : Nat) ≠ 1))
def q16p (s : (List S50)) (name : ByteArray) (value : ByteArray) (l : Nat) (tests : (List S48)) (i : Int) (b0 : ByteArray) (b0_1 : (List S118)) (b0_2 : ByteArray) (b0_3 : (List S55)) (b0_4 : (List Int)) (b1 : (List S45)) : Option ((Bool × Unit) ⊕ (((List S50) × ByteArray × ByteArray × Unit × Nat × (List S48) × Int × Bool) × ((ByteArray × (List S118) × ByteArray × (List S55) × (List Int)) × (List S45)))) := lS Tryz.prog lv X0 6 82 (getLoop (cdF Tryz.f6) 6) q16v q16s ((s, name, value, (), l, tests, i), ((b0, b0_1, b0_2, b0_3, b0_4), b1))
def q16w (s : (List S50)) (name : ByteArray) (value : ByteArray) (l : Nat) (tests : (List S48)) (i : Int) (b0 : ByteArray) (b0_1 : (List S118)) (b0_2 : ByteArray) (b0_3 : (List S55)) (b0_4 : (List Int)) (b1 : (List S45)) : Option ((Bool × Unit) ⊕ (((List S50) × ByteArray × ByteArray × Unit × Nat × (List S48) × Int × Bool) × ((ByteArray × (List S118) × ByteArray × (List S55) × (List Int)) × (List S45)))) :=
 (brE (decide (i < (List.length (EC.encL ec_48 tests) : Int)))
 (gdE (decide (0 ≤ i)) <|
 (gdE ((decide ((Int.toNat i) < (List.length (EC.encL ec_48 tests)))) && (isE [(K1.int Go.IntKind.i64), K1.sl, K1.str, (K1.int Go.IntKind.i64), K1.str, (K1.int Go.IntKind.i64)] 0 (List.getD (EC.encL ec_48 tests) (Int.toNat i) []))) <|
 (brE (((intOf (List.getD (List.getD (EC.encL ec_48 tests) (Int.toNat i) []) 0 C.ne)) == 8) == false)
 (gdE (decide (0 ≤ i)) <|
 (gdE ((decide ((Int.toNat i) < (List.length (EC.encL ec_48 tests)))) && (isE [(K1.int Go.IntKind.i64), K1.sl, K1.str, (K1.int Go.IntKind.i64), K1.str, (K1.int Go.IntKind.i64)] 0 (List.getD (EC.encL ec_48 tests) (Int.toNat i) []))) <|
 (Option.bind (q17b (strOf (List.getD (List.getD (EC.encL ec_48 tests) (Int.toNat i) []) 2 C.ne)) name) fun r0 =>
 (brE r0
 (some (.inl (true, ())))
 (gdE (EC.isL ec_50 (EC.encL ec_50 s)) <|
 (gdE (EC.isL ec_48 (EC.encL ec_48 tests)) <|
 (gdE (EC.isL ec_118 (EC.encL ec_118 b0_1)) <|
 (gdE (EC.isL ec_55 (EC.encL ec_55 b0_3)) <|
 (gdE (EC.isL ec_5 (EC.encL ec_5 b0_4)) <|
 (gdE (EC.isL ec_45 (EC.encL ec_45 b1)) <|
 (q16p (EC.decL ec_50 (EC.encL ec_50 s)) name value l (EC.decL ec_48 (EC.encL ec_48 tests)) (IntKind.wrap .i64 (i + 1)) b0 (EC.decL ec_118 (EC.encL ec_118 b0_1)) b0_2 (EC.decL ec_55 (EC.encL ec_55 b0_3)) (EC.decL ec_5 (EC.encL ec_5 b0_4)) (EC.decL ec_45 (EC.encL ec_45 b1)))))))))))))
 (some (.inl (true, ()))))))
 (gdE (EC.isL ec_50 (EC.encL ec_50 s)) <|
 (gdE (EC.isL ec_48 (EC.encL ec_48 tests)) <|
 (gdE (EC.isL ec_118 (EC.encL ec_118 b0_1)) <|
 (gdE (EC.isL ec_55 (EC.encL ec_55 b0_3)) <|
 (gdE (EC.isL ec_5 (EC.encL ec_5 b0_4)) <|
 (gdE (EC.isL ec_45 (EC.encL ec_45 b1)) <|
 (some (.inr (((EC.decL ec_50 (EC.encL ec_50 s)), (name, (value, ((), (l, ((EC.decL ec_48 (EC.encL ec_48 tests)), (i, false))))))), ((b0, ((EC.decL ec_118 (EC.encL ec_118 b0_1)), (b0_2, ((EC.decL ec_55 (EC.encL ec_55 b0_3)), (EC.decL ec_5 (EC.encL ec_5 b0_4)))))), (EC.decL ec_45 (EC.encL ec_45 b1)))))))))))))
theorem q16r {s} {name} {value} {l} {tests} {i} {b0} {b0_1} {b0_2} {b0_3} {b0_4} {b1} {r} (h : q16w s name value l tests i b0 b0_1 b0_2 b0_3 b0_4 b1 = some r) : q16p s name value l tests i b0 b0_1 b0_2 b0_3 b0_4 b1 = some r :=
 qm5 (es := q19v) (hs := q161) [] (by kernel_rfl) trivial trivial (by kernel_rfl) h
def q16q := lentS Tryz.prog lv X0 6 (getLoop (cdF Tryz.f6) 6) q16v q16s (fun x => q16p x.1.1 x.1.2.1 x.1.2.2.1 x.1.2.2.2.2.1 x.1.2.2.2.2.2.1 x.1.2.2.2.2.2.2 x.2.1.1 x.2.1.2.1 x.2.1.2.2.1 x.2.1.2.2.2.1 x.2.1.2.2.2.2 x.2.2) (fun _ _ h => qm4 h)
def q16n : Cod (V × List B) Bool := (cFstU (cPair (vC cBool) lNil))
def q16x (s : (List S50)) (m_Envelope_From : ByteArray) (m_Envelope_To : (List S118)) (m_Envelope_Id : ByteArray) (m_Message_Fields : (List S55)) (m_Message_Body : (List Int)) (name : ByteArray) (value : ByteArray) : Option Bool := fS Tryz.prog lv X0 6 q16m q16n (s, (m_Envelope_From, m_Envelope_To, m_Envelope_Id, m_Message_Fields, m_Message_Body), name, value)
def q16y (s : (List S50)) (m_Envelope_From : ByteArray) (m_Envelope_To : (List S118)) (m_Envelope_Id : ByteArray) (m_Message_Fields : (List S55)) (m_Message_Body : (List Int)) (name : ByteArray) (value : ByteArray) : Option Bool :=
 (gdE (EC.isL ec_50 (EC.encL ec_50 s)) <|
 (gdE (EC.isL ec_118 (EC.encL ec_118 m_Envelope_To)) <|
 (gdE (EC.isL ec_55 (EC.encL ec_55 m_Message_Fields)) <|
 (gdE (EC.isL ec_5 (EC.encL ec_5 m_Message_Body)) <|
 (Option.bind (q13y (EC.decL ec_50 (EC.encL ec_50 s)) m_Envelope_From (EC.decL ec_118 (EC.encL ec_118 m_Envelope_To)) m_Envelope_Id (EC.decL ec_55 (EC.encL ec_55 m_Message_Fields)) (EC.decL ec_5 (EC.encL ec_5 m_Message_Body))) fun r0 =>
 (brE (r0.1.2.1 != 0)
 (some true)
 (gdE (EC.isL ec_50 (EC.encL ec_50 s)) <|
 (Option.bind (q18t (EC.decL ec_48 []) (EC.decL ec_50 (EC.encL ec_50 s))) fun r1 =>
 (gdE (EC.isL ec_50 (EC.encL ec_50 s)) <|
 (gdE (EC.isL ec_48 (EC.encL ec_48 r1)) <|
 (gdE (EC.isL ec_118 (EC.encL ec_118 m_Envelope_To)) <|
 (gdE (EC.isL ec_55 (EC.encL ec_55 m_Message_Fields)) <|
 (gdE (EC.isL ec_5 (EC.encL ec_5 m_Message_Body)) <|
 (gdE (EC.isL ec_45 (EC.encL ec_45 r0.2)) <|
 (Option.bind (q16p (EC.decL ec_50 (EC.encL ec_50 s)) name value r0.1.1 (EC.decL ec_48 (EC.encL ec_48 r1)) 0 m_Envelope_From (EC.decL ec_118 (EC.encL ec_118 m_Envelope_To)) m_Envelope_Id (EC.decL ec_55 (EC.encL ec_55 m_Message_Fields)) (EC.decL ec_5 (EC.encL ec_5 m_Message_Body)) (EC.decL ec_45 (EC.encL ec_45 r0.2))) fun r2 =>
 (Sum.elim (fun r3 => (some r3.1))
 (fun r3 => (gdE ((((List.all (EC.encL ec_55 r3.2.1.2.2.2.1) (fun (el : (List C)) => ((List.length el) == 2))) && (List.all [[(C.str r3.1.2.1), (C.str r3.1.2.2.1)]] (fun (el : (List C)) => ((List.length el) == 2)))) && (decide (((((1 + (List.length (EC.encL ec_55 r3.2.1.2.2.2.1))) + ((1 + (List.length (EC.encL ec_55 r3.2.1.2.2.2.1))) / 4)) + 192) * 32) ≤ 281474976710656))) && (decide ((1 + (List.length (EC.encL ec_55 r3.2.1.2.2.2.1))) ≤ 9223372036854775807))) <|
 (gdE (EC.isL ec_50 (EC.encL ec_50 r3.1.1)) <|
 (gdE (EC.isL ec_118 (EC.encL ec_118 r3.2.1.2.1)) <|
 (gdE (EC.isL ec_55 ([[(C.str r3.1.2.1), (C.str r3.1.2.2.1)]] ++ (EC.encL ec_55 r3.2.1.2.2.2.1))) <|
 (gdE (EC.isL ec_5 (EC.encL ec_5 r3.2.1.2.2.2.2)) <|
 (Option.bind (q13y (EC.decL ec_50 (EC.encL ec_50 r3.1.1)) r3.2.1.1 (EC.decL ec_118 (EC.encL ec_118 r3.2.1.2.1)) r3.2.1.2.2.1 (EC.decL ec_55 ([[(C.str r3.1.2.1), (C.str r3.1.2.2.1)]] ++ (EC.encL ec_55 r3.2.1.2.2.2.1))) (EC.decL ec_5 (EC.encL ec_5 r3.2.1.2.2.2.2))) fun r4 =>
 (brE (r4.1.2.1 != 0)
 (brE ((r4.1.2.2 == (-2)) == true)
 (some true)
 (some false))
 (gdE (EC.isL ec_45 (EC.encL ec_45 r3.2.2)) <|
 (gdE (EC.isL ec_45 (EC.encL ec_45 r4.2)) <|
 (Option.bind (q17v (EC.decL ec_45 (EC.encL ec_45 r3.2.2)) (EC.decL ec_45 (EC.encL ec_45 r4.2))) fun r5 =>
 (brE (r5 == true)
 (some true)
 (some false))))))))))))) r2))))))))))))))))
theorem q16o {s} {m_Envelope_From} {m_Envelope_To} {m_Envelope_Id} {m_Message_Fields} {m_Message_Body} {name} {value} {r} (h : q16y s m_Envelope_From m_Envelope_To m_Envelope_Id m_Message_Fields m_Message_Body name value = some r) : q16x s m_Envelope_From m_Envelope_To m_Envelope_Id m_Message_Fields m_Message_Body name value = some r :=
 qf2 (es := q19v) (hs := q161) [q16q] Tryz.func6 rfl (by kernel_rfl) rfl (by kernel_rfl) (by kernel_rfl) ⟨⟨_, rfl, rfl⟩, trivial⟩ trivial (by kernel_rfl) h
end
end Go.Proofs.YtokahibbkdbndaaGreatDoor
