/- Several texts of this proof in one file. -/
import Derived.Test.YtokahibbkdbndaaGK
/- What small functions of rules and prove answer, in plain words: sizes of scripts, tests that are alike, places of tests. -/
namespace Go.Proofs.Ytokahibbkdbndaa
open Go.RowKit

theorem brE_if {β : Type} (q : Bool) (a b : Option β) : brE q a b = if q = true then a else b := by cases q <;> rfl
theorem gdE_if {β : Type} (q : Bool) (a : Option β) : gdE q a = if q = true then a else none := by cases q <;> rfl
theorem getD_in {α : Type} {l : List α} {k : Nat} {d : α} (h : k < l.length) : l.getD k d = l[k] := by simp [List.getD_eq_getElem?_getD, h]
theorem drop_at {α : Type} {l : List α} {k : Nat} (h : k < l.length) : l.drop k = l[k] :: l.drop (k + 1) := List.drop_eq_getElem_cons h
theorem EC_nilD {τ : Type} (e : EC τ) : e.decL [] = [] := rfl
theorem EC_nilI {τ : Type} (e : EC τ) : e.isL [] = true := rfl
theorem wr_in {n : Int} (h : -9223372036854775808 ≤ n ∧ n ≤ 9223372036854775807) : IntKind.i64.wrap n = n := IntWalk.i64_in n h
theorem wr_addL (a b : Int) : IntKind.i64.wrap (IntKind.i64.wrap a + b) = IntKind.i64.wrap (a + b) := by simp only [IntKind.wrap_i64]; omega
theorem wr_addR (a b : Int) : IntKind.i64.wrap (a + IntKind.i64.wrap b) = IntKind.i64.wrap (a + b) := by simp only [IntKind.wrap_i64]; omega
theorem wr_nat {k n : Nat} (h : k < n) (hn : n ≤ 9223372036854775807) : IntKind.i64.wrap ((k : Int) + 1) = ((k + 1 : Nat) : Int) := by rw [wr_in (by omega)]; rfl

theorem fault_s (a b : Int) : basic_Fault_s a b = some (a, b) := basic_Fault_eq rfl
theorem none_s : basic_None_s = some (0, 0) := basic_None_eq rfl
theorem failed_s (a b : Int) : basic_Failed_s a b = some (a != 0) := by
  refine basic_Failed_eq ?_
  simp [basic_Failed_t]
theorem in_s (n a b : Int) : posthouseref5_In_s n a b = some (decide (a ≤ n) && decide (n ≤ b)) := by
  refine posthouseref5_In_eq ?_
  simp only [posthouseref5_In_t, brE_if]
  by_cases h : a ≤ n <;> simp [h]

mutual
/-- how many rules -/
def szR : S44 → Nat
  | ⟨_, _, _, _, _, _, _, t, e, _, _, _, _⟩ => 1 + szL t + szL e
def szL : List S44 → Nat
  | [] => 0
  | r :: l => szR r + szL l
end
theorem szR_eq (r : S44) : szR r = 1 + szL r.Then + szL r.Else := by cases r; rfl
theorem szL_app (a b : List S44) : szL (a ++ b) = szL a + szL b := by
  induction a with
  | nil => simp [szL]
  | cons r a ih => simp only [List.cons_append, szL, ih]; omega
theorem szL_get {l : List S44} {r : S44} (h : r ∈ l) : szR r ≤ szL l := by
  induction l with
  | nil => cases h
  | cons x l ih =>
    rcases List.mem_cons.1 h with rfl | h
    · simp only [szL]; omega
    · have := ih h; simp only [szL]; omega
theorem sz_then {l : List S44} {r : S44} (h : r ∈ l) : szL r.Then < szL l := by have := szL_get h; rw [szR_eq] at this; omega
theorem sz_else {l : List S44} {r : S44} (h : r ∈ l) : szL r.Else < szL l := by have := szL_get h; rw [szR_eq] at this; omega
theorem szL_take {l : List S44} {k : Nat} (h : k < l.length) : szL (l.take (k + 1)) = szL (l.take k) + szR l[k] := by
  rw [List.take_succ_eq_append_getElem h, szL_app]; simp [szL]
theorem len_le : ∀ (l : List S44), l.length ≤ szL l
  | [] => by simp [szL]
  | r :: l => by have := len_le l; have := szR_eq r; simp only [szL, List.length_cons]; omega

/-- lists of a script that have room in memory -/
abbrev big : Nat := 1000000000000000
mutual
def okT : S42 → Prop
  | ⟨_, ts, _, _, _, _⟩ => ts.length ≤ big ∧ okTL ts
def okTL : List S42 → Prop
  | [] => True
  | r :: l => okT r ∧ okTL l
end
mutual
def okR : S44 → Prop
  | ⟨_, _, ts, _, _, _, _, t, e, _, nm, _, _⟩ => (ts.length ≤ big ∧ okTL ts) ∧ (t.length ≤ big ∧ okL t) ∧ (e.length ≤ big ∧ okL e) ∧ nm.size ≤ big
def okL : List S44 → Prop
  | [] => True
  | r :: l => okR r ∧ okL l
end
theorem okT_eq (t : S42) : okT t ↔ t.Tests.length ≤ big ∧ okTL t.Tests := by cases t; rfl
theorem okR_eq (r : S44) : okR r ↔ (r.Test_Tests.length ≤ big ∧ okTL r.Test_Tests) ∧ (r.Then.length ≤ big ∧ okL r.Then) ∧ (r.Else.length ≤ big ∧ okL r.Else) ∧ r.Name.size ≤ big := by cases r; rfl
theorem okTL_get {l : List S42} (h : okTL l) {t : S42} (ht : t ∈ l) : okT t := by
  induction l with
  | nil => cases ht
  | cons x l ih =>
    rcases List.mem_cons.1 ht with rfl | ht
    · exact h.1
    · exact ih h.2 ht
theorem okL_get {l : List S44} (h : okL l) {r : S44} (hr : r ∈ l) : okR r := by
  induction l with
  | nil => cases hr
  | cons x l ih =>
    rcases List.mem_cons.1 hr with rfl | hr
    · exact h.1
    · exact ih h.2 hr
mutual
/-- how many tests -/
def tzT : S42 → Nat
  | ⟨_, ts, _, _, _, _⟩ => 1 + tzL ts
def tzL : List S42 → Nat
  | [] => 0
  | r :: l => tzT r + tzL l
end
theorem tzT_eq (t : S42) : tzT t = 1 + tzL t.Tests := by cases t; rfl
theorem tz_mem {l : List S42} {t : S42} (h : t ∈ l) : tzT t ≤ tzL l := by
  induction l with
  | nil => cases h
  | cons x l ih =>
    rcases List.mem_cons.1 h with rfl | h
    · simp only [tzL]; omega
    · have := ih h; simp only [tzL]; omega

theorem size_loop (l : List S44) (hl : l.length ≤ big) (ih : ∀ r ∈ l, rules_Size_s r.Then = some (IntKind.i64.wrap (szL r.Then)) ∧ rules_Size_s r.Else = some (IntKind.i64.wrap (szL r.Else))) :
    ∀ m k, k + m = l.length → ∃ x, rules_Size_l3 (IntKind.i64.wrap (szL (l.take k))) l l.length k = some x ∧ x.1.1 = IntKind.i64.wrap (szL l) := by
  intro m
  induction m with
  | zero =>
    intro k hk
    have hk : k = l.length := by omega
    subst hk
    refine ⟨((IntKind.i64.wrap (szL (l.take l.length)), l, (l.length : Int), (l.length : Int), false), ()), rules_Size_l3_eq (by
      simp only [rules_Size_l3_t, brE_if, gdE_if, EC.decL_encL, EC.isL_encL, EC.encL_length, isE_44, at_44_7, at_44_8]
      simp), ?_⟩
    simp
  | succ m ihm =>
    intro k hk
    have hlt : k < l.length := by omega
    obtain ⟨x, h1, h2⟩ := ihm (k + 1) (by omega)
    obtain ⟨i1, i2⟩ := ih l[k] (List.getElem_mem hlt)
    refine ⟨x, rules_Size_l3_eq ?_, h2⟩
    simp only [rules_Size_l3_t, brE_if, gdE_if, EC.decL_encL, EC.isL_encL, EC.encL_length, isE_44, at_44_7, at_44_8]
    have e1 : ((k : Int) < (l.length : Int)) := by omega
    simp only [e1, decide_true, if_true, show (0 : Int) ≤ (k : Int) by omega, Int.toNat_natCast, hlt, Bool.and_self, getD_in hlt, i1, i2, Option.bind_some]
    have e2 : IntKind.i64.wrap ((k : Int) + 1) = ((k + 1 : Nat) : Int) := wr_nat hlt (by unfold big at hl; omega)
    have e3 : IntKind.i64.wrap (IntKind.i64.wrap (szL (l.take k)) + IntKind.i64.wrap (IntKind.i64.wrap (1 + IntKind.i64.wrap (szL l[k].Then)) + IntKind.i64.wrap (szL l[k].Else))) = IntKind.i64.wrap (szL (l.take (k + 1))) := by
      rw [szL_take hlt, szR_eq]
      simp only [wr_addL, wr_addR]
      congr 1 <;> omega
    rw [e2, e3]
    exact h1
theorem size_s (l : List S44) (hl : l.length ≤ big) (ho : okL l) : rules_Size_s l = some (IntKind.i64.wrap (szL l)) := by
  generalize hn : szL l = n
  induction n using Nat.strongRecOn generalizing l with
  | _ n ih =>
    subst hn
    obtain ⟨x, h1, h2⟩ := size_loop l hl (fun r hr => by
      have := (okR_eq r).1 (okL_get ho hr)
      exact ⟨ih _ (sz_then hr) _ this.2.1.1 this.2.1.2 rfl, ih _ (sz_else hr) _ this.2.2.1.1 this.2.2.1.2 rfl⟩) l.length 0 (by omega)
    refine rules_Size_eq ?_
    simp only [rules_Size_t, gdE_if, EC.decL_encL, EC.isL_encL, EC.encL_length]
    have e : rules_Size_l3 0 l l.length 0 = some x := h1
    simp [e, h2]
theorem count_loop (l : List S44) (hl : l.length ≤ big) (ih : ∀ r ∈ l, posthouseref6_Count_s r.Then = some (IntKind.i64.wrap (szL r.Then)) ∧ posthouseref6_Count_s r.Else = some (IntKind.i64.wrap (szL r.Else))) :
    ∀ m k, k + m = l.length → ∃ x, posthouseref6_Count_l3 l (IntKind.i64.wrap (szL (l.take k) + (l.length - k : Int))) k = some x ∧ x.1.2.1 = IntKind.i64.wrap (szL l) := by
  intro m
  induction m with
  | zero =>
    intro k hk
    have hk : k = l.length := by omega
    subst hk
    refine ⟨((l, IntKind.i64.wrap (szL (l.take l.length) + (l.length - l.length : Int)), (l.length : Int), false), ()), posthouseref6_Count_l3_eq (by
      simp only [posthouseref6_Count_l3_t, brE_if, gdE_if, EC.decL_encL, EC.isL_encL, EC.encL_length, isE_44, at_44_7, at_44_8]
      simp), ?_⟩
    simp
  | succ m ihm =>
    intro k hk
    have hlt : k < l.length := by omega
    obtain ⟨x, h1, h2⟩ := ihm (k + 1) (by omega)
    obtain ⟨i1, i2⟩ := ih l[k] (List.getElem_mem hlt)
    refine ⟨x, posthouseref6_Count_l3_eq ?_, h2⟩
    simp only [posthouseref6_Count_l3_t, brE_if, gdE_if, EC.decL_encL, EC.isL_encL, EC.encL_length, isE_44, at_44_7, at_44_8]
    have e1 : ((k : Int) < (l.length : Int)) := by omega
    simp only [e1, decide_true, if_true, show (0 : Int) ≤ (k : Int) by omega, Int.toNat_natCast, hlt, Bool.and_self, getD_in hlt, i1, i2, Option.bind_some]
    have e2 : IntKind.i64.wrap ((k : Int) + 1) = ((k + 1 : Nat) : Int) := wr_nat hlt (by unfold big at hl; omega)
    have e3 : IntKind.i64.wrap (IntKind.i64.wrap (szL (l.take k) + (l.length - k : Int)) + IntKind.i64.wrap (IntKind.i64.wrap (szL l[k].Then) + IntKind.i64.wrap (szL l[k].Else))) = IntKind.i64.wrap (szL (l.take (k + 1)) + (l.length - (k + 1 : Nat) : Int)) := by
      rw [szL_take hlt, szR_eq]
      simp only [wr_addL, wr_addR]
      congr 1 <;> omega
    rw [e2, e3]
    exact h1
theorem count_s (l : List S44) (hl : l.length ≤ big) (ho : okL l) : posthouseref6_Count_s l = some (IntKind.i64.wrap (szL l)) := by
  generalize hn : szL l = n
  induction n using Nat.strongRecOn generalizing l with
  | _ n ih =>
    subst hn
    obtain ⟨x, h1, h2⟩ := count_loop l hl (fun r hr => by
      have := (okR_eq r).1 (okL_get ho hr)
      exact ⟨ih _ (sz_then hr) _ this.2.1.1 this.2.1.2 rfl, ih _ (sz_else hr) _ this.2.2.1.1 this.2.2.1.2 rfl⟩) l.length 0 (by omega)
    refine posthouseref6_Count_eq ?_
    simp only [posthouseref6_Count_t, gdE_if, EC.decL_encL, EC.isL_encL, EC.encL_length]
    have e : posthouseref6_Count_l3 l l.length 0 = some x := by
      have e0 : IntKind.i64.wrap (szL (l.take 0) + (l.length - (0 : Nat) : Int)) = (l.length : Int) := by
        simp only [List.take_zero, szL]
        rw [wr_in (by unfold big at hl; omega)]
        omega
      rw [e0] at h1
      exact h1
    simp [e, h2]
end Go.Proofs.Ytokahibbkdbndaa
/- What the checks of tests and rules answer, in plain words. -/
namespace Go.Proofs.Ytokahibbkdbndaa
open Go.RowKit

/-- an empty text -/
def em (s : ByteArray) : Bool := (ByteArray.toList s) == (ByteArray.toList (ByteArray.mk (List.toArray [])))
theorem em_def (s : ByteArray) : ((ByteArray.toList s) == (ByteArray.toList (ByteArray.mk (List.toArray [])))) = em s := rfl
theorem em_size (s : ByteArray) : em s = decide (s.size = 0) := by
  have e0 : ByteArray.toList (ByteArray.mk (List.toArray [])) = [] := by rw [ByteArray.toList_eq]
  have hl : (ByteArray.toList s).length = s.size := by rw [ByteArray.toList_eq, Array.length_toList]; rfl
  unfold em
  rw [e0]
  cases h : ByteArray.toList s with
  | nil => rw [h] at hl; simp at hl; simp [← hl]
  | cons x l =>
    rw [h] at hl
    simp only [List.length_cons] at hl
    have h0 : s.size ≠ 0 := by omega
    simp [h0]

theorem used_s (k : Int) : rules_used_s k = some (k == 5 || k == 9, k == 5 || k == 6 || k == 7, k == 8) := by
  refine rules_used_eq ?_
  simp only [rules_used_t, brE_if]
  by_cases h5 : k = 5
  · subst h5; rfl
  by_cases h6 : k = 6
  · subst h6; rfl
  by_cases h7 : k = 7
  · subst h7; rfl
  by_cases h8 : k = 8
  · subst h8; rfl
  by_cases h9 : k = 9
  · subst h9; rfl
  simp [h5, h6, h7, h8, h9]
def innerB (k : Int) (n : Nat) : Bool := if k = 2 then n == 1 else if k = 3 ∨ k = 4 then decide (1 ≤ n) && decide (n ≤ 60) else n == 0
theorem inner_s (k : Int) (ts : List S42) (nm : ByteArray) (p : Int) (tx : ByteArray) (n : Int) : rules_inner_s k ts nm p tx n = some (innerB k ts.length) := by
  refine rules_inner_eq ?_
  simp only [rules_inner_t, brE_if, EC.encL_length]
  unfold innerB
  by_cases h2 : k = 2
  · subst h2; simp; rw [Bool.eq_iff_iff]; simp; omega
  by_cases h3 : k = 3
  · subst h3; by_cases h : 1 ≤ ts.length <;> simp [h, show ((1 : Int) ≤ ts.length) ↔ 1 ≤ ts.length by omega, show ((ts.length : Int) ≤ 60) ↔ ts.length ≤ 60 by omega]
  by_cases h4 : k = 4
  · subst h4; by_cases h : 1 ≤ ts.length <;> simp [h, show ((1 : Int) ≤ ts.length) ↔ 1 ≤ ts.length by omega, show ((ts.length : Int) ≤ 60) ↔ ts.length ≤ 60 by omega]
  simp [h2, h3, h4]
  rw [Bool.eq_iff_iff]; simp

/-- the code of the first error of a test itself -/
def tHead (k : Int) (nt : Nat) (nm : ByteArray) (p : Int) (tx : ByteArray) (n d : Int) : Int :=
  if decide (d > 8) = true then 5
  else if (decide (k < 1) || decide (k > 9)) = true then 4
  else if (!innerB k nt) = true then 5
  else if ((!(k == 5 || k == 9) && !em nm) || (!(k == 5 || k == 6 || k == 7) && (!(p == 0) || !em tx)) || (!(k == 8) && !(n == 0))) = true then 5
  else if ((k == 5 || k == 9) && (em nm || decide ((nm.size : Int) > 60))) = true then 10
  else if ((k == 5 || k == 6 || k == 7) && (decide (p < 1) || decide (p > 3))) = true then 4
  else if decide ((tx.size : Int) > 200) = true then 1
  else if (decide (n < 0) || decide (n > 1000000)) = true then 3
  else 0
mutual
/-- the code of the first error of a test -/
def tfT : S42 → Nat → Int
  | ⟨k, ts, nm, p, tx, n⟩, d => if tHead k ts.length nm p tx n d ≠ 0 then tHead k ts.length nm p tx n d else tfL ts (d + 1)
def tfL : List S42 → Nat → Int
  | [], _ => 0
  | t :: ts, d => if tfT t d ≠ 0 then tfT t d else tfL ts d
end
theorem tfT_eq (t : S42) (d : Nat) : tfT t d = if tHead t.Kind t.Tests.length t.Name t.Pattern t.Text t.N d ≠ 0 then tHead t.Kind t.Tests.length t.Name t.Pattern t.Text t.N d else tfL t.Tests (d + 1) := by cases t; rfl

theorem test_loop (d : Nat) (hd : d ≤ 8) (ts : List S42) (hl : ts.length ≤ big) (ih : ∀ t ∈ ts, rules_test_s t.Kind t.Tests t.Name t.Pattern t.Text t.N ((d + 1 : Nat) : Int) = some (tfT t (d + 1))) :
    ∀ m k, k + m = ts.length → ∃ x, rules_test_l19 d ts ts.length k = some x ∧ Sum.elim (fun r => r.1) (fun _ => 0) x = tfL (ts.drop k) (d + 1) := by
  intro m
  induction m with
  | zero =>
    intro k hk
    have hk : k = ts.length := by omega
    subst hk
    refine ⟨.inr (((d : Int), ts, (ts.length : Int), (ts.length : Int), false), ()), rules_test_l19_eq (by
      simp only [rules_test_l19_t, brE_if, gdE_if, EC.decL_encL, EC.isL_encL, EC.encL_length, isE_42, at_42_0, at_42_1, at_42_2, at_42_3, at_42_4, at_42_5]
      simp), ?_⟩
    simp [tfL]
  | succ m ihm =>
    intro k hk
    have hlt : k < ts.length := by omega
    have i1 := ih ts[k] (List.getElem_mem hlt)
    have e1 : ((k : Int) < (ts.length : Int)) := by omega
    have e2 : IntKind.i64.wrap ((k : Int) + 1) = ((k + 1 : Nat) : Int) := wr_nat hlt (by unfold big at hl; omega)
    have e3 : IntKind.i64.wrap ((d : Int) + 1) = ((d + 1 : Nat) : Int) := wr_nat (n := 100) (by omega) (by omega)
    rw [drop_at hlt, tfL]
    by_cases h0 : tfT ts[k] (d + 1) = 0
    · obtain ⟨x, h1, h2⟩ := ihm (k + 1) (by omega)
      refine ⟨x, rules_test_l19_eq ?_, ?_⟩
      · simp only [rules_test_l19_t, brE_if, gdE_if, EC.decL_encL, EC.isL_encL, EC.encL_length, isE_42, at_42_0, at_42_1, at_42_2, at_42_3, at_42_4, at_42_5]
        simp only [e1, decide_true, if_true, show (0 : Int) ≤ (k : Int) by omega, Int.toNat_natCast, hlt, Bool.and_self, getD_in hlt, e3, i1, Option.bind_some, h0, e2]
        exact h1
      · rw [if_neg (by simpa using h0)]; exact h2
    · refine ⟨.inl (tfT ts[k] (d + 1), ()), rules_test_l19_eq ?_, ?_⟩
      · simp only [rules_test_l19_t, brE_if, gdE_if, EC.decL_encL, EC.isL_encL, EC.encL_length, isE_42, at_42_0, at_42_1, at_42_2, at_42_3, at_42_4, at_42_5]
        simp only [e1, decide_true, if_true, show (0 : Int) ≤ (k : Int) by omega, Int.toNat_natCast, hlt, Bool.and_self, getD_in hlt, e3, i1, Option.bind_some]
        simp [h0]
      · rw [if_pos h0]; rfl

theorem test_head (k : Int) (ts : List S42) (nm : ByteArray) (p : Int) (tx : ByteArray) (n : Int) (d : Nat) (e : Int) (hg : d ≤ 8 → rules_test_g18 d k ts nm p tx n = some (e, ())) :
    rules_test_s k ts nm p tx n d = some (if (tHead k ts.length nm p tx n d != 0) = true then tHead k ts.length nm p tx n d else e) := by
  refine rules_test_eq ?_
  simp only [rules_test_t, brE_if, gdE_if, EC.decL_encL, EC.isL_encL, used_s, inner_s, Option.bind_some, em_def, if_true]
  unfold tHead
  cases hd : decide ((d : Int) > 8) with
  | true => rfl
  | false =>
  rw [hg (by have := of_decide_eq_false hd; omega)]
  simp only [bne, Option.bind_some]
  generalize (k == 5 || k == 9) = c1
  generalize (k == 5 || k == 6 || k == 7) = c2
  generalize (k == 8) = c3
  generalize decide (k < 1) = a1
  generalize decide (k > 9) = a2
  generalize innerB k ts.length = a3
  generalize em nm = b1
  generalize decide ((nm.size : Int) > 60) = b2
  generalize (p == 0) = b3
  generalize decide (p < 1) = b4
  generalize decide (p > 3) = b5
  generalize em tx = b6
  generalize decide ((tx.size : Int) > 200) = b7
  generalize (n == 0) = b8
  generalize decide (n < 0) = b9
  generalize decide (n > 1000000) = b10
  cases a1 <;> first | rfl | skip
  cases a2 <;> first | rfl | skip
  cases a3 <;> first | rfl | skip
  cases c1 <;> cases b1 <;> first | rfl | skip
  all_goals cases c2 <;> cases b3 <;> first | rfl | skip
  all_goals cases b6 <;> first | rfl | skip
  all_goals cases c3 <;> cases b8 <;> first | rfl | skip
  all_goals cases b2 <;> first | rfl | skip
  all_goals cases b4 <;> first | rfl | skip
  all_goals cases b5 <;> first | rfl | skip
  all_goals cases b7 <;> first | rfl | skip
  all_goals cases b9 <;> first | rfl | skip
  all_goals cases b10 <;> rfl
theorem test_s (t : S42) (ho : okT t) (d : Nat) : rules_test_s t.Kind t.Tests t.Name t.Pattern t.Text t.N d = some (tfT t d) := by
  generalize hn : tzT t = n
  induction n using Nat.strongRecOn generalizing t d with
  | _ n ih =>
    subst hn
    obtain ⟨hl, hol⟩ := (okT_eq t).1 ho
    rw [test_head (e := tfL t.Tests (d + 1)), tfT_eq]
    · congr 1
      by_cases h : tHead t.Kind t.Tests.length t.Name t.Pattern t.Text t.N d = 0 <;> simp [h]
    · intro hd
      obtain ⟨x, h1, h2⟩ := test_loop d hd t.Tests hl (fun t' ht' => ih (tzT t') (by have := tz_mem ht'; rw [tzT_eq t]; omega) t' (okTL_get hol ht') (d + 1) rfl) t.Tests.length 0 (by omega)
      refine rules_test_g18_eq ?_
      simp only [rules_test_g18_t, gdE_if, EC.decL_encL, EC.isL_encL, EC.encL_length]
      have e : rules_test_l19 d t.Tests t.Tests.length 0 = some x := h1
      rw [List.drop_zero] at h2
      simp only [if_true, e, Option.bind_some]
      cases x <;> simp only [Sum.elim_inl, Sum.elim_inr] at h2 ⊢ <;> rw [← h2]
end Go.Proofs.Ytokahibbkdbndaa
/- What the reference's checks of tests answer: the same. -/
namespace Go.Proofs.Ytokahibbkdbndaa
open Go.RowKit

theorem tHead_if (k : Int) (nt : Nat) (nm : ByteArray) (p : Int) (tx : ByteArray) (n d e : Int) : (if (tHead k nt nm p tx n d != 0) = true then tHead k nt nm p tx n d else e) =
  if decide (d > 8) = true then 5
  else if (decide (k < 1) || decide (k > 9)) = true then 4
  else if (!innerB k nt) = true then 5
  else if ((!(k == 5 || k == 9) && !em nm) || (!(k == 5 || k == 6 || k == 7) && (!(p == 0) || !em tx)) || (!(k == 8) && !(n == 0))) = true then 5
  else if ((k == 5 || k == 9) && (em nm || decide ((nm.size : Int) > 60))) = true then 10
  else if ((k == 5 || k == 6 || k == 7) && (decide (p < 1) || decide (p > 3))) = true then 4
  else if decide ((tx.size : Int) > 200) = true then 1
  else if (decide (n < 0) || decide (n > 1000000)) = true then 3
  else e := by
  unfold tHead
  generalize decide (d > 8) = c1
  generalize (decide (k < 1) || decide (k > 9)) = c2
  generalize (!innerB k nt) = c3
  generalize ((!(k == 5 || k == 9) && !em nm) || (!(k == 5 || k == 6 || k == 7) && (!(p == 0) || !em tx)) || (!(k == 8) && !(n == 0))) = c4
  generalize ((k == 5 || k == 9) && (em nm || decide ((nm.size : Int) > 60))) = c5
  generalize ((k == 5 || k == 6 || k == 7) && (decide (p < 1) || decide (p > 3))) = c6
  generalize decide ((tx.size : Int) > 200) = c7
  generalize (decide (n < 0) || decide (n > 1000000)) = c8
  cases c1 <;> first | rfl | skip
  cases c2 <;> first | rfl | skip
  cases c3 <;> first | rfl | skip
  cases c4 <;> first | rfl | skip
  cases c5 <;> first | rfl | skip
  cases c6 <;> first | rfl | skip
  cases c7 <;> first | rfl | skip
  cases c8 <;> rfl

theorem in_not (n a b : Int) : (!(decide (a ≤ n) && decide (n ≤ b))) = (decide (n < a) || decide (n > b)) := by
  rw [Bool.eq_iff_iff]
  simp only [Bool.not_eq_true', Bool.and_eq_false_iff, decide_eq_false_iff_not, Bool.or_eq_true, decide_eq_true_eq]
  omega
theorem in57 (k : Int) : (decide (5 ≤ k) && decide (k ≤ 7)) = (k == 5 || k == 6 || k == 7) := by
  rw [Bool.eq_iff_iff]
  simp only [Bool.and_eq_true, decide_eq_true_eq, Bool.or_eq_true, beq_iff_eq]
  omega
theorem in24 (k : Int) : (decide (2 ≤ k) && decide (k ≤ 4)) = (k == 2 || k == 3 || k == 4) := by
  rw [Bool.eq_iff_iff]
  simp only [Bool.and_eq_true, decide_eq_true_eq, Bool.or_eq_true, beq_iff_eq]
  omega
theorem uses_s (k : Int) : posthouseref6_uses_s k = some (k == 2 || k == 3 || k == 4, k == 5 || k == 9, k == 5 || k == 6 || k == 7, k == 8) := by
  refine posthouseref6_uses_eq ?_
  simp only [posthouseref6_uses_t, brE_if, in_s, Option.bind_some, in57, in24]
  cases (k == 5) <;> simp

section
variable {depth b0 b0_3 b0_5 e : Int} {b0_1 : List S42} {b0_2 b0_4 : ByteArray}
theorem tg16 (hg : posthouseref6_TestFault_g18 depth b0 b0_1 b0_2 b0_3 b0_4 b0_5 = some (e, ())) : posthouseref6_TestFault_g16 depth b0 b0_1 b0_2 b0_3 b0_4 b0_5 = some (if (decide (b0_5 < 0) || decide (b0_5 > 1000000)) = true then 3 else e, ()) := by
  refine posthouseref6_TestFault_g16_eq ?_
  simp only [posthouseref6_TestFault_g16_t, brE_if, gdE_if, EC.decL_encL, EC.isL_encL, in_s, Option.bind_some, in_not, hg, if_true]
  generalize (decide (b0_5 < 0) || decide (b0_5 > 1000000)) = c
  cases c <;> rfl
theorem tg14 (hg : posthouseref6_TestFault_g16 depth b0 b0_1 b0_2 b0_3 b0_4 b0_5 = some (e, ())) : posthouseref6_TestFault_g14 depth b0 b0_1 b0_2 b0_3 b0_4 b0_5 = some (if decide ((b0_4.size : Int) > 200) = true then 1 else e, ()) := by
  refine posthouseref6_TestFault_g14_eq ?_
  simp only [posthouseref6_TestFault_g14_t, brE_if, gdE_if, EC.decL_encL, EC.isL_encL, hg, Option.bind_some, if_true]
  generalize decide ((b0_4.size : Int) > 200) = c
  cases c <;> rfl
theorem tg12 {text : Bool} (hg : posthouseref6_TestFault_g14 depth b0 b0_1 b0_2 b0_3 b0_4 b0_5 = some (e, ())) : posthouseref6_TestFault_g12 depth text b0 b0_1 b0_2 b0_3 b0_4 b0_5 = some (if (text && (decide (b0_3 < 1) || decide (b0_3 > 3))) = true then 4 else e, ()) := by
  refine posthouseref6_TestFault_g12_eq ?_
  simp only [posthouseref6_TestFault_g12_t, brE_if, gdE_if, EC.decL_encL, EC.isL_encL, in_s, Option.bind_some, in_not, hg, if_true]
  generalize (decide (b0_3 < 1) || decide (b0_3 > 3)) = c
  cases text <;> cases c <;> rfl
theorem in_size (s : ByteArray) : (decide ((s.size : Int) < 1) || decide ((s.size : Int) > 60)) = (em s || decide ((s.size : Int) > 60)) := by
  rw [em_size, Bool.eq_iff_iff]
  simp only [Bool.or_eq_true, decide_eq_true_eq]
  omega
theorem tg10 {name text : Bool} (hg : posthouseref6_TestFault_g12 depth text b0 b0_1 b0_2 b0_3 b0_4 b0_5 = some (e, ())) : posthouseref6_TestFault_g10 depth name text b0 b0_1 b0_2 b0_3 b0_4 b0_5 = some (if (name && (em b0_2 || decide ((b0_2.size : Int) > 60))) = true then 10 else e, ()) := by
  refine posthouseref6_TestFault_g10_eq ?_
  simp only [posthouseref6_TestFault_g10_t, brE_if, gdE_if, EC.decL_encL, EC.isL_encL, in_s, Option.bind_some, in_not, hg, if_true, in_size]
  generalize (em b0_2 || decide ((b0_2.size : Int) > 60)) = c
  cases name <;> cases c <;> rfl
theorem tg8 {name text number : Bool} (hg : posthouseref6_TestFault_g10 depth name text b0 b0_1 b0_2 b0_3 b0_4 b0_5 = some (e, ())) : posthouseref6_TestFault_g8 depth name text number b0 b0_1 b0_2 b0_3 b0_4 b0_5 = some (if ((!name && !em b0_2) || (!text && (!(b0_3 == 0) || !em b0_4)) || (!number && !(b0_5 == 0))) = true then 5 else e, ()) := by
  refine posthouseref6_TestFault_g8_eq ?_
  simp only [posthouseref6_TestFault_g8_t, brE_if, gdE_if, EC.decL_encL, EC.isL_encL, Option.bind_some, hg, if_true, em_def, bne]
  generalize em b0_2 = c1
  generalize em b0_4 = c2
  generalize (b0_3 == 0) = c3
  generalize (b0_5 == 0) = c4
  cases name <;> cases text <;> cases number <;> cases c1 <;> cases c2 <;> cases c3 <;> cases c4 <;> rfl
theorem tg6 {name text number : Bool} (hg : posthouseref6_TestFault_g8 depth name text number b0 b0_1 b0_2 b0_3 b0_4 b0_5 = some (e, ())) (hk : 1 ≤ b0 ∧ b0 ≤ 9) : posthouseref6_TestFault_g6 depth (b0 == 2 || b0 == 3 || b0 == 4) name text number b0 b0_1 b0_2 b0_3 b0_4 b0_5 = some (if (!innerB b0 b0_1.length) = true then 5 else e, ()) := by
  refine posthouseref6_TestFault_g6_eq ?_
  simp only [posthouseref6_TestFault_g6_t, brE_if, gdE_if, EC.decL_encL, EC.isL_encL, EC.encL_length, Option.bind_some, hg, if_true]
  have e1 : (((b0_1.length : Nat) : Int) == 0) = (b0_1.length == 0) := by rw [Bool.eq_iff_iff]; simp
  have e2 : decide (((b0_1.length : Nat) : Int) > 0) = !(b0_1.length == 0) := by
    by_cases h : b0_1.length = 0
    · simp [h]
    · have h' : ((b0_1.length : Nat) : Int) > 0 := by omega
      rw [decide_eq_true h', show (b0_1.length == 0) = false by simpa using h]
      rfl
  have e3 : decide (((b0_1.length : Nat) : Int) > 1) = decide (b0_1.length > 1) := by rw [Bool.eq_iff_iff]; simp; omega
  have e4 : decide (((b0_1.length : Nat) : Int) > 60) = decide (b0_1.length > 60) := by rw [Bool.eq_iff_iff]; simp; omega
  rw [e1, e2, e3, e4]
  unfold innerB
  have hk : b0 = 1 ∨ b0 = 2 ∨ b0 = 3 ∨ b0 = 4 ∨ b0 = 5 ∨ b0 = 6 ∨ b0 = 7 ∨ b0 = 8 ∨ b0 = 9 := by omega
  by_cases h0 : b0_1.length = 0
  · rcases hk with rfl | rfl | rfl | rfl | rfl | rfl | rfl | rfl | rfl <;> simp [h0]
  by_cases h1 : b0_1.length = 1
  · rcases hk with rfl | rfl | rfl | rfl | rfl | rfl | rfl | rfl | rfl <;> simp [h1]
  have h2 : b0_1.length > 1 := by omega
  have h3 : 1 ≤ b0_1.length := by omega
  by_cases h60 : b0_1.length > 60
  · rcases hk with rfl | rfl | rfl | rfl | rfl | rfl | rfl | rfl | rfl <;> simp [h0, h1, h2, h3, h60, Nat.not_le.2 h60]
  · rcases hk with rfl | rfl | rfl | rfl | rfl | rfl | rfl | rfl | rfl <;> simp [h0, h1, h2, h3, h60, Nat.not_lt.1 h60]
end
theorem tfault_head (k : Int) (ts : List S42) (nm : ByteArray) (p : Int) (tx : ByteArray) (n : Int) (d : Nat) (e : Int) (hg : d ≤ 8 → posthouseref6_TestFault_g18 d k ts nm p tx n = some (e, ())) :
    posthouseref6_TestFault_s k ts nm p tx n d = some (if (tHead k ts.length nm p tx n d != 0) = true then tHead k ts.length nm p tx n d else e) := by
  refine posthouseref6_TestFault_eq ?_
  rw [tHead_if]
  simp only [posthouseref6_TestFault_t, brE_if, gdE_if, EC.decL_encL, EC.isL_encL, in_s, uses_s, Option.bind_some, if_true, in_not]
  cases hd : decide ((d : Int) > 8) with
  | true => rfl
  | false =>
  cases hk : (decide (k < 1) || decide (k > 9)) with
  | true => rfl
  | false =>
    have hk' : 1 ≤ k ∧ k ≤ 9 := by
      simp only [Bool.or_eq_false_iff, decide_eq_false_iff_not] at hk; omega
    rw [tg6 (tg8 (tg10 (tg12 (tg14 (tg16 (hg (by have := of_decide_eq_false hd; omega))))))) hk']
    rfl
theorem tfault_loop (d : Nat) (hd : d ≤ 8) (b0 b0_3 b0_5 : Int) (b0_2 b0_4 : ByteArray) (ts : List S42) (hl : ts.length ≤ big) (ih : ∀ t ∈ ts, posthouseref6_TestFault_s t.Kind t.Tests t.Name t.Pattern t.Text t.N ((d + 1 : Nat) : Int) = some (tfT t (d + 1))) :
    ∀ m k, k + m = ts.length → ∃ x, posthouseref6_TestFault_l19 d k b0 ts b0_2 b0_3 b0_4 b0_5 = some x ∧ Sum.elim (fun r => r.1) (fun _ => 0) x = tfL (ts.drop k) (d + 1) := by
  intro m
  induction m with
  | zero =>
    intro k hk
    have hk : k = ts.length := by omega
    subst hk
    refine ⟨.inr (((d : Int), (), (ts.length : Int), false), (b0, ts, b0_2, b0_3, b0_4, b0_5)), posthouseref6_TestFault_l19_eq (by
      simp only [posthouseref6_TestFault_l19_t, brE_if, gdE_if, EC.decL_encL, EC.isL_encL, EC.encL_length, isE_42, at_42_0, at_42_1, at_42_2, at_42_3, at_42_4, at_42_5]
      simp), ?_⟩
    simp [tfL]
  | succ m ihm =>
    intro k hk
    have hlt : k < ts.length := by omega
    have i1 := ih ts[k] (List.getElem_mem hlt)
    have e1 : ((k : Int) < (ts.length : Int)) := by omega
    have e2 : IntKind.i64.wrap ((k : Int) + 1) = ((k + 1 : Nat) : Int) := wr_nat hlt (by unfold big at hl; omega)
    have e3 : IntKind.i64.wrap ((d : Int) + 1) = ((d + 1 : Nat) : Int) := wr_nat (n := 100) (by omega) (by omega)
    rw [drop_at hlt, tfL]
    by_cases h0 : tfT ts[k] (d + 1) = 0
    · obtain ⟨x, h1, h2⟩ := ihm (k + 1) (by omega)
      refine ⟨x, posthouseref6_TestFault_l19_eq ?_, ?_⟩
      · simp only [posthouseref6_TestFault_l19_t, brE_if, gdE_if, EC.decL_encL, EC.isL_encL, EC.encL_length, isE_42, at_42_0, at_42_1, at_42_2, at_42_3, at_42_4, at_42_5]
        simp only [e1, decide_true, if_true, show (0 : Int) ≤ (k : Int) by omega, Int.toNat_natCast, hlt, Bool.and_self, getD_in hlt, e3, i1, Option.bind_some, h0, e2]
        exact h1
      · rw [if_neg (by simpa using h0)]; exact h2
    · refine ⟨.inl (tfT ts[k] (d + 1), ()), posthouseref6_TestFault_l19_eq ?_, ?_⟩
      · simp only [posthouseref6_TestFault_l19_t, brE_if, gdE_if, EC.decL_encL, EC.isL_encL, EC.encL_length, isE_42, at_42_0, at_42_1, at_42_2, at_42_3, at_42_4, at_42_5]
        simp only [e1, decide_true, if_true, show (0 : Int) ≤ (k : Int) by omega, Int.toNat_natCast, hlt, Bool.and_self, getD_in hlt, e3, i1, Option.bind_some]
        simp [h0]
      · rw [if_pos h0]; rfl
theorem tfault_s (t : S42) (ho : okT t) (d : Nat) : posthouseref6_TestFault_s t.Kind t.Tests t.Name t.Pattern t.Text t.N d = some (tfT t d) := by
  generalize hn : tzT t = n
  induction n using Nat.strongRecOn generalizing t d with
  | _ n ih =>
    subst hn
    obtain ⟨hl, hol⟩ := (okT_eq t).1 ho
    rw [tfault_head (e := tfL t.Tests (d + 1)), tfT_eq]
    · congr 1
      by_cases h : tHead t.Kind t.Tests.length t.Name t.Pattern t.Text t.N d = 0 <;> simp [h]
    · intro hd
      obtain ⟨x, h1, h2⟩ := tfault_loop d hd t.Kind t.Pattern t.N t.Name t.Text t.Tests hl (fun t' ht' => ih (tzT t') (by have := tz_mem ht'; rw [tzT_eq t]; omega) t' (okTL_get hol ht') (d + 1) rfl) t.Tests.length 0 (by omega)
      refine posthouseref6_TestFault_g18_eq ?_
      simp only [posthouseref6_TestFault_g18_t, gdE_if, EC.decL_encL, EC.isL_encL]
      have e : posthouseref6_TestFault_l19 d 0 t.Kind t.Tests t.Name t.Pattern t.Text t.N = some x := h1
      rw [List.drop_zero] at h2
      simp only [if_true, e, Option.bind_some]
      cases x <;> simp only [Sum.elim_inl, Sum.elim_inr] at h2 ⊢ <;> rw [← h2]
end Go.Proofs.Ytokahibbkdbndaa
/- What the checks of rules answer: the program's and the reference's are the same. -/
namespace Go.Proofs.Ytokahibbkdbndaa
open Go.RowKit

def letterB (c : UInt8) : Bool := decide (97 ≤ c.toNat) && decide (c.toNat ≤ 122)
def digitB (c : UInt8) : Bool := decide (48 ≤ c.toNat) && decide (c.toNat ≤ 57)
def smallB (c : UInt8) : Bool := letterB c || digitB c
def vOk : Bool → List UInt8 → Bool
  | _, [] => true
  | b, c :: l => (letterB c || (!b && digitB c)) && vOk false l
/-- is a text a variable? -/
def varB (s : ByteArray) : Bool := vOk true s.data.toList && (decide (1 ≤ s.size) && decide (s.size ≤ 60))
theorem vOk_false (l : List UInt8) : vOk false l = l.all smallB := by
  induction l with
  | nil => rfl
  | cons c l ih => simp only [vOk, List.all_cons, ih, smallB, Bool.not_false, Bool.true_and]
theorem data_drop (s : ByteArray) {k : Nat} (h : k < s.size) : s.data.toList.drop k = s.data.getD k 0 :: s.data.toList.drop (k + 1) := by
  have h' : k < s.data.toList.length := by simpa using h
  rw [drop_at h']
  congr 1
  have : k < s.data.size := h
  show _ = if h : k < s.data.size then s.data[k] else 0
  rw [dif_pos this]
  simp
theorem var1_s (c : UInt8) : rules_variable_1_s ((c.toNat : Nat) : Int) = some (smallB c) := by
  refine rules_variable_1_eq ?_
  simp only [rules_variable_1_t, brE_if, smallB, letterB, digitB]
  by_cases h1 : (97 : Int) ≤ c.toNat <;> by_cases h2 : (c.toNat : Int) ≤ 122 <;> by_cases h3 : (48 : Int) ≤ c.toNat <;> by_cases h4 : (c.toNat : Int) ≤ 57 <;>
    simp [h1, h2, h3, h4, show (97 ≤ c.toNat) ↔ ((97 : Int) ≤ c.toNat) by omega, show (c.toNat ≤ 122) ↔ ((c.toNat : Int) ≤ 122) by omega, show (48 ≤ c.toNat) ↔ ((48 : Int) ≤ c.toNat) by omega, show (c.toNat ≤ 57) ↔ ((c.toNat : Int) ≤ 57) by omega]
theorem all_loop (s : ByteArray) (hl : s.size ≤ big) : ∀ m k, k + m = s.size → ∃ x, allSmall_l2 s s.size k = some x ∧ Sum.elim (fun r => r.1) (fun _ => true) x = (s.data.toList.drop k).all smallB := by
  intro m
  induction m with
  | zero =>
    intro k hk
    have hk : k = s.size := by omega
    subst hk
    refine ⟨.inr ((s, (), (s.size : Int), (s.size : Int), false), ()), allSmall_l2_eq (by
      simp only [allSmall_l2_t, brE_if, gdE_if]
      simp), ?_⟩
    have : s.data.toList.drop s.size = [] := List.drop_eq_nil_of_le (by simp <;> rfl)
    rw [this]; rfl
  | succ m ihm =>
    intro k hk
    have hlt : k < s.size := by omega
    have e1 : ((k : Int) < (s.size : Int)) := by omega
    have e2 : IntKind.i64.wrap ((k : Int) + 1) = ((k + 1 : Nat) : Int) := wr_nat hlt (by unfold big at hl; omega)
    rw [data_drop s hlt, List.all_cons]
    cases h0 : smallB (s.data.getD k 0) with
    | true =>
      obtain ⟨x, h1, h2⟩ := ihm (k + 1) (by omega)
      refine ⟨x, allSmall_l2_eq ?_, by simpa using h2⟩
      simp only [allSmall_l2_t, brE_if, gdE_if]
      simp only [e1, decide_true, if_true, show (0 : Int) ≤ (k : Int) by omega, Int.toNat_natCast, hlt, Bool.and_self, var1_s, h0, Option.bind_some, e2]
      exact h1
    | false =>
      refine ⟨.inl (false, ()), allSmall_l2_eq ?_, rfl⟩
      simp only [allSmall_l2_t, brE_if, gdE_if]
      simp only [e1, decide_true, if_true, show (0 : Int) ≤ (k : Int) by omega, Int.toNat_natCast, hlt, Bool.and_self, var1_s, h0, Option.bind_some]
      rfl
theorem allSmall_ok (s : ByteArray) (hl : s.size ≤ big) : allSmall_s s = some (s.data.toList.all smallB) := by
  obtain ⟨x, h1, h2⟩ := all_loop s hl s.size 0 (by omega)
  refine allSmall_eq ?_
  have e : allSmall_l2 s s.size 0 = some x := h1
  simp only [allSmall_t, e, Option.bind_some]
  rw [List.drop_zero] at h2
  cases x <;> simp only [Sum.elim_inl, Sum.elim_inr] at h2 ⊢ <;> rw [← h2]
theorem variable_s (s : ByteArray) : rules_variable_s s = some (varB s) := by
  refine rules_variable_eq ?_
  simp only [rules_variable_t, brE_if, gdE_if, em_def]
  unfold varB
  by_cases h0 : s.size = 0
  · have : em s = true := by rw [em_size]; simpa using h0
    simp [this, h0]
  have hem : em s = false := by rw [em_size]; simpa using h0
  by_cases h1 : s.size ≤ 60
  case neg =>
    simp [hem, show ¬ ((s.size : Int) ≤ 60) by omega, h1]
  have hb : s.size ≤ big := by unfold big; omega
  have h2 := data_drop s (k := 0) (by omega)
  rw [List.drop_zero] at h2
  rw [allSmall_ok s hb, h2]
  simp only [hem, show ((s.size : Int) ≤ 60) by omega, decide_true, Option.bind_some, List.all_cons, vOk, vOk_false, h1, show 1 ≤ s.size by omega, Bool.and_true, Int.toNat_zero, show 0 < s.size by omega, Bool.not_true, Bool.false_and, Bool.or_false]
  cases (List.drop 1 s.data.toList).all smallB with
  | false => simp
  | true =>
    simp only [Bool.and_true, Bool.not_false, beq_self_eq_true, if_true, show (0 : Int) ≤ 0 by omega, decide_true]
    have key : ∀ c : UInt8, (if (smallB c == true) = true then some (decide (((c.toNat : Nat) : Int) > 57)) else some false) = some (letterB c) := by
      intro c
      unfold smallB letterB digitB
      by_cases h5 : 97 ≤ c.toNat <;> by_cases h6 : c.toNat ≤ 122 <;> by_cases h7 : 48 ≤ c.toNat <;> by_cases h8 : c.toNat ≤ 57 <;> simp [h5, h6, h7, h8] <;> omega
    exact key _

theorem in97 (c : UInt8) : (decide ((97 : Int) ≤ IntKind.i64.wrap (c.toNat : Nat)) && decide (IntKind.i64.wrap (c.toNat : Nat) ≤ 122)) = letterB c := by
  have h : c.toNat < 256 := c.toNat_lt
  rw [wr_in (by omega)]
  unfold letterB
  rw [Bool.eq_iff_iff]; simp; omega
theorem in48 (c : UInt8) : (decide ((48 : Int) ≤ IntKind.i64.wrap (c.toNat : Nat)) && decide (IntKind.i64.wrap (c.toNat : Nat) ≤ 57)) = digitB c := by
  have h : c.toNat < 256 := c.toNat_lt
  rw [wr_in (by omega)]
  unfold digitB
  rw [Bool.eq_iff_iff]; simp; omega
theorem var_loop (s : ByteArray) (hl : s.size ≤ big) : ∀ m k, k + m = s.size → ∃ x, posthouseref6_Variable_l2 s k = some x ∧ Sum.elim (fun r => r.1 = false ∧ vOk (k == 0) (s.data.toList.drop k) = false) (fun r => r.1.1 = s ∧ vOk (k == 0) (s.data.toList.drop k) = true) x := by
  intro m
  induction m with
  | zero =>
    intro k hk
    have hk : k = s.size := by omega
    subst hk
    refine ⟨.inr ((s, (s.size : Int), false), ()), posthouseref6_Variable_l2_eq (by
      simp only [posthouseref6_Variable_l2_t, brE_if, gdE_if]
      simp), ?_⟩
    have : s.data.toList.drop s.size = [] := List.drop_eq_nil_of_le (by simp <;> rfl)
    rw [this]; exact ⟨rfl, rfl⟩
  | succ m ihm =>
    intro k hk
    have hlt : k < s.size := by omega
    have e1 : ((k : Int) < (s.size : Int)) := by omega
    have e2 : IntKind.i64.wrap ((k : Int) + 1) = ((k + 1 : Nat) : Int) := wr_nat hlt (by unfold big at hl; omega)
    have e3 : decide ((k : Int) > 0) = !(k == 0) := by
      by_cases h : k = 0
      · simp [h]
      · have h' : ((k : Int) > 0) := by omega
        rw [decide_eq_true h', show (k == 0) = false by simpa using h]
        rfl
    rw [data_drop s hlt]
    obtain ⟨x, h1, h2⟩ := ihm (k + 1) (by omega)
    have hk1 : ((k + 1 : Nat) == 0) = false := by simp
    rw [hk1] at h2
    cases h0 : (letterB (s.data.getD k 0) || (!(k == 0) && digitB (s.data.getD k 0))) with
    | true =>
      refine ⟨x, posthouseref6_Variable_l2_eq ?_, ?_⟩
      · simp only [posthouseref6_Variable_l2_t, brE_if, gdE_if, in_s, Option.bind_some]
        simp only [e1, decide_true, if_true, show (0 : Int) ≤ (k : Int) by omega, Int.toNat_natCast, hlt, Bool.and_self, in97, in48, e2, e3, h1]
        cases h4 : letterB (s.data.getD k 0) with
        | true => rfl
        | false =>
          rw [h4, Bool.false_or, Bool.and_eq_true] at h0
          simp only [h0.1, h0.2]
          rfl
      · cases x <;> simp only [Sum.elim_inl, Sum.elim_inr] at h2 ⊢ <;> simp only [vOk, h0, Bool.true_and] <;> exact h2
    | false =>
      refine ⟨.inl (false, ()), posthouseref6_Variable_l2_eq ?_, ?_⟩
      · simp only [posthouseref6_Variable_l2_t, brE_if, gdE_if, in_s, Option.bind_some]
        simp only [e1, decide_true, if_true, show (0 : Int) ≤ (k : Int) by omega, Int.toNat_natCast, hlt, Bool.and_self, in97, in48, e2, e3, h1]
        rw [Bool.or_eq_false_iff] at h0
        cases hk0 : (k == 0) with
        | true => simp only [h0.1]; rfl
        | false =>
          rw [hk0, Bool.not_false, Bool.true_and] at h0
          simp only [h0.1, h0.2]
          rfl
      · exact ⟨rfl, by simp only [vOk, h0, Bool.false_and]⟩
theorem rvar_s (s : ByteArray) (hl : s.size ≤ big) : posthouseref6_Variable_s s = some (varB s) := by
  obtain ⟨x, h1, h2⟩ := var_loop s hl s.size 0 (by omega)
  refine posthouseref6_Variable_eq ?_
  have e : posthouseref6_Variable_l2 s 0 = some x := h1
  simp only [posthouseref6_Variable_t, e, Option.bind_some, in_s]
  rw [List.drop_zero] at h2
  unfold varB
  cases x with
  | inl r => simp only [Sum.elim_inl] at h2 ⊢; rw [h2.1, show vOk true s.data.toList = false from h2.2]; rfl
  | inr r =>
    simp only [Sum.elim_inr] at h2 ⊢
    rw [h2.1, show vOk true s.data.toList = true from h2.2]
    congr 1
    rw [Bool.eq_iff_iff]; simp; omega
end Go.Proofs.Ytokahibbkdbndaa
/- What the checks of rules answer: the program's and the reference's are the same. -/
namespace Go.Proofs.Ytokahibbkdbndaa
open Go.RowKit

def txtB (act : Int) : Bool := act == 2 || act == 4 || act == 5 || act == 7
theorem texted_s (act : Int) : rules_texted_s act = some (txtB act) := by
  refine rules_texted_eq ?_
  simp only [rules_texted_t, brE_if, txtB]
  cases act == 2 <;> cases act == 4 <;> cases act == 5 <;> cases act == 7 <;> rfl
theorem rtexted_s (act : Int) : posthouseref6_Texted_s act = some (txtB act) := by
  refine posthouseref6_Texted_eq ?_
  simp only [posthouseref6_Texted_t, brE_if, txtB]
  cases act == 2 <;> cases act == 4 <;> cases act == 5 <;> cases act == 7 <;> rfl
/-- no test -/
def noB (k : Int) (nt : Nat) (nm : ByteArray) (p : Int) (tx : ByteArray) (n : Int) : Bool := k == 0 && (nt == 0 && (em nm && (p == 0 && (em tx && n == 0))))
theorem noTest_s (k : Int) (ts : List S42) (nm : ByteArray) (p : Int) (tx : ByteArray) (n : Int) : rules_noTest_s k ts nm p tx n = some (noB k ts.length nm p tx n) := by
  refine rules_noTest_eq ?_
  simp only [rules_noTest_t, brE_if, EC.encL_length, em_def, noB]
  have e1 : (((ts.length : Nat) : Int) == 0) = (ts.length == 0) := by rw [Bool.eq_iff_iff]; simp
  rw [e1]
  cases k == 0 <;> cases ts.length == 0 <;> cases em nm <;> cases p == 0 <;> cases em tx <;> cases n == 0 <;> rfl
/-- the code of the first error of a rule that contains no rules -/
def pHead (no len : Bool) (k act : Int) (nm tx : ByteArray) (n : Int) : Int :=
  if (!no || len || (!(k == 2) && (!(act == 0) || !(n == 0))) || (!(k == 3) && !em nm) || ((k == 4) && !em tx)) = true then 5
  else if ((k == 2) && (decide (act < 1) || decide (act > 7))) = true then 4
  else if ((k == 2) && ((!txtB act && !em tx) || (!(act == 6) && !(n == 0)))) = true then 5
  else if ((k == 3) && !varB nm) = true then 10
  else if decide ((tx.size : Int) > 200) = true then 1
  else if (decide (n < 0) || decide (n > 63)) = true then 3
  else 0
theorem len_pos {a b : Nat} (ha : a ≤ big) (hb : b ≤ big) : decide (IntKind.i64.wrap (((a : Nat) : Int) + ((b : Nat) : Int)) > 0) = (!(a == 0) || !(b == 0)) := by
  rw [wr_in (by unfold big at *; omega)]
  rw [Bool.eq_iff_iff]
  simp only [decide_eq_true_eq, Bool.or_eq_true, Bool.not_eq_true', beq_eq_false_iff_ne]
  omega
theorem plain_s (k tk : Int) (tts : List S42) (tnm : ByteArray) (tp : Int) (ttx : ByteArray) (tn : Int) (t e : List S44) (act : Int) (nm tx : ByteArray) (n : Int) (ht : t.length ≤ big) (he : e.length ≤ big) :
    rules_plain_s k tk tts tnm tp ttx tn t e act nm tx n = some (pHead (noB tk tts.length tnm tp ttx tn) (!(t.length == 0) || !(e.length == 0)) k act nm tx n) := by
  refine rules_plain_eq ?_
  simp only [rules_plain_t, brE_if, gdE_if, EC.decL_encL, EC.isL_encL, EC.encL_length, noTest_s, texted_s, variable_s, Option.bind_some, em_def, if_true, len_pos ht he, bne]
  unfold pHead
  generalize noB tk tts.length tnm tp ttx tn = c1
  generalize (!(t.length == 0) || !(e.length == 0)) = c2
  generalize hk2 : (k == 2) = k2
  generalize hk3 : (k == 3) = k3
  generalize hk4 : (k == 4) = k4
  generalize (act == 0) = c3
  generalize (n == 0) = c4
  generalize em nm = c5
  generalize em tx = c6
  generalize decide (act < 1) = c7
  generalize decide (act > 7) = c8
  generalize txtB act = c9
  generalize (act == 6) = c10
  generalize varB nm = c11
  generalize decide ((tx.size : Int) > 200) = c12
  generalize decide (n < 0) = c13
  generalize decide (n > 63) = c14
  cases c1 <;> first | rfl | skip
  cases c2 <;> first | rfl | skip
  cases k2 <;> cases k3 <;> cases k4
  all_goals first | (exfalso; simp at hk2 hk3 hk4; omega) | skip
  all_goals cases c3 <;> cases c4 <;> first | rfl | skip
  all_goals cases c5 <;> first | rfl | skip
  all_goals cases c6 <;> first | rfl | skip
  all_goals cases c7 <;> first | rfl | skip
  all_goals cases c8 <;> first | rfl | skip
  all_goals cases c9 <;> first | rfl | skip
  all_goals cases c10 <;> first | rfl | skip
  all_goals cases c11 <;> first | rfl | skip
  all_goals cases c12 <;> first | rfl | skip
  all_goals cases c13 <;> first | rfl | skip
  all_goals cases c14 <;> rfl
/-- the code of the first error of a rule itself -/
def rHead (r : S44) : Int :=
  if (decide (r.Kind < 1) || decide (r.Kind > 4)) = true then 4
  else if (r.Kind == 1) = true then (if (!(r.Act == 0) || !em r.Name || !em r.Text || !(r.N == 0)) = true then 5 else tfT ⟨r.Test_Kind, r.Test_Tests, r.Test_Name, r.Test_Pattern, r.Test_Text, r.Test_N⟩ 1)
  else pHead (noB r.Test_Kind r.Test_Tests.length r.Test_Name r.Test_Pattern r.Test_Text r.Test_N) (!(r.Then.length == 0) || !(r.Else.length == 0)) r.Kind r.Act r.Name r.Text r.N
theorem rule_s (r : S44) (ho : okR r) (d : Nat) : rules_rule_s r.Kind r.Test_Kind r.Test_Tests r.Test_Name r.Test_Pattern r.Test_Text r.Test_N r.Then r.Else r.Act r.Name r.Text r.N d = some (if decide ((d : Int) > 8) = true then 5 else rHead r) := by
  obtain ⟨⟨o1, o2⟩, ⟨o3, o4⟩, ⟨o5, o6⟩, o7⟩ := (okR_eq r).1 ho
  have ht := test_s ⟨r.Test_Kind, r.Test_Tests, r.Test_Name, r.Test_Pattern, r.Test_Text, r.Test_N⟩ ⟨o1, o2⟩ 1
  refine rules_rule_eq ?_
  simp only [rules_rule_t, brE_if, gdE_if, EC.decL_encL, EC.isL_encL, plain_s _ _ _ _ _ _ _ _ _ _ _ _ _ o3 o5, Option.bind_some, em_def, if_true, bne]
  have ht' : rules_test_s r.Test_Kind r.Test_Tests r.Test_Name r.Test_Pattern r.Test_Text r.Test_N 1 = some (tfT ⟨r.Test_Kind, r.Test_Tests, r.Test_Name, r.Test_Pattern, r.Test_Text, r.Test_N⟩ 1) := ht
  rw [ht']
  unfold rHead
  generalize pHead _ _ r.Kind r.Act r.Name r.Text r.N = x1
  generalize tfT _ 1 = x2
  generalize decide ((d : Int) > 8) = c1
  generalize decide (r.Kind < 1) = c2
  generalize decide (r.Kind > 4) = c3
  generalize (r.Kind == 1) = c4
  generalize (r.Act == 0) = c5
  generalize em r.Name = c6
  generalize em r.Text = c7
  generalize (r.N == 0) = c8
  cases c1 <;> cases c2 <;> cases c3 <;> cases c4 <;> cases c5 <;> cases c6 <;> cases c7 <;> cases c8 <;> rfl
end Go.Proofs.Ytokahibbkdbndaa
/- What the reference's check of a rule answers: the same. -/
namespace Go.Proofs.Ytokahibbkdbndaa
open Go.RowKit

section
variable {k tk tp tn act n e : Int} {tts : List S42} {tnm ttx nm tx : ByteArray} {t el : List S44}
theorem rg21 : posthouseref6_RuleFault_g21 k tk tts tnm tp ttx tn t el act nm tx n = some (if (decide (n < 0) || decide (n > 63)) = true then 3 else 0, ()) := by
  refine posthouseref6_RuleFault_g21_eq ?_
  simp only [posthouseref6_RuleFault_g21_t, brE_if, in_s, Option.bind_some, in_not]
  generalize (decide (n < 0) || decide (n > 63)) = c
  cases c <;> rfl
theorem rg19 : posthouseref6_RuleFault_g19 k tk tts tnm tp ttx tn t el act nm tx n = some (if decide ((tx.size : Int) > 200) = true then 1 else if (decide (n < 0) || decide (n > 63)) = true then 3 else 0, ()) := by
  refine posthouseref6_RuleFault_g19_eq ?_
  simp only [posthouseref6_RuleFault_g19_t, brE_if, gdE_if, EC.decL_encL, EC.isL_encL, rg21, Option.bind_some, if_true]
  generalize decide ((tx.size : Int) > 200) = c
  cases c <;> rfl
theorem rg17 (hn : nm.size ≤ big) : posthouseref6_RuleFault_g17 k tk tts tnm tp ttx tn t el act nm tx n = some (if ((k == 3) && !varB nm) = true then 10 else if decide ((tx.size : Int) > 200) = true then 1 else if (decide (n < 0) || decide (n > 63)) = true then 3 else 0, ()) := by
  refine posthouseref6_RuleFault_g17_eq ?_
  simp only [posthouseref6_RuleFault_g17_t, brE_if, gdE_if, EC.decL_encL, EC.isL_encL, rg19, rvar_s nm hn, Option.bind_some, if_true]
  generalize varB nm = c
  cases (k == 3) <;> cases c <;> rfl
theorem rg15 : posthouseref6_RuleFault_g15 k tk tts tnm tp ttx tn t el act nm tx n = some (if ((!txtB act && !em tx) || (!(act == 6) && !(n == 0))) = true then .inr (5, ()) else .inl (((), false), (k, tk, tts, tnm, tp, ttx, tn, t, el, act, nm, tx, n))) := by
  refine posthouseref6_RuleFault_g15_eq ?_
  simp only [posthouseref6_RuleFault_g15_t, brE_if, gdE_if, EC.decL_encL, EC.isL_encL, rtexted_s, Option.bind_some, if_true, em_def, bne]
  cases txtB act <;> cases em tx <;> cases (act == 6) <;> cases (n == 0) <;> rfl
theorem rg12 (hn : nm.size ≤ big) : posthouseref6_RuleFault_g12 k tk tts tnm tp ttx tn t el act nm tx n = some (if ((k == 2) && (decide (act < 1) || decide (act > 7))) = true then 4
    else if ((k == 2) && ((!txtB act && !em tx) || (!(act == 6) && !(n == 0)))) = true then 5
    else if ((k == 3) && !varB nm) = true then 10 else if decide ((tx.size : Int) > 200) = true then 1 else if (decide (n < 0) || decide (n > 63)) = true then 3 else 0, ()) := by
  refine posthouseref6_RuleFault_g12_eq ?_
  simp only [posthouseref6_RuleFault_g12_t, brE_if, gdE_if, EC.decL_encL, EC.isL_encL, in_s, in_not, rg15, rg17 hn, Option.bind_some, if_true]
  generalize (decide (act < 1) || decide (act > 7)) = c1
  generalize ((!txtB act && !em tx) || (!(act == 6) && !(n == 0))) = c2
  cases (k == 2) <;> cases c1 <;> cases c2 <;> first | rfl | (simp only [if_true, if_false, Bool.false_eq_true, Sum.elim_inl, rg17 hn, Option.bind_some]; rfl)
theorem rg10 (hn : nm.size ≤ big) : posthouseref6_RuleFault_g10 k tk tts tnm tp ttx tn t el act nm tx n = some (if ((!(k == 2) && (!(act == 0) || !(n == 0))) || (!(k == 3) && !em nm) || ((k == 4) && !em tx)) = true then 5
    else if ((k == 2) && (decide (act < 1) || decide (act > 7))) = true then 4
    else if ((k == 2) && ((!txtB act && !em tx) || (!(act == 6) && !(n == 0)))) = true then 5
    else if ((k == 3) && !varB nm) = true then 10 else if decide ((tx.size : Int) > 200) = true then 1 else if (decide (n < 0) || decide (n > 63)) = true then 3 else 0, ()) := by
  refine posthouseref6_RuleFault_g10_eq ?_
  simp only [posthouseref6_RuleFault_g10_t, brE_if, gdE_if, EC.decL_encL, EC.isL_encL, rg12 hn, Option.bind_some, if_true, em_def, bne]
  generalize (if ((k == 2) && (decide (act < 1) || decide (act > 7))) = true then (4 : Int)
    else if ((k == 2) && ((!txtB act && !em tx) || (!(act == 6) && !(n == 0)))) = true then 5
    else if ((k == 3) && !varB nm) = true then 10 else if decide ((tx.size : Int) > 200) = true then 1 else if (decide (n < 0) || decide (n > 63)) = true then 3 else 0) = x
  cases (k == 2) <;> cases (act == 0) <;> cases (n == 0) <;> cases (k == 3) <;> cases em nm <;> cases (k == 4) <;> cases em tx <;> rfl
theorem rg8 (hn : nm.size ≤ big) : posthouseref6_RuleFault_g8 k tk tts tnm tp ttx tn t el act nm tx n tk tts tnm tp ttx tn = some (pHead (noB tk tts.length tnm tp ttx tn) (!(t.length == 0) || !(el.length == 0)) k act nm tx n, ()) := by
  refine posthouseref6_RuleFault_g8_eq ?_
  have e2 : ∀ q : Nat, decide ((q : Int) > 0) = !(q == 0) := by
    intro q
    by_cases h : q = 0
    · simp [h]
    · have h' : (q : Int) > 0 := by omega
      rw [decide_eq_true h', show (q == 0) = false by simpa using h]
      rfl
  simp only [posthouseref6_RuleFault_g8_t, brE_if, gdE_if, EC.decL_encL, EC.isL_encL, EC.encL_length, rg10 hn, Option.bind_some, if_true, em_def, bne, e2]
  unfold pHead noB
  generalize ((!(k == 2) && (!(act == 0) || !(n == 0)))) = d1
  generalize (!(k == 3) && !em nm) = d2
  generalize ((k == 4) && !em tx) = d3
  generalize (if ((k == 2) && (decide (act < 1) || decide (act > 7))) = true then (4 : Int)
    else if ((k == 2) && ((!txtB act && !em tx) || (!(act == 6) && !(n == 0)))) = true then 5
    else if ((k == 3) && !varB nm) = true then 10 else if decide ((tx.size : Int) > 200) = true then 1 else if (decide (n < 0) || decide (n > 63)) = true then 3 else 0) = x
  generalize (tk == 0) = c1
  generalize (tts.length == 0) = c2
  generalize em tnm = c3
  generalize (tp == 0) = c4
  generalize em ttx = c5
  generalize (tn == 0) = c6
  generalize (t.length == 0) = c7
  generalize (el.length == 0) = c8
  cases c1 <;> first | rfl | skip
  cases c2 <;> first | rfl | skip
  cases c3 <;> first | rfl | skip
  cases c4 <;> first | rfl | skip
  cases c5 <;> first | rfl | skip
  cases c6 <;> first | rfl | skip
  cases c7 <;> first | rfl | skip
  cases c8 <;> first | rfl | (cases d1 <;> cases d2 <;> cases d3 <;> rfl)
end
theorem rfault_s (r : S44) (ho : okR r) : posthouseref6_RuleFault_s r.Kind r.Test_Kind r.Test_Tests r.Test_Name r.Test_Pattern r.Test_Text r.Test_N r.Then r.Else r.Act r.Name r.Text r.N = some (rHead r) := by
  obtain ⟨⟨o1, o2⟩, ⟨o3, o4⟩, ⟨o5, o6⟩, o7⟩ := (okR_eq r).1 ho
  have ht := tfault_s ⟨r.Test_Kind, r.Test_Tests, r.Test_Name, r.Test_Pattern, r.Test_Text, r.Test_N⟩ ⟨o1, o2⟩ 1
  have ht' : posthouseref6_TestFault_s r.Test_Kind r.Test_Tests r.Test_Name r.Test_Pattern r.Test_Text r.Test_N 1 = some (tfT ⟨r.Test_Kind, r.Test_Tests, r.Test_Name, r.Test_Pattern, r.Test_Text, r.Test_N⟩ 1) := ht
  refine posthouseref6_RuleFault_eq ?_
  simp only [posthouseref6_RuleFault_t, brE_if, gdE_if, EC.decL_encL, EC.isL_encL, in_s, in_not, ht', rg8 o7, Option.bind_some, em_def, if_true, bne]
  unfold rHead
  generalize pHead _ _ r.Kind r.Act r.Name r.Text r.N = x1
  generalize tfT _ 1 = x2
  generalize (decide (r.Kind < 1) || decide (r.Kind > 4)) = c2
  generalize (r.Kind == 1) = c4
  generalize (r.Act == 0) = c5
  generalize em r.Name = c6
  generalize em r.Text = c7
  generalize (r.N == 0) = c8
  cases c2 <;> cases c4 <;> cases c5 <;> cases c6 <;> cases c7 <;> cases c8 <;> rfl
end Go.Proofs.Ytokahibbkdbndaa
/- What the check of a script answers: the program's and the reference's are the same. -/
namespace Go.Proofs.Ytokahibbkdbndaa
open Go.RowKit

theorem pair_enc (a b : List S44) : ([[.sl (ec_44.encL a)], [.sl (ec_44.encL b)]] : List (List C)) = ec_22.encL [a, b] := rfl
/-- the code of a rule at a depth -/
def rc (r : S44) (d : Nat) : Int := if decide ((d : Int) > 8) = true then 5 else rHead r
mutual
def ckR : S44 → Nat → Nat → (Int × Int) ⊕ Nat
  | ⟨_, _, _, _, _, _, _, t, e, _, _, _, _⟩, n, d => match ckL t (n + 1) (d + 1) with
    | .inl f => .inl f
    | .inr n1 => ckL e n1 (d + 1)
/-- the fault of rules, or how many rules there are then -/
def ckL : List S44 → Nat → Nat → (Int × Int) ⊕ Nat
  | [], n, _ => .inr n
  | r :: l, n, d => if 100 ≤ n then .inl (2, -1) else if rc r d ≠ 0 then .inl (rc r d, n) else match ckR r n d with
    | .inl f => .inl f
    | .inr n2 => ckL l n2 d
end
theorem ckR_eq (r : S44) (n d : Nat) : ckR r n d = match ckL r.Then (n + 1) (d + 1) with | .inl f => .inl f | .inr n1 => ckL r.Else n1 (d + 1) := by cases r; rfl

theorem ck_sz : ∀ (q : Nat) (l : List S44), szL l = q → ∀ n d, n ≤ 100 → (∀ m, ckL l n d = .inr m → m = n + szL l ∧ m ≤ 100) ∧ (∀ f, ckL l n d = .inl f → f.1 ≠ 0) := by
  intro q
  induction q using Nat.strongRecOn with
  | _ q ih =>
    intro l
    induction l with
    | nil =>
      intro _ n d hn
      refine ⟨fun m h => ?_, fun f h => by cases h⟩
      injection h with h
      subst h
      exact ⟨by simp [szL], hn⟩
    | cons r l ihl =>
      intro hq n d hn
      have h1 := sz_then (l := r :: l) (r := r) (by simp)
      have h2 := sz_else (l := r :: l) (r := r) (by simp)
      have hR : n < 100 → (∀ m, ckR r n d = .inr m → m = n + szR r ∧ m ≤ 100) ∧ (∀ f, ckR r n d = .inl f → f.1 ≠ 0) := by
        intro hlt
        obtain ⟨a1, a2⟩ := ih _ (hq ▸ h1) r.Then rfl (n + 1) (d + 1) (by omega)
        rw [ckR_eq]
        cases ht : ckL r.Then (n + 1) (d + 1) with
        | inl f => exact ⟨fun m h => (by cases h), fun f' h => (by injection h with h; subst h; exact a2 _ ht)⟩
        | inr n1 =>
          obtain ⟨b1, b2⟩ := a1 n1 ht
          obtain ⟨c1, c2⟩ := ih _ (hq ▸ h2) r.Else rfl n1 (d + 1) b2
          refine ⟨fun m h => ?_, fun f h => c2 f h⟩
          obtain ⟨e1, e2⟩ := c1 m h
          exact ⟨by rw [e1, b1, szR_eq]; omega, e2⟩
      have hl : ∀ n2, n2 ≤ 100 → (∀ m, ckL l n2 d = .inr m → m = n2 + szL l ∧ m ≤ 100) ∧ (∀ f, ckL l n2 d = .inl f → f.1 ≠ 0) := by
        intro n2 hn2
        exact ih (szL l) (by rw [← hq]; simp only [szL]; have := szR_eq r; omega) l rfl n2 d hn2
      simp only [ckL]
      split
      · exact ⟨fun m h => (by cases h), fun f h => (by injection h with h; subst h; decide)⟩
      · rename_i hlt
        split
        · rename_i hne
          exact ⟨fun m h => (by cases h), fun f h => (by injection h with h; subst h; exact hne)⟩
        · obtain ⟨a1, a2⟩ := hR (by omega)
          cases hr : ckR r n d with
          | inl f => exact ⟨fun m h => (by cases h), fun f' h => (by injection h with h; subst h; exact a2 _ hr)⟩
          | inr n2 =>
            obtain ⟨b1, b2⟩ := a1 n2 hr
            obtain ⟨c1, c2⟩ := hl n2 b2
            refine ⟨fun m h => ?_, fun f h => c2 f h⟩
            obtain ⟨e1, e2⟩ := c1 m h
            exact ⟨by rw [e1, b1]; simp only [szL]; omega, e2⟩
theorem ck_inr {l : List S44} {n d m : Nat} (hn : n ≤ 100) (h : ckL l n d = .inr m) : m = n + szL l ∧ m ≤ 100 := (ck_sz _ l rfl n d hn).1 m h
theorem ck_inl {l : List S44} {n d : Nat} {f : Int × Int} (hn : n ≤ 100) (h : ckL l n d = .inl f) : f.1 ≠ 0 := (ck_sz _ l rfl n d hn).2 f h

/-- what the inner check answers -/
def VR (c : (Int × Int) ⊕ Nat) (x : (Int × Int) × ((Int × Int) × (Int × (Unit × Unit)))) : Prop := match c with
  | .inl f => x.1 = f
  | .inr m => x.1 = (0, 0) ∧ x.2.2.1 = (m : Int)
def VL (c : (Int × Int) ⊕ Nat) {α : Type} (x : (Unit × ((Int × Int) × Int × (Unit × Unit))) ⊕ α) (y : Nat → α → Prop) : Prop := match c with
  | .inl f => ∃ n', x = .inl ((), (f, (n', ((), ()))))
  | .inr m => ∃ z, x = .inr z ∧ y m z

theorem val_l11 (d : Nat) (hd : d ≤ 8) (l : List S44) (t14 t15 b2 b21 : Int) (r : S44) (n : Nat) (hn : n < 100)
    (i1 : ∀ n : Nat, n ≤ 100 → ∃ x, rules_Validate_1_h2 r.Then ((d + 1 : Nat) : Int) (n : Int) = some x ∧ VR (ckL r.Then n (d + 1)) x) (i2 : ∀ n : Nat, n ≤ 100 → ∃ x, rules_Validate_1_h2 r.Else ((d + 1 : Nat) : Int) (n : Int) = some x ∧ VR (ckL r.Else n (d + 1)) x) :
    ∃ x, rules_Validate_1_h2_l11 d l t14 t15 2 2 0 ((n + 1 : Nat) : Int) b2 b21 [r.Then, r.Else] = some x ∧ VL (ckR r n d) x (fun (m : Nat) z => z = (((d : Int), (), (), (), l, t14, t15, 2, 2, 2, false), ((m : Int), ((), ()), (b2, b21), [r.Then, r.Else]))) := by
  have e3 : IntKind.i64.wrap ((d : Int) + 1) = ((d + 1 : Nat) : Int) := wr_nat (n := 100) (by omega) (by omega)
  have w1 : IntKind.i64.wrap ((0 : Int) + 1) = 1 := wr_in (by omega)
  have w2 : IntKind.i64.wrap ((1 : Int) + 1) = 2 := wr_in (by omega)
  have f0 : ((List.getD (ec_22.encL [r.Then, r.Else]) 0 []).length == 1) = true := rfl
  have f1 : ((List.getD (ec_22.encL [r.Then, r.Else]) 1 []).length == 1) = true := rfl
  have p0 : isP [K1.sl] 0 (List.getD (ec_22.encL [r.Then, r.Else]) 0 []) = true := rfl
  have p1 : isP [K1.sl] 0 (List.getD (ec_22.encL [r.Then, r.Else]) 1 []) = true := rfl
  have q0 : ∀ z, List.getD [r.Then, r.Else] 0 z = r.Then := fun _ => rfl
  have q1 : ∀ z, List.getD [r.Then, r.Else] 1 z = r.Else := fun _ => rfl
  have l0 : decide (0 < List.length [r.Then, r.Else]) = true := rfl
  have l1 : decide (1 < List.length [r.Then, r.Else]) = true := rfl
  have n0 : Int.toNat 0 = 0 := rfl
  have n1 : Int.toNat 1 = 1 := rfl
  have c1 : decide ((0 : Int) < 2) = true := rfl
  have c2 : decide ((1 : Int) < 2) = true := rfl
  have c3 : decide ((2 : Int) < 2) = false := rfl
  have c4 : decide ((0 : Int) ≤ 0) = true := rfl
  have c5 : decide ((0 : Int) ≤ 1) = true := rfl
  have c6 : decide ((0 : Int) < ((2 : Nat) : Int)) = true := rfl
  have c7 : decide ((1 : Int) < ((2 : Nat) : Int)) = true := rfl
  have s2 : ∀ m : Nat, rules_Validate_1_h2_l11 d l t14 t15 2 2 2 m b2 b21 [r.Then, r.Else] = some (.inr (((d : Int), (), (), (), l, t14, t15, 2, 2, 2, false), ((m : Int), ((), ()), (b2, b21), [r.Then, r.Else]))) := fun m => rules_Validate_1_h2_l11_eq (by
    simp only [rules_Validate_1_h2_l11_t, brE_if, gdE_if, EC.decL_encL, EC.isL_encL, EC.encL_length, at_22_0, c3, Bool.false_eq_true, if_false, if_true])
  have s1 : ∀ m : Nat, m ≤ 100 → ∃ x, rules_Validate_1_h2_l11 d l t14 t15 2 2 1 m b2 b21 [r.Then, r.Else] = some x ∧ VL (ckL r.Else m (d + 1)) x (fun (m : Nat) z => z = (((d : Int), (), (), (), l, t14, t15, 2, 2, 2, false), ((m : Int), ((), ()), (b2, b21), [r.Then, r.Else]))) := by
    intro m hm
    obtain ⟨x, h1, h2⟩ := i2 m hm
    cases hc : ckL r.Else m (d + 1) with
    | inl f =>
      rw [hc] at h2
      have h2 : x.1 = f := h2
      have hf : (f.1 != 0) = true := by simpa using ck_inl hm hc
      refine ⟨.inl ((), (f, (x.2.2.1, ((), ())))), rules_Validate_1_h2_l11_eq ?_, ⟨_, rfl⟩⟩
      simp only [rules_Validate_1_h2_l11_t, brE_if, gdE_if, EC.decL_encL, EC.isL_encL, EC.encL_length, at_22_0, c2, c5, c7, n1, l1, f1, p1, q1, Bool.and_self, if_true, e3, h1, failed_s, Option.bind_some, h2, hf]
    | inr q =>
      rw [hc] at h2
      obtain ⟨h2, h3⟩ : x.1 = (0, 0) ∧ x.2.2.1 = (q : Int) := h2
      refine ⟨_, rules_Validate_1_h2_l11_eq (r := .inr (((d : Int), (), (), (), l, t14, t15, 2, 2, 2, false), ((q : Int), ((), ()), (b2, b21), [r.Then, r.Else]))) ?_, ⟨_, rfl, rfl⟩⟩
      simp only [rules_Validate_1_h2_l11_t, brE_if, gdE_if, EC.decL_encL, EC.isL_encL, EC.encL_length, at_22_0, c2, c5, c7, n1, l1, f1, p1, q1, Bool.and_self, if_true, e3, h1, failed_s, Option.bind_some, h2, h3, w2, s2, bne_self_eq_false, Bool.false_eq_true, if_false]
  obtain ⟨x, h1, h2⟩ := i1 (n + 1) (by omega)
  rw [ckR_eq]
  cases hc : ckL r.Then (n + 1) (d + 1) with
  | inl f =>
    rw [hc] at h2
    have h2 : x.1 = f := h2
    have hf : (f.1 != 0) = true := by simpa using ck_inl (by omega) hc
    refine ⟨.inl ((), (f, (x.2.2.1, ((), ())))), rules_Validate_1_h2_l11_eq ?_, ⟨_, rfl⟩⟩
    simp only [rules_Validate_1_h2_l11_t, brE_if, gdE_if, EC.decL_encL, EC.isL_encL, EC.encL_length, at_22_0, c1, c4, c6, n0, l0, f0, p0, q0, Bool.and_self, if_true, e3, h1, failed_s, Option.bind_some, h2, hf]
  | inr q =>
    rw [hc] at h2
    obtain ⟨h2, h3⟩ : x.1 = (0, 0) ∧ x.2.2.1 = (q : Int) := h2
    obtain ⟨y, g1, g2⟩ := s1 q (ck_inr (by omega) hc).2
    refine ⟨y, rules_Validate_1_h2_l11_eq ?_, g2⟩
    simp only [rules_Validate_1_h2_l11_t, brE_if, gdE_if, EC.decL_encL, EC.isL_encL, EC.encL_length, at_22_0, c1, c4, c6, n0, l0, f0, p0, q0, Bool.and_self, if_true, e3, h1, failed_s, Option.bind_some, h2, h3, w1, g1, bne_self_eq_false, Bool.false_eq_true, if_false]

theorem val_l2 (d : Nat) (hd : d ≤ 9) (l : List S44) (hl : l.length ≤ big) (ho : okL l)
    (ih : d ≤ 8 → ∀ r ∈ l, (∀ n : Nat, n ≤ 100 → ∃ x, rules_Validate_1_h2 r.Then ((d + 1 : Nat) : Int) (n : Int) = some x ∧ VR (ckL r.Then n (d + 1)) x) ∧ (∀ n : Nat, n ≤ 100 → ∃ x, rules_Validate_1_h2 r.Else ((d + 1 : Nat) : Int) (n : Int) = some x ∧ VR (ckL r.Else n (d + 1)) x)) :
    ∀ m k (n : Nat) b2 b21, n ≤ 100 → k + m = l.length → ∃ x, rules_Validate_1_h2_l2 d l l.length k n b2 b21 = some x ∧ VL (ckL (l.drop k) n d) x (fun (m : Nat) z => z.2.1 = (m : Int)) := by
  intro m
  induction m with
  | zero =>
    intro k n b2 b21 hn hk
    have hk : k = l.length := by omega
    subst hk
    refine ⟨_, rules_Validate_1_h2_l2_eq (r := .inr (((d : Int), (), (), (), l, (l.length : Int), (l.length : Int), false), ((n : Int), ((), ()), (b2, b21)))) (by
      simp only [rules_Validate_1_h2_l2_t, brE_if, gdE_if, EC.decL_encL, EC.isL_encL, EC.encL_length, isE_44, at_44_0, at_44_1, at_44_2, at_44_3, at_44_4, at_44_5, at_44_6, at_44_7, at_44_8, at_44_9, at_44_10, at_44_11, at_44_12]
      simp), ?_⟩
    rw [List.drop_length]
    exact ⟨_, rfl, rfl⟩
  | succ m ihm =>
    intro k n b2 b21 hn hk
    have hlt : k < l.length := by omega
    have hr := List.getElem_mem hlt
    have e1 : decide ((k : Int) < (l.length : Int)) = true := by simp; omega
    have e0 : decide ((0 : Int) ≤ (k : Int)) = true := by simp
    have e2 : IntKind.i64.wrap ((k : Int) + 1) = ((k + 1 : Nat) : Int) := wr_nat hlt (by unfold big at hl; omega)
    have e3 : IntKind.i64.wrap ((n : Int) + 1) = ((n + 1 : Nat) : Int) := wr_nat (n := 1000) (by omega) (by omega)
    have hd2 : decide (k < l.length) = true := by simp [hlt]
    rw [drop_at hlt, ckL]
    by_cases h100 : 100 ≤ n
    · have hn100 : n = 100 := by omega
      subst hn100
      refine ⟨_, rules_Validate_1_h2_l2_eq (r := .inl ((), ((2, -1), ((100 : Nat), ((), ()))))) ?_, ?_⟩
      · simp only [rules_Validate_1_h2_l2_t, brE_if, gdE_if, EC.decL_encL, EC.isL_encL, EC.encL_length, isE_44, at_44_0, at_44_1, at_44_2, at_44_3, at_44_4, at_44_5, at_44_6, at_44_7, at_44_8, at_44_9, at_44_10, at_44_11, at_44_12, e1, e0, if_true, Int.toNat_natCast, hd2, Bool.and_self, fault_s, Option.bind_some]
        rfl
      · rw [if_pos h100]; exact ⟨_, rfl⟩
    rw [if_neg h100]
    have en : ((n : Int) == 100) = false := by simp; omega
    have hrule := rule_s l[k] (okL_get ho hr) d
    have hrule : rules_rule_s l[k].Kind l[k].Test_Kind l[k].Test_Tests l[k].Test_Name l[k].Test_Pattern l[k].Test_Text l[k].Test_N l[k].Then l[k].Else l[k].Act l[k].Name l[k].Text l[k].N d = some (rc l[k] d) := hrule
    by_cases hc : rc l[k] d = 0
    case neg =>
      refine ⟨_, rules_Validate_1_h2_l2_eq (r := .inl ((), ((rc l[k] d, (n : Int)), ((n : Int), ((), ()))))) ?_, ?_⟩
      · have hcb : (rc l[k] d != 0) = true := by simpa using hc
        simp only [rules_Validate_1_h2_l2_t, brE_if, gdE_if, EC.decL_encL, EC.isL_encL, EC.encL_length, isE_44, at_44_0, at_44_1, at_44_2, at_44_3, at_44_4, at_44_5, at_44_6, at_44_7, at_44_8, at_44_9, at_44_10, at_44_11, at_44_12, e1, e0, if_true, Int.toNat_natCast, hd2, Bool.and_self, fault_s, Option.bind_some, en, Bool.false_eq_true, if_false, getD_in hlt, hrule, hcb]
      · rw [if_pos hc]; exact ⟨_, rfl⟩
    have hcb : (rc l[k] d != 0) = false := by simpa using hc
    have hd8 : d ≤ 8 := by
      rcases Nat.lt_or_ge 8 d with h | h
      · unfold rc at hc
        rw [if_pos (by simp; omega)] at hc
        cases hc
      · exact h
    rw [if_neg (by simpa using hc)]
    obtain ⟨i1, i2⟩ := ih hd8 l[k] hr
    obtain ⟨x, h1, h2⟩ := val_l11 d hd8 l (l.length : Int) (k : Int) b2 b21 l[k] n (by omega) i1 i2
    cases hq : ckR l[k] n d with
    | inl f =>
      rw [hq] at h2
      obtain ⟨n', rfl⟩ := h2
      refine ⟨_, rules_Validate_1_h2_l2_eq (r := .inl ((), (f, (n', ((), ()))))) ?_, ⟨_, rfl⟩⟩
      simp only [rules_Validate_1_h2_l2_t, brE_if, gdE_if, EC.decL_encL, EC.isL_encL, EC.encL_length, isE_44, at_44_0, at_44_1, at_44_2, at_44_3, at_44_4, at_44_5, at_44_6, at_44_7, at_44_8, at_44_9, at_44_10, at_44_11, at_44_12, e1, e0, if_true, Int.toNat_natCast, hd2, Bool.and_self, Option.bind_some, en, Bool.false_eq_true, if_false, getD_in hlt, hrule, hcb, pair_enc, e3]
      have h1' : rules_Validate_1_h2_l11 d l l.length k 2 ((2 : Nat) : Int) 0 ((n + 1 : Nat) : Int) b2 b21 [l[k].Then, l[k].Else] = _ := h1
      rw [h1']
      rfl
    | inr q =>
      rw [hq] at h2
      obtain ⟨z, rfl, rfl⟩ := h2
      have hq100 : q ≤ 100 := by
        have := (ck_sz (szL [l[k]]) [l[k]] rfl n d hn).1 q (by simp only [ckL]; rw [if_neg h100, if_neg (by simpa using hc), hq])
        exact this.2
      obtain ⟨y, g1, g2⟩ := ihm (k + 1) q b2 b21 hq100 (by omega)
      refine ⟨y, rules_Validate_1_h2_l2_eq ?_, g2⟩
      simp only [rules_Validate_1_h2_l2_t, brE_if, gdE_if, EC.decL_encL, EC.isL_encL, EC.encL_length, isE_44, at_44_0, at_44_1, at_44_2, at_44_3, at_44_4, at_44_5, at_44_6, at_44_7, at_44_8, at_44_9, at_44_10, at_44_11, at_44_12, e1, e0, if_true, Int.toNat_natCast, hd2, Bool.and_self, Option.bind_some, en, Bool.false_eq_true, if_false, getD_in hlt, hrule, hcb, pair_enc, e3]
      have h1' : rules_Validate_1_h2_l11 d l l.length k 2 ((2 : Nat) : Int) 0 ((n + 1 : Nat) : Int) b2 b21 [l[k].Then, l[k].Else] = _ := h1
      rw [h1']
      simp only [Option.bind_some, Sum.elim_inr, e2]
      exact g1
theorem val_h2 : ∀ (q : Nat) (l : List S44), szL l = q → l.length ≤ big → okL l → ∀ d : Nat, d ≤ 9 → ∀ n : Nat, n ≤ 100 → ∃ x, rules_Validate_1_h2 l (d : Int) (n : Int) = some x ∧ VR (ckL l n d) x := by
  intro q
  induction q using Nat.strongRecOn with
  | _ q ih =>
    intro l hq hl ho d hd n hn
    obtain ⟨x, h1, h2⟩ := val_l2 d hd l hl ho (fun hd8 r hr => by
      have := (okR_eq r).1 (okL_get ho hr)
      exact ⟨fun n hn => ih _ (hq ▸ sz_then hr) r.Then rfl this.2.1.1 this.2.1.2 (d + 1) (by omega) n hn, fun n hn => ih _ (hq ▸ sz_else hr) r.Else rfl this.2.2.1.1 this.2.2.1.2 (d + 1) (by omega) n hn⟩) l.length 0 n 0 0 hn (by omega)
    have e : rules_Validate_1_h2_l2 d l l.length 0 n 0 0 = some x := h1
    rw [List.drop_zero] at h2
    cases hc : ckL l n d with
    | inl f =>
      rw [hc] at h2
      obtain ⟨n', rfl⟩ := h2
      refine ⟨_, rules_Validate_1_h2_eq (r := (f, (f, (n', ((), ()))))) ?_, rfl⟩
      simp only [rules_Validate_1_h2_t, gdE_if, EC.decL_encL, EC.isL_encL, EC.encL_length, if_true, e, Option.bind_some, Sum.elim_inl]
    | inr m =>
      rw [hc] at h2
      obtain ⟨z, rfl, h3⟩ := h2
      refine ⟨_, rules_Validate_1_h2_eq (r := ((0, 0), ((0, 0), ((m : Int), ((), ()))))) ?_, ⟨rfl, rfl⟩⟩
      simp only [rules_Validate_1_h2_t, gdE_if, EC.decL_encL, EC.isL_encL, EC.encL_length, if_true, e, Option.bind_some, Sum.elim_inr, none_s, h3]
/-- the fault of a script -/
def scriptF (l : List S44) : Int × Int := match ckL l 0 1 with
  | .inl f => f
  | .inr _ => (0, 0)
theorem validate_s (l : List S44) (hl : l.length ≤ big) (ho : okL l) : rules_Validate_s l = some (scriptF l) := by
  obtain ⟨x, h1, h2⟩ := val_h2 _ l rfl hl ho 1 (by omega) 0 (by omega)
  refine rules_Validate_eq ?_
  have e : rules_Validate_1_h2 l 1 0 = some x := h1
  simp only [rules_Validate_t, gdE_if, EC.decL_encL, EC.isL_encL, if_true, e, Option.bind_some]
  unfold scriptF
  cases hc : ckL l 0 1 with
  | inl f => rw [hc] at h2; have h2 : x.1 = f := h2; simp only [h2]
  | inr m => rw [hc] at h2; have h2 : x.1 = (0, 0) := h2.1; simp only [h2]
end Go.Proofs.Ytokahibbkdbndaa
/- What the reference's check of a script answers: the same. -/
namespace Go.Proofs.Ytokahibbkdbndaa
open Go.RowKit

theorem at_s (c i : Int) : posthouseref5_At_s c i = some (c, i) := posthouseref5_At_eq rfl
def LR (c : (Int × Int) ⊕ Nat) : Int × Int := match c with
  | .inl f => f
  | .inr _ => (0, 0)
theorem lf_loop (d : Nat) (hd : d ≤ 9) (l : List S44) (hl : l.length ≤ big) (ho : okL l)
    (ih : d ≤ 8 → ∀ r ∈ l, (∀ n : Nat, n ≤ 100 → posthouseref6_listFault_s r.Then (n : Int) ((d + 1 : Nat) : Int) = some (LR (ckL r.Then n (d + 1)))) ∧ (∀ n : Nat, n ≤ 100 → posthouseref6_listFault_s r.Else (n : Int) ((d + 1 : Nat) : Int) = some (LR (ckL r.Else n (d + 1))))) :
    ∀ m k (n : Nat) b0 b01, n ≤ 100 → k + m = l.length → ∃ x, posthouseref6_listFault_l2 l n d k b0 b01 = some x ∧ (match ckL (l.drop k) n d with | .inl f => x = .inl ((), f) | .inr _ => ∃ z, x = .inr z) := by
  intro m
  induction m with
  | zero =>
    intro k n b2 b21 hn hk
    have hk : k = l.length := by omega
    subst hk
    refine ⟨_, posthouseref6_listFault_l2_eq (r := .inr ((l, (n : Int), (d : Int), (), (l.length : Int), false), (b2, b21))) (by
      simp only [posthouseref6_listFault_l2_t, brE_if, gdE_if, EC.decL_encL, EC.isL_encL, EC.encL_length, isE_44, at_44_0, at_44_1, at_44_2, at_44_3, at_44_4, at_44_5, at_44_6, at_44_7, at_44_8, at_44_9, at_44_10, at_44_11, at_44_12]
      simp), ?_⟩
    rw [List.drop_length]
    exact ⟨_, rfl⟩
  | succ m ihm =>
    intro k n b2 b21 hn hk
    have hlt : k < l.length := by omega
    have hr := List.getElem_mem hlt
    have e1 : decide ((k : Int) < (l.length : Int)) = true := by simp; omega
    have e0 : decide ((0 : Int) ≤ (k : Int)) = true := by simp
    have e2 : IntKind.i64.wrap ((k : Int) + 1) = ((k + 1 : Nat) : Int) := wr_nat hlt (by unfold big at hl; omega)
    have e3 : IntKind.i64.wrap ((n : Int) + 1) = ((n + 1 : Nat) : Int) := wr_nat (n := 1000) (by omega) (by omega)
    have hd2 : decide (k < l.length) = true := by simp [hlt]
    rw [drop_at hlt, ckL]
    by_cases h100 : 100 ≤ n
    · rw [if_pos h100]
      refine ⟨_, posthouseref6_listFault_l2_eq (r := .inl ((), (2, -1))) ?_, rfl⟩
      have : decide ((n : Int) ≥ 100) = true := by simp; omega
      simp only [posthouseref6_listFault_l2_t, brE_if, gdE_if, EC.decL_encL, EC.isL_encL, EC.encL_length, isE_44, at_44_0, at_44_1, at_44_2, at_44_3, at_44_4, at_44_5, at_44_6, at_44_7, at_44_8, at_44_9, at_44_10, at_44_11, at_44_12, e1, if_true, this, at_s, Option.bind_some]
    rw [if_neg h100]
    have en : decide ((n : Int) ≥ 100) = false := by simp; omega
    by_cases h8 : (d : Int) > 8
    · have hc : rc l[k] d = 5 := by unfold rc; rw [if_pos (by simpa using h8)]
      rw [if_pos (by rw [hc]; decide), hc]
      refine ⟨_, posthouseref6_listFault_l2_eq (r := .inl ((), (5, (n : Int)))) ?_, rfl⟩
      simp only [posthouseref6_listFault_l2_t, brE_if, gdE_if, EC.decL_encL, EC.isL_encL, EC.encL_length, isE_44, at_44_0, at_44_1, at_44_2, at_44_3, at_44_4, at_44_5, at_44_6, at_44_7, at_44_8, at_44_9, at_44_10, at_44_11, at_44_12, e1, if_true, en, Bool.false_eq_true, if_false, decide_eq_true h8, at_s, Option.bind_some]
    have hd8 : d ≤ 8 := by omega
    have e4 : IntKind.i64.wrap ((d : Int) + 1) = ((d + 1 : Nat) : Int) := wr_nat (n := 100) (by omega) (by omega)
    have h8b : decide ((d : Int) > 8) = false := decide_eq_false h8
    have hrc : rc l[k] d = rHead l[k] := by unfold rc; rw [h8b]; rfl
    have hrule := rfault_s l[k] (okL_get ho hr)
    rw [← hrc] at hrule
    by_cases hc : rc l[k] d = 0
    case neg =>
      rw [if_pos hc]
      refine ⟨_, posthouseref6_listFault_l2_eq (r := .inl ((), (rc l[k] d, (n : Int)))) ?_, rfl⟩
      have hcb : (rc l[k] d != 0) = true := by simpa using hc
      simp only [posthouseref6_listFault_l2_t, brE_if, gdE_if, EC.decL_encL, EC.isL_encL, EC.encL_length, isE_44, at_44_0, at_44_1, at_44_2, at_44_3, at_44_4, at_44_5, at_44_6, at_44_7, at_44_8, at_44_9, at_44_10, at_44_11, at_44_12, e1, e0, if_true, Int.toNat_natCast, hd2, Bool.and_self, at_s, Option.bind_some, en, Bool.false_eq_true, if_false, getD_in hlt, hrule, hcb, h8b]
    have hcb : (rc l[k] d != 0) = false := by simpa using hc
    rw [if_neg (by simpa using hc)]
    obtain ⟨i1, i2⟩ := ih hd8 l[k] hr
    have j1 := i1 (n + 1) (by omega)
    rw [ckR_eq]
    cases hq1 : ckL l[k].Then (n + 1) (d + 1) with
    | inl f =>
      rw [hq1] at j1
      have hf : (f.1 != 0) = true := by simpa using ck_inl (by omega) hq1
      refine ⟨_, posthouseref6_listFault_l2_eq (r := .inl ((), f)) ?_, rfl⟩
      simp only [posthouseref6_listFault_l2_t, brE_if, gdE_if, EC.decL_encL, EC.isL_encL, EC.encL_length, isE_44, at_44_0, at_44_1, at_44_2, at_44_3, at_44_4, at_44_5, at_44_6, at_44_7, at_44_8, at_44_9, at_44_10, at_44_11, at_44_12, e1, e0, if_true, Int.toNat_natCast, hd2, Bool.and_self, Option.bind_some, en, Bool.false_eq_true, if_false, getD_in hlt, hrule, hcb, h8b, e3, e4, j1, LR, hf]
    | inr n1 =>
      dsimp only
      rw [hq1] at j1
      obtain ⟨a1, a2⟩ := ck_inr (by omega) hq1
      obtain ⟨⟨_, _⟩, ⟨o3, o4⟩, ⟨o5, o6⟩, _⟩ := (okR_eq l[k]).1 (okL_get ho hr)
      have c1 := count_s l[k].Then o3 o4
      have c2 := count_s l[k].Else o5 o6
      have w1 : IntKind.i64.wrap ((szL l[k].Then : Nat) : Int) = (szL l[k].Then : Nat) := wr_in (by omega)
      rw [w1] at c1
      have e5 : IntKind.i64.wrap (((n + 1 : Nat) : Int) + (szL l[k].Then : Nat)) = (n1 : Int) := by rw [wr_in (by omega)]; omega
      have j2 := i2 n1 a2
      cases hq2 : ckL l[k].Else n1 (d + 1) with
      | inl f =>
        rw [hq2] at j2
        have hf : (f.1 != 0) = true := by simpa using ck_inl a2 hq2
        refine ⟨_, posthouseref6_listFault_l2_eq (r := .inl ((), f)) ?_, rfl⟩
        simp only [posthouseref6_listFault_l2_t, brE_if, gdE_if, EC.decL_encL, EC.isL_encL, EC.encL_length, isE_44, at_44_0, at_44_1, at_44_2, at_44_3, at_44_4, at_44_5, at_44_6, at_44_7, at_44_8, at_44_9, at_44_10, at_44_11, at_44_12, e1, e0, if_true, Int.toNat_natCast, hd2, Bool.and_self, Option.bind_some, en, Bool.false_eq_true, if_false, getD_in hlt, hrule, hcb, h8b, e3, e4, j1, LR, bne_self_eq_false, c1, e5, j2, hf]
      | inr n2 =>
        rw [hq2] at j2
        obtain ⟨b1, b2'⟩ := ck_inr a2 hq2
        have w2 : IntKind.i64.wrap ((szL l[k].Else : Nat) : Int) = (szL l[k].Else : Nat) := wr_in (by omega)
        rw [w2] at c2
        have e6 : IntKind.i64.wrap ((n : Int) + IntKind.i64.wrap (IntKind.i64.wrap (1 + ((szL l[k].Then : Nat) : Int)) + ((szL l[k].Else : Nat) : Int))) = (n2 : Int) := by
          rw [wr_addL, wr_addR, wr_in (by omega)]; omega
        obtain ⟨y, g1, g2⟩ := ihm (k + 1) n2 b2 b21 b2' (by omega)
        refine ⟨y, posthouseref6_listFault_l2_eq ?_, g2⟩
        simp only [posthouseref6_listFault_l2_t, brE_if, gdE_if, EC.decL_encL, EC.isL_encL, EC.encL_length, isE_44, at_44_0, at_44_1, at_44_2, at_44_3, at_44_4, at_44_5, at_44_6, at_44_7, at_44_8, at_44_9, at_44_10, at_44_11, at_44_12, e1, e0, if_true, Int.toNat_natCast, hd2, Bool.and_self, Option.bind_some, en, Bool.false_eq_true, if_false, getD_in hlt, hrule, hcb, h8b, e3, e4, j1, LR, bne_self_eq_false, c1, c2, e5, j2, e6, e2]
        exact g1
theorem lf_s : ∀ (q : Nat) (l : List S44), szL l = q → l.length ≤ big → okL l → ∀ d : Nat, d ≤ 9 → ∀ n : Nat, n ≤ 100 → posthouseref6_listFault_s l (n : Int) (d : Int) = some (LR (ckL l n d)) := by
  intro q
  induction q using Nat.strongRecOn with
  | _ q ih =>
    intro l hq hl ho d hd n hn
    obtain ⟨x, h1, h2⟩ := lf_loop d hd l hl ho (fun hd8 r hr => by
      have := (okR_eq r).1 (okL_get ho hr)
      exact ⟨fun n hn => ih _ (hq ▸ sz_then hr) r.Then rfl this.2.1.1 this.2.1.2 (d + 1) (by omega) n hn, fun n hn => ih _ (hq ▸ sz_else hr) r.Else rfl this.2.2.1.1 this.2.2.1.2 (d + 1) (by omega) n hn⟩) l.length 0 n 0 0 hn (by omega)
    have e : posthouseref6_listFault_l2 l n d 0 0 0 = some x := h1
    rw [List.drop_zero] at h2
    refine posthouseref6_listFault_eq ?_
    simp only [posthouseref6_listFault_t, gdE_if, EC.decL_encL, EC.isL_encL, if_true, e, Option.bind_some]
    cases hc : ckL l n d with
    | inl f => rw [hc] at h2; subst h2; rfl
    | inr m => rw [hc] at h2; obtain ⟨z, rfl⟩ := h2; rfl
theorem rulesFault_s (l : List S44) (hl : l.length ≤ big) (ho : okL l) : posthouseref6_RulesFault_s l = some (scriptF l) := by
  have h := lf_s _ l rfl hl ho 1 (by omega) 0 (by omega)
  have e : posthouseref6_listFault_s l 0 1 = some (scriptF l) := by
    have : scriptF l = LR (ckL l 0 1) := by unfold scriptF LR; rfl
    rw [this]; exact h
  refine posthouseref6_RulesFault_eq ?_
  simp only [posthouseref6_RulesFault_t, gdE_if, EC.decL_encL, EC.isL_encL, if_true, e, Option.bind_some]
/-- a script without fault has at most a hundred rules -/
theorem script_ok {l : List S44} (h : (scriptF l).1 = 0) : ∃ m, ckL l 0 1 = .inr m ∧ m = szL l ∧ szL l ≤ 100 := by
  unfold scriptF at h
  cases hc : ckL l 0 1 with
  | inl f => rw [hc] at h; exact absurd h (ck_inl (by omega) hc)
  | inr m =>
    obtain ⟨a, b⟩ := ck_inr (by omega) hc
    exact ⟨m, rfl, by omega, by omega⟩
end Go.Proofs.Ytokahibbkdbndaa
