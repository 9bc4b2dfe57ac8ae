/- Several texts of this proof in one file. -/
import Derived.Test.YtokahibbkdbndaaQA
/- The different simple tests of a script: what the program collects. -/
namespace Go.Proofs.Ytokahibbkdbndaa
open Go.RowKit

def sameB (a b : S42) : Bool := a.Kind == b.Kind && (a.Name.toList == b.Name.toList && (a.Pattern == b.Pattern && (a.Text.toList == b.Text.toList && a.N == b.N)))
theorem same_s (a b : S42) : prove_same_s a.Kind a.Tests a.Name a.Pattern a.Text a.N b.Kind b.Tests b.Name b.Pattern b.Text b.N = some (sameB a b) := by
  refine prove_same_eq ?_
  simp only [prove_same_t, brE_if, sameB]
  cases (a.Kind == b.Kind) <;> cases (a.Name.toList == b.Name.toList) <;> cases (a.Pattern == b.Pattern) <;> cases (a.Text.toList == b.Text.toList) <;> cases (a.N == b.N) <;> rfl
theorem find1_ok (a b : S42) : find1_s a.Kind a.Tests a.Name a.Pattern a.Text a.N b.Kind b.Tests b.Name b.Pattern b.Text b.N = some (sameB a b) := by
  refine find1_eq ?_
  simp only [find1_t, gdE_if, EC.decL_encL, EC.isL_encL, same_s, if_true, Option.bind_some]
/-- the place of a test -/
def fnd : List S42 → S42 → Nat → Int
  | [], _, _ => -1
  | x :: l, t, k => if sameB x t = true then (k : Int) else fnd l t (k + 1)
theorem find_loop (l : List S42) (hl : l.length ≤ big) (t : S42) : ∀ m k, k + m = l.length → ∃ x, api_Test__h1_l2 l l.length k t.Kind t.Tests t.Name t.Pattern t.Text t.N = some x ∧ Sum.elim (fun r => r.1) (fun _ => -1) x = fnd (l.drop k) t k := by
  intro m
  induction m with
  | zero =>
    intro k hk
    have hk : k = l.length := by omega
    subst hk
    refine ⟨.inr ((l, (), (l.length : Int), (l.length : Int), false), (t.Kind, t.Tests, t.Name, t.Pattern, t.Text, t.N)), api_Test__h1_l2_eq (by
      simp only [api_Test__h1_l2_t, brE_if, gdE_if, EC.decL_encL, EC.isL_encL, EC.encL_length, isE_42, at_42_0, at_42_1, at_42_2, at_42_3, at_42_4, at_42_5]
      simp), ?_⟩
    rw [List.drop_length]; rfl
  | succ m ihm =>
    intro k hk
    have hlt : k < l.length := by omega
    have e1 : decide ((k : Int) < (l.length : Int)) = true := by simp; omega
    have e0 : decide ((0 : Int) ≤ (k : Int)) = true := by simp
    have e2 : IntKind.i64.wrap ((k : Int) + 1) = ((k + 1 : Nat) : Int) := wr_nat hlt (by unfold big at hl; omega)
    have hd2 : decide (k < l.length) = true := by simp [hlt]
    rw [drop_at hlt, fnd]
    cases hs : sameB l[k] t with
    | true =>
      refine ⟨.inl ((k : Int), (t.Kind, t.Tests, t.Name, t.Pattern, t.Text, t.N)), api_Test__h1_l2_eq ?_, rfl⟩
      simp only [api_Test__h1_l2_t, brE_if, gdE_if, EC.decL_encL, EC.isL_encL, EC.encL_length, isE_42, at_42_0, at_42_1, at_42_2, at_42_3, at_42_4, at_42_5, e1, e0, if_true, Int.toNat_natCast, hd2, Bool.and_self, getD_in hlt, find1_ok, Option.bind_some, hs]
    | false =>
      obtain ⟨x, h1, h2⟩ := ihm (k + 1) (by omega)
      refine ⟨x, api_Test__h1_l2_eq ?_, h2⟩
      simp only [api_Test__h1_l2_t, brE_if, gdE_if, EC.decL_encL, EC.isL_encL, EC.encL_length, isE_42, at_42_0, at_42_1, at_42_2, at_42_3, at_42_4, at_42_5, e1, e0, if_true, Int.toNat_natCast, hd2, Bool.and_self, getD_in hlt, find1_ok, Option.bind_some, hs, Bool.false_eq_true, if_false, e2]
      exact h1
theorem find_s (l : List S42) (hl : l.length ≤ big) (t : S42) : prove_find_s l t.Kind t.Tests t.Name t.Pattern t.Text t.N = some (fnd l t 0) := by
  obtain ⟨x, h1, h2⟩ := find_loop l hl t l.length 0 (by omega)
  refine prove_find_eq ?_
  have e : api_Test__h1_l2 l l.length 0 t.Kind t.Tests t.Name t.Pattern t.Text t.N = some x := h1
  have e' : ∃ z, api_Test__h1 l t.Kind t.Tests t.Name t.Pattern t.Text t.N = some z ∧ z.1 = fnd l t 0 := by
    rw [List.drop_zero] at h2
    cases x with
    | inl r => exact ⟨_, api_Test__h1_eq (by simp only [api_Test__h1_t, gdE_if, EC.decL_encL, EC.isL_encL, EC.encL_length, if_true, e, Option.bind_some, Sum.elim_inl]; rfl), h2⟩
    | inr r => exact ⟨_, api_Test__h1_eq (by simp only [api_Test__h1_t, gdE_if, EC.decL_encL, EC.isL_encL, EC.encL_length, if_true, e, Option.bind_some, Sum.elim_inr]; rfl), h2⟩
  obtain ⟨z, e1, e2⟩ := e'
  simp only [prove_find_t, gdE_if, EC.decL_encL, EC.isL_encL, if_true, e1, Option.bind_some, e2]
def hasB (l : List S42) (t : S42) : Bool := l.any fun x => sameB x t
theorem fnd_neg (l : List S42) (t : S42) : ∀ k : Nat, decide (fnd l t k < 0) = !hasB l t := by
  induction l with
  | nil => intro k; rfl
  | cons x l ih =>
    intro k
    unfold fnd hasB
    rw [List.any_cons]
    cases hs : sameB x t with
    | true => simp
    | false => simp only [Bool.false_eq_true, if_false, Bool.false_or]; exact ih (k + 1)
/-- a test at the end, if it is a simple one and new -/
def addT (l : List S42) (t : S42) : List S42 := if (decide (t.Kind > 4) && !hasB l t) = true then l ++ [t] else l
mutual
def colT : List S42 → S42 → List S42
  | l, ⟨k, ts, nm, p, tx, n⟩ => colL (addT l ⟨k, ts, nm, p, tx, n⟩) ts
def colL : List S42 → List S42 → List S42
  | l, [] => l
  | l, t :: ts => colL (colT l t) ts
end
theorem colT_eq (l : List S42) (t : S42) : colT l t = colL (addT l t) t.Tests := by cases t; rfl
theorem addT_len (l : List S42) (t : S42) : (addT l t).length ≤ l.length + 1 := by unfold addT; split <;> simp
mutual
theorem colT_len : ∀ (t : S42) (l : List S42), (colT l t).length ≤ l.length + tzT t
  | ⟨k, ts, nm, p, tx, n⟩, l => by
    have h1 := colL_len ts (addT l ⟨k, ts, nm, p, tx, n⟩)
    have h2 := addT_len l ⟨k, ts, nm, p, tx, n⟩
    simp only [colT, tzT]
    omega
theorem colL_len : ∀ (ts : List S42) (l : List S42), (colL l ts).length ≤ l.length + tzL ts
  | [], l => by simp [colL, tzL]
  | t :: ts, l => by
    have h1 := colL_len ts (colT l t)
    have h2 := colT_len t l
    simp only [colL, tzL]
    omega
end
theorem tzL_drop {ts : List S42} {k : Nat} (h : k < ts.length) : tzL (ts.drop k) = tzT ts[k] + tzL (ts.drop (k + 1)) := by rw [drop_at h]; rfl
theorem simple_s (t : S42) : prove_simple_s t.Kind t.Tests t.Name t.Pattern t.Text t.N = some (decide (t.Kind > 4)) := prove_simple_eq rfl

theorem eta_T (t : S42) : (⟨t.Kind, t.Tests, t.Name, t.Pattern, t.Text, t.N⟩ : S42) = t := by cases t; rfl
abbrev many : Nat := 1000000000
theorem col_loop (ts : List S42) (hl : ts.length ≤ big) (ih : ∀ t ∈ ts, ∀ l : List S42, l.length + tzT t ≤ many → prove_collect_h5 l.length t.Kind t.Tests t.Name t.Pattern t.Text t.N l = some ((colT l t).length, (colT l t).length, colT l t)) :
    ∀ m k (l : List S42), k + m = ts.length → l.length + tzL (ts.drop k) ≤ many → ∃ x, prove_collect_h5_l4 l.length ts ts.length k l = some x ∧ x.1.1 = (colL l (ts.drop k)).length ∧ x.2 = colL l (ts.drop k) := by
  intro m
  induction m with
  | zero =>
    intro k l hk _
    have hk : k = ts.length := by omega
    subst hk
    refine ⟨((l.length, ts, (ts.length : Int), (ts.length : Int), false), l), prove_collect_h5_l4_eq (by
      simp only [prove_collect_h5_l4_t, brE_if, gdE_if, EC.decL_encL, EC.isL_encL, EC.encL_length, isE_42, at_42_0, at_42_1, at_42_2, at_42_3, at_42_4, at_42_5]
      simp), ?_⟩
    rw [List.drop_length]; exact ⟨rfl, rfl⟩
  | succ m ihm =>
    intro k l hk hb
    have hlt : k < ts.length := by omega
    have e1 : decide ((k : Int) < (ts.length : Int)) = true := by simp; omega
    have e0 : decide ((0 : Int) ≤ (k : Int)) = true := by simp
    have e2 : IntKind.i64.wrap ((k : Int) + 1) = ((k + 1 : Nat) : Int) := wr_nat hlt (by unfold big at hl; omega)
    have hd2 : decide (k < ts.length) = true := by simp [hlt]
    rw [tzL_drop hlt] at hb
    have hi := ih ts[k] (List.getElem_mem hlt) l (by omega)
    have hlen := colT_len ts[k] l
    obtain ⟨x, h1, h2, h3⟩ := ihm (k + 1) (colT l ts[k]) (by omega) (by omega)
    refine ⟨x, prove_collect_h5_l4_eq ?_, ?_, ?_⟩
    · simp only [prove_collect_h5_l4_t, brE_if, gdE_if, EC.decL_encL, EC.isL_encL, EC.encL_length, isE_42, at_42_0, at_42_1, at_42_2, at_42_3, at_42_4, at_42_5, e1, e0, if_true, Int.toNat_natCast, hd2, Bool.and_self, getD_in hlt, hi, Option.bind_some, e2]
      exact h1
    · rw [drop_at hlt, colL]; exact h2
    · rw [drop_at hlt, colL]; exact h3
theorem collect_s : ∀ (q : Nat) (t : S42), tzT t = q → okT t → ∀ l : List S42, l.length + tzT t ≤ many → prove_collect_h5 l.length t.Kind t.Tests t.Name t.Pattern t.Text t.N l = some ((colT l t).length, (colT l t).length, colT l t) := by
  intro q
  induction q using Nat.strongRecOn with
  | _ q ih =>
    intro t hq ho l hb
    obtain ⟨hl, hol⟩ := (okT_eq t).1 ho
    have hz := tzT_eq t
    have hlb : l.length ≤ big := by unfold many at hb; unfold big; omega
    have ha := addT_len l t
    obtain ⟨x, h1, h2, h3⟩ := col_loop t.Tests hl (fun t' ht' l' hb' => ih (tzT t') (by have := tz_mem ht'; omega) t' rfl (okTL_get hol ht') l' hb') t.Tests.length 0 (addT l t) (by omega) (by rw [List.drop_zero]; omega)
    have h1 : prove_collect_h5_l4 (addT l t).length t.Tests t.Tests.length 0 (addT l t) = some x := h1
    rw [List.drop_zero] at h2 h3
    rw [colT_eq]
    refine prove_collect_h5_eq ?_
    simp only [prove_collect_h5_t, brE_if, gdE_if, EC.decL_encL, EC.isL_encL, EC.encL_length, all_42, apd_42, simple_s, find_s l hlb, Option.bind_some, if_true, fnd_neg]
    unfold addT at h1 h2 h3
    cases hk : decide (t.Kind > 4) with
    | false =>
      rw [hk] at h1 h2 h3
      simp only [Bool.false_and, Bool.false_eq_true, if_false] at h1 h2 h3
      simp [addT, hk, h1, h2, h3]
    | true =>
      cases hh : hasB l t with
      | true =>
        rw [hk, hh] at h1 h2 h3
        simp only [Bool.not_true, Bool.and_false, Bool.false_eq_true, if_false] at h1 h2 h3
        simp [addT, hk, hh, h1, h2, h3]
      | false =>
        rw [hk, hh] at h1 h2 h3
        simp only [Bool.not_false, Bool.and_self, if_true, List.length_append, List.length_cons, List.length_nil, Nat.zero_add] at h1 h2 h3
        have g1 : (l.length + 1 + (l.length + 1) / 4 + 192) * 80 ≤ 281474976710656 := by unfold many at hb; omega
        have g2 : l.length + 1 ≤ 9223372036854775807 := by unfold many at hb; omega
        simp [addT, hk, hh, g1, g2]
        rw [eta_T t, h1]
        simp [h2, h3]

/-- the test of a rule -/
def tOf (r : S44) : S42 := ⟨r.Test_Kind, r.Test_Tests, r.Test_Name, r.Test_Pattern, r.Test_Text, r.Test_N⟩
end Go.Proofs.Ytokahibbkdbndaa
/- The different simple tests of a script: what the program collects. -/
namespace Go.Proofs.Ytokahibbkdbndaa
open Go.RowKit
mutual
/-- how many tests a script has -/
def tsz : S44 → Nat
  | ⟨_, k, ts, nm, p, tx, n, t, e, _, _, _, _⟩ => tzT ⟨k, ts, nm, p, tx, n⟩ + tszL t + tszL e
def tszL : List S44 → Nat
  | [] => 0
  | r :: l => tsz r + tszL l
end
theorem tsz_eq (r : S44) : tsz r = tzT (tOf r) + tszL r.Then + tszL r.Else := by cases r; rfl
mutual
/-- the different simple tests of a script -/
def tsR : List S42 → S44 → List S42
  | l, ⟨kd, k, ts, nm, p, tx, n, t, e, _, _, _, _⟩ => tsL (tsL (if (kd == 1) = true then colT l ⟨k, ts, nm, p, tx, n⟩ else l) t) e
def tsL : List S42 → List S44 → List S42
  | l, [] => l
  | l, r :: rs => tsL (tsR l r) rs
end
theorem tsR_eq (l : List S42) (r : S44) : tsR l r = tsL (tsL (if (r.Kind == 1) = true then colT l (tOf r) else l) r.Then) r.Else := by cases r; rfl
mutual
theorem tsR_len : ∀ (r : S44) (l : List S42), (tsR l r).length ≤ l.length + tsz r
  | ⟨kd, k, ts, nm, p, tx, n, t, e, a1, a2, a3, a4⟩, l => by
    have h1 := tsL_len e (tsL (if (kd == 1) = true then colT l ⟨k, ts, nm, p, tx, n⟩ else l) t)
    have h2 := tsL_len t (if (kd == 1) = true then colT l ⟨k, ts, nm, p, tx, n⟩ else l)
    have h3 : (if (kd == 1) = true then colT l ⟨k, ts, nm, p, tx, n⟩ else l).length ≤ l.length + tzT ⟨k, ts, nm, p, tx, n⟩ := by
      split
      · exact colT_len _ _
      · omega
    simp only [tsR, tsz]
    omega
theorem tsL_len : ∀ (rs : List S44) (l : List S42), (tsL l rs).length ≤ l.length + tszL rs
  | [], l => by simp [tsL, tszL]
  | r :: rs, l => by
    have h1 := tsL_len rs (tsR l r)
    have h2 := tsR_len r l
    simp only [tsL, tszL]
    omega
end
theorem tszL_drop {l : List S44} {k : Nat} (h : k < l.length) : tszL (l.drop k) = tsz l[k] + tszL (l.drop (k + 1)) := by rw [drop_at h]; rfl

theorem tests_loop (s : List S44) (hl : s.length ≤ big) (ho : okL s) (ih : ∀ r ∈ s, (∀ l : List S42, l.length + tszL r.Then ≤ many → prove_tests_h4 l.length r.Then l = some ((tsL l r.Then).length, (tsL l r.Then).length, tsL l r.Then)) ∧ (∀ l : List S42, l.length + tszL r.Else ≤ many → prove_tests_h4 l.length r.Else l = some ((tsL l r.Else).length, (tsL l r.Else).length, tsL l r.Else))) :
    ∀ m k (l : List S42), k + m = s.length → l.length + tszL (s.drop k) ≤ many → ∃ x, prove_tests_h4_l2 l.length s s.length k l = some x ∧ x.1.1 = (tsL l (s.drop k)).length ∧ x.2 = tsL l (s.drop k) := by
  intro m
  induction m with
  | zero =>
    intro k l hk _
    have hk : k = s.length := by omega
    subst hk
    refine ⟨((l.length, s, (s.length : Int), (s.length : Int), false), l), prove_tests_h4_l2_eq (by
      simp only [prove_tests_h4_l2_t, brE_if, gdE_if, EC.decL_encL, EC.isL_encL, EC.encL_length, isE_44, at_44_0, at_44_1, at_44_2, at_44_3, at_44_4, at_44_5, at_44_6, at_44_7, at_44_8]
      simp), ?_⟩
    rw [List.drop_length]; exact ⟨rfl, rfl⟩
  | succ m ihm =>
    intro k l hk hb
    have hlt : k < s.length := by omega
    have e1 : decide ((k : Int) < (s.length : Int)) = true := by simp; omega
    have e0 : decide ((0 : Int) ≤ (k : Int)) = true := by simp
    have e2 : IntKind.i64.wrap ((k : Int) + 1) = ((k + 1 : Nat) : Int) := wr_nat hlt (by unfold big at hl; omega)
    have hd2 : decide (k < s.length) = true := by simp [hlt]
    rw [tszL_drop hlt, tsz_eq] at hb
    obtain ⟨⟨o1, o2⟩, _⟩ := (okR_eq s[k]).1 (okL_get ho (List.getElem_mem hlt))
    obtain ⟨i1, i2⟩ := ih s[k] (List.getElem_mem hlt)
    have hc := collect_s _ (tOf s[k]) rfl ⟨o1, o2⟩ l (by omega)
    have hc : prove_collect_h5 l.length s[k].Test_Kind s[k].Test_Tests s[k].Test_Name s[k].Test_Pattern s[k].Test_Text s[k].Test_N l = _ := hc
    have hcl := colT_len (tOf s[k]) l
    have hrl := tsR_len s[k] l
    rw [tsz_eq] at hrl
    obtain ⟨x, h1, h2, h3⟩ := ihm (k + 1) (tsR l s[k]) (by omega) (by omega)
    refine ⟨x, prove_tests_h4_l2_eq ?_, ?_, ?_⟩
    · rw [tsR_eq] at h1
      simp only [prove_tests_h4_l2_t, brE_if, gdE_if, EC.decL_encL, EC.isL_encL, EC.encL_length, isE_44, at_44_0, at_44_1, at_44_2, at_44_3, at_44_4, at_44_5, at_44_6, at_44_7, at_44_8, e1, e0, if_true, Int.toNat_natCast, hd2, Bool.and_self, getD_in hlt, e2]
      cases hk1 : (s[k].Kind == 1) with
      | true =>
        rw [hk1, if_pos rfl] at h1
        have hl1 := tsL_len s[k].Then (colT l (tOf s[k]))
        simp only [if_true, hc, Option.bind_some, i1 (colT l (tOf s[k])) (by omega), i2 (tsL (colT l (tOf s[k])) s[k].Then) (by omega)]
        exact h1
      | false =>
        rw [hk1, if_neg (by decide)] at h1
        have hl1 := tsL_len s[k].Then l
        simp only [Bool.false_eq_true, if_false, Option.bind_some, i1 l (by omega), i2 (tsL l s[k].Then) (by omega)]
        exact h1
    · rw [drop_at hlt, tsL]; exact h2
    · rw [drop_at hlt, tsL]; exact h3
theorem tests_s : ∀ (q : Nat) (s : List S44), szL s = q → s.length ≤ big → okL s → ∀ l : List S42, l.length + tszL s ≤ many → prove_tests_h4 l.length s l = some ((tsL l s).length, (tsL l s).length, tsL l s) := by
  intro q
  induction q using Nat.strongRecOn with
  | _ q ih =>
    intro s hq hl ho l hb
    obtain ⟨x, h1, h2, h3⟩ := tests_loop s hl ho (fun r hr => by
      have := (okR_eq r).1 (okL_get ho hr)
      exact ⟨fun l hb => ih _ (hq ▸ sz_then hr) r.Then rfl this.2.1.1 this.2.1.2 l hb, fun l hb => ih _ (hq ▸ sz_else hr) r.Else rfl this.2.2.1.1 this.2.2.1.2 l hb⟩) s.length 0 l (by omega) (by rw [List.drop_zero]; exact hb)
    have e : prove_tests_h4_l2 l.length s s.length 0 l = some x := h1
    rw [List.drop_zero] at h2 h3
    refine prove_tests_h4_eq ?_
    simp only [prove_tests_h4_t, gdE_if, EC.decL_encL, EC.isL_encL, EC.encL_length, if_true, e, Option.bind_some, h2, h3]
end Go.Proofs.Ytokahibbkdbndaa
/- The different simple tests of a valid script: the reference collects the same. -/
namespace Go.Proofs.Ytokahibbkdbndaa
open Go.RowKit

/-- a test, a script without fault -/
def okvT (t : S42) : Prop := ∃ d, tfT t d = 0
def okvL (l : List S44) : Prop := ∃ n d m, n ≤ 100 ∧ ckL l n d = .inr m
theorem tfL_mem {d : Nat} : ∀ {ts : List S42}, tfL ts d = 0 → ∀ t ∈ ts, tfT t d = 0
  | [], _, t, h => by cases h
  | x :: ts, h0, t, h => by
    unfold tfL at h0
    split at h0
    · rename_i hne; exact absurd h0 hne
    · rename_i hx
      rcases List.mem_cons.1 h with rfl | h
      · simpa using hx
      · exact tfL_mem h0 t h
theorem okvT_child {t : S42} (h : okvT t) {t' : S42} (ht : t' ∈ t.Tests) : okvT t' := by
  obtain ⟨d, h⟩ := h
  rw [tfT_eq] at h
  split at h
  · rename_i hne; exact absurd h hne
  · exact ⟨d + 1, tfL_mem h t' ht⟩
theorem okvT_head {t : S42} (h : okvT t) : (1 ≤ t.Kind ∧ t.Kind ≤ 9) ∧ innerB t.Kind t.Tests.length = true := by
  obtain ⟨d, h⟩ := h
  rw [tfT_eq] at h
  split at h
  · rename_i hne; exact absurd h hne
  · rename_i h0
    have h0 : tHead t.Kind t.Tests.length t.Name t.Pattern t.Text t.N d = 0 := by simpa using h0
    unfold tHead at h0
    split at h0
    · cases h0
    split at h0
    · cases h0
    rename_i h2
    split at h0
    · cases h0
    rename_i h3
    simp only [Bool.or_eq_true, decide_eq_true_eq, not_or] at h2
    exact ⟨by omega, by simpa using h3⟩
theorem okvT_leaf {t : S42} (h : okvT t) (hk : ¬ (2 ≤ t.Kind ∧ t.Kind ≤ 4)) : t.Tests = [] := by
  have := (okvT_head h).2
  unfold innerB at this
  rw [if_neg (by omega), if_neg (by omega)] at this
  exact List.eq_nil_of_length_eq_zero (by simpa using this)
theorem okvR {l : List S44} (h : okvL l) {r : S44} (hr : r ∈ l) : rHead r = 0 ∧ okvL r.Then ∧ okvL r.Else := by
  obtain ⟨n, d, m, hn, hc⟩ := h
  induction l generalizing n with
  | nil => cases hr
  | cons x l ih =>
    unfold ckL at hc
    split at hc
    · cases hc
    rename_i h100
    split at hc
    · cases hc
    rename_i hrc
    cases hq : ckR x n d with
    | inl f => rw [hq] at hc; cases hc
    | inr n2 =>
      rw [hq] at hc
      have hn2 : n2 ≤ 100 := by
        have := (ck_sz (szL [x]) [x] rfl n d hn).1 n2 (by simp only [ckL]; rw [if_neg h100, if_neg hrc, hq])
        exact this.2
      rcases List.mem_cons.1 hr with rfl | hr
      · have h0 : rc r d = 0 := by simpa using hrc
        refine ⟨?_, ?_⟩
        · unfold rc at h0
          split at h0
          · cases h0
          · exact h0
        · rw [ckR_eq] at hq
          cases ht : ckL r.Then (n + 1) (d + 1) with
          | inl f => rw [ht] at hq; cases hq
          | inr n1 =>
            rw [ht] at hq
            exact ⟨⟨n + 1, d + 1, n1, by omega, ht⟩, ⟨n1, d + 1, n2, (ck_inr (by omega) ht).2, hq⟩⟩
      · exact ih hr n2 hn2 hc
theorem okvR_test {r : S44} (h : rHead r = 0) (hk : (r.Kind == 1) = true) : okvT (tOf r) := by
  unfold rHead at h
  split at h
  · cases h
  split at h
  · cases h
  · exact ⟨1, h⟩

def leafs (l : List S42) : Prop := ∀ x ∈ l, x.Tests = []
theorem sameTest_s (a b : S42) (ha : a.Tests = []) (hb : b.Tests = []) : posthouseref6_SameTest_s a.Kind a.Tests a.Name a.Pattern a.Text a.N b.Kind b.Tests b.Name b.Pattern b.Text b.N = some (sameB a b) := by
  have h3 : posthouseref6_SameTest_g3 a.Kind [] a.Name a.Pattern a.Text a.N b.Kind [] b.Name b.Pattern b.Text b.N = some (true, ()) := by
    have h4 : posthouseref6_SameTest_l4 0 a.Kind [] a.Name a.Pattern a.Text a.N b.Kind [] b.Name b.Pattern b.Text b.N = some (.inr (((), (), 0, false), ((a.Kind, [], a.Name, a.Pattern, a.Text, a.N), (b.Kind, [], b.Name, b.Pattern, b.Text, b.N)))) := posthouseref6_SameTest_l4_eq (by
      simp only [posthouseref6_SameTest_l4_t, brE_if, gdE_if, EC.decL_encL, EC.isL_encL, EC.encL_length, isE_42, at_42_0, at_42_1, at_42_2, at_42_3, at_42_4, at_42_5]
      simp)
    refine posthouseref6_SameTest_g3_eq ?_
    simp only [posthouseref6_SameTest_g3_t, gdE_if, EC.decL_encL, EC.isL_encL, if_true, h4, Option.bind_some, Sum.elim_inr]
  refine posthouseref6_SameTest_eq ?_
  rw [ha, hb]
  simp only [posthouseref6_SameTest_t, brE_if, gdE_if, EC.decL_encL, EC.isL_encL, EC.encL_length, if_true, h3, Option.bind_some, bne, sameB, List.length_nil]
  cases (a.Kind == b.Kind) <;> cases (a.Name.toList == b.Name.toList) <;> cases (a.Pattern == b.Pattern) <;> cases (a.Text.toList == b.Text.toList) <;> cases (a.N == b.N) <;> rfl
theorem simple_l8 (l : List S42) (hl : l.length ≤ big) (hlf : leafs l) (t : S42) (ht : t.Tests = []) : ∀ m k, k + m = l.length → posthouseref6_Simple_l8 l k t.Kind t.Tests t.Name t.Pattern t.Text t.N = some (if hasB (l.drop k) t = true then .inl (l, ()) else .inr ((l, (), (l.length : Int), false), (t.Kind, t.Tests, t.Name, t.Pattern, t.Text, t.N))) := by
  intro m
  induction m with
  | zero =>
    intro k hk
    have hk : k = l.length := by omega
    subst hk
    refine posthouseref6_Simple_l8_eq ?_
    rw [List.drop_length]
    simp only [posthouseref6_Simple_l8_t, brE_if, gdE_if, EC.decL_encL, EC.isL_encL, EC.encL_length, isE_42, at_42_0, at_42_1, at_42_2, at_42_3, at_42_4, at_42_5]
    simp [hasB]
  | succ m ihm =>
    intro k hk
    have hlt : k < l.length := by omega
    have e1 : decide ((k : Int) < (l.length : Int)) = true := by simp; omega
    have e0 : decide ((0 : Int) ≤ (k : Int)) = true := by simp
    have e2 : IntKind.i64.wrap ((k : Int) + 1) = ((k + 1 : Nat) : Int) := wr_nat hlt (by unfold big at hl; omega)
    have hd2 : decide (k < l.length) = true := by simp [hlt]
    have hs := sameTest_s l[k] t (hlf _ (List.getElem_mem hlt)) ht
    refine posthouseref6_Simple_l8_eq ?_
    rw [drop_at hlt, hasB, List.any_cons]
    simp only [posthouseref6_Simple_l8_t, brE_if, gdE_if, EC.decL_encL, EC.isL_encL, EC.encL_length, isE_42, at_42_0, at_42_1, at_42_2, at_42_3, at_42_4, at_42_5, e1, e0, if_true, Int.toNat_natCast, hd2, Bool.and_self, getD_in hlt, hs, Option.bind_some, e2, ihm (k + 1) (by omega)]
    cases sameB l[k] t <;> rfl
theorem simple_l3 (ts : List S42) (hl : ts.length ≤ big) (b0 b3 b5 : Int) (b2 b4 : ByteArray) (ih : ∀ t ∈ ts, ∀ l : List S42, leafs l → l.length + tzT t ≤ many → posthouseref6_Simple_s l t.Kind t.Tests t.Name t.Pattern t.Text t.N = some (colT l t) ∧ leafs (colT l t)) :
    ∀ m k (l : List S42), k + m = ts.length → leafs l → l.length + tzL (ts.drop k) ≤ many → (∃ x, posthouseref6_Simple_l3 l k b0 ts b2 b3 b4 b5 = some x ∧ x.1.1 = colL l (ts.drop k)) ∧ leafs (colL l (ts.drop k)) := by
  intro m
  induction m with
  | zero =>
    intro k l hk hlf _
    have hk : k = ts.length := by omega
    subst hk
    rw [List.drop_length]
    exact ⟨⟨_, posthouseref6_Simple_l3_eq (r := ((l, (), (ts.length : Int), false), (b0, ts, b2, b3, b4, b5))) (by
      simp only [posthouseref6_Simple_l3_t, brE_if, gdE_if, EC.decL_encL, EC.isL_encL, EC.encL_length, isE_42, at_42_0, at_42_1, at_42_2, at_42_3, at_42_4, at_42_5]
      simp), rfl⟩, hlf⟩
  | succ m ihm =>
    intro k l hk hlf hb
    have hlt : k < ts.length := by omega
    have e1 : decide ((k : Int) < (ts.length : Int)) = true := by simp; omega
    have e0 : decide ((0 : Int) ≤ (k : Int)) = true := by simp
    have e2 : IntKind.i64.wrap ((k : Int) + 1) = ((k + 1 : Nat) : Int) := wr_nat hlt (by unfold big at hl; omega)
    have hd2 : decide (k < ts.length) = true := by simp [hlt]
    rw [tzL_drop hlt] at hb
    obtain ⟨i1, i2⟩ := ih ts[k] (List.getElem_mem hlt) l hlf (by omega)
    have hcl := colT_len ts[k] l
    obtain ⟨⟨x, h1, h2⟩, h3⟩ := ihm (k + 1) (colT l ts[k]) (by omega) i2 (by omega)
    rw [drop_at hlt, colL]
    refine ⟨⟨x, posthouseref6_Simple_l3_eq ?_, h2⟩, h3⟩
    simp only [posthouseref6_Simple_l3_t, brE_if, gdE_if, EC.decL_encL, EC.isL_encL, EC.encL_length, isE_42, at_42_0, at_42_1, at_42_2, at_42_3, at_42_4, at_42_5, e1, e0, if_true, Int.toNat_natCast, hd2, Bool.and_self, getD_in hlt, i1, Option.bind_some, e2]
    exact h1
theorem room {n : Nat} (h : n ≤ many) : (n + n / 4 + 192) * 80 ≤ 281474976710656 := by unfold many at h; omega
theorem room' {n : Nat} (h : n ≤ many) : n ≤ 9223372036854775807 := by unfold many at h; omega
theorem simple_ref : ∀ (q : Nat) (t : S42), tzT t = q → okT t → okvT t → ∀ l : List S42, leafs l → l.length + tzT t ≤ many → posthouseref6_Simple_s l t.Kind t.Tests t.Name t.Pattern t.Text t.N = some (colT l t) ∧ leafs (colT l t) := by
  intro q
  induction q using Nat.strongRecOn with
  | _ q ih =>
    intro t hq ho hv l hlf hb
    obtain ⟨hl, hol⟩ := (okT_eq t).1 ho
    have hz := tzT_eq t
    have hlb : l.length ≤ big := by unfold many at hb; unfold big; omega
    obtain ⟨⟨k1, k9⟩, _⟩ := okvT_head hv
    by_cases hk : 2 ≤ t.Kind ∧ t.Kind ≤ 4
    · have ha : addT l t = l := by unfold addT; rw [show decide (t.Kind > 4) = false from decide_eq_false (by omega)]; rfl
      obtain ⟨⟨x, h1, h2⟩, h3⟩ := simple_l3 t.Tests hl t.Kind t.Pattern t.N t.Name t.Text (fun t' ht' l' hlf' hb' => ih (tzT t') (by have := tz_mem ht'; omega) t' rfl (okTL_get hol ht') (okvT_child hv ht') l' hlf' hb') t.Tests.length 0 l (by omega) hlf (by rw [List.drop_zero]; omega)
      have h1 : posthouseref6_Simple_l3 l 0 t.Kind t.Tests t.Name t.Pattern t.Text t.N = some x := h1
      rw [List.drop_zero] at h2 h3
      rw [colT_eq, ha]
      refine ⟨posthouseref6_Simple_eq ?_, h3⟩
      have hin : (decide ((2 : Int) ≤ t.Kind) && decide (t.Kind ≤ 4)) = true := by simp [hk.1, hk.2]
      simp only [posthouseref6_Simple_t, brE_if, gdE_if, EC.decL_encL, EC.isL_encL, EC.encL_length, all_42, apd_42, in_s, hin, if_true, Option.bind_some, h1, h2]
    · have hts := okvT_leaf hv hk
      have hin : (decide ((2 : Int) ≤ t.Kind) && decide (t.Kind ≤ 4)) = false := by
        rw [Bool.and_eq_false_iff, decide_eq_false_iff_not, decide_eq_false_iff_not]; omega
      have h8 := simple_l8 l hlb hlf t hts l.length 0 (by omega)
      have h8 : posthouseref6_Simple_l8 l 0 t.Kind t.Tests t.Name t.Pattern t.Text t.N = _ := h8
      rw [List.drop_zero] at h8
      have hcol : colT l t = addT l t := by rw [colT_eq, hts]; rfl
      rw [hcol]
      have g1 : (l.length + l.length / 4 + 192) * 80 ≤ 281474976710656 := room (by omega)
      have g2 : l.length ≤ 9223372036854775807 := room' (by omega)
      have g3 : (l.length + 1 + (l.length + 1) / 4 + 192) * 80 ≤ 281474976710656 := room (by omega)
      have g4 : l.length + 1 ≤ 9223372036854775807 := room' (by omega)
      cases hh : hasB l t with
      | true =>
        rw [hh, if_pos rfl] at h8
        have ha : addT l t = l := by unfold addT; rw [hh]; simp
        rw [ha]
        refine ⟨posthouseref6_Simple_eq ?_, hlf⟩
        simp only [posthouseref6_Simple_t, brE_if, gdE_if, EC.decL_encL, EC.isL_encL, EC.encL_length, all_42, apd_42, in_s, hin, Bool.false_eq_true, if_false, if_true, Option.bind_some, h8, Sum.elim_inl]
      | false =>
        rw [hh, if_neg (by decide)] at h8
        by_cases h1 : t.Kind = 1
        · have ha : addT l t = l := by unfold addT; rw [show decide (t.Kind > 4) = false from decide_eq_false (by omega)]; rfl
          rw [ha]
          have hb1 : (t.Kind == 1) = true := by simp [h1]
          refine ⟨posthouseref6_Simple_eq ?_, hlf⟩
          simp only [posthouseref6_Simple_t, brE_if, gdE_if, EC.decL_encL, EC.isL_encL, EC.encL_length, all_42, apd_42, in_s, hin, Bool.false_eq_true, if_false, if_true, Option.bind_some, h8, Sum.elim_inr, hb1]
        · have ha : addT l t = l ++ [t] := by unfold addT; rw [hh, show decide (t.Kind > 4) = true from decide_eq_true (by omega)]; rfl
          rw [ha]
          refine ⟨posthouseref6_Simple_eq ?_, fun x hx => ?_⟩
          · have hne : (t.Kind == 1) = false := by simpa using h1
            simp only [posthouseref6_Simple_t, brE_if, gdE_if, EC.decL_encL, EC.isL_encL, EC.encL_length, all_42, apd_42, in_s, hin, Bool.false_eq_true, if_false, if_true, Option.bind_some, h8, Sum.elim_inr, hne]
            simp [g1, g2, g3, g4, eta_T]
          · rcases List.mem_append.1 hx with hx | hx
            · exact hlf x hx
            · have : x = t := by simpa using hx
              rw [this]; exact hts
end Go.Proofs.Ytokahibbkdbndaa
/- The different simple tests of a valid script: the reference's list (SimpleTests), its fault (ProveFault). -/
namespace Go.Proofs.Ytokahibbkdbndaa
open Go.RowKit

theorem simpleTests_loop (s : List S44) (hl : s.length ≤ big) (ho : okL s) (hv : ∀ r ∈ s, rHead r = 0) (ih : ∀ r ∈ s, (∀ l : List S42, leafs l → l.length + tszL r.Then ≤ many → posthouseref6_SimpleTests_s l r.Then = some (tsL l r.Then) ∧ leafs (tsL l r.Then)) ∧ (∀ l : List S42, leafs l → l.length + tszL r.Else ≤ many → posthouseref6_SimpleTests_s l r.Else = some (tsL l r.Else) ∧ leafs (tsL l r.Else))) :
    ∀ m k (l : List S42), k + m = s.length → leafs l → l.length + tszL (s.drop k) ≤ many → (∃ x, posthouseref6_SimpleTests_l2 l s k = some x ∧ x.1.1 = tsL l (s.drop k)) ∧ leafs (tsL l (s.drop k)) := by
  intro m
  induction m with
  | zero =>
    intro k l hk hlf _
    have hk : k = s.length := by omega
    subst hk
    rw [List.drop_length]
    exact ⟨⟨((l, s, (s.length : Int), false), ()), posthouseref6_SimpleTests_l2_eq (by
      simp only [posthouseref6_SimpleTests_l2_t, brE_if, gdE_if, EC.decL_encL, EC.isL_encL, EC.encL_length, isE_44, at_44_0, at_44_1, at_44_2, at_44_3, at_44_4, at_44_5, at_44_6, at_44_7, at_44_8]
      simp), rfl⟩, hlf⟩
  | succ m ihm =>
    intro k l hk hlf hb
    have hlt : k < s.length := by omega
    have e1 : decide ((k : Int) < (s.length : Int)) = true := by simp; omega
    have e0 : decide ((0 : Int) ≤ (k : Int)) = true := by simp
    have e2 : IntKind.i64.wrap ((k : Int) + 1) = ((k + 1 : Nat) : Int) := wr_nat hlt (by unfold big at hl; omega)
    have hd2 : decide (k < s.length) = true := by simp [hlt]
    rw [tszL_drop hlt, tsz_eq] at hb
    obtain ⟨⟨o1, o2⟩, _⟩ := (okR_eq s[k]).1 (okL_get ho (List.getElem_mem hlt))
    have hv0 := hv s[k] (List.getElem_mem hlt)
    obtain ⟨i1, i2⟩ := ih s[k] (List.getElem_mem hlt)
    have hcl := colT_len (tOf s[k]) l
    have hrl := tsR_len s[k] l
    rw [tsz_eq] at hrl
    cases hk1 : (s[k].Kind == 1) with
    | true =>
      have hc := simple_ref _ (tOf s[k]) rfl ⟨o1, o2⟩ (okvR_test hv0 hk1) l hlf (by omega)
      obtain ⟨hc, hcf⟩ := hc
      have hc : posthouseref6_Simple_s l s[k].Test_Kind s[k].Test_Tests s[k].Test_Name s[k].Test_Pattern s[k].Test_Text s[k].Test_N = _ := hc
      obtain ⟨j1, f1⟩ := i1 (colT l (tOf s[k])) hcf (by omega)
      have hl1 := tsL_len s[k].Then (colT l (tOf s[k]))
      obtain ⟨j2, f2⟩ := i2 (tsL (colT l (tOf s[k])) s[k].Then) f1 (by omega)
      have hR : tsR l s[k] = tsL (tsL (colT l (tOf s[k])) s[k].Then) s[k].Else := by rw [tsR_eq, hk1, if_pos rfl]
      obtain ⟨⟨x, h1, h2⟩, h3⟩ := ihm (k + 1) (tsR l s[k]) (by omega) (hR ▸ f2) (by omega)
      rw [drop_at hlt, tsL]
      refine ⟨⟨x, posthouseref6_SimpleTests_l2_eq ?_, h2⟩, h3⟩
      rw [hR] at h1
      simp only [posthouseref6_SimpleTests_l2_t, brE_if, gdE_if, EC.decL_encL, EC.isL_encL, EC.encL_length, isE_44, at_44_0, at_44_1, at_44_2, at_44_3, at_44_4, at_44_5, at_44_6, at_44_7, at_44_8, e1, e0, if_true, Int.toNat_natCast, hd2, Bool.and_self, getD_in hlt, hk1, hc, j1, j2, Option.bind_some, e2]
      exact h1
    | false =>
      obtain ⟨j1, f1⟩ := i1 l hlf (by omega)
      have hl1 := tsL_len s[k].Then l
      obtain ⟨j2, f2⟩ := i2 (tsL l s[k].Then) f1 (by omega)
      have hR : tsR l s[k] = tsL (tsL l s[k].Then) s[k].Else := by rw [tsR_eq, hk1, if_neg (by decide)]
      obtain ⟨⟨x, h1, h2⟩, h3⟩ := ihm (k + 1) (tsR l s[k]) (by omega) (hR ▸ f2) (by omega)
      rw [drop_at hlt, tsL]
      refine ⟨⟨x, posthouseref6_SimpleTests_l2_eq ?_, h2⟩, h3⟩
      rw [hR] at h1
      simp only [posthouseref6_SimpleTests_l2_t, brE_if, gdE_if, EC.decL_encL, EC.isL_encL, EC.encL_length, isE_44, at_44_0, at_44_1, at_44_2, at_44_3, at_44_4, at_44_5, at_44_6, at_44_7, at_44_8, e1, e0, if_true, Int.toNat_natCast, hd2, Bool.and_self, getD_in hlt, hk1, Bool.false_eq_true, if_false, j1, j2, Option.bind_some, e2]
      exact h1
theorem simpleTests_s : ∀ (q : Nat) (s : List S44), szL s = q → s.length ≤ big → okL s → okvL s → ∀ l : List S42, leafs l → l.length + tszL s ≤ many → posthouseref6_SimpleTests_s l s = some (tsL l s) ∧ leafs (tsL l s) := by
  intro q
  induction q using Nat.strongRecOn with
  | _ q ih =>
    intro s hq hl ho hv l hlf hb
    obtain ⟨⟨x, h1, h2⟩, h3⟩ := simpleTests_loop s hl ho (fun r hr => (okvR hv hr).1) (fun r hr => by
      have := (okR_eq r).1 (okL_get ho hr)
      have hvr := okvR hv hr
      exact ⟨fun l hlf hb => ih _ (hq ▸ sz_then hr) r.Then rfl this.2.1.1 this.2.1.2 hvr.2.1 l hlf hb, fun l hlf hb => ih _ (hq ▸ sz_else hr) r.Else rfl this.2.2.1.1 this.2.2.1.2 hvr.2.2 l hlf hb⟩) s.length 0 l (by omega) hlf (by rw [List.drop_zero]; exact hb)
    have e : posthouseref6_SimpleTests_l2 l s 0 = some x := h1
    rw [List.drop_zero] at h2 h3
    refine ⟨posthouseref6_SimpleTests_eq ?_, h3⟩
    simp only [posthouseref6_SimpleTests_t, gdE_if, EC.decL_encL, EC.isL_encL, if_true, e, Option.bind_some, h2]
end Go.Proofs.Ytokahibbkdbndaa
/- What a test says under outcomes: prove.holds. -/
namespace Go.Proofs.Ytokahibbkdbndaa
open Go.RowKit

def bitB (o i : Int) : Bool := (o / (2 ^ i.toNat)) % 2 == 1
theorem bit_p (o : Int) (ho : 0 ≤ o) (i : Nat) (hi : i ≤ 60) : (IntKind.i64.wrap (((BitVec.ofInt (IntKind.bits IntKind.i64) (Int.fdiv o ((2 : Int) ^ (Min.min (Int.toNat (i : Int)) (IntKind.bits IntKind.i64)))) &&& BitVec.ofInt (IntKind.bits IntKind.i64) 1).toNat : Nat) : Int) == 1) = bitB o i := by
  have hm : Min.min (Int.toNat (i : Int)) (IntKind.bits IntKind.i64) = i := by
    show Nat.min _ 64 = i
    rw [Int.toNat_natCast]; exact Nat.min_eq_left (by omega)
  have hp : (0 : Int) < 2 ^ i := Int.pow_pos (by decide)
  rw [hm, Int.fdiv_eq_ediv_of_nonneg _ (Int.le_of_lt hp)]
  have hx : 0 ≤ o / 2 ^ i := Int.ediv_nonneg ho (Int.le_of_lt hp)
  unfold bitB
  rw [Int.toNat_natCast]
  generalize o / 2 ^ i = x at hx
  change (IntKind.i64.wrap (((BitVec.ofInt 64 x &&& BitVec.ofInt 64 1).toNat : Nat) : Int) == 1) = _
  have e : (BitVec.ofInt 64 x &&& BitVec.ofInt 64 1).toNat = (x % 18446744073709551616).toNat % 2 := by
    rw [BitVec.toNat_and, show (BitVec.ofInt 64 1).toNat = 1 from rfl, Nat.and_one_is_mod, BitVec.toNat_ofInt]
    rfl
  rw [e]
  have h2 : (x % 18446744073709551616).toNat % 2 = (x % 2).toNat := by omega
  rw [h2]
  rcases (by omega : x % 2 = 0 ∨ x % 2 = 1) with h | h <;> rw [h] <;> decide

mutual
/-- what a test says -/
def hT (o : Int) (c : List S42) : S42 → Bool
  | ⟨k, l, nm, p, tx, n⟩ => if (k == 1) = true then true else if (k == 2) = true then !hHd o c l else if (k == 3) = true then hAll o c l else if (k == 4) = true then hAny o c l else bitB o (fnd c ⟨k, l, nm, p, tx, n⟩ 0)
def hHd (o : Int) (c : List S42) : List S42 → Bool
  | [] => true
  | t :: _ => hT o c t
def hAll (o : Int) (c : List S42) : List S42 → Bool
  | [] => true
  | t :: l => hT o c t && hAll o c l
def hAny (o : Int) (c : List S42) : List S42 → Bool
  | [] => false
  | t :: l => hT o c t || hAny o c l
end
theorem hT_eq (o : Int) (c : List S42) (t : S42) : hT o c t = if (t.Kind == 1) = true then true else if (t.Kind == 2) = true then !hHd o c t.Tests else if (t.Kind == 3) = true then hAll o c t.Tests else if (t.Kind == 4) = true then hAny o c t.Tests else bitB o (fnd c t 0) := by cases t; rw [hT]
theorem hHd_get (o : Int) (c : List S42) : ∀ (l : List S42) (h : 0 < l.length), hHd o c l = hT o c l[0]
  | [], h => by cases h
  | _ :: _, _ => rfl
mutual
/-- each simple test of a test is in the list -/
def inT (c : List S42) : S42 → Prop
  | ⟨k, l, nm, p, tx, n⟩ => (k > 4 → hasB c ⟨k, l, nm, p, tx, n⟩ = true) ∧ inL c l
def inL (c : List S42) : List S42 → Prop
  | [] => True
  | t :: l => inT c t ∧ inL c l
end
theorem inT_eq (c : List S42) (t : S42) : inT c t ↔ (t.Kind > 4 → hasB c t = true) ∧ inL c t.Tests := by cases t; rw [inT]
theorem inL_get {c : List S42} : ∀ {l : List S42}, inL c l → ∀ {t}, t ∈ l → inT c t
  | [], _, t, h => by cases h
  | x :: l, h0, t, h => by
    rw [inL] at h0
    rcases List.mem_cons.1 h with rfl | h
    · exact h0.1
    · exact inL_get h0.2 h
theorem fnd_at (c : List S42) (t : S42) : ∀ k : Nat, hasB c t = true → ∃ i : Nat, fnd c t k = ((k + i : Nat) : Int) ∧ i < c.length := by
  induction c with
  | nil => intro k h; cases h
  | cons x c ih =>
    intro k h
    unfold hasB at h
    rw [List.any_cons] at h
    unfold fnd
    cases hs : sameB x t with
    | true => exact ⟨0, by simp, by simp⟩
    | false =>
      rw [hs, Bool.false_or] at h
      obtain ⟨i, e, hi⟩ := ih (k + 1) h
      refine ⟨i + 1, ?_, by simp; omega⟩
      rw [if_neg (by decide), e]
      congr 1; omega

section
variable (o : Int) (ho : 0 ≤ o) (c : List S42) (hc : c.length ≤ 10) (n0 n2 n3 : Nat) (rs : List Bool) (ac : List S49)
/-- what holds says at a test -/
def holdsAt (t : S42) : Prop := prove_trial_holds_h7 t.Kind t.Tests t.Name t.Pattern t.Text t.N n0 o n2 n3 c rs ac = some (hT o c t, (hT o c t, ((n0, (o, (n2, n3))), (c, (rs, ac)))))
theorem h10_s (t : S42) (h : holdsAt o c n0 n2 n3 rs ac t) : prove_trial_holds_1_h10 t.Kind t.Tests t.Name t.Pattern t.Text t.N n0 o n2 n3 c rs ac = some (!hT o c t, (!hT o c t, ((), ((n0, (o, (n2, n3))), (c, (rs, ac)))))) := by
  unfold holdsAt at h
  refine prove_trial_holds_1_h10_eq ?_
  simp only [prove_trial_holds_1_h10_t, gdE_if, EC.decL_encL, EC.isL_encL, if_true, h, Option.bind_some]
theorem h9_loop (l : List S42) (hl : l.length ≤ big) (ih : ∀ t ∈ l, holdsAt o c n0 n2 n3 rs ac t) : ∀ m k, k + m = l.length → ∃ x, api_Test__h9_l2 l l.length k n0 o n2 n3 c rs ac = some x ∧ Sum.elim (fun r => (decide (r.1 ≥ 0), r.2)) (fun r => (false, r.2)) x = (!hAll o c (l.drop k), ((), ((n0, (o, (n2, n3))), (c, (rs, ac))))) := by
  intro m
  induction m with
  | zero =>
    intro k hk
    have hk : k = l.length := by omega
    subst hk
    refine ⟨.inr ((l, ((), ((l.length : Int), ((l.length : Int), false)))), ((), ((n0, (o, (n2, n3))), (c, (rs, ac))))), api_Test__h9_l2_eq (by
      simp only [api_Test__h9_l2_t, brE_if, gdE_if, EC.decL_encL, EC.isL_encL, EC.encL_length, isE_42, at_42_0, at_42_1, at_42_2, at_42_3, at_42_4, at_42_5]
      simp), ?_⟩
    rw [List.drop_length]; rfl
  | succ m ihm =>
    intro k hk
    have hlt : k < l.length := by omega
    have e1 : decide ((k : Int) < (l.length : Int)) = true := by simp; omega
    have e0 : decide ((0 : Int) ≤ (k : Int)) = true := by simp
    have e2 : IntKind.i64.wrap ((k : Int) + 1) = ((k + 1 : Nat) : Int) := wr_nat hlt (by unfold big at hl; omega)
    have hd2 : decide (k < l.length) = true := by simp [hlt]
    have hh := h10_s o c n0 n2 n3 rs ac l[k] (ih _ (List.getElem_mem hlt))
    rw [drop_at hlt, hAll]
    cases hs : hT o c l[k] with
    | false =>
      rw [hs] at hh
      refine ⟨.inl ((k : Int), ((), ((n0, (o, (n2, n3))), (c, (rs, ac))))), api_Test__h9_l2_eq ?_, by simp⟩
      simp only [api_Test__h9_l2_t, brE_if, gdE_if, EC.decL_encL, EC.isL_encL, EC.encL_length, isE_42, at_42_0, at_42_1, at_42_2, at_42_3, at_42_4, at_42_5, e1, e0, if_true, Int.toNat_natCast, hd2, Bool.and_self, getD_in hlt, hh, Option.bind_some, Bool.not_false]
    | true =>
      rw [hs] at hh
      obtain ⟨x, h1, h2⟩ := ihm (k + 1) (by omega)
      refine ⟨x, api_Test__h9_l2_eq ?_, by rw [Bool.true_and]; exact h2⟩
      simp only [api_Test__h9_l2_t, brE_if, gdE_if, EC.decL_encL, EC.isL_encL, EC.encL_length, isE_42, at_42_0, at_42_1, at_42_2, at_42_3, at_42_4, at_42_5, e1, e0, if_true, Int.toNat_natCast, hd2, Bool.and_self, getD_in hlt, hh, Option.bind_some, Bool.not_true, Bool.false_eq_true, if_false, e2]
      exact h1
theorem h8_s (l : List S42) (hl : l.length ≤ big) (ih : ∀ t ∈ l, holdsAt o c n0 n2 n3 rs ac t) : api_Test__h8 l n0 o n2 n3 c rs ac = some (!hAll o c l, (!hAll o c l, ((), ((n0, (o, (n2, n3))), (c, (rs, ac)))))) := by
  obtain ⟨x, h1, h2⟩ := h9_loop o c n0 n2 n3 rs ac l hl ih l.length 0 (by omega)
  have e : api_Test__h9_l2 l l.length 0 n0 o n2 n3 c rs ac = some x := h1
  rw [List.drop_zero] at h2
  have h9 : ∃ i : Int, api_Test__h9 l n0 o n2 n3 c rs ac = some (i, (i, ((), ((n0, (o, (n2, n3))), (c, (rs, ac)))))) ∧ decide (i ≥ 0) = !hAll o c l := by
    rcases x with ⟨i, u⟩ | ⟨i, u⟩
    · obtain ⟨g1, rfl⟩ := Prod.mk.inj h2
      exact ⟨i, api_Test__h9_eq (by simp only [api_Test__h9_t, gdE_if, EC.decL_encL, EC.isL_encL, EC.encL_length, if_true, e, Option.bind_some, Sum.elim_inl]), g1⟩
    · obtain ⟨g1, rfl⟩ := Prod.mk.inj h2
      exact ⟨-1, api_Test__h9_eq (by simp only [api_Test__h9_t, gdE_if, EC.decL_encL, EC.isL_encL, EC.encL_length, if_true, e, Option.bind_some, Sum.elim_inr]), by rw [← g1]; decide⟩
  obtain ⟨i, h3, h4⟩ := h9
  refine api_Test__h8_eq ?_
  simp only [api_Test__h8_t, gdE_if, EC.decL_encL, EC.isL_encL, if_true, h3, Option.bind_some, h4]
theorem h12_loop (l : List S42) (hl : l.length ≤ big) (ih : ∀ t ∈ l, holdsAt o c n0 n2 n3 rs ac t) : ∀ m k, k + m = l.length → ∃ x, api_Test__h12_l2 l l.length k n0 o n2 n3 c rs ac = some x ∧ Sum.elim (fun r => (decide (r.1 ≥ 0), r.2)) (fun r => (false, r.2)) x = (hAny o c (l.drop k), ((n0, (o, (n2, n3))), (c, (rs, ac)))) := by
  intro m
  induction m with
  | zero =>
    intro k hk
    have hk : k = l.length := by omega
    subst hk
    refine ⟨.inr ((l, ((), ((l.length : Int), ((l.length : Int), false)))), ((n0, (o, (n2, n3))), (c, (rs, ac)))), api_Test__h12_l2_eq (by
      simp only [api_Test__h12_l2_t, brE_if, gdE_if, EC.decL_encL, EC.isL_encL, EC.encL_length, isE_42, at_42_0, at_42_1, at_42_2, at_42_3, at_42_4, at_42_5]
      simp), ?_⟩
    rw [List.drop_length]; rfl
  | succ m ihm =>
    intro k hk
    have hlt : k < l.length := by omega
    have e1 : decide ((k : Int) < (l.length : Int)) = true := by simp; omega
    have e0 : decide ((0 : Int) ≤ (k : Int)) = true := by simp
    have e2 : IntKind.i64.wrap ((k : Int) + 1) = ((k + 1 : Nat) : Int) := wr_nat hlt (by unfold big at hl; omega)
    have hd2 : decide (k < l.length) = true := by simp [hlt]
    have hh := ih _ (List.getElem_mem hlt)
    unfold holdsAt at hh
    rw [drop_at hlt, hAny]
    cases hs : hT o c l[k] with
    | true =>
      rw [hs] at hh
      refine ⟨.inl ((k : Int), ((n0, (o, (n2, n3))), (c, (rs, ac)))), api_Test__h12_l2_eq ?_, by simp⟩
      simp only [api_Test__h12_l2_t, brE_if, gdE_if, EC.decL_encL, EC.isL_encL, EC.encL_length, isE_42, at_42_0, at_42_1, at_42_2, at_42_3, at_42_4, at_42_5, e1, e0, if_true, Int.toNat_natCast, hd2, Bool.and_self, getD_in hlt, hh, Option.bind_some]
    | false =>
      rw [hs] at hh
      obtain ⟨x, h1, h2⟩ := ihm (k + 1) (by omega)
      refine ⟨x, api_Test__h12_l2_eq ?_, by rw [Bool.false_or]; exact h2⟩
      simp only [api_Test__h12_l2_t, brE_if, gdE_if, EC.decL_encL, EC.isL_encL, EC.encL_length, isE_42, at_42_0, at_42_1, at_42_2, at_42_3, at_42_4, at_42_5, e1, e0, if_true, Int.toNat_natCast, hd2, Bool.and_self, getD_in hlt, hh, Option.bind_some, Bool.false_eq_true, if_false, e2]
      exact h1
theorem h11_s (l : List S42) (hl : l.length ≤ big) (ih : ∀ t ∈ l, holdsAt o c n0 n2 n3 rs ac t) : api_Test__h11 l n0 o n2 n3 c rs ac = some (hAny o c l, (hAny o c l, ((n0, (o, (n2, n3))), (c, (rs, ac))))) := by
  obtain ⟨x, h1, h2⟩ := h12_loop o c n0 n2 n3 rs ac l hl ih l.length 0 (by omega)
  have e : api_Test__h12_l2 l l.length 0 n0 o n2 n3 c rs ac = some x := h1
  rw [List.drop_zero] at h2
  have h9 : ∃ i : Int, api_Test__h12 l n0 o n2 n3 c rs ac = some (i, (i, ((n0, (o, (n2, n3))), (c, (rs, ac))))) ∧ decide (i ≥ 0) = hAny o c l := by
    rcases x with ⟨i, u⟩ | ⟨i, u⟩
    · obtain ⟨g1, rfl⟩ := Prod.mk.inj h2
      exact ⟨i, api_Test__h12_eq (by simp only [api_Test__h12_t, gdE_if, EC.decL_encL, EC.isL_encL, EC.encL_length, if_true, e, Option.bind_some, Sum.elim_inl]), g1⟩
    · obtain ⟨g1, rfl⟩ := Prod.mk.inj h2
      exact ⟨-1, api_Test__h12_eq (by simp only [api_Test__h12_t, gdE_if, EC.decL_encL, EC.isL_encL, EC.encL_length, if_true, e, Option.bind_some, Sum.elim_inr]), by rw [← g1]; decide⟩
  obtain ⟨i, h3, h4⟩ := h9
  refine api_Test__h11_eq ?_
  simp only [api_Test__h11_t, gdE_if, EC.decL_encL, EC.isL_encL, if_true, h3, Option.bind_some, h4]
include ho hc in
theorem holds_s : ∀ (q : Nat) (t : S42), tzT t = q → okT t → okvT t → inT c t → holdsAt o c n0 n2 n3 rs ac t := by
  intro q
  induction q using Nat.strongRecOn with
  | _ q ih =>
    intro t hq hok hv hin
    obtain ⟨hl, hol⟩ := (okT_eq t).1 hok
    have hz := tzT_eq t
    obtain ⟨hi1, hi2⟩ := (inT_eq c t).1 hin
    obtain ⟨⟨k1, k9⟩, hinn⟩ := okvT_head hv
    have ihc : ∀ t' ∈ t.Tests, holdsAt o c n0 n2 n3 rs ac t' := fun t' ht' => ih (tzT t') (by have := tz_mem ht'; omega) t' rfl (okTL_get hol ht') (okvT_child hv ht') (inL_get hi2 ht')
    unfold holdsAt
    rw [hT_eq]
    refine prove_trial_holds_h7_eq ?_
    cases h1 : (t.Kind == 1) with
    | true => simp only [prove_trial_holds_h7_t, brE_if, gdE_if, EC.decL_encL, EC.isL_encL, EC.encL_length, isE_42, at_42_0, at_42_1, at_42_2, at_42_3, at_42_4, at_42_5, h1, if_true]
    | false =>
    cases h2 : (t.Kind == 2) with
    | true =>
      have hk2 : t.Kind = 2 := by simpa using h2
      have hlt : 0 < t.Tests.length := by
        unfold innerB at hinn
        rw [hk2] at hinn
        simp at hinn
        omega
      have hd2 : decide (0 < t.Tests.length) = true := by simp [hlt]
      have hh := ihc _ (List.getElem_mem hlt)
      unfold holdsAt at hh
      have hhd := hHd_get o c t.Tests hlt
      simp only [prove_trial_holds_h7_t, brE_if, gdE_if, EC.decL_encL, EC.isL_encL, EC.encL_length, isE_42, at_42_0, at_42_1, at_42_2, at_42_3, at_42_4, at_42_5, h1, h2, if_true, Bool.false_eq_true, if_false, Int.toNat_zero, hd2, Bool.and_self, getD_in hlt, hh, Option.bind_some, hhd]
    | false =>
    cases h3 : (t.Kind == 3) with
    | true =>
      have hh := h8_s o c n0 n2 n3 rs ac t.Tests hl ihc
      simp only [prove_trial_holds_h7_t, brE_if, gdE_if, EC.decL_encL, EC.isL_encL, EC.encL_length, isE_42, at_42_0, at_42_1, at_42_2, at_42_3, at_42_4, at_42_5, h1, h2, h3, if_true, Bool.false_eq_true, if_false, hh, Option.bind_some, Bool.not_not]
    | false =>
    cases h4 : (t.Kind == 4) with
    | true =>
      have hh := h11_s o c n0 n2 n3 rs ac t.Tests hl ihc
      simp only [prove_trial_holds_h7_t, brE_if, gdE_if, EC.decL_encL, EC.isL_encL, EC.encL_length, isE_42, at_42_0, at_42_1, at_42_2, at_42_3, at_42_4, at_42_5, h1, h2, h3, h4, if_true, Bool.false_eq_true, if_false, hh, Option.bind_some]
    | false =>
      have n1 : t.Kind ≠ 1 := by simpa using h1
      have n2' : t.Kind ≠ 2 := by simpa using h2
      have n3' : t.Kind ≠ 3 := by simpa using h3
      have n4 : t.Kind ≠ 4 := by simpa using h4
      have hhas := hi1 (by omega)
      obtain ⟨i, hf, hi⟩ := fnd_at c t 0 hhas
      rw [Nat.zero_add] at hf
      have hfs := find_s c (by unfold big; omega) t
      rw [hf] at hfs
      have hneg : decide ((i : Int) < 0) = false := decide_eq_false (by omega)
      simp only [prove_trial_holds_h7_t, brE_if, gdE_if, EC.decL_encL, EC.isL_encL, EC.encL_length, isE_42, at_42_0, at_42_1, at_42_2, at_42_3, at_42_4, at_42_5, h1, h2, h3, h4, if_true, Bool.false_eq_true, if_false, hfs, Option.bind_some, hneg, hf, bit_p o ho i (by omega)]
end
end Go.Proofs.Ytokahibbkdbndaa
/- What a test says under outcomes: the reference's Holds. -/
namespace Go.Proofs.Ytokahibbkdbndaa
open Go.RowKit

theorem bit_r0 (i : Nat) (hi : i < 10) : decide (IntKind.u64.wrap (i : Int) < 0) = false := by
  have h : ∀ i : _root_.Fin 10, decide (IntKind.u64.wrap ((i.1 : Nat) : Int) < 0) = false := by decide
  exact h ⟨i, hi⟩
theorem bit_r1 (i : Nat) (hi : i < 10) : IntKind.i64.wrap (1 * ((2 : Int) ^ (Min.min (Int.toNat (IntKind.u64.wrap (i : Int))) (IntKind.bits IntKind.i64)))) = 2 ^ i := by
  have h : ∀ i : _root_.Fin 10, IntKind.i64.wrap (1 * ((2 : Int) ^ (Min.min (Int.toNat (IntKind.u64.wrap ((i.1 : Nat) : Int))) (IntKind.bits IntKind.i64)))) = 2 ^ i.1 := by decide
  exact h ⟨i, hi⟩
theorem bit_r (o : Int) (ho : 0 ≤ o) (ho' : o ≤ 1152921504606846976) (i : Nat) : (Int.tmod (IntKind.i64.wrap (Int.tdiv o (2 ^ i))) 2 == 1) = bitB o i := by
  have hp : (0 : Int) < 2 ^ i := Int.pow_pos (by decide)
  have hx : 0 ≤ o / 2 ^ i := Int.ediv_nonneg ho (Int.le_of_lt hp)
  have hx' : o / 2 ^ i ≤ o := Int.ediv_le_self _ ho
  rw [Int.tdiv_eq_ediv_of_nonneg ho]
  unfold bitB
  rw [Int.toNat_natCast]
  generalize o / 2 ^ i = x at hx hx'
  rw [wr_in (by omega), Int.tmod_eq_emod_of_nonneg hx]

section
variable (o : Int) (ho : 0 ≤ o) (ho' : o ≤ 1152921504606846976) (c : List S42) (hc : c.length ≤ 10) (hlf : leafs c)
def holdsR (t : S42) : Prop := posthouseref6_Holds_s c o t.Kind t.Tests t.Name t.Pattern t.Text t.N = some (hT o c t)
theorem ref_l7 (k0 : Int) (hk0 : k0 = 3 ∨ k0 = 4) (l : List S42) (hl : l.length ≤ big) (ih : ∀ t ∈ l, holdsR o c t) (b2 b4 : ByteArray) (b3 b5 : Int) : ∀ m k, k + m = l.length → ∃ x, posthouseref6_Holds_l7 c o k k0 l b2 b3 b4 b5 = some x ∧ Sum.elim (fun r => r.1) (fun r => r.2.1 == 3) x = if (k0 == 4) = true then hAny o c (l.drop k) else hAll o c (l.drop k) := by
  intro m
  induction m with
  | zero =>
    intro k hk
    have hk : k = l.length := by omega
    subst hk
    refine ⟨.inr ((c, (o, ((), ((l.length : Int), false)))), (k0, (l, (b2, (b3, (b4, b5)))))), posthouseref6_Holds_l7_eq (by
      simp only [posthouseref6_Holds_l7_t, brE_if, gdE_if, EC.decL_encL, EC.isL_encL, EC.encL_length, isE_42, at_42_0, at_42_1, at_42_2, at_42_3, at_42_4, at_42_5]
      simp), ?_⟩
    rw [List.drop_length]
    rcases hk0 with rfl | rfl <;> rfl
  | succ m ihm =>
    intro k hk
    have hlt : k < l.length := by omega
    have e1 : decide ((k : Int) < (l.length : Int)) = true := by simp; omega
    have e0 : decide ((0 : Int) ≤ (k : Int)) = true := by simp
    have e2 : IntKind.i64.wrap ((k : Int) + 1) = ((k + 1 : Nat) : Int) := wr_nat hlt (by unfold big at hl; omega)
    have hd2 : decide (k < l.length) = true := by simp [hlt]
    have hh := ih _ (List.getElem_mem hlt)
    unfold holdsR at hh
    obtain ⟨x, h1, h2⟩ := ihm (k + 1) (by omega)
    rw [drop_at hlt, hAny, hAll]
    cases hs : (hT o c l[k] == (k0 == 4)) with
    | true =>
      refine ⟨.inl ((k0 == 4), ()), posthouseref6_Holds_l7_eq ?_, ?_⟩
      · simp only [posthouseref6_Holds_l7_t, brE_if, gdE_if, EC.decL_encL, EC.isL_encL, EC.encL_length, isE_42, at_42_0, at_42_1, at_42_2, at_42_3, at_42_4, at_42_5, e1, e0, if_true, Int.toNat_natCast, hd2, Bool.and_self, getD_in hlt, hh, Option.bind_some, hs]
      · have hs : hT o c l[k] = (k0 == 4) := by simpa using hs
        rw [hs]
        cases (k0 == 4) <;> simp
    | false =>
      refine ⟨x, posthouseref6_Holds_l7_eq ?_, ?_⟩
      · simp only [posthouseref6_Holds_l7_t, brE_if, gdE_if, EC.decL_encL, EC.isL_encL, EC.encL_length, isE_42, at_42_0, at_42_1, at_42_2, at_42_3, at_42_4, at_42_5, e1, e0, if_true, Int.toNat_natCast, hd2, Bool.and_self, getD_in hlt, hh, Option.bind_some, hs, Bool.false_eq_true, if_false, e2]
        exact h1
      · rw [h2]
        revert hs
        cases hT o c l[k] <;> cases (k0 == 4) <;> simp
include ho ho' hc hlf in
theorem ref_l13 (t : S42) (ht : t.Tests = []) : ∀ m k, k + m = c.length → hasB (c.drop k) t = true → ∃ r, posthouseref6_Holds_l13 c o k t.Kind t.Tests t.Name t.Pattern t.Text t.N = some (.inl r) ∧ r.1 = bitB o (fnd (c.drop k) t k) := by
  intro m
  induction m with
  | zero =>
    intro k hk h
    have hk : k = c.length := by omega
    subst hk
    rw [List.drop_length] at h
    cases h
  | succ m ihm =>
    intro k hk h
    have hlt : k < c.length := by omega
    have e1 : decide ((k : Int) < (c.length : Int)) = true := by simp; omega
    have e0 : decide ((0 : Int) ≤ (k : Int)) = true := by simp
    have e2 : IntKind.i64.wrap ((k : Int) + 1) = ((k + 1 : Nat) : Int) := wr_nat hlt (by omega)
    have hd2 : decide (k < c.length) = true := by simp [hlt]
    have hsm := sameTest_s c[k] t (hlf _ (List.getElem_mem hlt)) ht
    rw [drop_at hlt, hasB, List.any_cons] at h
    rw [drop_at hlt, fnd]
    cases hs : sameB c[k] t with
    | true =>
      have hne : ((2 : Int) ^ k == 0) = false := by
        have : (0 : Int) < 2 ^ k := Int.pow_pos (by decide)
        simp only [beq_eq_false_iff_ne]
        omega
      refine ⟨_, posthouseref6_Holds_l13_eq (r := .inl (bitB o k, ())) ?_, rfl⟩
      simp only [posthouseref6_Holds_l13_t, brE_if, gdE_if, EC.decL_encL, EC.isL_encL, EC.encL_length, isE_42, at_42_0, at_42_1, at_42_2, at_42_3, at_42_4, at_42_5, e1, e0, if_true, Int.toNat_natCast, hd2, Bool.and_self, getD_in hlt, hsm, Option.bind_some, hs, bit_r0 k (by omega), Bool.false_eq_true, if_false, bit_r1 k (by omega), hne, bit_r o ho ho' k]
    | false =>
      rw [hs, Bool.false_or] at h
      obtain ⟨r, h1, h2⟩ := ihm (k + 1) (by omega) h
      refine ⟨r, posthouseref6_Holds_l13_eq ?_, h2⟩
      simp only [posthouseref6_Holds_l13_t, brE_if, gdE_if, EC.decL_encL, EC.isL_encL, EC.encL_length, isE_42, at_42_0, at_42_1, at_42_2, at_42_3, at_42_4, at_42_5, e1, e0, if_true, Int.toNat_natCast, hd2, Bool.and_self, getD_in hlt, hsm, Option.bind_some, hs, Bool.false_eq_true, if_false, e2]
      exact h1
include ho ho' hc hlf in
theorem holds_ref : ∀ (q : Nat) (t : S42), tzT t = q → okT t → okvT t → inT c t → holdsR o c t := by
  intro q
  induction q using Nat.strongRecOn with
  | _ q ih =>
    intro t hq hok hv hin
    obtain ⟨hl, hol⟩ := (okT_eq t).1 hok
    have hz := tzT_eq t
    obtain ⟨hi1, hi2⟩ := (inT_eq c t).1 hin
    obtain ⟨⟨k1, k9⟩, hinn⟩ := okvT_head hv
    have ihc : ∀ t' ∈ t.Tests, holdsR o c t' := fun t' ht' => ih (tzT t') (by have := tz_mem ht'; omega) t' rfl (okTL_get hol ht') (okvT_child hv ht') (inL_get hi2 ht')
    unfold holdsR
    rw [hT_eq]
    refine posthouseref6_Holds_eq ?_
    cases h1 : (t.Kind == 1) with
    | true => simp only [posthouseref6_Holds_t, brE_if, gdE_if, EC.decL_encL, EC.isL_encL, EC.encL_length, isE_42, at_42_0, at_42_1, at_42_2, at_42_3, at_42_4, at_42_5, h1, if_true]
    | false =>
    cases h2 : (t.Kind == 2) with
    | true =>
      have hk2 : t.Kind = 2 := by simpa using h2
      have hlt : 0 < t.Tests.length := by
        unfold innerB at hinn
        rw [hk2] at hinn
        simp at hinn
        omega
      have hd2 : decide (0 < t.Tests.length) = true := by simp [hlt]
      have hh := ihc _ (List.getElem_mem hlt)
      unfold holdsR at hh
      have hhd := hHd_get o c t.Tests hlt
      simp only [posthouseref6_Holds_t, brE_if, gdE_if, EC.decL_encL, EC.isL_encL, EC.encL_length, isE_42, at_42_0, at_42_1, at_42_2, at_42_3, at_42_4, at_42_5, h1, h2, if_true, Bool.false_eq_true, if_false, Int.toNat_zero, hd2, Bool.and_self, getD_in hlt, hh, Option.bind_some, hhd]
    | false =>
    cases h3 : (t.Kind == 3) with
    | true =>
      have hk3 : t.Kind = 3 := by simpa using h3
      have h4 : (t.Kind == 4) = false := by rw [hk3]; rfl
      obtain ⟨x, g1, g2⟩ := ref_l7 o c t.Kind (Or.inl hk3) t.Tests hl ihc t.Name t.Text t.Pattern t.N t.Tests.length 0 (by omega)
      have g1 : posthouseref6_Holds_l7 c o 0 t.Kind t.Tests t.Name t.Pattern t.Text t.N = some x := g1
      rw [h4, if_neg (by decide), List.drop_zero] at g2
      simp only [posthouseref6_Holds_t, brE_if, gdE_if, EC.decL_encL, EC.isL_encL, EC.encL_length, isE_42, at_42_0, at_42_1, at_42_2, at_42_3, at_42_4, at_42_5, h1, h2, h3, if_true, Bool.false_eq_true, if_false, g1, Option.bind_some]
      rw [← g2]
      cases x <;> rfl
    | false =>
    cases h4 : (t.Kind == 4) with
    | true =>
      have hk4 : t.Kind = 4 := by simpa using h4
      obtain ⟨x, g1, g2⟩ := ref_l7 o c t.Kind (Or.inr hk4) t.Tests hl ihc t.Name t.Text t.Pattern t.N t.Tests.length 0 (by omega)
      have g1 : posthouseref6_Holds_l7 c o 0 t.Kind t.Tests t.Name t.Pattern t.Text t.N = some x := g1
      rw [h4, if_pos rfl, List.drop_zero] at g2
      simp only [posthouseref6_Holds_t, brE_if, gdE_if, EC.decL_encL, EC.isL_encL, EC.encL_length, isE_42, at_42_0, at_42_1, at_42_2, at_42_3, at_42_4, at_42_5, h1, h2, h3, h4, if_true, Bool.false_eq_true, if_false, g1, Option.bind_some]
      rw [← g2]
      cases x <;> rfl
    | false =>
      have n1 : t.Kind ≠ 1 := by simpa using h1
      have n2' : t.Kind ≠ 2 := by simpa using h2
      have n3' : t.Kind ≠ 3 := by simpa using h3
      have n4 : t.Kind ≠ 4 := by simpa using h4
      have hhas := hi1 (by omega)
      obtain ⟨r, g1, g2⟩ := ref_l13 o ho ho' c hc hlf t (okvT_leaf hv (by omega)) c.length 0 (by omega) (by rw [List.drop_zero]; exact hhas)
      have g1 : posthouseref6_Holds_l13 c o 0 t.Kind t.Tests t.Name t.Pattern t.Text t.N = some (.inl r) := g1
      rw [List.drop_zero] at g2
      simp only [posthouseref6_Holds_t, brE_if, gdE_if, EC.decL_encL, EC.isL_encL, EC.encL_length, isE_42, at_42_0, at_42_1, at_42_2, at_42_3, at_42_4, at_42_5, h1, h2, h3, h4, if_true, Bool.false_eq_true, if_false, g1, Option.bind_some, Sum.elim_inl, g2, beq_self_eq_true]
end
end Go.Proofs.Ytokahibbkdbndaa
/- The run of a script: numbers, actions, the end; the reference's Path. -/
namespace Go.Proofs.Ytokahibbkdbndaa
open Go.RowKit

mutual
/-- what a rule does: the numbers met, the actions, whether it stops -/
def runR (o : Int) (c : List S42) : S44 → Int → List Int × List Int × Bool
  | ⟨kd, k, ts, nm, p, tx, n, t, e, ak, _, _, _⟩, i =>
    if (kd == 4) = true then ([i], [], true) else
    if (kd == 2) = true then ([i], [ak], false) else
    if (kd == 1) = true then (if hT o c ⟨k, ts, nm, p, tx, n⟩ = true then (i :: (runL o c t (i + 1)).1, (runL o c t (i + 1)).2) else (i :: (runL o c e (i + 1 + szL t)).1, (runL o c e (i + 1 + szL t)).2)) else ([i], [], false)
def runL (o : Int) (c : List S42) : List S44 → Int → List Int × List Int × Bool
  | [], _ => ([], [], false)
  | r :: l, i => if (runR o c r i).2.2 = true then runR o c r i else ((runR o c r i).1 ++ (runL o c l (i + szR r)).1, (runR o c r i).2.1 ++ (runL o c l (i + szR r)).2.1, (runL o c l (i + szR r)).2.2)
end
theorem runR_eq (o : Int) (c : List S42) (r : S44) (i : Int) : runR o c r i = if (r.Kind == 4) = true then ([i], [], true) else if (r.Kind == 2) = true then ([i], [r.Act], false) else if (r.Kind == 1) = true then (if hT o c (tOf r) = true then (i :: (runL o c r.Then (i + 1)).1, (runL o c r.Then (i + 1)).2) else (i :: (runL o c r.Else (i + 1 + szL r.Then)).1, (runL o c r.Else (i + 1 + szL r.Then)).2)) else ([i], [], false) := by cases r; rw [runR]; rfl
mutual
theorem runR_len (o : Int) (c : List S42) : ∀ (r : S44) (i : Int), (runR o c r i).1.length ≤ szR r ∧ (runR o c r i).2.1.length ≤ szR r
  | ⟨kd, k, ts, nm, p, tx, n, t, e, ak, a1, a2, a3⟩, i => by
    have h1 := runL_len o c t (i + 1)
    have h2 := runL_len o c e (i + 1 + szL t)
    rw [runR, szR]
    split
    · simp; omega
    · split
      · simp; omega
      · split
        · split
          · simp; omega
          · simp; omega
        · simp; omega
theorem runL_len (o : Int) (c : List S42) : ∀ (l : List S44) (i : Int), (runL o c l i).1.length ≤ szL l ∧ (runL o c l i).2.1.length ≤ szL l
  | [], i => by rw [runL, szL]; simp
  | r :: l, i => by
    have h1 := runR_len o c r i
    have h2 := runL_len o c l (i + szR r)
    rw [runL, szL]
    split
    · omega
    · simp; omega
end
mutual
/-- the numbers met lie in the script's room -/
theorem runR_num (o : Int) (c : List S42) : ∀ (r : S44) (i : Int), ∀ n ∈ (runR o c r i).1, i ≤ n ∧ n < i + szR r
  | ⟨kd, k, ts, nm, p, tx, n, t, e, ak, a1, a2, a3⟩, i => by
    have h1 := runL_num o c t (i + 1)
    have h2 := runL_num o c e (i + 1 + szL t)
    rw [runR, szR]
    have hone : ∀ n ∈ [i], i ≤ n ∧ n < i + ((1 + szL t + szL e : Nat) : Int) := by
      intro n hn
      have : n = i := by simpa using hn
      omega
    split
    · exact hone
    · split
      · exact hone
      · split
        · split
          · intro n hn
            rcases List.mem_cons.1 hn with rfl | hn
            · omega
            · have := h1 n hn; omega
          · intro n hn
            rcases List.mem_cons.1 hn with rfl | hn
            · omega
            · have := h2 n hn; omega
        · exact hone
theorem runL_num (o : Int) (c : List S42) : ∀ (l : List S44) (i : Int), ∀ n ∈ (runL o c l i).1, i ≤ n ∧ n < i + szL l
  | [], i => by rw [runL]; intro n hn; cases hn
  | r :: l, i => by
    have h1 := runR_num o c r i
    have h2 := runL_num o c l (i + szR r)
    rw [runL, szL]
    split
    · intro n hn; have := h1 n hn; omega
    · intro n hn
      rcases List.mem_append.1 hn with hn | hn
      · have := h1 n hn; omega
      · have := h2 n hn; omega
end
mutual
/-- each simple test of a script is in the list -/
def inR (c : List S42) : S44 → Prop
  | ⟨kd, k, ts, nm, p, tx, n, t, e, _, _, _, _⟩ => ((kd == 1) = true → inT c ⟨k, ts, nm, p, tx, n⟩) ∧ inRL c t ∧ inRL c e
def inRL (c : List S42) : List S44 → Prop
  | [] => True
  | r :: l => inR c r ∧ inRL c l
end
theorem inR_eq (c : List S42) (r : S44) : inR c r ↔ ((r.Kind == 1) = true → inT c (tOf r)) ∧ inRL c r.Then ∧ inRL c r.Else := by cases r; rw [inR]; rfl
theorem inRL_get {c : List S42} : ∀ {l : List S44}, inRL c l → ∀ {r}, r ∈ l → inR c r
  | [], _, t, h => by cases h
  | x :: l, h0, t, h => by
    rw [inRL] at h0
    rcases List.mem_cons.1 h with rfl | h
    · exact h0.1
    · exact inRL_get h0.2 h
theorem szL_drop {l : List S44} {k : Nat} (h : k < l.length) : szL (l.drop k) = szR l[k] + szL (l.drop (k + 1)) := by rw [drop_at h]; rfl
end Go.Proofs.Ytokahibbkdbndaa
/- The reference's Path is the run of the script. -/
namespace Go.Proofs.Ytokahibbkdbndaa
open Go.RowKit

theorem EC_app {τ : Type} (e : EC τ) (a b : List τ) : e.encL a ++ e.encL b = e.encL (a ++ b) := by simp [EC.encL]
theorem gd8 {n : Nat} (h : n ≤ 1000) : decide ((n + n / 4 + 192) * 8 ≤ 281474976710656) = true := decide_eq_true (by omega)
theorem gd63 {n : Nat} (h : n ≤ 1000) : decide (n ≤ 9223372036854775807) = true := decide_eq_true (by omega)
theorem len1 (x : List C) : [x].length = 1 := rfl
section
variable (o : Int) (ho : 0 ≤ o) (ho' : o ≤ 1152921504606846976) (c : List S42) (hc : c.length ≤ 10) (hlf : leafs c)
def pathOk (s : List S44) : Prop := ∀ n : Int, 0 ≤ n → n + szL s ≤ 1000 → posthouseref6_Path_s c o s n = some ((runL o c s n).1, ((runL o c s n).2.1, (runL o c s n).2.2))
theorem path_loop (s : List S44) (hl : s.length ≤ big) (ho : okL s) (hH : ∀ r ∈ s, (r.Kind == 1) = true → holdsR o c (tOf r)) (ih : ∀ r ∈ s, pathOk o c r.Then ∧ pathOk o c r.Else) :
    ∀ m k (n : Int) (b0 b1 : List Int), k + m = s.length → 0 ≤ n → n + szL (s.drop k) ≤ 1000 → b0.length + szL (s.drop k) ≤ 1000 → b1.length + szL (s.drop k) ≤ 1000 →
    ∃ x, posthouseref6_Path_l4 c o s n b0.length b1.length k b0 b1 = some x ∧ Sum.elim (fun r => (r.2.1, (r.2.2, r.1.2.2))) (fun r => (r.2.1, (r.2.2, false))) x = (b0 ++ (runL o c (s.drop k) n).1, (b1 ++ (runL o c (s.drop k) n).2.1, (runL o c (s.drop k) n).2.2)) := by
  intro m
  induction m with
  | zero =>
    intro k n b0 b1 hk h0 h1 h2 h3
    have hk : k = s.length := by omega
    subst hk
    refine ⟨.inr ((c, (o, (s, (n, (b0.length, (b1.length, ((s.length : Int), false))))))), (b0, b1)), posthouseref6_Path_l4_eq (by
      simp only [posthouseref6_Path_l4_t, brE_if, gdE_if, EC.decL_encL, EC.isL_encL, EC.encL_length, isE_44, at_44_0, at_44_1, at_44_2, at_44_3, at_44_4, at_44_5, at_44_6, at_44_7, at_44_8, at_44_9, all_3, apd_3]
      simp), ?_⟩
    rw [List.drop_length, runL]; simp
  | succ m ihm =>
    intro k n b0 b1 hk h0 h1 h2 h3
    have hlt : k < s.length := by omega
    have e1 : decide ((k : Int) < (s.length : Int)) = true := by simp; omega
    have e0 : decide ((0 : Int) ≤ (k : Int)) = true := by simp
    have e2 : IntKind.i64.wrap ((k : Int) + 1) = ((k + 1 : Nat) : Int) := wr_nat hlt (by unfold big at hl; omega)
    have hd2 : decide (k < s.length) = true := by simp [hlt]
    rw [szL_drop hlt] at h1 h2 h3
    have hsz := szR_eq s[k]
    obtain ⟨_, ⟨ht1, ht2⟩, ⟨he1, he2⟩, _⟩ := (okR_eq s[k]).1 (okL_get ho (List.getElem_mem hlt))
    obtain ⟨iT, iE⟩ := ih s[k] (List.getElem_mem hlt)
    have hcT := count_s s[k].Then ht1 ht2
    have hcE := count_s s[k].Else he1 he2
    rw [wr_in (by omega)] at hcT hcE
    have w1 : IntKind.i64.wrap (n + 1) = n + 1 := wr_in (by omega)
    have w2 : IntKind.i64.wrap (n + 1 + (szL s[k].Then : Int)) = n + 1 + szL s[k].Then := wr_in (by omega)
    have w3 : IntKind.i64.wrap (1 + (szL s[k].Then : Int)) = 1 + szL s[k].Then := wr_in (by omega)
    have w4 : IntKind.i64.wrap (1 + (szL s[k].Then : Int) + (szL s[k].Else : Int)) = 1 + szL s[k].Then + szL s[k].Else := wr_in (by omega)
    have w5 : IntKind.i64.wrap (n + (1 + (szL s[k].Then : Int) + (szL s[k].Else : Int))) = n + szR s[k] := by rw [wr_in (by omega)]; omega
    have g1 : decide ((b0.length + 1 + (b0.length + 1) / 4 + 192) * 8 ≤ 281474976710656) = true := gd8 (by omega)
    have g2 : decide (b0.length + 1 ≤ 9223372036854775807) = true := gd63 (by omega)
    have g3 : decide ((b1.length + 1 + (b1.length + 1) / 4 + 192) * 8 ≤ 281474976710656) = true := gd8 (by omega)
    have g4 : decide (b1.length + 1 ≤ 9223372036854775807) = true := gd63 (by omega)
    have hl1 : ∀ a : Int, List.length (b0 ++ [a]) = b0.length + 1 := fun a => by simp
    have hl1' : ∀ a : Int, List.length (b1 ++ [a]) = b1.length + 1 := fun a => by simp
    have all1 : ∀ a : Int, List.all [[C.int IntKind.i64 a]] (fun (el : List C) => el.length == 1) = true := fun a => rfl
    rw [drop_at hlt, runL]
    cases k4 : (s[k].Kind == 4) with
    | true =>
      have hr : runR o c s[k] n = ([n], [], true) := by rw [runR_eq, k4, if_pos rfl]
      rw [hr, if_pos rfl]
      refine ⟨.inl ((b0.length + 1, (b1.length, true)), (b0 ++ [n], b1)), posthouseref6_Path_l4_eq ?_, by simp⟩
      simp only [posthouseref6_Path_l4_t, brE_if, gdE_if, EC.decL_encL, EC.isL_encL, EC.encL_length, isE_44, at_44_0, at_44_1, at_44_2, at_44_3, at_44_4, at_44_5, at_44_6, at_44_7, at_44_8, at_44_9, all_3, apd_3, e1, e0, if_true, Int.toNat_natCast, hd2, Bool.and_self, getD_in hlt, k4, g1, g2, len1, all1]
    | false =>
    cases k2 : (s[k].Kind == 2) with
    | true =>
      have hr : runR o c s[k] n = ([n], [s[k].Act], false) := by rw [runR_eq, k4, if_neg (by decide), k2, if_pos rfl]
      have k1 : (s[k].Kind == 1) = false := by have : s[k].Kind = 2 := by simpa using k2
                                               rw [this]; rfl
      rw [hr, if_neg Bool.false_ne_true]
      obtain ⟨x, x1, x2⟩ := ihm (k + 1) (n + szR s[k]) (b0 ++ [n]) (b1 ++ [s[k].Act]) (by omega) (by omega) (by omega) (by rw [hl1]; omega) (by rw [hl1']; omega)
      rw [hl1, hl1'] at x1
      refine ⟨x, posthouseref6_Path_l4_eq ?_, by rw [x2]; simp⟩
      simp only [posthouseref6_Path_l4_t, brE_if, gdE_if, EC.decL_encL, EC.isL_encL, EC.encL_length, isE_44, at_44_0, at_44_1, at_44_2, at_44_3, at_44_4, at_44_5, at_44_6, at_44_7, at_44_8, at_44_9, all_3, apd_3, e1, e0, if_true, Int.toNat_natCast, hd2, Bool.and_self, getD_in hlt, k4, k2, k1, Bool.false_eq_true, if_false, g1, g2, g3, g4, len1, all1, hcT, hcE, Option.bind_some, w3, w4, w5, e2]
      exact x1
    | false =>
    cases k1 : (s[k].Kind == 1) with
    | true =>
      have hh := hH s[k] (List.getElem_mem hlt) k1
      have hh : posthouseref6_Holds_s c o s[k].Test_Kind s[k].Test_Tests s[k].Test_Name s[k].Test_Pattern s[k].Test_Text s[k].Test_N = some (hT o c (tOf s[k])) := hh
      cases hb : hT o c (tOf s[k]) with
      | true =>
        rw [hb] at hh
        have hp := iT (n + 1) (by omega) (by omega)
        obtain ⟨q1, q2⟩ := runL_len o c s[k].Then (n + 1)
        have hr : runR o c s[k] n = (n :: (runL o c s[k].Then (n + 1)).1, (runL o c s[k].Then (n + 1)).2) := by rw [runR_eq, k4, if_neg (by decide), k2, if_neg (by decide), k1, if_pos rfl, hb, if_pos rfl]
        rw [hr]
        generalize runL o c s[k].Then (n + 1) = u at hp q1 q2
        obtain ⟨u1, u2, u3⟩ := u
        simp only at hp q1 q2
        have g5 : decide ((b0.length + 1 + u1.length + (b0.length + 1 + u1.length) / 4 + 192) * 8 ≤ 281474976710656) = true := gd8 (by omega)
        have g6 : decide (b0.length + 1 + u1.length ≤ 9223372036854775807) = true := gd63 (by omega)
        have g7 : decide ((b1.length + u2.length + (b1.length + u2.length) / 4 + 192) * 8 ≤ 281474976710656) = true := gd8 (by omega)
        have g8 : decide (b1.length + u2.length ≤ 9223372036854775807) = true := gd63 (by omega)
        cases u3 with
        | true =>
          rw [if_pos rfl]
          refine ⟨.inl ((b0.length + 1 + u1.length, (b1.length + u2.length, true)), (b0 ++ [n] ++ u1, b1 ++ u2)), posthouseref6_Path_l4_eq ?_, by simp⟩
          simp only [posthouseref6_Path_l4_t, brE_if, gdE_if, EC.decL_encL, EC.isL_encL, EC.encL_length, isE_44, at_44_0, at_44_1, at_44_2, at_44_3, at_44_4, at_44_5, at_44_6, at_44_7, at_44_8, at_44_9, all_3, apd_3, e1, e0, if_true, Int.toNat_natCast, hd2, Bool.and_self, getD_in hlt, k4, k2, k1, Bool.false_eq_true, if_false, g1, g2, g5, g6, g7, g8, len1, all1, hcT, hcE, hh, w1, hp, Option.bind_some, EC_app]
        | false =>
          rw [if_neg Bool.false_ne_true]
          obtain ⟨x, x1, x2⟩ := ihm (k + 1) (n + szR s[k]) (b0 ++ [n] ++ u1) (b1 ++ u2) (by omega) (by omega) (by omega) (by rw [List.length_append, hl1]; omega) (by rw [List.length_append]; omega)
          rw [List.length_append, hl1, List.length_append] at x1
          refine ⟨x, posthouseref6_Path_l4_eq ?_, by rw [x2]; simp⟩
          simp only [posthouseref6_Path_l4_t, brE_if, gdE_if, EC.decL_encL, EC.isL_encL, EC.encL_length, isE_44, at_44_0, at_44_1, at_44_2, at_44_3, at_44_4, at_44_5, at_44_6, at_44_7, at_44_8, at_44_9, all_3, apd_3, e1, e0, if_true, Int.toNat_natCast, hd2, Bool.and_self, getD_in hlt, k4, k2, k1, Bool.false_eq_true, if_false, g1, g2, g5, g6, g7, g8, len1, all1, hcT, hcE, hh, w1, hp, Option.bind_some, EC_app, w3, w4, w5, e2]
          exact x1
      | false =>
        rw [hb] at hh
        have hp := iE (n + 1 + szL s[k].Then) (by omega) (by omega)
        obtain ⟨q1, q2⟩ := runL_len o c s[k].Else (n + 1 + szL s[k].Then)
        have hr : runR o c s[k] n = (n :: (runL o c s[k].Else (n + 1 + szL s[k].Then)).1, (runL o c s[k].Else (n + 1 + szL s[k].Then)).2) := by rw [runR_eq, k4, if_neg (by decide), k2, if_neg (by decide), k1, if_pos rfl, hb, if_neg (by decide)]
        rw [hr]
        generalize runL o c s[k].Else (n + 1 + szL s[k].Then) = u at hp q1 q2
        obtain ⟨u1, u2, u3⟩ := u
        simp only at hp q1 q2
        have g5 : decide ((b0.length + 1 + u1.length + (b0.length + 1 + u1.length) / 4 + 192) * 8 ≤ 281474976710656) = true := gd8 (by omega)
        have g6 : decide (b0.length + 1 + u1.length ≤ 9223372036854775807) = true := gd63 (by omega)
        have g7 : decide ((b1.length + u2.length + (b1.length + u2.length) / 4 + 192) * 8 ≤ 281474976710656) = true := gd8 (by omega)
        have g8 : decide (b1.length + u2.length ≤ 9223372036854775807) = true := gd63 (by omega)
        cases u3 with
        | true =>
          rw [if_pos rfl]
          refine ⟨.inl ((b0.length + 1 + u1.length, (b1.length + u2.length, true)), (b0 ++ [n] ++ u1, b1 ++ u2)), posthouseref6_Path_l4_eq ?_, by simp⟩
          simp only [posthouseref6_Path_l4_t, brE_if, gdE_if, EC.decL_encL, EC.isL_encL, EC.encL_length, isE_44, at_44_0, at_44_1, at_44_2, at_44_3, at_44_4, at_44_5, at_44_6, at_44_7, at_44_8, at_44_9, all_3, apd_3, e1, e0, if_true, Int.toNat_natCast, hd2, Bool.and_self, getD_in hlt, k4, k2, k1, Bool.false_eq_true, if_false, g1, g2, g5, g6, g7, g8, len1, all1, hcT, hcE, hh, w1, w2, hp, Option.bind_some, EC_app]
        | false =>
          rw [if_neg Bool.false_ne_true]
          obtain ⟨x, x1, x2⟩ := ihm (k + 1) (n + szR s[k]) (b0 ++ [n] ++ u1) (b1 ++ u2) (by omega) (by omega) (by omega) (by rw [List.length_append, hl1]; omega) (by rw [List.length_append]; omega)
          rw [List.length_append, hl1, List.length_append] at x1
          refine ⟨x, posthouseref6_Path_l4_eq ?_, by rw [x2]; simp⟩
          simp only [posthouseref6_Path_l4_t, brE_if, gdE_if, EC.decL_encL, EC.isL_encL, EC.encL_length, isE_44, at_44_0, at_44_1, at_44_2, at_44_3, at_44_4, at_44_5, at_44_6, at_44_7, at_44_8, at_44_9, all_3, apd_3, e1, e0, if_true, Int.toNat_natCast, hd2, Bool.and_self, getD_in hlt, k4, k2, k1, Bool.false_eq_true, if_false, g1, g2, g5, g6, g7, g8, len1, all1, hcT, hcE, hh, w1, w2, hp, Option.bind_some, EC_app, w3, w4, w5, e2]
          exact x1
    | false =>
      have hr : runR o c s[k] n = ([n], [], false) := by rw [runR_eq, k4, if_neg (by decide), k2, if_neg (by decide), k1, if_neg (by decide)]
      rw [hr, if_neg Bool.false_ne_true]
      obtain ⟨x, x1, x2⟩ := ihm (k + 1) (n + szR s[k]) (b0 ++ [n]) b1 (by omega) (by omega) (by omega) (by rw [hl1]; omega) (by omega)
      rw [hl1] at x1
      refine ⟨x, posthouseref6_Path_l4_eq ?_, by rw [x2]; simp⟩
      simp only [posthouseref6_Path_l4_t, brE_if, gdE_if, EC.decL_encL, EC.isL_encL, EC.encL_length, isE_44, at_44_0, at_44_1, at_44_2, at_44_3, at_44_4, at_44_5, at_44_6, at_44_7, at_44_8, at_44_9, all_3, apd_3, e1, e0, if_true, Int.toNat_natCast, hd2, Bool.and_self, getD_in hlt, k4, k2, k1, Bool.false_eq_true, if_false, g1, g2, len1, all1, hcT, hcE, Option.bind_some, w3, w4, w5, e2]
      exact x1
include ho ho' hc hlf in
theorem path_s : ∀ (q : Nat) (s : List S44), szL s = q → s.length ≤ big → okL s → okvL s → inRL c s → pathOk o c s := by
  intro q
  induction q using Nat.strongRecOn with
  | _ q ih =>
    intro s hq hl hok hv hin n h0 h1
    obtain ⟨x, x1, x2⟩ := path_loop o c s hl hok (fun r hr hk => holds_ref o ho ho' c hc hlf _ (tOf r) rfl ((okR_eq r).1 (okL_get hok hr)).1 (okvR_test (okvR hv hr).1 hk) (((inR_eq c r).1 (inRL_get hin hr)).1 hk)) (fun r hr => by
      have h := (okR_eq r).1 (okL_get hok hr)
      have hvr := okvR hv hr
      have hir := (inR_eq c r).1 (inRL_get hin hr)
      exact ⟨ih _ (hq ▸ sz_then hr) r.Then rfl h.2.1.1 h.2.1.2 hvr.2.1 hir.2.1, ih _ (hq ▸ sz_else hr) r.Else rfl h.2.2.1.1 h.2.2.1.2 hvr.2.2 hir.2.2⟩) s.length 0 n [] [] (by omega) h0 (by rw [List.drop_zero]; exact h1) (by rw [List.drop_zero]; simp; omega) (by rw [List.drop_zero]; simp; omega)
    have x1 : posthouseref6_Path_l4 c o s n 0 0 0 [] [] = some x := x1
    rw [List.drop_zero, List.nil_append, List.nil_append] at x2
    refine posthouseref6_Path_eq ?_
    simp only [posthouseref6_Path_t, gdE_if, EC_nilD, EC.decL_encL, EC.isL_encL, if_true, x1, Option.bind_some]
    rcases x with ⟨⟨a, b, d⟩, e, f⟩ | ⟨a, e, f⟩
    · obtain ⟨z1, z2⟩ := Prod.mk.inj x2
      obtain ⟨z2, z3⟩ := Prod.mk.inj z2
      simp only [Sum.elim_inl, ← z1, ← z2, ← z3]
    · obtain ⟨z1, z2⟩ := Prod.mk.inj x2
      obtain ⟨z2, z3⟩ := Prod.mk.inj z2
      simp only [Sum.elim_inr, ← z1, ← z2, ← z3]
end
end Go.Proofs.Ytokahibbkdbndaa
/- prove.execute is the run of the script. -/
namespace Go.Proofs.Ytokahibbkdbndaa
open Go.RowKit

/-- the numbers met, marked -/
def mark (rs : List Bool) (ns : List Int) : List Bool := ns.foldl (fun b n => b.set n.toNat true) rs
theorem mark_app (rs : List Bool) (a b : List Int) : mark rs (a ++ b) = mark (mark rs a) b := by simp [mark]
theorem mark_cons (rs : List Bool) (n : Int) (b : List Int) : mark rs (n :: b) = mark (rs.set n.toNat true) b := rfl
theorem mark_len : ∀ (a : List Int) (rs : List Bool), (mark rs a).length = rs.length
  | [], rs => rfl
  | n :: a, rs => by rw [mark_cons, mark_len a]; simp
def actOf (a : Int) : S49 := ⟨a, ByteArray.mk (List.toArray []), 0⟩
theorem gd32 {n : Nat} (h : n ≤ 1000) : decide ((n + n / 4 + 192) * 32 ≤ 281474976710656) = true := decide_eq_true (by omega)
section
variable (o : Int) (c : List S42) (n0 : Nat)
/-- what a run leaves -/
def st (n2 n3 : Nat) (rs : List Bool) (ac : List S49) (u : List Int × List Int × Bool) : (Nat × Int × Nat × Nat) × List S42 × List Bool × List S49 := ((n0, (o, (n2, n3 + u.2.1.length))), (c, (mark rs u.1, ac ++ u.2.1.map actOf)))
def exOk (s : List S44) : Prop := ∀ (n : Int) (n2 n3 : Nat) (rs : List Bool) (ac : List S49), n2 = rs.length → n3 = ac.length → 0 ≤ n → n + szL s ≤ n2 → n2 ≤ 1000 → n3 + szL s ≤ 1000 →
  prove_trial_execute_h6 s n n0 o n2 n3 c rs ac = some (!(runL o c s n).2.2, (!(runL o c s n).2.2, st o c n0 n2 n3 rs ac (runL o c s n)))
theorem ex_loop (s : List S44) (hl : s.length ≤ big) (ho : okL s) (hH : ∀ r ∈ s, (r.Kind == 1) = true → ∀ n2 n3 rs ac, holdsAt o c n0 n2 n3 rs ac (tOf r)) (ih : ∀ r ∈ s, exOk o c n0 r.Then ∧ exOk o c n0 r.Else) :
    ∀ m k (n : Int) (n2 n3 : Nat) (rs : List Bool) (ac : List S49), k + m = s.length → n2 = rs.length → n3 = ac.length → 0 ≤ n → n + szL (s.drop k) ≤ n2 → n2 ≤ 1000 → n3 + szL (s.drop k) ≤ 1000 →
    ∃ x, prove_trial_execute_h6_l2 n s s.length k n0 o n2 n3 c rs ac = some x ∧ Sum.elim (fun r => (r.1, r.2)) (fun r => (true, r.2)) x = (!(runL o c (s.drop k) n).2.2, st o c n0 n2 n3 rs ac (runL o c (s.drop k) n)) := by
  intro m
  induction m with
  | zero =>
    intro k n n2 n3 rs ac hk q2 q3 h0 h1 h2 h3
    have hk : k = s.length := by omega
    subst hk
    refine ⟨.inr (((), (n, (s, ((s.length : Int), ((s.length : Int), false))))), ((n0, (o, (n2, n3))), (c, (rs, ac)))), prove_trial_execute_h6_l2_eq (by
      simp only [prove_trial_execute_h6_l2_t, brE_if, gdE_if, EC.decL_encL, EC.isL_encL, EC.encL_length, isE_44, at_44_0, at_44_1, at_44_2, at_44_3, at_44_4, at_44_5, at_44_6, at_44_7, at_44_8, at_44_9, all_49, apd_49, set_4_0_1]
      simp), ?_⟩
    rw [List.drop_length, runL]; simp [st, mark]
  | succ m ihm =>
    intro k n n2 n3 rs ac hk q2 q3 h0 h1 h2 h3
    have hlt : k < s.length := by omega
    have e1 : decide ((k : Int) < (s.length : Int)) = true := by simp; omega
    have e0 : decide ((0 : Int) ≤ (k : Int)) = true := by simp
    have e2 : IntKind.i64.wrap ((k : Int) + 1) = ((k + 1 : Nat) : Int) := wr_nat hlt (by unfold big at hl; omega)
    have hd2 : decide (k < s.length) = true := by simp [hlt]
    rw [szL_drop hlt] at h1 h3
    have hsz := szR_eq s[k]
    obtain ⟨_, ⟨ht1, ht2⟩, ⟨he1, he2⟩, _⟩ := (okR_eq s[k]).1 (okL_get ho (List.getElem_mem hlt))
    obtain ⟨iT, iE⟩ := ih s[k] (List.getElem_mem hlt)
    have hcT := size_s s[k].Then ht1 ht2
    have hcE := size_s s[k].Else he1 he2
    rw [wr_in (by omega)] at hcT hcE
    have w1 : IntKind.i64.wrap (n + 1) = n + 1 := wr_in (by omega)
    have w2 : IntKind.i64.wrap (n + 1 + (szL s[k].Then : Int)) = n + 1 + szL s[k].Then := wr_in (by omega)
    have w3 : IntKind.i64.wrap (1 + (szL s[k].Then : Int)) = 1 + szL s[k].Then := wr_in (by omega)
    have w4 : IntKind.i64.wrap (1 + (szL s[k].Then : Int) + (szL s[k].Else : Int)) = 1 + szL s[k].Then + szL s[k].Else := wr_in (by omega)
    have w5 : IntKind.i64.wrap (n + (1 + (szL s[k].Then : Int) + (szL s[k].Else : Int))) = n + szR s[k] := by rw [wr_in (by omega)]; omega
    have f1 : decide (0 ≤ n) = true := decide_eq_true h0
    have f2 : decide (n < (n2 : Int)) = true := decide_eq_true (by omega)
    have f3 : decide (n.toNat < rs.length) = true := decide_eq_true (by omega)
    have f4 : (((ec_4.encL rs).getD n.toNat []).length == 1) = true := by rw [len_4 rs n.toNat (by omega)]; rfl
    have hset : (rs.set n.toNat true).length = n2 := by rw [List.length_set, q2]
    rw [drop_at hlt, runL]
    cases k1 : (s[k].Kind == 1) with
    | true =>
      have kk1 : s[k].Kind = 1 := by simpa using k1
      have k4 : (s[k].Kind == 4) = false := by rw [kk1]; rfl
      have k2 : (s[k].Kind == 2) = false := by rw [kk1]; rfl
      have hh := hH s[k] (List.getElem_mem hlt) k1 n2 n3 (rs.set n.toNat true) ac
      have hh : prove_trial_holds_h7 s[k].Test_Kind s[k].Test_Tests s[k].Test_Name s[k].Test_Pattern s[k].Test_Text s[k].Test_N n0 o n2 n3 c (rs.set n.toNat true) ac = some (hT o c (tOf s[k]), (hT o c (tOf s[k]), ((n0, (o, (n2, n3))), (c, (rs.set n.toNat true, ac))))) := hh
      cases hb : hT o c (tOf s[k]) with
      | true =>
        rw [hb] at hh
        have hp := iT (n + 1) n2 n3 (rs.set n.toNat true) ac hset.symm q3 (by omega) (by omega) h2 (by omega)
        obtain ⟨p1, p2⟩ := runL_len o c s[k].Then (n + 1)
        have hr : runR o c s[k] n = (n :: (runL o c s[k].Then (n + 1)).1, (runL o c s[k].Then (n + 1)).2) := by rw [runR_eq, k4, if_neg (by decide), k2, if_neg (by decide), k1, if_pos rfl, hb, if_pos rfl]
        rw [hr]
        generalize runL o c s[k].Then (n + 1) = u at hp p1 p2
        obtain ⟨u1, u2, u3⟩ := u
        simp only [st] at hp
        simp only at p1 p2
        cases u3 with
        | true =>
          rw [if_pos rfl]
          refine ⟨.inl (false, ((n0, (o, (n2, n3 + u2.length))), (c, (mark (rs.set n.toNat true) u1, ac ++ u2.map actOf)))), prove_trial_execute_h6_l2_eq ?_, rfl⟩
          simp only [prove_trial_execute_h6_l2_t, brE_if, gdE_if, EC.decL_encL, EC.isL_encL, EC.encL_length, isE_44, at_44_0, at_44_1, at_44_2, at_44_3, at_44_4, at_44_5, at_44_6, at_44_7, at_44_8, at_44_9, all_49, apd_49, set_4_0_1, e1, e0, if_true, Int.toNat_natCast, hd2, Bool.and_self, getD_in hlt, k4, k2, k1, Bool.false_eq_true, if_false, f1, f2, f3, f4, hcT, hcE, hh, w1, hp, Option.bind_some, Bool.not_true, Bool.not_false]
        | false =>
          rw [if_neg Bool.false_ne_true]
          obtain ⟨x, x1, x2⟩ := ihm (k + 1) (n + szR s[k]) n2 (n3 + u2.length) (mark (rs.set n.toNat true) u1) (ac ++ u2.map actOf) (by omega) (by rw [mark_len, hset]) (by simp [q3]) (by omega) (by omega) h2 (by omega)
          refine ⟨x, prove_trial_execute_h6_l2_eq ?_, by rw [x2]; simp [st, mark_app, mark_cons, Nat.add_assoc]⟩
          simp only [prove_trial_execute_h6_l2_t, brE_if, gdE_if, EC.decL_encL, EC.isL_encL, EC.encL_length, isE_44, at_44_0, at_44_1, at_44_2, at_44_3, at_44_4, at_44_5, at_44_6, at_44_7, at_44_8, at_44_9, all_49, apd_49, set_4_0_1, e1, e0, if_true, Int.toNat_natCast, hd2, Bool.and_self, getD_in hlt, k4, k2, k1, Bool.false_eq_true, if_false, f1, f2, f3, f4, hcT, hcE, hh, w1, hp, Option.bind_some, Bool.not_true, Bool.not_false, w3, w4, w5, e2]
          exact x1
      | false =>
        rw [hb] at hh
        have hp := iE (n + 1 + szL s[k].Then) n2 n3 (rs.set n.toNat true) ac hset.symm q3 (by omega) (by omega) h2 (by omega)
        obtain ⟨p1, p2⟩ := runL_len o c s[k].Else (n + 1 + szL s[k].Then)
        have hr : runR o c s[k] n = (n :: (runL o c s[k].Else (n + 1 + szL s[k].Then)).1, (runL o c s[k].Else (n + 1 + szL s[k].Then)).2) := by rw [runR_eq, k4, if_neg (by decide), k2, if_neg (by decide), k1, if_pos rfl, hb, if_neg (by decide)]
        rw [hr]
        generalize runL o c s[k].Else (n + 1 + szL s[k].Then) = u at hp p1 p2
        obtain ⟨u1, u2, u3⟩ := u
        simp only [st] at hp
        simp only at p1 p2
        cases u3 with
        | true =>
          rw [if_pos rfl]
          refine ⟨.inl (false, ((n0, (o, (n2, n3 + u2.length))), (c, (mark (rs.set n.toNat true) u1, ac ++ u2.map actOf)))), prove_trial_execute_h6_l2_eq ?_, rfl⟩
          simp only [prove_trial_execute_h6_l2_t, brE_if, gdE_if, EC.decL_encL, EC.isL_encL, EC.encL_length, isE_44, at_44_0, at_44_1, at_44_2, at_44_3, at_44_4, at_44_5, at_44_6, at_44_7, at_44_8, at_44_9, all_49, apd_49, set_4_0_1, e1, e0, if_true, Int.toNat_natCast, hd2, Bool.and_self, getD_in hlt, k4, k2, k1, Bool.false_eq_true, if_false, f1, f2, f3, f4, hcT, hcE, hh, w1, w2, hp, Option.bind_some, Bool.not_true, Bool.not_false]
        | false =>
          rw [if_neg Bool.false_ne_true]
          obtain ⟨x, x1, x2⟩ := ihm (k + 1) (n + szR s[k]) n2 (n3 + u2.length) (mark (rs.set n.toNat true) u1) (ac ++ u2.map actOf) (by omega) (by rw [mark_len, hset]) (by simp [q3]) (by omega) (by omega) h2 (by omega)
          refine ⟨x, prove_trial_execute_h6_l2_eq ?_, by rw [x2]; simp [st, mark_app, mark_cons, Nat.add_assoc]⟩
          simp only [prove_trial_execute_h6_l2_t, brE_if, gdE_if, EC.decL_encL, EC.isL_encL, EC.encL_length, isE_44, at_44_0, at_44_1, at_44_2, at_44_3, at_44_4, at_44_5, at_44_6, at_44_7, at_44_8, at_44_9, all_49, apd_49, set_4_0_1, e1, e0, if_true, Int.toNat_natCast, hd2, Bool.and_self, getD_in hlt, k4, k2, k1, Bool.false_eq_true, if_false, f1, f2, f3, f4, hcT, hcE, hh, w1, w2, hp, Option.bind_some, Bool.not_true, Bool.not_false, w3, w4, w5, e2]
          exact x1
    | false =>
    cases k2 : (s[k].Kind == 2) with
    | true =>
      have kk2 : s[k].Kind = 2 := by simpa using k2
      have k4 : (s[k].Kind == 4) = false := by rw [kk2]; rfl
      have hr : runR o c s[k] n = ([n], [s[k].Act], false) := by rw [runR_eq, k4, if_neg (by decide), k2, if_pos rfl]
      rw [hr, if_neg Bool.false_ne_true]
      have g3 : decide ((n3 + 1 + (n3 + 1) / 4 + 192) * 32 ≤ 281474976710656) = true := gd32 (by omega)
      have g4 : decide (n3 + 1 ≤ 9223372036854775807) = true := gd63 (by omega)
      have all1 : ∀ (a : Int) (b : ByteArray) (d : Int), List.all [[C.int IntKind.i64 a, C.str b, C.int IntKind.i64 d]] (fun (el : List C) => el.length == 3) = true := fun a b d => rfl
      obtain ⟨x, x1, x2⟩ := ihm (k + 1) (n + szR s[k]) n2 (n3 + 1) (rs.set n.toNat true) (ac ++ [actOf s[k].Act]) (by omega) hset.symm (by simp [q3]) (by omega) (by omega) h2 (by omega)
      refine ⟨x, prove_trial_execute_h6_l2_eq ?_, by rw [x2]; simp [st, mark_cons, Nat.add_assoc, Nat.add_comm 1]⟩
      simp only [prove_trial_execute_h6_l2_t, brE_if, gdE_if, EC.decL_encL, EC.isL_encL, EC.encL_length, isE_44, at_44_0, at_44_1, at_44_2, at_44_3, at_44_4, at_44_5, at_44_6, at_44_7, at_44_8, at_44_9, all_49, apd_49, set_4_0_1, e1, e0, if_true, Int.toNat_natCast, hd2, Bool.and_self, getD_in hlt, k4, k2, k1, Bool.false_eq_true, if_false, f1, f2, f3, f4, g3, g4, len1, all1, hcT, hcE, Option.bind_some, w3, w4, w5, e2]
      exact x1
    | false =>
    cases k4 : (s[k].Kind == 4) with
    | true =>
      have hr : runR o c s[k] n = ([n], [], true) := by rw [runR_eq, k4, if_pos rfl]
      rw [hr, if_pos rfl]
      refine ⟨.inl (false, ((n0, (o, (n2, n3))), (c, (rs.set n.toNat true, ac)))), prove_trial_execute_h6_l2_eq ?_, by simp [st, mark]⟩
      simp only [prove_trial_execute_h6_l2_t, brE_if, gdE_if, EC.decL_encL, EC.isL_encL, EC.encL_length, isE_44, at_44_0, at_44_1, at_44_2, at_44_3, at_44_4, at_44_5, at_44_6, at_44_7, at_44_8, at_44_9, all_49, apd_49, set_4_0_1, e1, e0, if_true, Int.toNat_natCast, hd2, Bool.and_self, getD_in hlt, k4, k2, k1, Bool.false_eq_true, if_false, f1, f2, f3, f4]
    | false =>
      have hr : runR o c s[k] n = ([n], [], false) := by rw [runR_eq, k4, if_neg (by decide), k2, if_neg (by decide), k1, if_neg (by decide)]
      rw [hr, if_neg Bool.false_ne_true]
      obtain ⟨x, x1, x2⟩ := ihm (k + 1) (n + szR s[k]) n2 n3 (rs.set n.toNat true) ac (by omega) hset.symm q3 (by omega) (by omega) h2 (by omega)
      refine ⟨x, prove_trial_execute_h6_l2_eq ?_, by rw [x2]; simp [st, mark_cons]⟩
      simp only [prove_trial_execute_h6_l2_t, brE_if, gdE_if, EC.decL_encL, EC.isL_encL, EC.encL_length, isE_44, at_44_0, at_44_1, at_44_2, at_44_3, at_44_4, at_44_5, at_44_6, at_44_7, at_44_8, at_44_9, all_49, apd_49, set_4_0_1, e1, e0, if_true, Int.toNat_natCast, hd2, Bool.and_self, getD_in hlt, k4, k2, k1, Bool.false_eq_true, if_false, f1, f2, f3, f4, hcT, hcE, Option.bind_some, w3, w4, w5, e2]
      exact x1
theorem ex_s (ho : 0 ≤ o) (hc : c.length ≤ 10) : ∀ (q : Nat) (s : List S44), szL s = q → s.length ≤ big → okL s → okvL s → inRL c s → exOk o c n0 s := by
  intro q
  induction q using Nat.strongRecOn with
  | _ q ih =>
    intro s hq hl hok hv hin n n2 n3 rs ac q2 q3 h0 h1 h2 h3
    obtain ⟨x, x1, x2⟩ := ex_loop o c n0 s hl hok (fun r hr hk n2 n3 rs ac => holds_s o ho c hc n0 n2 n3 rs ac _ (tOf r) rfl ((okR_eq r).1 (okL_get hok hr)).1 (okvR_test (okvR hv hr).1 hk) (((inR_eq c r).1 (inRL_get hin hr)).1 hk)) (fun r hr => by
      have h := (okR_eq r).1 (okL_get hok hr)
      have hvr := okvR hv hr
      have hir := (inR_eq c r).1 (inRL_get hin hr)
      exact ⟨ih _ (hq ▸ sz_then hr) r.Then rfl h.2.1.1 h.2.1.2 hvr.2.1 hir.2.1, ih _ (hq ▸ sz_else hr) r.Else rfl h.2.2.1.1 h.2.2.1.2 hvr.2.2 hir.2.2⟩) s.length 0 n n2 n3 rs ac (by omega) q2 q3 h0 (by rw [List.drop_zero]; exact h1) h2 (by rw [List.drop_zero]; omega)
    have x1 : prove_trial_execute_h6_l2 n s s.length 0 n0 o n2 n3 c rs ac = some x := x1
    rw [List.drop_zero] at x2
    refine prove_trial_execute_h6_eq ?_
    simp only [prove_trial_execute_h6_t, gdE_if, EC.decL_encL, EC.isL_encL, EC.encL_length, if_true, x1, Option.bind_some]
    rcases x with ⟨a, b⟩ | ⟨a, b⟩
    · obtain ⟨z1, z2⟩ := Prod.mk.inj x2
      simp only [Sum.elim_inl, ← z1, ← z2]
    · obtain ⟨z1, z2⟩ := Prod.mk.inj x2
      simp only [Sum.elim_inr, ← z1, ← z2]
end
end Go.Proofs.Ytokahibbkdbndaa
/- Each simple test of a script is in the list that was collected. -/
namespace Go.Proofs.Ytokahibbkdbndaa
open Go.RowKit

def ext (a b : List S42) : Prop := ∃ d, b = a ++ d
theorem ext_refl (a : List S42) : ext a a := ⟨[], by simp⟩
theorem ext_trans {a b c : List S42} (h1 : ext a b) (h2 : ext b c) : ext a c := by
  obtain ⟨d, rfl⟩ := h1
  obtain ⟨e, rfl⟩ := h2
  exact ⟨d ++ e, by simp⟩
theorem hasB_ext {a b : List S42} (h : ext a b) {t : S42} (ht : hasB a t = true) : hasB b t = true := by
  obtain ⟨d, rfl⟩ := h
  unfold hasB at *
  rw [List.any_append, ht, Bool.true_or]
mutual
theorem inT_ext {a b : List S42} (h : ext a b) : ∀ (t : S42), inT a t → inT b t
  | ⟨k, l, nm, p, tx, n⟩, ht => by
    rw [inT] at *
    exact ⟨fun hk => hasB_ext h (ht.1 hk), inL_ext h l ht.2⟩
theorem inL_ext {a b : List S42} (h : ext a b) : ∀ (l : List S42), inL a l → inL b l
  | [], _ => by rw [inL]; trivial
  | t :: l, ht => by
    rw [inL] at *
    exact ⟨inT_ext h t ht.1, inL_ext h l ht.2⟩
end
mutual
theorem inR_ext {a b : List S42} (h : ext a b) : ∀ (r : S44), inR a r → inR b r
  | ⟨kd, k, ts, nm, p, tx, n, t, e, a1, a2, a3, a4⟩, hr => by
    rw [inR] at *
    exact ⟨fun hk => inT_ext h _ (hr.1 hk), inRL_ext h t hr.2.1, inRL_ext h e hr.2.2⟩
theorem inRL_ext {a b : List S42} (h : ext a b) : ∀ (l : List S44), inRL a l → inRL b l
  | [], _ => by rw [inRL]; trivial
  | r :: l, hr => by
    rw [inRL] at *
    exact ⟨inR_ext h r hr.1, inRL_ext h l hr.2⟩
end
theorem addT_ext (l : List S42) (t : S42) : ext l (addT l t) := by
  unfold addT
  split
  · exact ⟨[t], rfl⟩
  · exact ext_refl l
theorem sameB_refl (t : S42) : sameB t t = true := by simp [sameB]
theorem addT_has (l : List S42) (t : S42) (hk : t.Kind > 4) : hasB (addT l t) t = true := by
  unfold addT
  cases hh : hasB l t with
  | true => simp [hh]
  | false =>
    rw [decide_eq_true hk]
    simp [hasB, sameB_refl]
mutual
theorem colT_ext : ∀ (t : S42) (l : List S42), ext l (colT l t)
  | ⟨k, ts, nm, p, tx, n⟩, l => by
    rw [colT]
    exact ext_trans (addT_ext l _) (colL_ext ts _)
theorem colL_ext : ∀ (ts : List S42) (l : List S42), ext l (colL l ts)
  | [], l => by rw [colL]; exact ext_refl l
  | t :: ts, l => by rw [colL]; exact ext_trans (colT_ext t l) (colL_ext ts _)
end
mutual
theorem colT_in : ∀ (t : S42) (l : List S42), inT (colT l t) t
  | ⟨k, ts, nm, p, tx, n⟩, l => by
    rw [colT, inT]
    exact ⟨fun hk => hasB_ext (colL_ext ts _) (addT_has l ⟨k, ts, nm, p, tx, n⟩ hk), colL_in ts _⟩
theorem colL_in : ∀ (ts : List S42) (l : List S42), inL (colL l ts) ts
  | [], l => by rw [inL]; trivial
  | t :: ts, l => by
    rw [colL, inL]
    exact ⟨inT_ext (colL_ext ts _) t (colT_in t l), colL_in ts _⟩
end
mutual
theorem tsR_ext : ∀ (r : S44) (l : List S42), ext l (tsR l r)
  | ⟨kd, k, ts, nm, p, tx, n, t, e, a1, a2, a3, a4⟩, l => by
    rw [tsR]
    refine ext_trans ?_ (ext_trans (tsL_ext t _) (tsL_ext e _))
    split
    · exact colT_ext _ l
    · exact ext_refl l
theorem tsL_ext : ∀ (rs : List S44) (l : List S42), ext l (tsL l rs)
  | [], l => by rw [tsL]; exact ext_refl l
  | r :: rs, l => by rw [tsL]; exact ext_trans (tsR_ext r l) (tsL_ext rs _)
end
mutual
theorem tsR_in : ∀ (r : S44) (l : List S42), inR (tsR l r) r
  | ⟨kd, k, ts, nm, p, tx, n, t, e, a1, a2, a3, a4⟩, l => by
    rw [tsR, inR]
    refine ⟨fun hk => ?_, inRL_ext (tsL_ext e _) t (tsL_in t _), tsL_in e _⟩
    rw [if_pos hk]
    exact inT_ext (ext_trans (tsL_ext t _) (tsL_ext e _)) _ (colT_in ⟨k, ts, nm, p, tx, n⟩ l)
theorem tsL_in : ∀ (rs : List S44) (l : List S42), inRL (tsL l rs) rs
  | [], l => by rw [inRL]; trivial
  | r :: rs, l => by
    rw [tsL, inRL]
    exact ⟨inR_ext (tsL_ext rs _) r (tsR_in r l), tsL_in rs _⟩
end
end Go.Proofs.Ytokahibbkdbndaa
