/- The merging loop of freebusy.Union, in plain words. -/
import Derived.Test.YtbbaldhmeifloaaU3
namespace Go.Proofs.Ytbbaldhmeifloaa
open Go.RowKit

theorem stepU_length (out : List Pd) (p : Pd) : (stepU out p).length ≤ out.length + 1 := by
  unfold stepU
  cases hq : out.getLast? with
  | none => simp
  | some q =>
    obtain ⟨ys, rfl⟩ := List.getLast?_eq_some_iff.1 hq
    simp only [List.dropLast_concat]
    split <;> simp
theorem union_loop (l : List Pd) (hn : l.length ≤ 1000000000) : ∀ (m k : Nat) (b : List Pd), k + m = l.length → b.length ≤ k →
    union_l5 b.length l l.length k b = some (((mergeU b (l.drop k)).length, l, (l.length : Int), (l.length : Int), false), mergeU b (l.drop k)) := by
  intro m
  induction m with
  | zero =>
    intro k b hk hb
    have : k = l.length := by omega
    subst this
    refine union_l5_eq ?_
    simp only [union_l5_t, brE_if, gdE_if, EC.decL_encL, EC.isL_encL, EC.encL_length, isE_58, at_58_0, at_58_1, all_58, apd_58, set_58_1_1]
    simp [mergeU]
  | succ m ih =>
    intro k b hk hb
    have hlt : k < l.length := by omega
    have hk' : (k : Int) < (l.length : Int) := by omega
    have hs := stepU_length b l[k]
    have h1 := ih (k + 1) (stepU b l[k]) (by omega) (by omega)
    have e : mergeU b (l.drop k) = mergeU (stepU b l[k]) (l.drop (k + 1)) := by rw [drop_at hlt]; rfl
    rw [e]
    refine union_l5_eq ?_
    cases hq : b.getLast? with
    | none =>
      have : b = [] := by simpa using hq
      subst this
      have e1 : stepU [] l[k] = [l[k]] := rfl
      rw [e1] at h1 ⊢
      have hw : IntKind.i64.wrap (((0 : Nat) : Int) - 1) = -1 := rfl
      simp only [union_l5_t, brE_if, gdE_if, EC.decL_encL, EC.isL_encL, EC.encL_length, isE_58, at_58_0, at_58_1, all_58, apd_58, set_58_1_1, Int.toNat_natCast, getD_in hlt, List.length_nil, hw, wrap_nat hlt (show l.length ≤ 9223372036854775807 by omega)]
      have e2 : ({ From := l[k].From, To := l[k].To } : Pd) = l[k] := rfl
      simp only [e2, List.nil_append]
      simp only [List.length_cons, List.length_nil] at h1
      simp only [Nat.zero_add] at h1
      simp [hlt]
      rw [← h1]
      norm_cast
    | some q =>
      obtain ⟨ys, rfl⟩ := List.getLast?_eq_some_iff.1 hq
      simp only [List.length_append, List.length_cons, List.length_nil] at hb
      have hw : IntKind.i64.wrap ((((ys ++ [q]).length : Nat) : Int) - 1) = (ys.length : Int) := by
        rw [wrap_in (by simp) (by simp; omega)]; simp
      have hyl : ys.length < (ys ++ [q]).length := by simp
      have hg : (ys ++ [q])[ys.length]'hyl = q := by simp
      simp only [union_l5_t, brE_if, gdE_if, EC.decL_encL, EC.isL_encL, EC.encL_length, isE_58, at_58_0, at_58_1, all_58, apd_58, set_58_1_1, Int.toNat_natCast, getD_in hlt, hw, wrap_nat hlt (show l.length ≤ 9223372036854775807 by omega), getD_in hyl, hg, len_58 _ _ hyl, isP1_58 _ _ hyl]
      have c1 : (ys.length : Int) < (((ys ++ [q]).length : Nat) : Int) := by omega
      by_cases hle : l[k].From ≤ q.To
      · have e1 : stepU (ys ++ [q]) l[k] = ys ++ [⟨q.From, max q.To l[k].To⟩] := by simp [stepU, hle]
        have e2 : (ys ++ [q]).set ys.length ⟨q.From, if q.To < l[k].To then l[k].To else q.To⟩ = ys ++ [⟨q.From, max q.To l[k].To⟩] := by
          rw [List.set_append_right _ _ (Nat.le_refl _)]
          have : (if q.To < l[k].To then l[k].To else q.To) = max q.To l[k].To := by split <;> omega
          simp [this]
        have e3 : (ys ++ [(⟨q.From, max q.To l[k].To⟩ : Pd)]).length = (ys ++ [q]).length := by simp
        rw [e1] at h1 ⊢
        rw [e3] at h1
        simp only [hle, hk', hlt, hyl, c1, if_true, decide_true, Bool.and_self, Int.natCast_nonneg, e2, h1, ge_iff_le, beq_self_eq_true]
      · have e1 : stepU (ys ++ [q]) l[k] = ys ++ [q] ++ [l[k]] := by simp [stepU, hle]
        have e2 : ({ From := l[k].From, To := l[k].To } : Pd) = l[k] := rfl
        have e3 : (ys ++ [q] ++ [l[k]]).length = (ys ++ [q]).length + [[C.int IntKind.i64 l[k].From, C.int IntKind.i64 l[k].To]].length := by simp
        have e4 : ((ys ++ [q]).length + [[C.int IntKind.i64 l[k].From, C.int IntKind.i64 l[k].To]].length) * 16 ≤ 140737488355328 := by simp; omega
        have e5 : (ys ++ [q]).length + [[C.int IntKind.i64 l[k].From, C.int IntKind.i64 l[k].To]].length ≤ 9223372036854775807 := by simp; omega
        rw [e1] at h1 ⊢
        rw [e3] at h1
        simp only [hle, hk', hlt, hyl, c1, if_true, decide_true, decide_false, Bool.and_self, Int.natCast_nonneg, e2, ge_iff_le, beq_self_eq_true, Bool.false_eq_true, if_false, List.all_cons, List.all_nil, List.length_cons, List.length_nil]
        simp only [List.length_append, List.length_cons, List.length_nil, Int.natCast_add, List.append_assoc, List.cons_append, List.nil_append, Nat.zero_add, Int.natCast_one] at h1 ⊢
        simp only [h1]
        simp
        omega
theorem union_g3_sp (l : List Pd) (hn : l.length ≤ 1000000000) : union_g3 l = some ((mergeU [] l).length, mergeU [] l) := union_g3_eq (by
  have h := union_loop l hn l.length 0 [] (by omega) (by simp)
  rw [List.drop_zero] at h
  simp only [List.length_nil, Int.natCast_zero] at h
  simp only [union_g3_t, gdE_if, EC.decL_encL, EC.isL_encL, EC.encL_length, EC_nilD, if_true, h, Option.bind_some])
end Go.Proofs.Ytbbaldhmeifloaa
