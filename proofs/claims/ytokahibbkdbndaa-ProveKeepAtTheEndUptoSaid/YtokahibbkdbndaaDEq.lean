/- Equality at a type. -/
import Derived.Test.YtokahibbkdbndaaDOps0
namespace Go.Proofs.Ytokahibbkdbndaa
open Go.RowKit
section
variable {P : Program} {Z Y : ZMap} {m : Nat → Option Value}

theorem run_program (w : World) : (program).run P w = .ok P w := rfl

theorem eqV_sim : ∀ (d : Nat) {t : TypeId} {x y : V} {vx vy : Value} {q : Bool}, eqV P d t x y = some q → Rep Z Y m vx x → Rep Z Y m vy y → ∀ D, d ≤ D → ∀ w, (Op.equalIn D t vx vy).run P w = .ok q w
  | 0, _, _, _, _, _, _, h, _, _, _, _, _ => by cases h
  | d + 1, t, x, y, vx, vy, q, h, rx, ry, D, hD, w => by
    obtain ⟨D, rfl⟩ : ∃ D', D = D' + 1 := ⟨D - 1, by omega⟩
    unfold eqV at h
    unfold Op.equalIn
    cases hu : P.underlying t with
    | none => rw [hu] at h; cases h
    | some u =>
      rw [hu] at h
      simp only [Sem.run_bind, run_und hu, Result.andThen_ok]
      split at h
      · rename_i e; injection e with e; subst e
        cases rx with | c rx => cases ry with | c ry => cases rx; cases ry; injection h with h; subst h; rfl
      · rename_i e; injection e with e; subst e
        cases rx with | c rx => cases ry with | c ry =>
          cases rx; cases ry
          split at h
          · rename_i hk; injection h with h; subst h hk; simp
          · cases h
      · rename_i e; injection e with e; subst e
        cases rx with | c rx => cases ry with | c ry => cases rx; cases ry; injection h with h; subst h; rfl
      · rename_i e; injection e with e; subst e
        cases rx with | c rx => cases ry with | c ry => cases rx; cases ry; injection h with h; subst h; rfl
      · rename_i e; injection e with e; subst e
        cases rx with | c rx => cases ry with | c ry => cases rx; cases ry; injection h with h; subst h; rfl
      · rename_i e; injection e with e; subst e
        cases rx with | c rx => cases ry with | c ry =>
          cases ry
          injection h with h; subst h
          cases rx with
          | sl A n c k b off U es hl hc hm hk hA hz hr hN =>
            have := hA (by simp)
            subst this
            rfl
      · rename_i fs xs ys e; injection e with e; subst e
        cases rx with | agg vs _ hl h1 hr => cases ry with | agg us _ hl' h1' hr' =>
        split at h
        · cases h
        · rename_i hns
          simp only [Bool.or_eq_true, not_or, Bool.not_eq_true] at hns
          obtain ⟨⟨hst, _⟩, hnm⟩ := hns
          have rx : Rep Z Y m (.agg vs) (.agg xs) := .agg vs xs hl h1 hr
          have ry : Rep Z Y m (.agg us) (.agg ys) := .agg us ys hl' h1' hr'
          simp only [Sem.run_bind, run_program, Result.andThen_ok, hst, Bool.false_eq_true, if_false]
          rw [← Array.forIn_toList]
          clear hl h1 hr hl' h1' hr'
          revert h hnm
          generalize fs.toList = l
          intro h hnm
          induction l with
          | nil => simp at h; subst h; rfl
          | cons f l ih =>
            simp only [List.any_cons, Bool.or_eq_false_iff] at hnm
            have hf : f.name ≠ "_" := by simpa using hnm.1
            simp only [List.foldr_cons] at h
            cases h2 : partV P f.type xs f.offset with
            | none => rw [h2] at h; cases h
            | some a =>
              cases h3 : partV P f.type ys f.offset with
              | none => rw [h2, h3] at h; cases h
              | some b =>
                rw [h2, h3] at h
                simp only [Option.bind_some] at h
                cases h4 : eqV P d f.type a b with
                | none => rw [h4] at h; cases h
                | some q' =>
                  rw [h4] at h
                  simp only [Option.bind_some] at h
                  obtain ⟨ca, ra, pa⟩ := part_sim h2 rx
                  obtain ⟨cb, rb, pb⟩ := part_sim h3 ry
                  have := eqV_sim d h4 ra rb D (by omega)
                  simp only [List.forIn_cons, hf, ne_eq, not_false_eq_true, if_true, Sem.run_bind, pa, pb, Result.andThen_ok, this]
                  cases q' with
                  | false => simp at h; subst h; rfl
                  | true => simp only [if_true] at h; simp only [Bool.not_true, Bool.false_eq_true, if_false, Sem.run_pure, Result.andThen_ok]; exact ih h hnm.2
      · cases h
end
end Go.Proofs.Ytokahibbkdbndaa
