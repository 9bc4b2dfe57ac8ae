/- Operations that reckon with values alone do in the model what they do in the machine. -/
import Derived.Test.YtokahibbkdbndaaDRep
namespace Go.Proofs.Ytokahibbkdbndaa
open Go.RowKit

section
variable {P : Program} {Z Y : ZMap} {m : Nat → Option Value}

theorem run_und {t : TypeId} {d : TypeDesc} (h : P.underlying t = some d) (w : World) : (underlying t).run P w = .ok d w := run_underlying h w
theorem run_inf {t : TypeId} {i : TypeInfo} (h : P.info? t = some i) (w : World) : (typeInfo t).run P w = .ok i w := by
  simp [typeInfo, program, Sem.run, h, bind, Sem.bind, pure]
theorem run_sz {t : TypeId} {n : Nat} (h : szO P t = some n) (w : World) : (sizeOf t).run P w = .ok n w := by
  unfold szO at h
  cases hi : P.info? t with
  | none => rw [hi] at h; cases h
  | some i =>
    rw [hi] at h
    injection h with h
    subst h
    simp [sizeOf, run_inf hi]
theorem run_agg {t : TypeId} {b : Bool} (h : aggB P t = some b) (w : World) : (isAgg t).run P w = .ok b w := by
  unfold aggB at h
  unfold isAgg
  cases hu : P.underlying t with
  | none => rw [hu] at h; cases h
  | some d =>
    rw [hu] at h
    simp only [Sem.run_bind, run_und hu, Result.andThen_ok]
    cases d <;> simp at h <;> subst h <;> rfl
theorem run_zero {t : TypeId} {i : TypeInfo} {z : Value} (h : P.info? t = some i) (hz : i.zero = some z) (w : World) : (zeroValue t).run P w = .ok z w := by
  simp [zeroValue, run_inf h, hz]

theorem Rep.agg_get {vs : Array Value} {cs : List V} (r : Rep Z Y m (.agg vs) (.agg cs)) {i : Nat} {x : V} (h : cs[i]? = some x) : ∃ u, vs[i]? = some u ∧ Rep Z Y m u x ∧ u.oneCell' = true := by
  cases r with
  | agg _ _ hl h1 hr =>
    have hi : i < vs.size := by rw [hl]; exact (List.getElem?_eq_some_iff.1 h).1
    exact ⟨vs[i], Array.getElem?_eq_getElem hi, hr i _ _ (Array.getElem?_eq_getElem hi) h, h1 _ (by simp)⟩
theorem Rep.agg_size {vs : Array Value} {cs : List V} (r : Rep Z Y m (.agg vs) (.agg cs)) : vs.size = cs.length := by cases r; assumption
theorem Rep.agg_one {vs : Array Value} {cs : List V} (r : Rep Z Y m (.agg vs) (.agg cs)) : ∀ u ∈ vs.toList, u.oneCell' = true := by cases r; assumption
theorem Rep.agg_extract {vs : Array Value} {cs : List V} (r : Rep Z Y m (.agg vs) (.agg cs)) (off n : Nat) (h : off + n ≤ cs.length) : Rep Z Y m (.agg (vs.extract off (off + n))) (.agg ((cs.drop off).take n)) := by
  have hs := r.agg_size
  refine .agg _ _ (by simp; omega) ?_ ?_
  · intro u hu
    apply r.agg_one
    simp only [Array.toList_extract, List.extract_eq_take_drop] at hu
    exact List.mem_of_mem_drop (List.mem_of_mem_take hu)
  · intro i u x hu hx
    rw [List.getElem?_take] at hx
    split at hx
    · rename_i hi
      rw [List.getElem?_drop] at hx
      obtain ⟨u', hu', hr, _⟩ := r.agg_get hx
      rw [Array.getElem?_extract_of_lt (by omega)] at hu
      rw [Array.getElem?_eq_getElem (by omega)] at hu'
      injection hu with hu
      injection hu' with hu'
      subst hu hu'
      exact hr
    · cases hx

theorem part_sim {t : TypeId} {vs : Array Value} {cs : List V} {off : Nat} {v : V} (h : partV P t cs off = some v) (r : Rep Z Y m (.agg vs) (.agg cs)) : ∃ cv, Rep Z Y m cv v ∧ ∀ w, (part t vs off).run P w = .ok cv w := by
  unfold partV at h
  cases ha : aggB P t with
  | none => rw [ha] at h; cases h
  | some b =>
    cases hs : szO P t with
    | none => rw [ha, hs] at h; cases h
    | some n =>
      rw [ha, hs] at h
      simp only [Option.bind_some] at h
      cases b with
      | true =>
        simp only [if_true] at h
        split at h
        · rename_i hle
          injection h with h
          subst h
          exact ⟨_, r.agg_extract off n hle, fun w => by simp [part, run_agg ha, run_sz hs]⟩
        · cases h
      | false =>
        simp only [Bool.false_eq_true, if_false] at h
        obtain ⟨u, hu, hr, _⟩ := r.agg_get h
        exact ⟨u, hr, fun w => by simp [part, run_agg ha, hu]⟩

theorem int_sim {op : BinOp} {k : IntKind} {a b : Int} {x : C} (hs : op ≠ .shl ∧ op ≠ .shr) (h : intOp op k a b = some x) (t : TypeId) : ∃ cv, RepC Z cv x ∧ ∀ w, (binOp op t (.int k a) (.int k b)).run P w = .ok cv w := by
  cases op <;> simp [intOp] at h hs <;> first
    | (subst h; exact ⟨_, by first | exact .int _ _ | exact .bool _, fun w => by simp [binOp, Op.intArith, Op.intCmp, Op.intBits]⟩)
    | (obtain ⟨h0, h⟩ := h; subst h; exact ⟨_, .int _ _, fun w => by simp [binOp, Op.intDiv, h0]⟩)
theorem sh_sim {op : BinOp} {k k' : IntKind} {a b : Int} {x : C} (h : shOp op k a b = some x) (t : TypeId) : ∃ cv, RepC Z cv x ∧ ∀ w, (binOp op t (.int k a) (.int k' b)).run P w = .ok cv w := by
  cases op <;> simp [shOp] at h <;> (obtain ⟨h0, h⟩ := h; subst h; exact ⟨_, .int _ _, fun w => by simp [binOp, Op.shift, Int.not_lt.2 h0]⟩)
theorem str_sim {op : BinOp} {a b : ByteArray} {x : C} (h : strOp op a b = some x) (t : TypeId) : ∃ cv, RepC Z cv x ∧ ∀ w, (binOp op t (.string a) (.string b)).run P w = .ok cv w := by
  cases op <;> simp only [strOp] at h <;> first
    | (cases h; done)
    | (split at h
       · cases h
       · rename_i h0
         injection h with h; subst h; exact ⟨_, .str _, fun w => by simp only [binOp, Op.stringOp]; rw [if_neg h0]; rfl⟩)
    | (injection h with h; subst h; exact ⟨_, .bool _, fun w => by simp [binOp, Op.stringOp]⟩)
end
end Go.Proofs.Ytokahibbkdbndaa
