/- Operations that reckon with values alone do in the model what they do in the machine. -/
import Derived.Test.YtomnbknaanlmaaaGreatDoorZ00
namespace Go.Proofs.YtomnbknaanlmaaaGreatDoor
open Go.RowKit
section
variable {P : Program} {Z Y : ZMap} {m : Nat → Option Value}
theorem run_und {t : TypeId} {d : TypeDesc} (h : P.underlying t = some d) (w : World) : (underlying t).run P w = .ok d w := run_underlying h w
theorem run_inf {t : TypeId} {i : TypeInfo} (h : P.info? t = some i) (w : World) : (typeInfo t).run P w = .ok i w := by
  simp [typeInfo, program, Sem.run, h, bind, Sem.bind, pure]
theorem run_sz {t : TypeId} {n : Nat} (h : szO P t = some n) (w : World) : (sizeOf t).run P w = .ok n w := by
  unfold szO at h
  cases hi : P.info? t with
  | none => rw [hi] at h; cases h
  | some i =>
    rw [hi] at h
    injection h with h
    subst h
    simp [sizeOf, run_inf hi]
theorem run_agg {t : TypeId} {b : Bool} (h : aggB P t = some b) (w : World) : (isAgg t).run P w = .ok b w := by
  unfold aggB at h
  unfold isAgg
  cases hu : P.underlying t with
  | none => rw [hu] at h; cases h
  | some d =>
    rw [hu] at h
    simp only [Sem.run_bind, run_und hu, Result.andThen_ok]
    cases d <;> simp at h <;> subst h <;> rfl
theorem run_zero {t : TypeId} {i : TypeInfo} {z : Value} (h : P.info? t = some i) (hz : i.zero = some z) (w : World) : (zeroValue t).run P w = .ok z w := by
  simp [zeroValue, run_inf h, hz]
theorem Rep.agg_get {vs : Array Value} {cs : List V} (r : Rep Z Y m (.agg vs) (.agg cs)) {i : Nat} {x : V} (h : cs[i]? = some x) : ∃ u, vs[i]? = some u ∧ Rep Z Y m u x ∧ u.oneCell' = true := by
  cases r with
  | agg _ _ hl h1 hr =>
    have hi : i < vs.size := by rw [hl]; exact (List.getElem?_eq_some_iff.1 h).1
    exact ⟨vs[i], Array.getElem?_eq_getElem hi, hr i _ _ (Array.getElem?_eq_getElem hi) h, h1 _ (by simp)⟩
theorem Rep.agg_size {vs : Array Value} {cs : List V} (r : Rep Z Y m (.agg vs) (.agg cs)) : vs.size = cs.length := by cases r; assumption
theorem Rep.agg_one {vs : Array Value} {cs : List V} (r : Rep Z Y m (.agg vs) (.agg cs)) : ∀ u ∈ vs.toList, u.oneCell' = true := by cases r; assumption
theorem Rep.agg_extract {vs : Array Value} {cs : List V} (r : Rep Z Y m (.agg vs) (.agg cs)) (off n : Nat) (h : off + n ≤ cs.length) : Rep Z Y m (.agg (vs.extract off (off + n))) (.agg ((cs.drop off).take n)) := by
  have hs := r.agg_size
  refine .agg _ _ (by simp; omega) ?_ ?_
  · intro u hu
    apply r.agg_one
    simp only [Array.toList_extract, List.extract_eq_take_drop] at hu
    exact List.mem_of_mem_drop (List.mem_of_mem_take hu)
  · intro i u x hu hx
    rw [List.getElem?_take] at hx
    split at hx
    · rename_i hi
      rw [List.getElem?_drop] at hx
      obtain ⟨u', hu', hr, _⟩ := r.agg_get hx
      rw [Array.getElem?_extract_of_lt (by omega)] at hu
      rw [Array.getElem?_eq_getElem (by omega)] at hu'
      injection hu with hu
      injection hu' with hu'
      subst hu hu'
      exact hr
    · cases hx
theorem part_sim {t : TypeId} {vs : Array Value} {cs : List V} {off : Nat} {v : V} (h : partV P t cs off = some v) (r : Rep Z Y m (.agg vs) (.agg cs)) : ∃ cv, Rep Z Y m cv v ∧ ∀ w, (part t vs off).run P w = .ok cv w := by
  unfold partV at h
  cases ha : aggB P t with
  | none => rw [ha] at h; cases h
  | some b =>
    cases hs : szO P t with
    | none => rw [ha, hs] at h; cases h
    | some n =>
      rw [ha, hs] at h
      simp only [Option.bind_some] at h
      cases b with
      | true =>
        simp only [if_true] at h
        split at h
        · rename_i hle
          injection h with h
          subst h
          exact ⟨_, r.agg_extract off n hle, fun w => by simp [part, run_agg ha, run_sz hs]⟩
        · cases h
      | false =>
        simp only [Bool.false_eq_true, if_false] at h
        obtain ⟨u, hu, hr, _⟩ := r.agg_get h
        exact ⟨u, hr, fun w => by simp [part, run_agg ha, hu]⟩
theorem int_sim {op : BinOp} {k : IntKind} {a b : Int} {x : C} (hs : op ≠ .shl ∧ op ≠ .shr) (h : intOp op k a b = some x) (t : TypeId) : ∃ cv, RepC Z cv x ∧ ∀ w, (binOp op t (.int k a) (.int k b)).run P w = .ok cv w := by
  cases op <;> simp [intOp] at h hs <;> first
    | (subst h; exact ⟨_, by first | exact .int _ _ | exact .bool _, fun w => by simp [binOp, Op.intArith, Op.intCmp, Op.intBits]⟩)
    | (obtain ⟨h0, h⟩ := h; subst h; exact ⟨_, .int _ _, fun w => by simp [binOp, Op.intDiv, h0]⟩)
theorem sh_sim {op : BinOp} {k k' : IntKind} {a b : Int} {x : C} (h : shOp op k a b = some x) (t : TypeId) : ∃ cv, RepC Z cv x ∧ ∀ w, (binOp op t (.int k a) (.int k' b)).run P w = .ok cv w := by
  cases op <;> simp [shOp] at h <;> (obtain ⟨h0, h⟩ := h; subst h; exact ⟨_, .int _ _, fun w => by simp [binOp, Op.shift, Int.not_lt.2 h0]⟩)
theorem str_sim {op : BinOp} {a b : ByteArray} {x : C} (h : strOp op a b = some x) (t : TypeId) : ∃ cv, RepC Z cv x ∧ ∀ w, (binOp op t (.string a) (.string b)).run P w = .ok cv w := by
  cases op <;> simp only [strOp] at h <;> first
    | (cases h; done)
    | (split at h
       · cases h
       · rename_i h0
         injection h with h; subst h; exact ⟨_, .str _, fun w => by simp only [binOp, Op.stringOp]; rw [if_neg h0]; rfl⟩)
    | (injection h with h; subst h; exact ⟨_, .bool _, fun w => by simp [binOp, Op.stringOp]⟩)
end
end Go.Proofs.YtomnbknaanlmaaaGreatDoor
namespace Go.Proofs.YtomnbknaanlmaaaGreatDoor
open Go.RowKit
section
variable {P : Program} {Z Y : ZMap} {m : Nat → Option Value}
theorem run_program (w : World) : (program).run P w = .ok P w := rfl
theorem eqV_sim : ∀ (d : Nat) {t : TypeId} {x y : V} {vx vy : Value} {q : Bool}, eqV P d t x y = some q → Rep Z Y m vx x → Rep Z Y m vy y → ∀ D, d ≤ D → ∀ w, (Op.equalIn D t vx vy).run P w = .ok q w
  | 0, _, _, _, _, _, _, h, _, _, _, _, _ => by cases h
  | d + 1, t, x, y, vx, vy, q, h, rx, ry, D, hD, w => by
    obtain ⟨D, rfl⟩ : ∃ D', D = D' + 1 := ⟨D - 1, by omega⟩
    unfold eqV at h
    unfold Op.equalIn
    cases hu : P.underlying t with
    | none => rw [hu] at h; cases h
    | some u =>
      rw [hu] at h
      simp only [Sem.run_bind, run_und hu, Result.andThen_ok]
      split at h
      · rename_i e; injection e with e; subst e
        cases rx with | c rx => cases ry with | c ry => cases rx; cases ry; injection h with h; subst h; rfl
      · rename_i e; injection e with e; subst e
        cases rx with | c rx => cases ry with | c ry =>
          cases rx; cases ry
          split at h
          · rename_i hk; injection h with h; subst h hk; simp
          · cases h
      · rename_i e; injection e with e; subst e
        cases rx with | c rx => cases ry with | c ry => cases rx; cases ry; injection h with h; subst h; rfl
      · rename_i e; injection e with e; subst e
        cases rx with | c rx => cases ry with | c ry => cases rx; cases ry; injection h with h; subst h; rfl
      · rename_i e; injection e with e; subst e
        cases rx with | c rx => cases ry with | c ry => cases rx; cases ry; injection h with h; subst h; rfl
      · rename_i e; injection e with e; subst e
        cases rx with | c rx => cases ry with | c ry =>
          cases ry
          injection h with h; subst h
          cases rx with
          | sl A n c k b off U es hl hc hm hk hA hz hr hN =>
            have := hA (by simp)
            subst this
            rfl
      · rename_i fs xs ys e; injection e with e; subst e
        cases rx with | agg vs _ hl h1 hr => cases ry with | agg us _ hl' h1' hr' =>
        split at h
        · cases h
        · rename_i hns
          simp only [Bool.or_eq_true, not_or, Bool.not_eq_true] at hns
          obtain ⟨⟨hst, _⟩, hnm⟩ := hns
          have rx : Rep Z Y m (.agg vs) (.agg xs) := .agg vs xs hl h1 hr
          have ry : Rep Z Y m (.agg us) (.agg ys) := .agg us ys hl' h1' hr'
          simp only [Sem.run_bind, run_program, Result.andThen_ok, hst, Bool.false_eq_true, if_false]
          rw [← Array.forIn_toList]
          clear hl h1 hr hl' h1' hr'
          revert h hnm
          generalize fs.toList = l
          intro h hnm
          induction l with
          | nil => simp at h; subst h; rfl
          | cons f l ih =>
            simp only [List.any_cons, Bool.or_eq_false_iff] at hnm
            have hf : f.name ≠ "_" := by simpa using hnm.1
            simp only [List.foldr_cons] at h
            cases h2 : partV P f.type xs f.offset with
            | none => rw [h2] at h; cases h
            | some a =>
              cases h3 : partV P f.type ys f.offset with
              | none => rw [h2, h3] at h; cases h
              | some b =>
                rw [h2, h3] at h
                simp only [Option.bind_some] at h
                cases h4 : eqV P d f.type a b with
                | none => rw [h4] at h; cases h
                | some q' =>
                  rw [h4] at h
                  simp only [Option.bind_some] at h
                  obtain ⟨ca, ra, pa⟩ := part_sim h2 rx
                  obtain ⟨cb, rb, pb⟩ := part_sim h3 ry
                  have := eqV_sim d h4 ra rb D (by omega)
                  simp only [List.forIn_cons, hf, ne_eq, not_false_eq_true, if_true, Sem.run_bind, pa, pb, Result.andThen_ok, this]
                  cases q' with
                  | false => simp at h; subst h; rfl
                  | true => simp only [if_true] at h; simp only [Bool.not_true, Bool.false_eq_true, if_false, Sem.run_pure, Result.andThen_ok]; exact ih h hnm.2
      · cases h
end
end Go.Proofs.YtomnbknaanlmaaaGreatDoor
namespace Go.Proofs.YtomnbknaanlmaaaGreatDoor
open Go.RowKit
section
variable {P : Program} {Z Y : ZMap} {m : Nat → Option Value}
theorem run_mapM {α β : Type} (f : α → Sem β) (w : World) : ∀ (l : List α) (g : List β), l.length = g.length → (∀ (i : Nat) a b, l[i]? = some a → g[i]? = some b → (f a).run P w = .ok b w) → (l.mapM f).run P w = .ok g w
  | [], [], _, _ => rfl
  | [], _ :: _, h, _ => by cases h
  | _ :: _, [], h, _ => by cases h
  | a :: l, b :: g, h, hr => by
    simp only [List.mapM_cons, Sem.run_bind, hr 0 a b rfl rfl, Result.andThen_ok, run_mapM f w l g (by simpa using h) (fun i x y hx hy => hr (i + 1) x y hx hy), Sem.run_pure]
theorem run_mapMA {α β : Type} (f : α → Sem β) (w : World) (l : Array α) (g : List β) (h : l.size = g.length) (hr : ∀ (i : Nat) a b, l[i]? = some a → g[i]? = some b → (f a).run P w = .ok b w) : (l.mapM f).run P w = .ok g.toArray w := by
  rw [Array.mapM_eq_mapM_toList]
  have := run_mapM (P := P) f w l.toList g (by simpa using h) (fun i a b ha hb => hr i a b (by simpa using ha) hb)
  show (l.toList.mapM f >>= fun x => pure x.toArray).run P w = _
  rw [Sem.run_bind, this]
  rfl
/-- what mapM over options gives -/
theorem mapM_get {α β : Type} (f : α → Option β) : ∀ (l : List α) (g : List β), l.mapM f = some g → l.length = g.length ∧ ∀ (i : Nat) a b, l[i]? = some a → g[i]? = some b → f a = some b
  | [], g, h => by
    simp at h
    subst h
    exact ⟨rfl, by simp⟩
  | a :: l, g, h => by
    simp only [List.mapM_cons] at h
    cases h1 : f a with
    | none => rw [h1] at h; cases h
    | some b =>
      rw [h1] at h
      cases h2 : l.mapM f with
      | none => rw [h2] at h; cases h
      | some g' =>
        rw [h2] at h
        have h : some (b :: g') = some g := h
        injection h with h
        subst h
        obtain ⟨hl, hr⟩ := mapM_get f l g' h2
        refine ⟨by simp [hl], fun i x y hx hy => ?_⟩
        cases i with
        | zero => simp at hx hy; subst hx hy; exact h1
        | succ i => exact hr i x y (by simpa using hx) (by simpa using hy)
theorem fold_get (off : Nat) : ∀ (l : List Value) (k : Nat) (arr : Array Value), ((l.zipIdx k).foldl (fun (cs : Array Value) (p : Value × Nat) => cs.setIfInBounds (off + p.2) p.1) arr).size = arr.size ∧
    ∀ i, i < arr.size → ((l.zipIdx k).foldl (fun (cs : Array Value) (p : Value × Nat) => cs.setIfInBounds (off + p.2) p.1) arr)[i]? = if off + k ≤ i ∧ i < off + k + l.length then l[i - (off + k)]? else arr[i]?
  | [], k, arr => ⟨rfl, fun i hi => by simp; intro h1 h2; omega⟩
  | v :: l, k, arr => by
    obtain ⟨h1, h2⟩ := fold_get off l (k + 1) (arr.setIfInBounds (off + k) v)
    simp only [List.zipIdx_cons, List.foldl_cons]
    refine ⟨by rw [h1]; simp, fun i hi => ?_⟩
    rw [h2 i (by simpa using hi)]
    by_cases e : i = off + k
    · subst e
      rw [if_neg (by omega), if_pos (by simp)]
      simp [Array.getElem?_setIfInBounds_self_of_lt hi]
    · rw [Array.getElem?_setIfInBounds_ne (Ne.symm e)]
      by_cases h3 : off + k ≤ i ∧ i < off + k + (l.length + 1)
      · rw [if_pos (by omega), if_pos (by simpa using h3)]
        obtain ⟨j, hj⟩ : ∃ j, i - (off + k) = j + 1 := ⟨i - (off + k) - 1, by omega⟩
        rw [hj, List.getElem?_cons_succ]
        congr 1
        omega
      · rw [if_neg (by omega), if_neg (by simpa using h3)]
theorem splice_len {α : Type} {cs vs : List α} {off : Nat} (h : off + vs.length ≤ cs.length) : (splice cs off vs).length = cs.length := by simp [splice]; omega
theorem splice_get {α : Type} {cs vs : List α} {off i : Nat} (h : off + vs.length ≤ cs.length) : (splice cs off vs)[i]? = if off ≤ i ∧ i < off + vs.length then vs[i - off]? else cs[i]? := by
  unfold splice
  rw [List.append_assoc, List.getElem?_append]
  simp only [List.length_take]
  by_cases h1 : i < min off cs.length
  · rw [if_pos h1, if_neg (by omega), List.getElem?_take, if_pos (by omega)]
  · rw [if_neg h1, List.getElem?_append]
    have e : min off cs.length = off := by omega
    rw [e] at h1 ⊢
    by_cases h2 : i - off < vs.length
    · rw [if_pos h2, if_pos (by omega)]
    · rw [if_neg h2, if_neg (by omega), List.getElem?_drop]
      congr 1
      omega
theorem fill_sim {place : Nat → Option (Nat × Nat)} {r : Operand → V} {ρ : Operand → Value} (hρ : ∀ x, Rep Z Y m (ρ x) (r x)) : ∀ (ps : List (Nat × Operand)) (cs : List V) (vs : Array Value) (out : List V), buildV place cs (ps.map fun p => (p.1, r p.2)) = some out → Rep Z Y m (.agg vs) (.agg cs) →
    ∃ vs', Instr.fill place vs (ps.map fun p => (p.1, ρ p.2)) = some vs' ∧ Rep Z Y m (.agg vs') (.agg out)
  | [], cs, vs, out, h, hr => by
    injection h with h
    subst h
    exact ⟨vs, rfl, hr⟩
  | (i, x) :: ps, cs, vs, out, h, hr => by
    simp only [List.map_cons, buildV] at h
    cases hp : place i with
    | none => rw [hp] at h; cases h
    | some p =>
      cases hc : (r x).cells with
      | none => rw [hp, hc] at h; cases h
      | some us =>
        rw [hp, hc] at h
        simp only [Option.bind_some] at h
        split at h
        · rename_i hcond
          have rc := (hρ x).cells hc
          have hs := rc.agg_size
          have hs' := hr.agg_size
          have hnew : Rep Z Y m (.agg ((ρ x).cells.zipIdx.foldl (fun (cs : Array Value) (q : Value × Nat) => cs.setIfInBounds (p.1 + q.2) q.1) vs)) (.agg (splice cs p.1 us)) := by
            rw [← Array.foldl_toList, Array.toList_zipIdx]
            obtain ⟨h1, h2⟩ := fold_get p.1 (ρ x).cells.toList 0 vs
            have hget : ∀ j u, ((((ρ x).cells.toList.zipIdx 0).foldl (fun (cs : Array Value) (q : Value × Nat) => cs.setIfInBounds (p.1 + q.2) q.1) vs))[j]? = some u → j < cs.length ∧ if p.1 ≤ j ∧ j < p.1 + us.length then (ρ x).cells[j - p.1]? = some u else vs[j]? = some u := by
              intro j u hu
              have hj : j < vs.size := by rw [← h1]; exact (Array.getElem?_eq_some_iff.1 hu).1
              rw [h2 j hj] at hu
              refine ⟨by omega, ?_⟩
              have e : (ρ x).cells.toList.length = us.length := by simpa using hs
              simp only [Nat.add_zero, e] at hu
              split at hu
              · rename_i hc; rw [if_pos hc]; simpa using hu
              · rename_i hc; rw [if_neg hc]; exact hu
            refine .agg _ _ (by rw [h1, splice_len (by omega)]; exact hs') ?_ ?_
            · intro u hu
              obtain ⟨j, hj⟩ := List.getElem?_of_mem hu
              have := (hget j u (by simpa using hj)).2
              split at this
              · exact rc.agg_one u (List.mem_of_getElem? (i := j - p.1) (by simpa using this))
              · exact hr.agg_one u (List.mem_of_getElem? (i := j) (by simpa using this))
            · intro j u y hu hy
              have := (hget j u hu).2
              rw [splice_get (by omega)] at hy
              split at this
              · rename_i hc
                rw [if_pos hc] at hy
                obtain ⟨u', hu', hr', _⟩ := rc.agg_get hy
                rw [hu'] at this; injection this with this; subst this; exact hr'
              · rename_i hc
                rw [if_neg hc] at hy
                obtain ⟨u', hu', hr', _⟩ := hr.agg_get hy
                rw [hu'] at this; injection this with this; subst this; exact hr'
          obtain ⟨vs', h1, h2⟩ := fill_sim hρ ps _ _ out h hnew
          refine ⟨vs', ?_, h2⟩
          simp only [List.map_cons, Instr.fill, hp]
          rw [if_neg (by simp; omega)]
          exact h1
        · cases h
theorem eqGuard_ok {op : BinOp} {t : TypeId} {x y : Operand} {X Y' : V} {vx vy : Value} {q : Bool} (h : eqV P 9 t X Y' = some q) (rx : Rep Z Y m vx X) (ry : Rep Z Y m vy Y') (w : World) : (eqGuard op t x y vx vy).run P w = .ok () w := by
  unfold eqGuard
  generalize (!(match op with | .eql => true | .neq => true | _ => false)) = b
  cases b with
  | true => rfl
  | false =>
    simp only [Bool.false_eq_true, if_false]
    unfold eqV at h
    cases hu : P.underlying t with
    | none => rw [hu] at h; cases h
    | some u =>
      rw [hu] at h
      split at h <;> first
        | (cases rx with | c rx => cases ry with | c ry => cases rx <;> cases ry <;> rfl)
        | (cases h; done)
        | (cases rx with | agg _ _ _ _ _ => cases ry with | agg _ _ _ _ _ =>
            split at h
            · cases h
            · rename_i hns
              simp only [Bool.or_eq_true, not_or, Bool.not_eq_true] at hns
              obtain ⟨⟨_, hg⟩, _⟩ := hns
              simp only [Sem.run_bind, run_program, Result.andThen_ok, hg, Bool.not_false, if_true, Sem.run_pure])
theorem eqGuard_scalar {op : BinOp} {t : TypeId} {x y : Operand} {vx vy : Value} (h : (∃ k a k' b, vx = .int k a ∧ vy = .int k' b) ∨ ∃ a b, vx = .string a ∧ vy = .string b) (w : World) : (eqGuard op t x y vx vy).run P w = .ok () w := by
  unfold eqGuard
  generalize (!(match op with | .eql => true | .neq => true | _ => false)) = b
  rcases h with ⟨k, a, k', b', rfl, rfl⟩ | ⟨a, b', rfl, rfl⟩ <;> cases b <;> rfl
theorem binOp_eq {t : TypeId} {X Y' : V} {vx vy : Value} {q : Bool} (h : eqV P 9 t X Y' = some q) (rx : Rep Z Y m vx X) (ry : Rep Z Y m vy Y') (hns : (∀ k a k' b, X = .c (.int k a) → Y' = .c (.int k' b) → False) ∧ (∀ a b, X = .c (.str a) → Y' = .c (.str b) → False)) (w : World) :
    (binOp .eql t vx vy).run P w = .ok (.bool q) w ∧ (binOp .neq t vx vy).run P w = .ok (.bool !q) w := by
  have he := eqV_sim 9 h rx ry Op.maxDepth (by decide) w
  have h' := h
  unfold eqV at h'
  cases hu : P.underlying t with
  | none => rw [hu] at h'; cases h'
  | some u =>
    rw [hu] at h'
    split at h' <;> first
      | (cases h'; done)
      | (exact (hns.1 _ _ _ _ rfl rfl).elim)
      | (exact (hns.2 _ _ rfl rfl).elim)
      | (cases rx with | c rx => cases ry with | c ry => cases rx <;> cases ry <;> simp [binOp, Op.equal, he])
      | (cases rx with | agg _ _ _ _ _ => cases ry with | agg _ _ _ _ _ => simp [binOp, Op.equal, he])
theorem bin_sim {op : BinOp} {t : TypeId} {x y : Operand} {X Y' : V} {vx vy : Value} {v : V} (h : binV P op t X Y' = some v) (rx : Rep Z Y m vx X) (ry : Rep Z Y m vy Y') :
    ∃ cv, Rep Z Y m cv v ∧ ∀ w, ((do eqGuard op t x y vx vy; binOp op t vx vy) : Sem Value).run P w = .ok cv w := by
  unfold binV at h
  split at h
  · rename_i k a k' b
    cases rx with | c rx => cases ry with | c ry =>
    cases rx; cases ry
    have hg := fun w => eqGuard_scalar (P := P) (op := op) (t := t) (x := x) (y := y) (vx := .int k a) (vy := .int k' b) (.inl ⟨k, a, k', b, rfl, rfl⟩) w
    have hsh : ∀ o : BinOp, o = op → (shOp o k a b).map V.c = some v → ∃ cv, Rep Z Y m cv v ∧ ∀ w, ((do eqGuard op t x y (.int k a) (.int k' b); binOp op t (.int k a) (.int k' b)) : Sem Value).run P w = .ok cv w := by
      intro o ho h'
      clear h
      subst ho
      cases hi : shOp o k a b with
      | none => rw [hi] at h'; cases h'
      | some z =>
        rw [hi] at h'
        injection h' with h'
        subst h'
        obtain ⟨cv, hr, hw⟩ := sh_sim (P := P) (Z := Z) (k' := k') hi t
        exact ⟨cv, .c hr, fun w => by simp only [Sem.run_bind, hg, Result.andThen_ok, hw]⟩
    split at h
    · exact hsh _ rfl h
    · exact hsh _ rfl h
    · rename_i h1 h2
      split at h
      · rename_i hk
        subst hk
        cases hi : intOp op k a b with
        | none => rw [hi] at h; cases h
        | some z =>
          rw [hi] at h
          injection h with h
          subst h
          obtain ⟨cv, hr, hw⟩ := int_sim (P := P) (Z := Z) ⟨h1, h2⟩ hi t
          exact ⟨cv, .c hr, fun w => by simp only [Sem.run_bind, hg, Result.andThen_ok, hw]⟩
      · cases h
  · rename_i a b
    cases rx with | c rx => cases ry with | c ry =>
    cases rx; cases ry
    cases hi : strOp op a b with
    | none => rw [hi] at h; cases h
    | some z =>
      rw [hi] at h
      injection h with h
      subst h
      obtain ⟨cv, hr, hw⟩ := str_sim (P := P) (Z := Z) hi t
      exact ⟨cv, .c hr, fun w => by simp only [Sem.run_bind, eqGuard_scalar (P := P) (op := op) (t := t) (x := x) (y := y) (vx := .string a) (vy := .string b) (.inr ⟨a, b, rfl, rfl⟩) w, Result.andThen_ok, hw]⟩
  · rename_i hni hns
    split at h
    · cases hq : eqV P 9 t X Y' with
      | none => rw [hq] at h; cases h
      | some q =>
        rw [hq] at h
        injection h with h
        subst h
        exact ⟨.bool q, .c (.bool q), fun w => by simp only [Sem.run_bind, eqGuard_ok hq rx ry w, Result.andThen_ok, (binOp_eq hq rx ry ⟨hni, hns⟩ w).1]⟩
    · cases hq : eqV P 9 t X Y' with
      | none => rw [hq] at h; cases h
      | some q =>
        rw [hq] at h
        injection h with h
        subst h
        exact ⟨.bool !q, .c (.bool !q), fun w => by simp only [Sem.run_bind, eqGuard_ok hq rx ry w, Result.andThen_ok, (binOp_eq hq rx ry ⟨hni, hns⟩ w).2]⟩
    · cases h
theorem vOf_agg {z : Value} {cs : List V} (h : vOf z = .agg cs) : ∃ vs, z = .agg vs := by
  unfold vOf at h
  split at h
  · exact ⟨_, rfl⟩
  · unfold vCell at h
    cases hc : cOf z with
    | none => rw [hc] at h; cases h
    | some x => rw [hc] at h; cases h
theorem zeroV_sim {t : TypeId} {z : V} (h : zeroV P t = some z) : ∃ v, Rep Z Y m v z ∧ vOf v = z ∧ ∀ w, (zeroValue t).run P w = .ok v w := by
  unfold zeroV at h
  cases hi : P.info? t with
  | none => rw [hi] at h; cases h
  | some i =>
    rw [hi] at h
    simp only [Option.bind_some] at h
    cases hz : i.zero with
    | none => rw [hz] at h; cases h
    | some v =>
      rw [hz] at h
      injection h with h
      subst h
      exact ⟨v, vOf_rep v, rfl, run_zero hi hz⟩
theorem bnd_sim {x : Option V} {vx : Option Value} {d mx n : Nat} {code : BoundsCode} (h : bnd x d mx = some n) (hx : x.isSome = vx.isSome) (hr : ∀ a b, vx = some a → x = some b → Rep Z Y m a b) (w : World) :
    (match vx with | some v => Instr.sliceBound v mx code | none => pure d).run P w = .ok n w := by
  cases vx with
  | none =>
    cases x with
    | none => injection h with h; subst h; rfl
    | some _ => cases hx
  | some v =>
    cases x with
    | none => cases hx
    | some x =>
      have r := hr _ _ rfl rfl
      unfold bnd at h
      split at h
      · cases ‹some x = none›
      · rename_i k i e
        injection e with e
        subst e
        cases r with | c r =>
        cases r
        split at h
        · rename_i hb
          injection h with h
          subst h
          simp [Instr.sliceBound, asIntOf, hb]
        · cases h
      · cases h
end
end Go.Proofs.YtomnbknaanlmaaaGreatDoor
namespace Go.Proofs.YtomnbknaanlmaaaGreatDoor
open Go.RowKit
section
variable {P : Program} {Z Y : ZMap} {m : Nat → Option Value}
theorem add_off (b o n : Nat) : (Addr.mk b o none).add n = ⟨b, o + n, none⟩ := by
  unfold Addr.add
  split
  · rename_i h; subst h; rfl
  · rfl
theorem rep_bool {v : Value} {q : Bool} (r : Rep Z Y m v (.c (.bool q))) : v = .bool q := by cases r with | c r => cases r; rfl
theorem rep_int {v : Value} {k : IntKind} {n : Int} (r : Rep Z Y m v (.c (.int k n))) : v = .int k n := by cases r with | c r => cases r; rfl
theorem rep_str {v : Value} {s : ByteArray} (r : Rep Z Y m v (.c (.str s))) : v = .string s := by cases r with | c r => cases r; rfl
theorem getElem?_map_toList {r : Operand → V} {ρ : Operand → Value} (hρ : ∀ x, Rep Z Y m (ρ x) (r x)) (xs : Array Operand) (i : Nat) (u : Value) (y : V) (hu : (xs.map ρ)[i]? = some u) (hy : (xs.toList.map r)[i]? = some y) : Rep Z Y m u y := by
  simp only [Array.getElem?_map, List.getElem?_map, Array.getElem?_toList] at hu hy
  cases hx : xs[i]? with
  | none => rw [hx] at hu; cases hu
  | some x =>
    rw [hx] at hu hy
    injection hu with hu
    injection hy with hy
    subst hu hy
    exact hρ x
theorem min_sim {mx : Bool} {x y v : V} {vx vy : Value} (h : minV mx x y = some v) (rx : Rep Z Y m vx x) (ry : Rep Z Y m vy y) :
    ∃ cv, Rep Z Y m cv v ∧ ∀ w, (if mx then Builtin.max_ #[] 0 #[vx, vy] else Builtin.min_ #[] 0 #[vx, vy]).run P w = .ok cv w := by
  unfold minV at h
  split at h
  · rename_i k a k' b
    have e1 := rep_int rx
    have e2 := rep_int ry
    subst e1 e2
    split at h
    · rename_i hk
      injection h with h
      subst h hk
      cases mx with
      | true => exact ⟨_, .c (.int _ _), fun w => by simp [Builtin.max_, Builtin.max2]⟩
      | false => exact ⟨_, .c (.int _ _), fun w => by simp [Builtin.min_, Builtin.min2]⟩
    · cases h
  · cases h
set_option maxHeartbeats 1000000 in
theorem ev0_sim {r : Operand → V} {ρ : Operand → Value} (hρ : ∀ x, Rep Z Y m (ρ x) (r x)) {o : Oper} {v : V} (h : ev0 P r o.op = some v) : ∃ cv, Rep Z Y m cv v ∧ ∀ w, (execOp ρ o).run P w = .ok (.value cv) w := by
  obtain ⟨dst, op, ty, pos, aft, gd⟩ := o
  simp only at h
  unfold ev0 at h
  split at h
  · rename_i x
    injection h with h
    subst h
    exact ⟨_, hρ x, fun w => rfl⟩
  · rename_i x
    injection h with h
    subst h
    exact ⟨_, hρ x, fun w => rfl⟩
  · rename_i c a b
    split at h
    · rename_i q hq
      have e : ρ c = .bool q := rep_bool (hq ▸ hρ c)
      injection h with h
      subst h
      cases q with
      | true => exact ⟨_, hρ a, fun w => by simp [execOp, e, asBool]⟩
      | false => exact ⟨_, hρ b, fun w => by simp [execOp, e, asBool]⟩
    · cases h
  · rename_i t parts
    cases hz : zeroV P t with
    | none => rw [hz] at h; cases h
    | some z =>
      rw [hz] at h
      simp only [Option.bind_some] at h
      obtain ⟨zv, rz, ez, wz⟩ := zeroV_sim (Z := Z) (Y := Y) (m := m) hz
      split at h
      · rename_i cs fs hu
        obtain ⟨vs, rfl⟩ := vOf_agg ez
        cases hp : (fs.toList.mapM fun f => (szO P f.type).map fun n => (f.offset, n)) with
        | none => rw [hp] at h; cases h
        | some pl =>
          rw [hp] at h
          simp only [Option.bind_some] at h
          cases hb : buildV (fun i => pl[i]?) cs (parts.toList.map fun p => (p.1, r p.2)) with
          | none => rw [hb] at h; cases h
          | some out =>
            rw [hb] at h
            injection h with h
            subst h
            obtain ⟨vs', h1, h2⟩ := fill_sim hρ parts.toList cs vs out hb rz
            obtain ⟨hl, hg⟩ := mapM_get _ _ _ hp
            refine ⟨_, h2, fun w => ?_⟩
            have hm := run_mapMA (P := P) (fun f : Field => do pure (f.offset, ← sizeOf f.type)) w fs pl (by simpa using hl) (fun i f p hf hq => by
              have := hg i f p (by simpa using hf) hq
              cases hs : szO P f.type with
              | none => rw [hs] at this; cases this
              | some n =>
                rw [hs] at this
                injection this with this
                subst this
                simp only [Sem.run_bind, run_sz hs, Result.andThen_ok, Sem.run_pure])
            have e : (parts.map fun p => (p.1, ρ p.2)).toList = parts.toList.map fun p => (p.1, ρ p.2) := by simp
            have e' : (fun i : Nat => pl.toArray[i]?) = fun i : Nat => pl[i]? := by funext i; simp
            simp only [execOp, Instr.build, Sem.run_bind, wz, Result.andThen_ok, run_und hu, hm, e, Value.cells]
            rw [e', h1]
            rfl
      · rename_i cs n e hu
        obtain ⟨vs, rfl⟩ := vOf_agg ez
        cases hs : szO P e with
        | none => rw [hs] at h; cases h
        | some k =>
          rw [hs] at h
          simp only [Option.bind_some] at h
          cases hb : buildV (fun i => some (i * k, k)) cs (parts.toList.map fun p => (p.1, r p.2)) with
          | none => rw [hb] at h; cases h
          | some out =>
            rw [hb] at h
            injection h with h
            subst h
            obtain ⟨vs', h1, h2⟩ := fill_sim hρ parts.toList cs vs out hb rz
            refine ⟨_, h2, fun w => ?_⟩
            have e : (parts.map fun p => (p.1, ρ p.2)).toList = parts.toList.map fun p => (p.1, ρ p.2) := by simp
            simp only [execOp, Instr.build, Sem.run_bind, wz, Result.andThen_ok, run_und hu, run_sz hs, e, Value.cells]
            rw [h1]
            rfl
      · cases h
  · rename_i x
    have r' := hρ x
    split at h
    · rename_i id off hx
      injection h with h; subst h
      rw [hx] at r'
      refine ⟨_, r', fun w => ?_⟩
      simp only [execOp]
      generalize ρ x = vx at r'
      cases r'
      rfl
    · rename_i id k i off hx
      injection h with h; subst h
      rw [hx] at r'
      refine ⟨_, r', fun w => ?_⟩
      simp only [execOp]
      generalize ρ x = vx at r'
      cases r'
      rfl
    · rename_i cs off hx
      injection h with h; subst h
      rw [hx] at r'
      refine ⟨_, r', fun w => ?_⟩
      simp only [execOp]
      generalize ρ x = vx at r'
      cases r'
      rfl
    · rename_i f caps hx
      injection h with h; subst h
      rw [hx] at r'
      refine ⟨_, r', fun w => ?_⟩
      simp only [execOp]
      generalize ρ x = vx at r'
      cases r' <;> rfl
    · cases h
  · rename_i op t x y yt
    obtain ⟨cv, h1, h2⟩ := bin_sim (x := x) (y := y) h (hρ x) (hρ y)
    exact ⟨cv, h1, fun w => by simp only [execOp, Sem.run_bind, h2, Result.andThen_ok]; rfl⟩
  · rename_i op t x
    have r' := hρ x
    unfold unV at h
    split at h
    · rename_i k n hx
      injection h with h; subst h
      rw [hx] at r'
      have e := rep_int r'
      exact ⟨_, .c (.int _ _), fun w => by simp [execOp, e, Op.unary, Op.intArith]⟩
    · rename_i b hx
      injection h with h; subst h
      rw [hx] at r'
      have e := rep_bool r'
      exact ⟨_, .c (.bool _), fun w => by simp [execOp, e, Op.unary]⟩
    · cases h
  · rename_i src dst x
    have r' := hρ x
    split at h
    · rename_i k0 k k1 n h1 h2 hx
      injection h with h; subst h
      rw [hx] at r'
      have e := rep_int r'
      exact ⟨_, .c (.int _ _), fun w => by simp [execOp, e, convert, run_und h1, run_und h2, Conv.intToInt]⟩
    · rename_i s h1 h2 hx
      injection h with h; subst h
      rw [hx] at r'
      have e := rep_str r'
      exact ⟨_, .c (.str _), fun w => by simp [execOp, e, convert, run_und h1, run_und h2]⟩
    · cases h
  · rename_i f first caps
    cases hb : Nat.blt f 1000000 with
    | false => rw [hb] at h; cases h
    | true =>
    rw [hb, cond_true] at h
    split at h
    · rename_i hf
      injection h with h; subst h
      have e : first = #[] := by simpa using hf
      subst e
      refine ⟨_, .fn f (caps.map ρ) (caps.toList.map r) (by simp) (fun i u y hu hy => getElem?_map_toList hρ caps i u y hu hy) hb, fun w => ?_⟩
      simp [execOp, Instr.makeFunc]
    · split at h
      · rename_i hf
        injection h with h; subst h
        have e : caps = #[] := by simpa using hf
        subst e
        refine ⟨_, .bnd f (first.map ρ) (first.toList.map r) (by simp) (fun i u y hu hy => getElem?_map_toList hρ first i u y hu hy) hb, fun w => ?_⟩
        simp [execOp, Instr.makeFunc]
      · cases h
  · rename_i t x i
    have r' := hρ x
    split at h
    · rename_i fs hu
      cases hf : fs[i]? with
      | none => rw [hf] at h; cases h
      | some f =>
        rw [hf] at h
        simp only [Option.bind_some] at h
        cases hs : szO P f.type with
        | none => rw [hs] at h; cases h
        | some n =>
          rw [hs] at h
          simp only [Option.bind_some] at h
          split at h
          · cases h
          · rename_i hn
            have key : ∀ (b o : Nat) (w : World), ρ x = .pointer (some ⟨b, o, none⟩) → (execOp ρ { dst := dst, op := .fieldAddr t x i, type := ty, pos := pos, after := aft, guard := gd }).run P w = .ok (.value (.pointer (some ⟨b, o + f.offset, none⟩))) w := by
              intro b o w e
              simp [execOp, e, Instr.fieldAt, run_und hu, hf, Instr.sureAddr, fieldPlace, run_sz hs, hn, add_off]
            split at h
            · rename_i id off hx
              injection h with h; subst h
              rw [hx] at r'
              generalize hv : ρ x = vx at r'
              cases r' with
              | ptr _ _ g hm => exact ⟨_, .ptr id (off + f.offset) g hm, fun w => key g off w hv⟩
            · rename_i id k j off hx
              injection h with h; subst h
              rw [hx] at r'
              generalize hv : ρ x = vx at r'
              cases r' with
              | rptr _ _ _ _ g n c hm =>
                refine ⟨_, .rptr id k j (off + f.offset) g n c hm, fun w => ?_⟩
                rw [key g (j * k + off) w hv, Nat.add_assoc]
            · rename_i cs off hx
              injection h with h; subst h
              rw [hx] at r'
              generalize hv : ρ x = vx at r'
              cases r' with
              | eptr b o _ U _ hz hr =>
                refine ⟨_, .eptr b o (off + f.offset) U cs hz hr, fun w => ?_⟩
                rw [key b (o + off) w hv, Nat.add_assoc]
            · cases h
    · cases h
  · rename_i t x i
    have r' := hρ x
    split at h
    · rename_i fs cs hu hx
      cases hf : fs[i]? with
      | none => rw [hf] at h; cases h
      | some f =>
        rw [hf] at h
        simp only [Option.bind_some] at h
        rw [hx] at r'
        generalize hv : ρ x = vx at r'
        cases r' with
        | agg vs _ hl h1 hr =>
          obtain ⟨cv, h2, h3⟩ := part_sim h (.agg vs cs hl h1 hr)
          exact ⟨cv, h2, fun w => by simp [execOp, hv, Instr.field, run_und hu, hf, asAgg, h3]⟩
    · cases h
  · rename_i t x ix
    have r' := hρ x
    have ri := hρ ix
    split at h
    · rename_i e id n k0 i hu hx hi
      rw [hx] at r'
      rw [hi] at ri
      have ei := rep_int ri
      cases hs : szO P e with
      | none => rw [hs] at h; cases h
      | some k =>
        rw [hs] at h
        simp only [Option.bind_some] at h
        split at h
        · rename_i hb
          injection h with h; subst h
          generalize hv : ρ x = vx at r'
          cases r' with
          | row _ _ A c hm hA =>
            obtain ⟨g, rfl⟩ := hA (by omega)
            refine ⟨_, .rptr id k i.toNat 0 g n c hm, fun w => ?_⟩
            simp [execOp, hv, ei, Instr.indexAt, asIntOf, run_und hu, hb, run_sz hs, add_off]
          | row0 _ A hm => omega
        · cases h
    · rename_i e es k0 i hu hx hi
      rw [hx] at r'
      rw [hi] at ri
      have ei := rep_int ri
      cases hs : szO P e with
      | none => rw [hs] at h; cases h
      | some k =>
        rw [hs] at h
        simp only [Option.bind_some] at h
        split at h
        · rename_i hb
          cases he : es[i.toNat]? with
          | none => rw [he] at h; cases h
          | some el =>
            rw [he] at h
            simp only [Option.bind_some] at h
            split at h
            · rename_i hk
              injection h with h; subst h
              generalize hv : ρ x = vx at r'
              cases r' with
              | c r' => cases r' with
                | sl A n c k' b off U _ hl hc hm hk' hA hz hr hN =>
                  have hne : es ≠ [] := by intro e; subst e; cases he
                  have hi' := (List.getElem?_eq_some_iff.1 he).1
                  have hkk : k' = k := by rw [← hk]; exact (hk' el (List.mem_of_getElem? he)).symm
                  subst hkk
                  have := hA hne
                  subst this
                  refine ⟨_, .eptr b (off + i.toNat * k') 0 (fun j => U (i.toNat * k' + j)) el (fun j x hj => .inl (by rw [Nat.add_assoc]; exact hz i.toNat el j x he hj)) (fun j x hj => hr i.toNat el j x he hj), fun w => ?_⟩
                  have hb' : 0 ≤ i ∧ i < (n : Int) := by omega
                  simp [execOp, hv, ei, Instr.indexAt, asIntOf, run_und hu, hb', run_sz hs, add_off]
            · cases h
        · cases h
    · rename_i len e id off k0 i hu hx hi
      rw [hx] at r'
      rw [hi] at ri
      have ei := rep_int ri
      cases hs : szO P e with
      | none => rw [hs] at h; cases h
      | some k =>
        rw [hs] at h
        simp only [Option.bind_some] at h
        split at h
        · rename_i hb
          injection h with h; subst h
          generalize hv : ρ x = vx at r'
          cases r' with
          | ptr _ _ g hm =>
            refine ⟨_, .ptr id (off + i.toNat * k) g hm, fun w => ?_⟩
            simp [execOp, hv, ei, Instr.indexAt, asIntOf, run_und hu, hb, run_sz hs, add_off, Instr.sureAddr]
        · cases h
    · cases h
  · rename_i t x ix
    have r' := hρ x
    have ri := hρ ix
    split at h
    · rename_i s k0 i hu hx hi
      rw [hx] at r'
      rw [hi] at ri
      have ei := rep_int ri
      have es := rep_str r'
      unfold strIx at h
      split at h
      · rename_i hb
        cases hg : s[i.toNat]? with
        | none => rw [hg] at h; cases h
        | some b =>
          rw [hg] at h
          injection h with h; subst h
          exact ⟨_, .c (.int _ _), fun w => by simp [execOp, ei, es, Instr.index, asIntOf, run_und hu, hb, hg]⟩
      · cases h
    · rename_i len e cs k0 i hu hx hi
      rw [hx] at r'
      rw [hi] at ri
      have ei := rep_int ri
      cases hs : szO P e with
      | none => rw [hs] at h; cases h
      | some k =>
        rw [hs] at h
        simp only [Option.bind_some] at h
        split at h
        · rename_i hb
          generalize hv : ρ x = vx at r'
          cases r' with
          | agg vs _ hl h1 hr =>
            obtain ⟨cv, h2, h3⟩ := part_sim h (.agg vs cs hl h1 hr)
            exact ⟨cv, h2, fun w => by simp [execOp, hv, ei, Instr.index, asIntOf, run_und hu, hb, run_sz hs, h3]⟩
        · cases h
    · cases h
  · rename_i t x lo hi
    have r' := hρ x
    split at h
    · rename_i s hu hx
      rw [hx] at r'
      have es := rep_str r'
      cases hh : bnd (hi.map r) s.size s.size with
      | none => rw [hh] at h; cases h
      | some u =>
        rw [hh] at h
        simp only [Option.bind_some] at h
        cases hl : bnd (lo.map r) 0 u with
        | none => rw [hl] at h; cases h
        | some l =>
          rw [hl] at h
          injection h with h; subst h
          refine ⟨_, .c (.str _), fun w => ?_⟩
          have b1 := bnd_sim (P := P) (code := .sliceAlen) (vx := hi.map ρ) hh (by simp) (fun a b ha hb => by cases hi <;> simp at ha hb; subst ha hb; exact hρ _) w
          have b2 := bnd_sim (P := P) (code := .sliceB) (vx := lo.map ρ) hl (by simp) (fun a b ha hb => by cases lo <;> simp at ha hb; subst ha hb; exact hρ _) w
          have hu' : ∀ n e, (TypeDesc.string = .array n e) → False := by intro n e h; cases h
          cases hi <;> cases lo <;> simp [Option.map] at b1 b2 <;> simp [execOp, es, Instr.sliceAt, Instr.slice, run_und hu, Instr.sliceBounds, b1, b2]
    · cases h
  · rename_i x i
    have r' := hρ x
    split at h
    · rename_i vs hx
      rw [hx] at r'
      generalize hv : ρ x = vx at r'
      cases r' with
      | tup cs _ hl hr =>
        have hi : i < cs.size := by rw [hl]; exact (List.getElem?_eq_some_iff.1 h).1
        exact ⟨cs[i], hr i _ _ (Array.getElem?_eq_getElem hi) h, fun w => by simp [execOp, hv, Instr.extract, Array.getElem?_eq_getElem hi]⟩
    · cases h
  · rename_i args ats
    have key : ∀ (d : TypeDesc) (vx : Value) (n : Nat), (ats[0]?).bind P.underlying = some d → (args[0]?).map ρ = some vx → ((d = .string ∧ ∃ s, vx = .string s ∧ s.size = n) ∨ ((∃ e, d = .slice e) ∧ ∃ A c, vx = .slice A n c)) → ∀ w,
        (execOp ρ { dst := dst, op := .call { callee := .builtin .len, args := args, argTypes := ats }, type := ty, pos := pos, after := aft, guard := gd }).run P w = .ok (.value (.int .i64 n)) w := by
      intro d vx n hd hx hc w
      cases ha : ats[0]? with
      | none => rw [ha] at hd; cases hd
      | some t =>
        rw [ha] at hd
        have hx' : (args.map ρ)[0]? = some vx := by simpa using hx
        rcases hc with ⟨rfl, s, rfl, rfl⟩ | ⟨⟨e, rfl⟩, A, c, rfl⟩ <;> simp [execOp, resolve, invoke, builtin, Builtin.len_, ha, hx', run_und (show P.underlying t = _ from hd), goInt]
    have hget : ∀ y, (args[0]?).map r = some y → ∃ vx, (args[0]?).map ρ = some vx ∧ Rep Z Y m vx y := by
      intro y hy
      cases ha : args[0]? with
      | none => rw [ha] at hy; cases hy
      | some x => rw [ha] at hy; injection hy with hy; subst hy; exact ⟨_, rfl, hρ x⟩
    split at h
    · rename_i s hd hx
      injection h with h; subst h
      obtain ⟨vx, h1, h2⟩ := hget _ hx
      have := rep_str h2
      subst this
      exact ⟨_, .c (.int _ _), key _ _ _ hd h1 (.inl ⟨rfl, s, rfl, rfl⟩)⟩
    · rename_i e es hd hx
      injection h with h; subst h
      obtain ⟨vx, h1, h2⟩ := hget _ hx
      cases h2 with | c h2 => cases h2 with
        | sl A n c k' b off U _ hl hc hm hk' hA hz hr hN =>
          subst hl
          exact ⟨_, .c (.int _ _), key _ _ _ hd h1 (.inr ⟨⟨e, rfl⟩, _, _, rfl⟩)⟩
    · rename_i e hd hx
      injection h with h; subst h
      obtain ⟨vx, h1, h2⟩ := hget _ hx
      cases h2 with | c h2 => cases h2; exact ⟨_, .c (.int _ _), key _ _ 0 hd h1 (.inr ⟨⟨e, rfl⟩, _, _, rfl⟩)⟩
    · rename_i e hd hx
      injection h with h; subst h
      obtain ⟨vx, h1, h2⟩ := hget _ hx
      cases h2 with | c h2 => cases h2; exact ⟨_, .c (.int _ _), key _ _ 0 hd h1 (.inr ⟨⟨e, rfl⟩, _, _, rfl⟩)⟩
    · rename_i e hd hx
      injection h with h; subst h
      obtain ⟨vx, h1, h2⟩ := hget _ hx
      cases h2 with | c h2 => cases h2; exact ⟨_, .c (.int _ _), key _ _ 0 hd h1 (.inr ⟨⟨e, rfl⟩, _, _, rfl⟩)⟩
    · rename_i e id n hd hx
      injection h with h; subst h
      obtain ⟨vx, h1, h2⟩ := hget _ hx
      cases h2 with
      | row _ _ A c hm hA => exact ⟨_, .c (.int _ _), key _ _ n hd h1 (.inr ⟨⟨e, rfl⟩, _, _, rfl⟩)⟩
      | row0 _ A hm => exact ⟨_, .c (.int _ _), key _ _ 0 hd h1 (.inr ⟨⟨e, rfl⟩, _, _, rfl⟩)⟩
    · rename_i e id hd hx
      injection h with h; subst h
      obtain ⟨vx, h1, h2⟩ := hget _ hx
      cases h2 with
      | rowE _ g n c hm hc => exact ⟨_, .c (.int _ _), key _ _ 0 hd h1 (.inr ⟨⟨e, rfl⟩, _, _, rfl⟩)⟩
    · cases h
  · rename_i args ats
    split at h
    · rename_i x y hx
      obtain ⟨a, b, hab⟩ : ∃ a b, args.toList = [a, b] := by
        match args, hx with
        | ⟨[a, b]⟩, _ => exact ⟨a, b, rfl⟩
      have ha : args = #[a, b] := by rw [← Array.toList_inj]; exact hab
      subst ha
      simp at hx
      obtain ⟨rfl, rfl⟩ := hx
      obtain ⟨cv, h1, h2⟩ := min_sim (P := P) h (hρ a) (hρ b)
      exact ⟨cv, h1, fun w => by have := h2 w; simp only [Bool.false_eq_true, if_false, Builtin.min_] at this; simp [execOp, resolve, invoke, builtin, Builtin.min_] at this ⊢; rw [this]; rfl⟩
    · cases h
  · rename_i args ats
    split at h
    · rename_i x y hx
      obtain ⟨a, b, hab⟩ : ∃ a b, args.toList = [a, b] := by
        match args, hx with
        | ⟨[a, b]⟩, _ => exact ⟨a, b, rfl⟩
      have ha : args = #[a, b] := by rw [← Array.toList_inj]; exact hab
      subst ha
      simp at hx
      obtain ⟨rfl, rfl⟩ := hx
      obtain ⟨cv, h1, h2⟩ := min_sim (P := P) h (hρ a) (hρ b)
      exact ⟨cv, h1, fun w => by have := h2 w; simp only [if_true, Builtin.max_] at this; simp [execOp, resolve, invoke, builtin, Builtin.max_] at this ⊢; rw [this]; rfl⟩
    · cases h
  · cases h
end
end Go.Proofs.YtomnbknaanlmaaaGreatDoor
namespace Go.Proofs.YtomnbknaanlmaaaGreatDoor
open Go.RowKit
section
variable {P : Program} {Z Y : ZMap} {m : Nat → Option Value} {w0 : WB} {w w' : World} {h : Nat → Option B} {sh : Nat → Bool}
theorem heap_lt {w : World} {g : Nat} {x : Obj} (h : w.heap[g]? = some x) : g < w.heap.size := (Array.getElem?_eq_some_iff.1 h).1
theorem Rel.blk_lt (R : Rel w0 Z Y m h sh w) {id g : Nat} (hi : h id ≠ none) (hg : blkOf m id = some g) : g < w.heap.size ∧ w0.own g := by
  cases hb : h id with
  | none => exact absurd hb hi
  | some b =>
    cases b with
    | box cs =>
      obtain ⟨g', hm, hat⟩ := R.box id cs hb
      obtain ⟨t, vs, hv, _⟩ := hat.ex
      simp only [blkOf, hm, Option.some.injEq] at hg
      subst hg
      exact ⟨heap_lt hv, hat.base⟩
    | row es =>
      rcases R.row id es hb with ⟨hm, _⟩ | ⟨g', n, c, k, hm, hat⟩
      · simp [blkOf, hm] at hg
      · obtain ⟨t, fz, cur, hv, _⟩ := hat.ex
        simp only [blkOf, hm, Option.some.injEq] at hg
        subst hg
        exact ⟨heap_lt hv, hat.base⟩
    | tab es i v =>
      obtain ⟨g', n, c, hm, hat⟩ := R.tab id es i v hb
      obtain ⟨t, fz, cur, hv, _⟩ := hat.ex
      simp only [blkOf, hm, Option.some.injEq] at hg
      subst hg
      exact ⟨heap_lt hv, hat.base⟩
    | mp l =>
      obtain ⟨g', hm, hat⟩ := R.mp id l hb
      obtain ⟨es, clock, hv, _⟩ := hat.ex
      simp only [blkOf, hm, Option.some.injEq] at hg
      subst hg
      exact ⟨heap_lt hv, hat.base⟩
theorem Rel.z_lt (R : Rel w0 Z Y m h sh w) {b o : Nat} {u : Value} (hz : Z b o = some u) : b < w.heap.size := cell_lt (R.zok b o u hz)
/-- fewer blocks are known -/
theorem Rel.less (R : Rel w0 Z Y m h sh w) {h' : Nat → Option B} (hs : ∀ id b, h' id = some b → h id = some b) : Rel w0 Z Y m h' sh w := by
  have hn : ∀ id, h' id ≠ none → h id ≠ none := fun id hi => by
    cases hb : h' id with
    | none => exact absurd hb hi
    | some b => rw [hs id b hb]; simp
  exact ⟨R.bel, R.gw, R.zok, R.yok, fun id cs hi => R.box id cs (hs _ _ hi), fun id es hi => R.row id es (hs _ _ hi), fun id es i v hi => R.tab id es i v (hs _ _ hi), fun id l hi => R.mp id l (hs _ _ hi), fun id id' g h1 h2 => R.inj id id' g (hn _ h1) (hn _ h2)⟩
theorem MLe.up {i : Nat} {v : Value} (hi : m i = none) : MLe m (upd m i (some v)) := fun j u hj => by
  unfold upd
  by_cases e : j = i
  · subst e; rw [hi] at hj; cases hj
  · simp [e, hj]
theorem heap_alloc {g : Nat} {x : Obj} (o : Obj) (hx : w.heap[g]? = some x) : (w.alloc o).heap[g]? = some x := (Below.heap_alloc w o g (heap_lt hx)).trans hx
/-- a new block -/
theorem Rel.new (R : Rel w0 Z Y m h sh w) {base : Nat} {v : Value} {b : B} {o : Obj} (hm : m base = none) (hs : sh base = false ∨ True)
    (hb : (∃ cs, b = .box cs ∧ v = .pointer (some ⟨w.heap.size, 0, none⟩) ∧ BoxAt w0.own Z Y m (w.alloc o) w.heap.size cs) ∨
      (∃ es n c k, b = .row es ∧ v = .slice (some ⟨w.heap.size, 0, none⟩) n c ∧ RowAt w0.own Z (sh base) (w.alloc o) w.heap.size n c k es) ∨
      (∃ es i x n c, b = .tab es i x ∧ v = .slice (some ⟨w.heap.size, 0, none⟩) n c ∧ TabAt w0.own Z Y m (w.alloc o) w.heap.size n c (tabC es i x)) ∨
      (∃ l, b = .mp l ∧ v = .map (some w.heap.size) ∧ MapAt w0.own (w.alloc o) w.heap.size l)) :
    Rel w0 Z Y (upd m base (some v)) (upd h base (some b)) sh (w.alloc o) := by
  have hmle := MLe.up (v := v) hm
  have hblk : blkOf (upd m base (some v)) base = some w.heap.size := by
    rcases hb with ⟨cs, _, rfl, _⟩ | ⟨es, n, c, k, _, rfl, _⟩ | ⟨es, i, x, n, c, _, rfl, _⟩ | ⟨l, _, rfl, _⟩ <;> simp [blkOf, upd]
  have hold : ∀ id, id ≠ base → blkOf (upd m base (some v)) id = blkOf m id := fun id hne => by simp [blkOf, upd, hne]
  refine ⟨R.bel.alloc o, R.gw, fun b' o' u hz => ?_, R.yok, fun id cs hi => ?_, fun id es hi => ?_, fun id es i v' hi => ?_, fun id l hi => ?_, fun id id' g h1 h2 e1 e2 => ?_⟩
  · have := R.zok b' o' u hz
    rw [((Bel.refl w).alloc o).cell _ (cell_lt this)]; exact this
  · unfold upd at hi
    split at hi
    · rename_i e
      subst e
      injection hi with hi
      rcases hb with ⟨cs', e, rfl, hat⟩ | ⟨es, n, c, k, e, _⟩ | ⟨es, i, x, n, c, e, _⟩ | ⟨l, e, _⟩
      · rw [e] at hi; injection hi with hi; subst hi
        refine ⟨w.heap.size, by simp [upd], ⟨hat.base, ?_, hat.apart⟩⟩
        obtain ⟨t, vs, hv, hr⟩ := hat.ex
        exact ⟨t, vs, hv, hr.mono (ZLe.refl _) hmle⟩
      · rw [e] at hi; cases hi
      · rw [e] at hi; cases hi
      · rw [e] at hi; cases hi
    · rename_i hne
      obtain ⟨g, hg, hat⟩ := R.box id cs hi
      obtain ⟨t, vs, hv, hr⟩ := hat.ex
      exact ⟨g, hmle _ _ hg, ⟨hat.base, ⟨t, vs, heap_alloc o hv, hr.mono (ZLe.refl _) hmle⟩, hat.apart⟩⟩
  · unfold upd at hi
    split at hi
    · rename_i e
      subst e
      injection hi with hi
      rcases hb with ⟨cs', e, _⟩ | ⟨es', n, c, k, e, rfl, hat⟩ | ⟨es, i, x, n, c, e, _⟩ | ⟨l, e, _⟩
      · rw [e] at hi; cases hi
      · rw [e] at hi; injection hi with hi; subst hi
        exact .inr ⟨w.heap.size, n, c, k, by simp [upd], hat⟩
      · rw [e] at hi; cases hi
      · rw [e] at hi; cases hi
    · rename_i hne
      rcases R.row id es hi with ⟨h0, h1⟩ | ⟨g, n, c, k, hg, hat⟩
      · exact .inl ⟨hmle _ _ h0, h1⟩
      · obtain ⟨t, fz, cur, hv, hr⟩ := hat.ex
        exact .inr ⟨g, n, c, k, hmle _ _ hg, ⟨hat.base, ⟨t, fz, cur, heap_alloc o hv, hr⟩, hat.len, hat.le, hat.max, hat.pos, hat.zero, hat.each, hat.apart⟩⟩
  · unfold upd at hi
    split at hi
    · rename_i e
      subst e
      injection hi with hi
      rcases hb with ⟨cs', e, _⟩ | ⟨es', n, c, k, e, _⟩ | ⟨es', i', x', n, c, e, rfl, hat⟩ | ⟨l, e, _⟩
      · rw [e] at hi; cases hi
      · rw [e] at hi; cases hi
      · rw [e] at hi; injection hi with a1 a2 a3; subst a1 a2 a3
        exact ⟨w.heap.size, n, c, by simp [upd], hat.up (ZLe.refl _) hmle (fun _ h => h) hat.apart⟩
      · rw [e] at hi; cases hi
    · obtain ⟨g, n, c, hg, hat⟩ := R.tab id es i v' hi
      exact ⟨g, n, c, hmle _ _ hg, hat.up (ZLe.refl _) hmle (fun x hx => heap_alloc o hx) hat.apart⟩
  · unfold upd at hi
    split at hi
    · rename_i e
      subst e
      injection hi with hi
      rcases hb with ⟨cs', e, _⟩ | ⟨es', n, c, k, e, _⟩ | ⟨es', i', x', n, c, e, _⟩ | ⟨l', e, rfl, hat⟩
      · rw [e] at hi; cases hi
      · rw [e] at hi; cases hi
      · rw [e] at hi; cases hi
      · rw [e] at hi; injection hi with a1; subst a1
        exact ⟨w.heap.size, by simp [upd], hat⟩
    · obtain ⟨g, hg, hat⟩ := R.mp id l hi
      obtain ⟨es, clock, hv, hr⟩ := hat.ex
      exact ⟨g, hmle _ _ hg, ⟨hat.base, es, clock, heap_alloc o hv, hr⟩⟩
  · by_cases e : id = base
    · by_cases e' : id' = base
      · rw [e, e']
      · rw [e, hblk] at e1
        injection e1 with e1
        rw [hold id' e'] at e2
        have h2' : h id' ≠ none := by simpa [upd, e'] using h2
        have := (R.blk_lt h2' e2).1
        omega
    · by_cases e' : id' = base
      · rw [e', hblk] at e2
        injection e2 with e2
        rw [hold id e] at e1
        have h1' : h id ≠ none := by simpa [upd, e] using h1
        have := (R.blk_lt h1' e1).1
        omega
      · rw [hold id e] at e1
        rw [hold id' e'] at e2
        exact R.inj id id' g (by simpa [upd, e] using h1) (by simpa [upd, e'] using h2) e1 e2
theorem Rel.new_box (R : Rel w0 Z Y m h sh w) {base : Nat} {vs : Array Value} {cs : List V} (t : TypeId) (hm : m base = none) (hr : Rep Z Y m (.agg vs) (.agg cs)) :
    Rel w0 Z Y (upd m base (some (.pointer (some ⟨w.heap.size, 0, none⟩)))) (upd h base (some (.box cs))) sh (w.alloc (.cells vs t)) :=
  R.new hm (.inr trivial) (.inl ⟨cs, rfl, rfl, ⟨.inl R.bel.size, ⟨t, vs, heap_alloc_new w _, hr⟩, fun o => by
    cases hz : Z w.heap.size o with
    | none => rfl
    | some u => have := R.z_lt hz; omega⟩⟩)
/-- a row that is shared from now on -/
theorem Rel.share (R : Rel w0 Z Y m h sh w) {id : Nat} {es : List (List C)} (hi : h id = some (.row es)) :
    ∃ Z', ZLe Z Z' ∧ (∀ b o u, Z' b o = some u → Z b o = some u ∨ w0.own b) ∧ Rel w0 Z' Y m h (fun i => if i = id then true else sh i) w ∧ ∀ v n, Rep Z Y m v (.row id n) → RepC Z' v (.sl es) := by
  rcases R.row id es hi with ⟨hm, rfl⟩ | ⟨g, n, c, k, hm, hat⟩
  · refine ⟨Z, ZLe.refl Z, fun b o u hz => .inl hz, ⟨R.bel, R.gw, R.zok, R.yok, R.box, fun id' es' hi' => ?_, R.tab, R.mp, R.inj⟩, ?_⟩
    · rcases R.row id' es' hi' with h0 | ⟨g, n, c, k, hg, hat⟩
      · exact .inl h0
      · refine .inr ⟨g, n, c, k, hg, ⟨hat.base, hat.ex, hat.len, hat.le, hat.max, hat.pos, hat.zero, hat.each, fun o ho => ?_⟩⟩
        have := hat.apart o ho
        exact ⟨by simp [this.1], this.2⟩
    · intro v n r
      cases r with
      | row _ _ A c hm' hA =>
        rw [hm] at hm'
        injection hm' with hm'
        injection hm' with a1 a2 a3
        subst a1 a2 a3
        exact .sl none 0 0 0 0 0 (fun _ => .nilFunc) [] rfl (Nat.le_refl _) (by simp) (by simp) (by simp) (by simp) (by simp) (fun _ => rfl)
      | row0 _ A hm' => exact .sl A 0 0 0 0 0 (fun _ => .nilFunc) [] rfl (Nat.le_refl _) (by simp) (by simp) (by simp) (by simp) (by simp) (fun _ => rfl)
  · obtain ⟨t, fz, cur, hv, hcs, hfz, hcell⟩ := hat.ex
    have hnk : n * k ≤ cur.size := by rw [hcs]; exact Nat.mul_le_mul_right k hat.le
    have hle : ZLe Z (fun b o => if b = g ∧ o < n * k then cur[o]? else Z b o) := by
      intro b o u hz
      show (if b = g ∧ o < n * k then cur[o]? else Z b o) = some u
      split
      · rename_i hc
        obtain ⟨rfl, hc⟩ := hc
        have := R.zok b o u hz
        simp only [World.cell?, hv] at this
        simpa using this
      · exact hz
    have hcr : ∀ (i : Nat) (e : List C) (j : Nat) (x : C), es[i]? = some e → e[j]? = some x → i * k + j < n * k := by
      intro i e j x he hx
      have h1 := (List.getElem?_eq_some_iff.1 he).1
      have h2 := (List.getElem?_eq_some_iff.1 hx).1
      rw [hat.each e (List.mem_of_getElem? he)] at h2
      rw [hat.len] at h1
      have : (i + 1) * k ≤ n * k := Nat.mul_le_mul_right k h1
      rw [Nat.add_mul] at this
      omega
    refine ⟨fun b o => if b = g ∧ o < n * k then cur[o]? else Z b o, hle, fun b o u hz => ?_, ⟨R.bel, R.gw, fun b o u hz => ?_, R.yok, fun id' cs hi' => ?_, fun id' es' hi' => ?_, fun id' es' i' v' hi' => ?_, R.mp, R.inj⟩, ?_⟩
    · dsimp only at hz
      split at hz
      · rename_i hc; rw [hc.1]; exact .inr hat.base
      · exact .inl hz
    · split at hz
      · rename_i hc
        obtain ⟨rfl, hc⟩ := hc
        simp only [World.cell?, hv]
        simpa using hz
      · exact R.zok b o u hz
    · obtain ⟨g', hg', hat'⟩ := R.box id' cs hi'
      obtain ⟨t', vs, hv', hr⟩ := hat'.ex
      refine ⟨g', hg', ⟨hat'.base, ⟨t', vs, hv', hr.mono hle (MLe.refl _)⟩, fun o => ?_⟩⟩
      have hne : g' ≠ g := by
        intro e
        subst e
        have := R.inj id' id g' (by simp [hi']) (by simp [hi]) (by simp [blkOf, hg']) (by simp [blkOf, hm])
        subst this
        rw [hi] at hi'; cases hi'
      simp [hne, hat'.apart o]
    · rcases R.row id' es' hi' with h0 | ⟨g', n', c', k', hg', hat'⟩
      · exact .inl h0
      · obtain ⟨t', fz', cur', hv', hcs', hfz', hcell'⟩ := hat'.ex
        refine .inr ⟨g', n', c', k', hg', ⟨hat'.base, ⟨t', fz', cur', hv', hcs', hfz', fun i e j x he hx => ?_⟩, hat'.len, hat'.le, hat'.max, hat'.pos, hat'.zero, hat'.each, fun o ho => ?_⟩⟩
        · obtain ⟨u, hu, hr⟩ := hcell' i e j x he hx
          exact ⟨u, hu, hr.mono hle⟩
        · by_cases e : id' = id
          · subst e
            rw [hm] at hg'
            injection hg' with hg'
            injection hg' with a1 a2 a3
            injection a1 with a1
            injection a1 with a1
            subst a1 a2 a3
            refine ⟨by simp, ?_⟩
            have hkk : k' = k ∨ n = 0 := by
              rcases Nat.eq_zero_or_pos n with h0 | h0
              · exact .inr h0
              · left
                have hl := hat.len
                rw [hi] at hi'
                injection hi' with hi'; injection hi' with hi'; subst hi'
                cases es with
                | nil => simp at hl; omega
                | cons e0 es => rw [← hat'.each e0 (by simp), hat.each e0 (by simp)]
            by_cases hc : o < n * k
            · rcases hkk with rfl | h0
              · exact hc
              · subst h0; simp at hc
            · simp [hc] at ho
              exact (hat'.apart o (by simpa using ho)).2
          · have hne : g' ≠ g := by
              intro e'
              subst e'
              exact e (R.inj id' id g' (by simp [hi']) (by simp [hi]) (by simp [blkOf, hg']) (by simp [blkOf, hm]))
            simp [hne] at ho
            have := hat'.apart o (by simpa using ho)
            exact ⟨by simp [this.1], this.2⟩
    · obtain ⟨g', n', c', hg', hat'⟩ := R.tab id' es' i' v' hi'
      refine ⟨g', n', c', hg', hat'.up hle (MLe.refl _) (fun _ h => h) fun o => ?_⟩
      have hne : g' ≠ g := by
        intro e
        subst e
        have := R.inj id' id g' (by simp [hi']) (by simp [hi]) (by simp [blkOf, hg']) (by simp [blkOf, hm])
        subst this
        rw [hi] at hi'; cases hi'
      simp [hne, hat'.apart o]
    · intro v n' r
      cases r with
      | row _ _ A c' hm' hA =>
        rw [hm] at hm'
        injection hm' with hm'
        injection hm' with a1 a2 a3
        subst a1 a2 a3
        refine .sl _ n c k g 0 (fun o => (cur[o]?).getD .nilFunc) es hat.len hat.le hat.max hat.each (fun _ => rfl) ?_ ?_ (fun h => by cases h)
        · intro i e j x he hx
          obtain ⟨u, hu, _⟩ := hcell i e j x he hx
          have := hcr i e j x he hx
          simp [this, hu]
        · intro i e j x he hx
          obtain ⟨u, hu, hr⟩ := hcell i e j x he hx
          rw [hu]
          exact hr.mono hle
      | row0 _ A hm' => rw [hm] at hm'; cases hm'
end
end Go.Proofs.YtomnbknaanlmaaaGreatDoor
namespace Go.Proofs.YtomnbknaanlmaaaGreatDoor
open Go.RowKit
section
variable {P : Program} {Z Y : ZMap} {m : Nat → Option Value} {w0 : WB} {w w' : World} {h hv : Nat → Option B} {sh : Nat → Bool}
/-- memory stays asx it is in more places; new ones are the frame's own -/
structure ZUp (w0 : WB) (Z Z' : ZMap) : Prop where
  le : ZLe Z Z'
  own : ∀ b o u, Z' b o = some u → Z b o = some u ∨ w0.own b
theorem ZUp.refl : ZUp w0 Z Z := ⟨ZLe.refl Z, fun _ _ _ h => .inl h⟩
theorem ZUp.trans {Z' Z'' : ZMap} (a : ZUp w0 Z Z') (b : ZUp w0 Z' Z'') : ZUp w0 Z Z'' :=
  ⟨a.le.trans b.le, fun x y u hu => (b.own x y u hu).elim (fun hu => a.own x y u hu) .inr⟩
def flag (sh : Nat → Bool) (fl : List Nat) : Nat → Bool := fun i => if i ∈ fl then true else sh i
theorem flag_nil : flag sh [] = sh := by funext i; simp [flag]
theorem flag_append (a b : List Nat) : flag (flag sh a) b = flag sh (a ++ b) := by funext i; simp only [flag, List.mem_append]; by_cases h1 : i ∈ a <;> by_cases h2 : i ∈ b <;> simp [h1, h2]
theorem repC_empty (Z : ZMap) {A : Option Addr} {c : Nat} (hc : c ≤ maxLen) (hN : A = none → c = 0) : RepC Z (.slice A 0 c) (.sl []) :=
  .sl A 0 c 0 0 0 (fun _ => .nilFunc) [] rfl (Nat.zero_le _) hc (by simp) (by simp) (by simp) (by simp) hN
theorem frzC_sim (R : Rel w0 Z Y m h sh w) (hs : ∀ id b, hv id = some b → h id = some b) {v : Value} {x : V} {y : C × List Nat} (hf : frzC hv x = some y) (r : Rep Z Y m v x) :
    ∃ Z', ZUp w0 Z Z' ∧ Rel w0 Z' Y m h (flag sh y.2) w ∧ RepC Z' v y.1 := by
  unfold frzC at hf
  split at hf
  · injection hf with hf; subst hf
    cases r with | c r =>
    cases r
    exact ⟨Z, ZUp.refl, by rw [flag_nil]; exact R, repC_empty Z (by simp) (fun _ => rfl)⟩
  · injection hf with hf; subst hf
    cases r with | c r =>
    cases r
    exact ⟨Z, ZUp.refl, by rw [flag_nil]; exact R, repC_empty Z (by simp) (fun _ => rfl)⟩
  · injection hf with hf; subst hf
    cases r with | c r =>
    cases r
    exact ⟨Z, ZUp.refl, by rw [flag_nil]; exact R, repC_empty Z (by assumption) (fun h => by cases h)⟩
  · injection hf with hf; subst hf
    cases r with | c r =>
    exact ⟨Z, ZUp.refl, by rw [flag_nil]; exact R, r⟩
  · rename_i id n
    split at hf
    · rename_i es he
      injection hf with hf; subst hf
      obtain ⟨Z', h1, h2, h3, h4⟩ := R.share (hs _ _ he)
      refine ⟨Z', ⟨h1, h2⟩, ?_, h4 v n r⟩
      have : flag sh [id] = fun i => if i = id then true else sh i := by funext i; simp [flag]
      rw [this]
      exact h3
    · cases hf
  · injection hf with hf; subst hf
    cases r with
    | rowE _ g n c hm hc => exact ⟨Z, ZUp.refl, by rw [flag_nil]; exact R, repC_empty Z hc (fun h => by cases h)⟩
  · cases hf
theorem frzL_sim : ∀ (xs : List V) {Z : ZMap} {sh : Nat → Bool} {us : List Value} {y : List C × List Nat}, Rel w0 Z Y m h sh w → (∀ id b, hv id = some b → h id = some b) → frzL hv xs = some y → us.length = xs.length → (∀ (i : Nat) u x, us[i]? = some u → xs[i]? = some x → Rep Z Y m u x) →
    ∃ Z', ZUp w0 Z Z' ∧ Rel w0 Z' Y m h (flag sh y.2) w ∧ y.1.length = xs.length ∧ ∀ (i : Nat) u x, us[i]? = some u → y.1[i]? = some x → RepC Z' u x
  | [], Z, sh, us, y, R, hs, hf, hl, hr => by
    injection hf with hf; subst hf
    have : us = [] := List.eq_nil_of_length_eq_zero hl
    subst this
    exact ⟨Z, ZUp.refl, by rw [flag_nil]; exact R, rfl, by simp⟩
  | x :: xs, Z, sh, us, y, R, hs, hf, hl, hr => by
    simp only [frzL] at hf
    cases hx : frzC hv x with
    | none => rw [hx] at hf; cases hf
    | some a =>
      rw [hx] at hf
      simp only [Option.bind_some] at hf
      cases hxs : frzL hv xs with
      | none => rw [hxs] at hf; cases hf
      | some b =>
        rw [hxs] at hf
        injection hf with hf; subst hf
        match us, hl with
        | u :: us, hl =>
          obtain ⟨Z1, u1, R1, r1⟩ := frzC_sim R hs hx (hr 0 u x rfl rfl)
          obtain ⟨Z2, u2, R2, l2, r2⟩ := frzL_sim xs (us := us) R1 hs hxs (by simpa using hl) (fun i u' x' hu hx' => (hr (i + 1) u' x' hu hx').mono u1.le (MLe.refl _))
          refine ⟨Z2, u1.trans u2, by rw [← flag_append]; exact R2, by simp [l2], fun i u' x' hu hx' => ?_⟩
          cases i with
          | zero => simp at hu hx'; subst hu hx'; exact r1.mono u2.le
          | succ i => exact r2 i u' x' (by simpa using hu) (by simpa using hx')
/-- all of memory asx it is at a call -/
def lent (w : World) : ZMap := fun b o => w.cell? ⟨b, o, none⟩
def noM : Nat → Option Value := fun _ => none
theorem frzP_sim (R : Rel w0 Z Y m h sh w) (hs : ∀ id b, hv id = some b → h id = some b) {v : Value} {x : V} {y : V × List Nat} (hf : frzP hv x = some y) (r : Rep Z Y m v x) :
    ∃ Z', ZUp w0 Z Z' ∧ Rel w0 Z' Y m h (flag sh y.2) w ∧ Rep Z' (lent w) noM v y.1 := by
  unfold frzP at hf
  split at hf
  · rename_i id off
    split at hf
    · rename_i cs he
      cases hl : frzL hv cs with
      | none => rw [hl] at hf; cases hf
      | some a =>
        rw [hl] at hf
        injection hf with hf; subst hf
        obtain ⟨g, hm, hat⟩ := R.box id cs (hs _ _ he)
        obtain ⟨t, vs, hvs, hrep⟩ := hat.ex
        obtain ⟨Z', u1, R1, l1, r1⟩ := frzL_sim cs (us := vs.toList) R hs hl (by simpa using hrep.agg_size) (fun i u x hu hx => by
          obtain ⟨u', hu', hr', _⟩ := hrep.agg_get hx
          rw [Array.getElem?_toList, hu'] at hu
          injection hu with hu; subst hu; exact hr')
        refine ⟨Z', u1, R1, ?_⟩
        cases r with
        | ptr _ _ g' hm' =>
          rw [hm] at hm'
          injection hm' with hm'; injection hm' with hm'; injection hm' with hm'; injection hm' with hm'
          subst hm'
          have hget : ∀ (j : Nat) (x : C), a.1[j]? = some x → vs[j]? = some ((vs[j]?).getD .nilFunc) := by
            intro j x hx
            have hj : j < vs.size := by have := (List.getElem?_eq_some_iff.1 hx).1; rw [l1] at this; rw [hrep.agg_size]; exact this
            simp [Array.getElem?_eq_getElem hj]
          have := Rep.eptr (Z := Z') (Y := lent w) (m := noM) g 0 off (fun j => (vs[j]?).getD .nilFunc) a.1 (fun j x hx => .inr (by
            simp only [lent, World.cell?, hvs, Nat.zero_add]
            simpa using hget j x hx)) (fun j x hx => r1 j _ x (by rw [Array.getElem?_toList]; exact hget j x hx) hx)
          simpa using this
    · cases hf
  · rename_i cs off
    injection hf with hf; subst hf
    refine ⟨Z, ZUp.refl, by rw [flag_nil]; exact R, ?_⟩
    cases r with
    | eptr b o _ U _ hz hr => exact .eptr b o off U cs (fun j x hx => (hz j x hx).imp id (fun hy => R.yok' hy)) hr
  · rename_i cs
    cases hl : frzL hv cs with
    | none => rw [hl] at hf; cases hf
    | some a =>
      rw [hl] at hf
      injection hf with hf; subst hf
      cases r with
      | agg vs _ hsz h1 hr =>
        have hrep : Rep Z Y m (.agg vs) (.agg cs) := .agg vs cs hsz h1 hr
        obtain ⟨Z', u1, R1, l1, r1⟩ := frzL_sim cs (us := vs.toList) R hs hl (by simpa using hsz) (fun i u x hu hx => hr i u x (by simpa using hu) hx)
        refine ⟨Z', u1, R1, .agg vs _ (by simp [l1, hsz]) h1 (fun i u x hu hx => ?_)⟩
        simp only [List.getElem?_map] at hx
        cases hg : a.1[i]? with
        | none => rw [hg] at hx; cases hx
        | some z =>
          rw [hg] at hx
          injection hx with hx; subst hx
          exact .c (r1 i u z (by simpa using hu) hg)
  · cases hl : frzC hv x with
    | none => rw [hl] at hf; cases hf
    | some a =>
      rw [hl] at hf
      injection hf with hf; subst hf
      obtain ⟨Z', u1, R1, r1⟩ := frzC_sim R hs hl r
      exact ⟨Z', u1, R1, .c r1⟩
theorem frzs_sim (fr : (Nat → Option B) → V → Option (V × List Nat)) (frs : (Nat → Option B) → List V → Option (List V × List Nat)) (e0 : frs hv [] = some ([], [])) (e1 : ∀ x xs, frs hv (x :: xs) = (fr hv x).bind fun a => (frs hv xs).map fun b => (a.1 :: b.1, a.2 ++ b.2))
    (one : ∀ {Z : ZMap} {sh : Nat → Bool} {v : Value} {x : V} {y : V × List Nat}, Rel w0 Z Y m h sh w → fr hv x = some y → Rep Z Y m v x → ∃ Z', ZUp w0 Z Z' ∧ Rel w0 Z' Y m h (flag sh y.2) w ∧ Rep Z' (lent w) noM v y.1) :
    ∀ (xs : List V) {Z : ZMap} {sh : Nat → Bool} {us : List Value} {y : List V × List Nat}, Rel w0 Z Y m h sh w → frs hv xs = some y → us.length = xs.length → (∀ (i : Nat) u x, us[i]? = some u → xs[i]? = some x → Rep Z Y m u x) →
    ∃ Z', ZUp w0 Z Z' ∧ Rel w0 Z' Y m h (flag sh y.2) w ∧ y.1.length = xs.length ∧ ∀ (i : Nat) u x, us[i]? = some u → y.1[i]? = some x → Rep Z' (lent w) noM u x
  | [], Z, sh, us, y, R, hf, hl, hr => by
    rw [e0] at hf
    injection hf with hf; subst hf
    have : us = [] := List.eq_nil_of_length_eq_zero hl
    subst this
    exact ⟨Z, ZUp.refl, by rw [flag_nil]; exact R, rfl, by simp⟩
  | x :: xs, Z, sh, us, y, R, hf, hl, hr => by
    rw [e1] at hf
    cases hx : fr hv x with
    | none => rw [hx] at hf; cases hf
    | some a =>
      rw [hx] at hf
      simp only [Option.bind_some] at hf
      cases hxs : frs hv xs with
      | none => rw [hxs] at hf; cases hf
      | some b =>
        rw [hxs] at hf
        injection hf with hf; subst hf
        match us, hl with
        | u :: us, hl =>
          obtain ⟨Z1, u1, R1, r1⟩ := one R hx (hr 0 u x rfl rfl)
          obtain ⟨Z2, u2, R2, l2, r2⟩ := frzs_sim fr frs e0 e1 one xs (us := us) R1 hxs (by simpa using hl) (fun i u' x' hu hx' => (hr (i + 1) u' x' hu hx').mono u1.le (MLe.refl _))
          refine ⟨Z2, u1.trans u2, by rw [← flag_append]; exact R2, by simp [l2], fun i u' x' hu hx' => ?_⟩
          cases i with
          | zero => simp at hu hx'; subst hu hx'; exact r1.mono u2.le (MLe.refl _)
          | succ i => exact r2 i u' x' (by simpa using hu) (by simpa using hx')
theorem frzPs_sim (hs : ∀ id b, hv id = some b → h id = some b) (xs : List V) {us : List Value} {y : List V × List Nat} (R : Rel w0 Z Y m h sh w) (hf : frzPs hv xs = some y) (hl : us.length = xs.length) (hr : ∀ (i : Nat) u x, us[i]? = some u → xs[i]? = some x → Rep Z Y m u x) :
    ∃ Z', ZUp w0 Z Z' ∧ Rel w0 Z' Y m h (flag sh y.2) w ∧ y.1.length = xs.length ∧ ∀ (i : Nat) u x, us[i]? = some u → y.1[i]? = some x → Rep Z' (lent w) noM u x :=
  frzs_sim frzP frzPs rfl (fun _ _ => rfl) (fun R hf r => frzP_sim R hs hf r) xs R hf hl hr
theorem frzA_sim (R : Rel w0 Z Y m h sh w) (hs : ∀ id b, hv id = some b → h id = some b) {v : Value} {x : V} {y : V × List Nat} (hf : frzA hv x = some y) (r : Rep Z Y m v x) :
    ∃ Z', ZUp w0 Z Z' ∧ Rel w0 Z' Y m h (flag sh y.2) w ∧ Rep Z' (lent w) noM v y.1 := by
  unfold frzA at hf
  split at hf
  · rename_i f caps
    cases hl : frzPs hv caps with
    | none => rw [hl] at hf; cases hf
    | some a =>
      rw [hl] at hf
      injection hf with hf; subst hf
      obtain ⟨cs, hsz, hr, _, hmk⟩ := r.fun
      · obtain ⟨Z', u1, R1, l1, r1⟩ := frzPs_sim hs caps (us := cs.toList) R hl (by simpa using hsz) (fun i u x hu hx => hr i u x (by simpa using hu) hx)
        exact ⟨Z', u1, R1, hmk _ _ _ a.1 (by rw [l1]; exact hsz) (fun i u x hu hx => r1 i u x (by simpa using hu) hx)⟩
  · exact frzP_sim R hs hf r
theorem frzAs_sim (hs : ∀ id b, hv id = some b → h id = some b) (xs : List V) {us : List Value} {y : List V × List Nat} (R : Rel w0 Z Y m h sh w) (hf : frzAs hv xs = some y) (hl : us.length = xs.length) (hr : ∀ (i : Nat) u x, us[i]? = some u → xs[i]? = some x → Rep Z Y m u x) :
    ∃ Z', ZUp w0 Z Z' ∧ Rel w0 Z' Y m h (flag sh y.2) w ∧ y.1.length = xs.length ∧ ∀ (i : Nat) u x, us[i]? = some u → y.1[i]? = some x → Rep Z' (lent w) noM u x :=
  frzs_sim frzA frzAs rfl (fun _ _ => rfl) (fun R hf r => frzA_sim R hs hf r) xs R hf hl hr
end
end Go.Proofs.YtomnbknaanlmaaaGreatDoor
