/- Operations that reckon with values alone do in the model what they do in the machine: all of them. -/
import Derived.Test.YtokahibbkdbndaaDEq
namespace Go.Proofs.Ytokahibbkdbndaa
open Go.RowKit
section
variable {P : Program} {Z Y : ZMap} {m : Nat → Option Value}

theorem run_mapM {α β : Type} (f : α → Sem β) (w : World) : ∀ (l : List α) (g : List β), l.length = g.length → (∀ (i : Nat) a b, l[i]? = some a → g[i]? = some b → (f a).run P w = .ok b w) → (l.mapM f).run P w = .ok g w
  | [], [], _, _ => rfl
  | [], _ :: _, h, _ => by cases h
  | _ :: _, [], h, _ => by cases h
  | a :: l, b :: g, h, hr => by
    simp only [List.mapM_cons, Sem.run_bind, hr 0 a b rfl rfl, Result.andThen_ok, run_mapM f w l g (by simpa using h) (fun i x y hx hy => hr (i + 1) x y hx hy), Sem.run_pure]
theorem run_mapMA {α β : Type} (f : α → Sem β) (w : World) (l : Array α) (g : List β) (h : l.size = g.length) (hr : ∀ (i : Nat) a b, l[i]? = some a → g[i]? = some b → (f a).run P w = .ok b w) : (l.mapM f).run P w = .ok g.toArray w := by
  rw [Array.mapM_eq_mapM_toList]
  have := run_mapM (P := P) f w l.toList g (by simpa using h) (fun i a b ha hb => hr i a b (by simpa using ha) hb)
  show (l.toList.mapM f >>= fun x => pure x.toArray).run P w = _
  rw [Sem.run_bind, this]
  rfl

/-- what mapM over options gives -/
theorem mapM_get {α β : Type} (f : α → Option β) : ∀ (l : List α) (g : List β), l.mapM f = some g → l.length = g.length ∧ ∀ (i : Nat) a b, l[i]? = some a → g[i]? = some b → f a = some b
  | [], g, h => by
    simp at h
    subst h
    exact ⟨rfl, by simp⟩
  | a :: l, g, h => by
    simp only [List.mapM_cons] at h
    cases h1 : f a with
    | none => rw [h1] at h; cases h
    | some b =>
      rw [h1] at h
      cases h2 : l.mapM f with
      | none => rw [h2] at h; cases h
      | some g' =>
        rw [h2] at h
        have h : some (b :: g') = some g := h
        injection h with h
        subst h
        obtain ⟨hl, hr⟩ := mapM_get f l g' h2
        refine ⟨by simp [hl], fun i x y hx hy => ?_⟩
        cases i with
        | zero => simp at hx hy; subst hx hy; exact h1
        | succ i => exact hr i x y (by simpa using hx) (by simpa using hy)

theorem fold_get (off : Nat) : ∀ (l : List Value) (k : Nat) (arr : Array Value), ((l.zipIdx k).foldl (fun (cs : Array Value) (p : Value × Nat) => cs.setIfInBounds (off + p.2) p.1) arr).size = arr.size ∧
    ∀ i, i < arr.size → ((l.zipIdx k).foldl (fun (cs : Array Value) (p : Value × Nat) => cs.setIfInBounds (off + p.2) p.1) arr)[i]? = if off + k ≤ i ∧ i < off + k + l.length then l[i - (off + k)]? else arr[i]?
  | [], k, arr => ⟨rfl, fun i hi => by simp; intro h1 h2; omega⟩
  | v :: l, k, arr => by
    obtain ⟨h1, h2⟩ := fold_get off l (k + 1) (arr.setIfInBounds (off + k) v)
    simp only [List.zipIdx_cons, List.foldl_cons]
    refine ⟨by rw [h1]; simp, fun i hi => ?_⟩
    rw [h2 i (by simpa using hi)]
    by_cases e : i = off + k
    · subst e
      rw [if_neg (by omega), if_pos (by simp)]
      simp [Array.getElem?_setIfInBounds_self_of_lt hi]
    · rw [Array.getElem?_setIfInBounds_ne (Ne.symm e)]
      by_cases h3 : off + k ≤ i ∧ i < off + k + (l.length + 1)
      · rw [if_pos (by omega), if_pos (by simpa using h3)]
        obtain ⟨j, hj⟩ : ∃ j, i - (off + k) = j + 1 := ⟨i - (off + k) - 1, by omega⟩
        rw [hj, List.getElem?_cons_succ]
        congr 1
        omega
      · rw [if_neg (by omega), if_neg (by simpa using h3)]

theorem splice_len {α : Type} {cs vs : List α} {off : Nat} (h : off + vs.length ≤ cs.length) : (splice cs off vs).length = cs.length := by simp [splice]; omega
theorem splice_get {α : Type} {cs vs : List α} {off i : Nat} (h : off + vs.length ≤ cs.length) : (splice cs off vs)[i]? = if off ≤ i ∧ i < off + vs.length then vs[i - off]? else cs[i]? := by
  unfold splice
  rw [List.append_assoc, List.getElem?_append]
  simp only [List.length_take]
  by_cases h1 : i < min off cs.length
  · rw [if_pos h1, if_neg (by omega), List.getElem?_take, if_pos (by omega)]
  · rw [if_neg h1, List.getElem?_append]
    have e : min off cs.length = off := by omega
    rw [e] at h1 ⊢
    by_cases h2 : i - off < vs.length
    · rw [if_pos h2, if_pos (by omega)]
    · rw [if_neg h2, if_neg (by omega), List.getElem?_drop]
      congr 1
      omega

theorem fill_sim {place : Nat → Option (Nat × Nat)} {r : Operand → V} {ρ : Operand → Value} (hρ : ∀ x, Rep Z Y m (ρ x) (r x)) : ∀ (ps : List (Nat × Operand)) (cs : List V) (vs : Array Value) (out : List V), buildV place cs (ps.map fun p => (p.1, r p.2)) = some out → Rep Z Y m (.agg vs) (.agg cs) →
    ∃ vs', Instr.fill place vs (ps.map fun p => (p.1, ρ p.2)) = some vs' ∧ Rep Z Y m (.agg vs') (.agg out)
  | [], cs, vs, out, h, hr => by
    injection h with h
    subst h
    exact ⟨vs, rfl, hr⟩
  | (i, x) :: ps, cs, vs, out, h, hr => by
    simp only [List.map_cons, buildV] at h
    cases hp : place i with
    | none => rw [hp] at h; cases h
    | some p =>
      cases hc : (r x).cells with
      | none => rw [hp, hc] at h; cases h
      | some us =>
        rw [hp, hc] at h
        simp only [Option.bind_some] at h
        split at h
        · rename_i hcond
          have rc := (hρ x).cells hc
          have hs := rc.agg_size
          have hs' := hr.agg_size
          have hnew : Rep Z Y m (.agg ((ρ x).cells.zipIdx.foldl (fun (cs : Array Value) (q : Value × Nat) => cs.setIfInBounds (p.1 + q.2) q.1) vs)) (.agg (splice cs p.1 us)) := by
            rw [← Array.foldl_toList, Array.toList_zipIdx]
            obtain ⟨h1, h2⟩ := fold_get p.1 (ρ x).cells.toList 0 vs
            have hget : ∀ j u, ((((ρ x).cells.toList.zipIdx 0).foldl (fun (cs : Array Value) (q : Value × Nat) => cs.setIfInBounds (p.1 + q.2) q.1) vs))[j]? = some u → j < cs.length ∧ if p.1 ≤ j ∧ j < p.1 + us.length then (ρ x).cells[j - p.1]? = some u else vs[j]? = some u := by
              intro j u hu
              have hj : j < vs.size := by rw [← h1]; exact (Array.getElem?_eq_some_iff.1 hu).1
              rw [h2 j hj] at hu
              refine ⟨by omega, ?_⟩
              have e : (ρ x).cells.toList.length = us.length := by simpa using hs
              simp only [Nat.add_zero, e] at hu
              split at hu
              · rename_i hc; rw [if_pos hc]; simpa using hu
              · rename_i hc; rw [if_neg hc]; exact hu
            refine .agg _ _ (by rw [h1, splice_len (by omega)]; exact hs') ?_ ?_
            · intro u hu
              obtain ⟨j, hj⟩ := List.getElem?_of_mem hu
              have := (hget j u (by simpa using hj)).2
              split at this
              · exact rc.agg_one u (List.mem_of_getElem? (i := j - p.1) (by simpa using this))
              · exact hr.agg_one u (List.mem_of_getElem? (i := j) (by simpa using this))
            · intro j u y hu hy
              have := (hget j u hu).2
              rw [splice_get (by omega)] at hy
              split at this
              · rename_i hc
                rw [if_pos hc] at hy
                obtain ⟨u', hu', hr', _⟩ := rc.agg_get hy
                rw [hu'] at this; injection this with this; subst this; exact hr'
              · rename_i hc
                rw [if_neg hc] at hy
                obtain ⟨u', hu', hr', _⟩ := hr.agg_get hy
                rw [hu'] at this; injection this with this; subst this; exact hr'
          obtain ⟨vs', h1, h2⟩ := fill_sim hρ ps _ _ out h hnew
          refine ⟨vs', ?_, h2⟩
          simp only [List.map_cons, Instr.fill, hp]
          rw [if_neg (by simp; omega)]
          exact h1
        · cases h

theorem eqGuard_ok {op : BinOp} {t : TypeId} {x y : Operand} {X Y' : V} {vx vy : Value} {q : Bool} (h : eqV P 9 t X Y' = some q) (rx : Rep Z Y m vx X) (ry : Rep Z Y m vy Y') (w : World) : (eqGuard op t x y vx vy).run P w = .ok () w := by
  unfold eqGuard
  generalize (!(match op with | .eql => true | .neq => true | _ => false)) = b
  cases b with
  | true => rfl
  | false =>
    simp only [Bool.false_eq_true, if_false]
    unfold eqV at h
    cases hu : P.underlying t with
    | none => rw [hu] at h; cases h
    | some u =>
      rw [hu] at h
      split at h <;> first
        | (cases rx with | c rx => cases ry with | c ry => cases rx <;> cases ry <;> rfl)
        | (cases h; done)
        | (cases rx with | agg _ _ _ _ _ => cases ry with | agg _ _ _ _ _ =>
            split at h
            · cases h
            · rename_i hns
              simp only [Bool.or_eq_true, not_or, Bool.not_eq_true] at hns
              obtain ⟨⟨_, hg⟩, _⟩ := hns
              simp only [Sem.run_bind, run_program, Result.andThen_ok, hg, Bool.not_false, if_true, Sem.run_pure])

theorem eqGuard_scalar {op : BinOp} {t : TypeId} {x y : Operand} {vx vy : Value} (h : (∃ k a k' b, vx = .int k a ∧ vy = .int k' b) ∨ ∃ a b, vx = .string a ∧ vy = .string b) (w : World) : (eqGuard op t x y vx vy).run P w = .ok () w := by
  unfold eqGuard
  generalize (!(match op with | .eql => true | .neq => true | _ => false)) = b
  rcases h with ⟨k, a, k', b', rfl, rfl⟩ | ⟨a, b', rfl, rfl⟩ <;> cases b <;> rfl

theorem binOp_eq {t : TypeId} {X Y' : V} {vx vy : Value} {q : Bool} (h : eqV P 9 t X Y' = some q) (rx : Rep Z Y m vx X) (ry : Rep Z Y m vy Y') (hns : (∀ k a k' b, X = .c (.int k a) → Y' = .c (.int k' b) → False) ∧ (∀ a b, X = .c (.str a) → Y' = .c (.str b) → False)) (w : World) :
    (binOp .eql t vx vy).run P w = .ok (.bool q) w ∧ (binOp .neq t vx vy).run P w = .ok (.bool !q) w := by
  have he := eqV_sim 9 h rx ry Op.maxDepth (by decide) w
  have h' := h
  unfold eqV at h'
  cases hu : P.underlying t with
  | none => rw [hu] at h'; cases h'
  | some u =>
    rw [hu] at h'
    split at h' <;> first
      | (cases h'; done)
      | (exact (hns.1 _ _ _ _ rfl rfl).elim)
      | (exact (hns.2 _ _ rfl rfl).elim)
      | (cases rx with | c rx => cases ry with | c ry => cases rx <;> cases ry <;> simp [binOp, Op.equal, he])
      | (cases rx with | agg _ _ _ _ _ => cases ry with | agg _ _ _ _ _ => simp [binOp, Op.equal, he])

theorem bin_sim {op : BinOp} {t : TypeId} {x y : Operand} {X Y' : V} {vx vy : Value} {v : V} (h : binV P op t X Y' = some v) (rx : Rep Z Y m vx X) (ry : Rep Z Y m vy Y') :
    ∃ cv, Rep Z Y m cv v ∧ ∀ w, ((do eqGuard op t x y vx vy; binOp op t vx vy) : Sem Value).run P w = .ok cv w := by
  unfold binV at h
  split at h
  · rename_i k a k' b
    cases rx with | c rx => cases ry with | c ry =>
    cases rx; cases ry
    have hg := fun w => eqGuard_scalar (P := P) (op := op) (t := t) (x := x) (y := y) (vx := .int k a) (vy := .int k' b) (.inl ⟨k, a, k', b, rfl, rfl⟩) w
    have hsh : ∀ o : BinOp, o = op → (shOp o k a b).map V.c = some v → ∃ cv, Rep Z Y m cv v ∧ ∀ w, ((do eqGuard op t x y (.int k a) (.int k' b); binOp op t (.int k a) (.int k' b)) : Sem Value).run P w = .ok cv w := by
      intro o ho h'
      clear h
      subst ho
      cases hi : shOp o k a b with
      | none => rw [hi] at h'; cases h'
      | some z =>
        rw [hi] at h'
        injection h' with h'
        subst h'
        obtain ⟨cv, hr, hw⟩ := sh_sim (P := P) (Z := Z) (k' := k') hi t
        exact ⟨cv, .c hr, fun w => by simp only [Sem.run_bind, hg, Result.andThen_ok, hw]⟩
    split at h
    · exact hsh _ rfl h
    · exact hsh _ rfl h
    · rename_i h1 h2
      split at h
      · rename_i hk
        subst hk
        cases hi : intOp op k a b with
        | none => rw [hi] at h; cases h
        | some z =>
          rw [hi] at h
          injection h with h
          subst h
          obtain ⟨cv, hr, hw⟩ := int_sim (P := P) (Z := Z) ⟨h1, h2⟩ hi t
          exact ⟨cv, .c hr, fun w => by simp only [Sem.run_bind, hg, Result.andThen_ok, hw]⟩
      · cases h
  · rename_i a b
    cases rx with | c rx => cases ry with | c ry =>
    cases rx; cases ry
    cases hi : strOp op a b with
    | none => rw [hi] at h; cases h
    | some z =>
      rw [hi] at h
      injection h with h
      subst h
      obtain ⟨cv, hr, hw⟩ := str_sim (P := P) (Z := Z) hi t
      exact ⟨cv, .c hr, fun w => by simp only [Sem.run_bind, eqGuard_scalar (P := P) (op := op) (t := t) (x := x) (y := y) (vx := .string a) (vy := .string b) (.inr ⟨a, b, rfl, rfl⟩) w, Result.andThen_ok, hw]⟩
  · rename_i hni hns
    split at h
    · cases hq : eqV P 9 t X Y' with
      | none => rw [hq] at h; cases h
      | some q =>
        rw [hq] at h
        injection h with h
        subst h
        exact ⟨.bool q, .c (.bool q), fun w => by simp only [Sem.run_bind, eqGuard_ok hq rx ry w, Result.andThen_ok, (binOp_eq hq rx ry ⟨hni, hns⟩ w).1]⟩
    · cases hq : eqV P 9 t X Y' with
      | none => rw [hq] at h; cases h
      | some q =>
        rw [hq] at h
        injection h with h
        subst h
        exact ⟨.bool !q, .c (.bool !q), fun w => by simp only [Sem.run_bind, eqGuard_ok hq rx ry w, Result.andThen_ok, (binOp_eq hq rx ry ⟨hni, hns⟩ w).2]⟩
    · cases h

theorem vOf_agg {z : Value} {cs : List V} (h : vOf z = .agg cs) : ∃ vs, z = .agg vs := by
  unfold vOf at h
  split at h
  · exact ⟨_, rfl⟩
  · unfold vCell at h
    cases hc : cOf z with
    | none => rw [hc] at h; cases h
    | some x => rw [hc] at h; cases h
theorem zeroV_sim {t : TypeId} {z : V} (h : zeroV P t = some z) : ∃ v, Rep Z Y m v z ∧ vOf v = z ∧ ∀ w, (zeroValue t).run P w = .ok v w := by
  unfold zeroV at h
  cases hi : P.info? t with
  | none => rw [hi] at h; cases h
  | some i =>
    rw [hi] at h
    simp only [Option.bind_some] at h
    cases hz : i.zero with
    | none => rw [hz] at h; cases h
    | some v =>
      rw [hz] at h
      injection h with h
      subst h
      exact ⟨v, vOf_rep v, rfl, run_zero hi hz⟩

theorem bnd_sim {x : Option V} {vx : Option Value} {d mx n : Nat} {code : BoundsCode} (h : bnd x d mx = some n) (hx : x.isSome = vx.isSome) (hr : ∀ a b, vx = some a → x = some b → Rep Z Y m a b) (w : World) :
    (match vx with | some v => Instr.sliceBound v mx code | none => pure d).run P w = .ok n w := by
  cases vx with
  | none =>
    cases x with
    | none => injection h with h; subst h; rfl
    | some _ => cases hx
  | some v =>
    cases x with
    | none => cases hx
    | some x =>
      have r := hr _ _ rfl rfl
      unfold bnd at h
      split at h
      · cases ‹some x = none›
      · rename_i k i e
        injection e with e
        subst e
        cases r with | c r =>
        cases r
        split at h
        · rename_i hb
          injection h with h
          subst h
          simp [Instr.sliceBound, asIntOf, hb]
        · cases h
      · cases h
end
end Go.Proofs.Ytokahibbkdbndaa
