/- Operations that read memory or make some: loads, variables, calls. -/
import Derived.Test.YtokahibbkdbndaaDFrz
namespace Go.Proofs.Ytokahibbkdbndaa
open Go.RowKit
section
variable {P : Program} {Z Y : ZMap} {m : Nat → Option Value} {w0 : WB} {w w' : World} {h hv : Nat → Option B} {sh : Nat → Bool}

theorem run_load {a : Addr} {u : Value} (hc : w.cell? a = some u) : (load a).run P w = .ok u w := by simp [load, Sem.run, hc]

theorem run_loadFrom {b o : Nat} : ∀ (l : List Value) (i : Nat) (acc : Array Value), (∀ (j : Nat) u, l[j]? = some u → w.cell? ⟨b, o + (i + j), none⟩ = some u) → (loadCellsFrom ⟨b, o, none⟩ i l.length acc).run P w = .ok (acc ++ l.toArray) w
  | [], i, acc, _ => by simp [loadCellsFrom]
  | u :: l, i, acc, hc => by
    have h0 := hc 0 u rfl
    simp only [List.length_cons, loadCellsFrom, Sem.run_bind, add_off]
    rw [run_load (by simpa using h0), Result.andThen_ok, run_loadFrom l (i + 1) (acc.push u) (fun j v hj => by
      have := hc (j + 1) v (by simpa using hj)
      rw [show i + 1 + j = i + (j + 1) from by omega]; exact this)]
    simp
theorem run_loadCells {b o : Nat} (l : List Value) (n : Nat) (hn : l.length = n) (hc : ∀ (j : Nat) u, l[j]? = some u → w.cell? ⟨b, o + j, none⟩ = some u) : (loadCells ⟨b, o, none⟩ n).run P w = .ok l.toArray w := by
  subst hn
  have := run_loadFrom (P := P) (b := b) (o := o) l 0 #[] (fun j u hj => by simpa using hc j u hj)
  simpa [loadCells] using this

theorem load_mem {t : TypeId} {b o off : Nat} {vs : Array Value} {cs : List V} {v : V} (hr : Rep Z Y m (.agg vs) (.agg cs)) (hmem : ∀ (j : Nat) u, vs[j]? = some u → w.cell? ⟨b, o + j, none⟩ = some u) (hp : partV P t cs off = some v) :
    ∃ cv, Rep Z Y m cv v ∧ (loadVar t ⟨b, o + off, none⟩).run P w = .ok cv w := by
  unfold partV at hp
  cases ha : aggB P t with
  | none => rw [ha] at hp; cases hp
  | some q =>
    cases hs : szO P t with
    | none => rw [ha, hs] at hp; cases hp
    | some n =>
      rw [ha, hs] at hp
      simp only [Option.bind_some] at hp
      cases q with
      | true =>
        simp only [if_true] at hp
        split at hp
        · rename_i hle
          injection hp with hp
          subst hp
          refine ⟨_, hr.agg_extract off n hle, ?_⟩
          have hsz := hr.agg_size
          have := run_loadCells (P := P) (w := w) (b := b) (o := o + off) (vs.extract off (off + n)).toList n (by simp; omega) (fun j u hj => by
            have hjn : j < n := by have := (List.getElem?_eq_some_iff.1 hj).1; simp at this; omega
            rw [Array.getElem?_toList, Array.getElem?_extract_of_lt (by omega)] at hj
            rw [Nat.add_assoc]
            exact hmem (off + j) u (by rw [Array.getElem?_eq_getElem (by omega)]; exact hj))
          simp only [loadVar, Sem.run_bind, run_agg ha, Result.andThen_ok, if_true, run_sz hs, this, Sem.run_pure, Array.toArray_toList]
        · cases hp
      | false =>
        simp only [Bool.false_eq_true, if_false] at hp
        obtain ⟨u, hu, hru, _⟩ := hr.agg_get hp
        exact ⟨u, hru, by simp only [loadVar, Sem.run_bind, run_agg ha, Result.andThen_ok, Bool.false_eq_true, if_false, run_load (hmem off u hu)]⟩

theorem loadV_sim (R : Rel w0 Z Y m h sh w) (hs : ∀ id b, hv id = some b → h id = some b) {t : TypeId} {x v : V} {vx : Value} (hl : loadV P hv t x = some v) (r : Rep Z Y m vx x) : ∃ cv, Rep Z Y m cv v ∧ (Instr.loadAt t vx).run P w = .ok cv w := by
  unfold loadV at hl
  split at hl
  · rename_i id off
    split at hl
    · rename_i cs he
      obtain ⟨g, hm, hat⟩ := R.box id cs (hs _ _ he)
      obtain ⟨t', vs, hvs, hrep⟩ := hat.ex
      cases r with
      | ptr _ _ g' hm' =>
        rw [hm] at hm'
        injection hm' with hm'; injection hm' with hm'; injection hm' with hm'; injection hm' with hm'
        subst hm'
        obtain ⟨cv, h1, h2⟩ := load_mem (w := w) (b := g) (o := 0) hrep (fun j u hj => by simp only [World.cell?, hvs, Nat.zero_add]; simpa using hj) hl
        exact ⟨cv, h1, by simpa [Instr.loadAt, Instr.sureAddr] using h2⟩
    · cases hl
  · rename_i id k i off
    split at hl
    · rename_i es he
      cases hei : es[i]? with
      | none => rw [hei] at hl; cases hl
      | some e =>
        rw [hei] at hl
        simp only [Option.bind_some] at hl
        split at hl
        · rename_i hk
          cases r with
          | rptr _ _ _ _ g n c hm' =>
            rcases R.row id es (hs _ _ he) with ⟨_, h0⟩ | ⟨g', n', c', k', hm, hat⟩
            · subst h0; cases hei
            · rw [hm] at hm'
              injection hm' with hm'; injection hm' with a1 a2 a3; injection a1 with a1; injection a1 with a1
              subst a1 a2 a3
              have hkk : k' = k := by rw [← hk]; exact (hat.each e (List.mem_of_getElem? hei)).symm
              subst hkk
              obtain ⟨t', fz, cur, hv', hcs, hfz, hcell⟩ := hat.ex
              have hlen : e.length = k' := hk
              have hrep : Rep Z Y m (.agg (Array.ofFn (n := k') fun j => (cur[i * k' + j.1]?).getD .nilFunc)) (.agg (e.map .c)) := by
                refine .agg _ _ (by simp [hlen]) ?_ ?_
                · intro u hu
                  simp only [Array.toList_ofFn, List.mem_ofFn] at hu
                  obtain ⟨j, rfl⟩ := hu
                  obtain ⟨u, hu, hr⟩ := hcell i e j.1 (e[j.1]'(by omega)) hei (List.getElem?_eq_getElem _)
                  rw [hu]; exact hr.one
                · intro j u x hu hx
                  rw [List.getElem?_map] at hx
                  cases hej : e[j]? with
                  | none => rw [hej] at hx; cases hx
                  | some z =>
                    rw [hej] at hx
                    injection hx with hx; subst hx
                    have hjk : j < k' := by have := (List.getElem?_eq_some_iff.1 hej).1; omega
                    obtain ⟨u', hu', hr⟩ := hcell i e j z hei hej
                    simp [hjk, hu'] at hu
                    subst hu
                    exact .c hr
              obtain ⟨cv, h1, h2⟩ := load_mem (w := w) (b := g') (o := i * k') hrep (fun j u hj => by
                have hjk : j < k' := by have := (Array.getElem?_eq_some_iff.1 hj).1; simpa using this
                simp only [Array.getElem?_ofFn, hjk, dite_true, Option.some.injEq] at hj
                obtain ⟨u', hu', _⟩ := hcell i e j (e[j]'(by omega)) hei (List.getElem?_eq_getElem _)
                rw [hu'] at hj
                simp only [Option.getD_some] at hj
                subst hj
                simp only [World.cell?, hv']
                simpa using hu') hl
              exact ⟨cv, h1, by simpa [Instr.loadAt, Instr.sureAddr] using h2⟩
        · cases hl
    · rename_i es q v0 he
      split at hl
      case isFalse => cases hl
      rename_i hko
      obtain ⟨rfl, rfl⟩ := hko
      cases hei : es[i]? with
      | none => rw [hei] at hl; cases hl
      | some e =>
        rw [hei] at hl
        simp only [Option.bind_some] at hl
        have hl' : ∃ x, (tabC es q v0)[i]? = some x ∧ partV P t [x] 0 = some v := by
          unfold tabC
          by_cases hiq : i = q
          · rw [if_pos hiq] at hl
            subst hiq
            exact ⟨v0, by rw [List.getElem?_set_self (by rw [List.length_map]; exact (List.getElem?_eq_some_iff.1 hei).1)], hl⟩
          · rw [if_neg hiq] at hl
            split at hl
            case isFalse => cases hl
            rename_i h1
            match e, h1 with
            | [x], _ => exact ⟨.c x, by rw [List.getElem?_set_ne (Ne.symm hiq), List.getElem?_map, hei]; rfl, hl⟩
        obtain ⟨x, hx, hp⟩ := hl'
        obtain ⟨g, n, c, hm, hat⟩ := R.tab id es q v0 (hs _ _ he)
        obtain ⟨t', fz, cur, hv', hcs, hfz, hcell⟩ := hat.ex
        cases r with
        | rptr _ _ _ _ g' n' c' hm' =>
          rw [hm] at hm'
          injection hm' with hm'; injection hm' with a1 a2 a3; injection a1 with a1; injection a1 with a1
          subst a1 a2 a3
          obtain ⟨u, hu, ho, hr⟩ := hcell i x hx
          have hrep : Rep Z Y m (.agg #[u]) (.agg [x]) := .agg _ _ rfl (by simpa using ho) (fun j u' x' h1 h2 => by
            cases j with
            | zero => simp at h1 h2; subst h1 h2; exact hr
            | succ j => simp at h1)
          obtain ⟨cv, h1, h2⟩ := load_mem (w := w) (b := g) (o := i) (off := 0) hrep (fun j u' hj => by
            cases j with
            | zero =>
              simp at hj; subst hj
              simp only [World.cell?, hv']
              simpa using hu
            | succ j => simp at hj) hp
          exact ⟨cv, h1, by simpa [Instr.loadAt, Instr.sureAddr] using h2⟩
    · cases hl
  · rename_i cs off
    cases r with
    | eptr b o _ U _ hz hr =>
      have hrep : Rep Z Y m (.agg (Array.ofFn (n := cs.length) fun j => U j.1)) (.agg (cs.map .c)) := by
        refine .agg _ _ (by simp) ?_ ?_
        · intro u hu
          simp only [Array.toList_ofFn, List.mem_ofFn] at hu
          obtain ⟨j, rfl⟩ := hu
          exact (hr j.1 (cs[j.1]) (List.getElem?_eq_getElem _)).one
        · intro j u x hu hx
          rw [List.getElem?_map] at hx
          cases hej : cs[j]? with
          | none => rw [hej] at hx; cases hx
          | some z =>
            rw [hej] at hx
            injection hx with hx; subst hx
            have hjk := (List.getElem?_eq_some_iff.1 hej).1
            simp [hjk] at hu
            subst hu
            exact .c (hr j z hej)
      obtain ⟨cv, h1, h2⟩ := load_mem (w := w) (b := b) (o := o) hrep (fun j u hj => by
        have hjk : j < cs.length := by have := (Array.getElem?_eq_some_iff.1 hj).1; simpa using this
        simp only [Array.getElem?_ofFn, hjk, dite_true, Option.some.injEq] at hj
        subst hj
        rcases hz j (cs[j]) (List.getElem?_eq_getElem _) with hz | hy
        · exact R.zok _ _ _ hz
        · exact R.yok' hy) hl
      exact ⟨cv, h1, by simpa [Instr.loadAt, Instr.sureAddr] using h2⟩
  · cases hl

theorem addB_nil (base : Nat) : addB h base [] = h := by funext j; simp [addB]; intro h1 h2; omega
theorem addB_one (base : Nat) (b : B) : addB h base [b] = upd h base (some b) := by
  funext j
  simp only [addB, upd, List.length_cons, List.length_nil]
  by_cases e : j = base
  · subst e; simp
  · rw [if_neg (by omega), if_neg e]

/-- a call that the machine answers is answered so by the model -/
def CallOk (P : Program) (g : FuncId) (args : List V) (res : V × List B) : Prop :=
  okRes res.1 = true ∧ (∀ b ∈ res.2, ∃ es, b = .row es) ∧ ∀ (w : World) (Z Y : ZMap) (cargs : Array Value), GW w → (∀ b o u, Z b o = some u → w.cell? ⟨b, o, none⟩ = some u) → (∀ b o u, Y b o = some u → w.cell? ⟨b, o, none⟩ = some u) → cargs.size = args.length →
    (∀ (i : Nat) u x, cargs[i]? = some u → args[i]? = some x → Rep Z Y noM u x) →
    Calls P g cargs w fun e w' => ∃ cv Z' m', e = .returned cv ∧ ZUp (wb w) Z Z' ∧ Rel (wb w) Z' (fun _ _ => none) m' (fun i => res.2[i]?) (fun _ => false) w' ∧ Rep Z' (fun _ _ => none) m' cv res.1 ∧ ∀ i, m' i ≠ none → i < res.2.length

theorem cellR_rep {Z' Y0 : ZMap} {m' m'' : Nat → Option Value} {f : Nat → Nat} (hm : ∀ i v, m' i = some v → m'' (f i) = some v) {v : Value} {x : V} (hx : cellOk x = true) (r : Rep Z' Y0 m' v x) : Rep Z' Y m'' v (cellR f x) := by
  cases r with
  | any v => exact .any v
  | c h => exact .c h
  | row id n A c h hA => exact .row _ n A c (hm _ _ h) hA
  | row0 id A h => exact .row0 _ A (hm _ _ h)
  | _ => cases hx
theorem aggR_rep {Z' Y0 : ZMap} {m' m'' : Nat → Option Value} {f : Nat → Nat} (hm : ∀ i v, m' i = some v → m'' (f i) = some v) {v : Value} {x : V} (hx : aggOk x = true) (r : Rep Z' Y0 m' v x) : Rep Z' Y m'' v (aggR f x) := by
  cases r with
  | agg vs cs hl h1 hr =>
    refine .agg vs _ (by simp [hl]) h1 (fun i u x hu hx' => ?_)
    rw [List.getElem?_map] at hx'
    cases hc : cs[i]? with
    | none => rw [hc] at hx'; cases hx'
    | some y =>
      rw [hc] at hx'
      injection hx' with hx'; subst hx'
      exact cellR_rep hm (List.all_eq_true.1 hx y (List.mem_of_getElem? hc)) (hr i u y hu hc)
  | c h => exact .c h
  | row id n A c h hA => exact .row _ n A c (hm _ _ h) hA
  | row0 id A h => exact .row0 _ A (hm _ _ h)
  | _ => cases hx
theorem ren_rep {Z' Y0 : ZMap} {m' m'' : Nat → Option Value} {f : Nat → Nat} (hm : ∀ i v, m' i = some v → m'' (f i) = some v) {v : Value} {x : V} (hx : okRes x = true) (r : Rep Z' Y0 m' v x) : Rep Z' Y m'' v (x.ren f) := by
  cases r with
  | tup us vs hl hr =>
    refine .tup us _ (by simp [hl]) (fun i u y hu hy => ?_)
    rw [List.getElem?_map] at hy
    cases hc : vs[i]? with
    | none => rw [hc] at hy; cases hy
    | some z =>
      rw [hc] at hy
      injection hy with hy; subst hy
      exact aggR_rep hm (List.all_eq_true.1 hx z (List.mem_of_getElem? hc)) (hr i u z hu hc)
  | agg vs cs hl h1 hr => exact aggR_rep (x := .agg cs) hm hx (.agg vs cs hl h1 hr)
  | c h => exact .c h
  | row id n A c h hA => exact .row _ n A c (hm _ _ h) hA
  | row0 id A h => exact .row0 _ A (hm _ _ h)
  | _ => cases hx

/-- what a call left, beside what was there -/
theorem Rel.join {Z1 Z' : ZMap} {m' : Nat → Option Value} {bs : List B} {base : Nat} (R : Rel w0 Z1 Y m h sh w) (Rc : Rel (wb w) Z' (fun _ _ => none) m' (fun i => bs[i]?) (fun _ => false) w') (hz : ZUp (wb w) Z1 Z') (hfr : ∀ i, base ≤ i → i < base + bs.length → m i = none ∧ h i = none)
    (hbs : ∀ b ∈ bs, ∃ es, b = .row es) : Rel w0 Z' Y (fun i => if base ≤ i ∧ i < base + bs.length then m' (i - base) else m i) (addB h base bs) sh w' := by
  have Rcb := wb_bel.1 Rc.bel
  have hmle : MLe m (fun i => if base ≤ i ∧ i < base + bs.length then m' (i - base) else m i) := fun i v hi => by
    dsimp only
    rw [if_neg (fun hc => by rw [(hfr i hc.1 hc.2).1] at hi; cases hi)]
    exact hi
  have hold : ∀ g x, w.heap[g]? = some x → w'.heap[g]? = some x := fun g x hx => by rw [Rcb.block g (heap_lt hx)]; exact hx
  have hzold : ∀ g o, g < w.heap.size → Z' g o ≠ none → Z1 g o ≠ none := fun g o hg hn => by
    cases hzz : Z' g o with
    | none => exact absurd hzz hn
    | some u =>
      rcases hz.own g o u hzz with h1 | h1
      · rw [h1]; simp
      · have := wb_own.1 h1; omega
  refine ⟨BelA.trans R.bel Rcb, R.gw, Rc.zok, R.yok, fun id cs hi => ?_, fun id es hi => ?_, fun id es i v hi => ?_, fun id id' g h1 h2 e1 e2 => ?_⟩
  · unfold addB at hi
    split at hi
    · obtain ⟨es, he⟩ := hbs _ (List.mem_of_getElem? hi); cases he
    · rename_i hc
      obtain ⟨g, hm, hat⟩ := R.box id cs hi
      obtain ⟨t, vs, hv, hr⟩ := hat.ex
      refine ⟨g, hmle _ _ hm, ⟨hat.base, ⟨t, vs, hold _ _ hv, hr.mono hz.le hmle⟩, fun o => ?_⟩⟩
      cases hzz : Z' g o with
      | none => rfl
      | some u => exact absurd (hat.apart o) (hzold g o (heap_lt hv) (by rw [hzz]; simp))
  · unfold addB at hi
    split at hi
    · rename_i hc
      rcases Rc.row (id - base) es hi with ⟨h0, h1⟩ | ⟨g, n, c, k, hm, hat⟩
      · exact .inl ⟨by dsimp only; rw [if_pos hc]; exact h0, h1⟩
      · refine .inr ⟨g, n, c, k, by dsimp only; rw [if_pos hc]; exact hm, ⟨.inl (Nat.le_trans R.bel.size (wb_own.1 hat.base)), hat.ex, hat.len, hat.le, hat.max, hat.pos, hat.zero, hat.each, fun o ho => ?_⟩⟩
        have := hat.apart o ho
        cases this.1
    · rcases R.row id es hi with ⟨h0, h1⟩ | ⟨g, n, c, k, hm, hat⟩
      · exact .inl ⟨hmle _ _ h0, h1⟩
      · obtain ⟨t, fz, cur, hv, hcs, hfz, hcell⟩ := hat.ex
        refine .inr ⟨g, n, c, k, hmle _ _ hm, ⟨hat.base, ⟨t, fz, cur, hold _ _ hv, hcs, hfz, fun i e j x he hx => ?_⟩, hat.len, hat.le, hat.max, hat.pos, hat.zero, hat.each, fun o ho => hat.apart o (hzold g o (heap_lt hv) ho)⟩⟩
        obtain ⟨u, hu, hr⟩ := hcell i e j x he hx
        exact ⟨u, hu, hr.mono hz.le⟩
  · unfold addB at hi
    split at hi
    · obtain ⟨es, he⟩ := hbs _ (List.mem_of_getElem? hi); cases he
    · obtain ⟨g, n, c, hm, hat⟩ := R.tab id es i v hi
      obtain ⟨t, fz, cur, hv, _⟩ := hat.ex
      refine ⟨g, n, c, hmle _ _ hm, hat.up hz.le hmle (hold g) fun o => ?_⟩
      cases hzz : Z' g o with
      | none => rfl
      | some u => exact absurd (hat.apart o) (hzold g o (heap_lt hv) (by rw [hzz]; simp))
  · have cases_ : ∀ j, addB h base bs j ≠ none → blkOf (fun i => if base ≤ i ∧ i < base + bs.length then m' (i - base) else m i) j = some g →
        ((base ≤ j ∧ j < base + bs.length) ∧ bs[j - base]? ≠ none ∧ blkOf m' (j - base) = some g ∧ w.heap.size ≤ g) ∨ (¬ (base ≤ j ∧ j < base + bs.length) ∧ h j ≠ none ∧ blkOf m j = some g ∧ g < w.heap.size) := by
      intro j hj hg
      by_cases hc : base ≤ j ∧ j < base + bs.length
      · left
        have hj' : bs[j - base]? ≠ none := by simpa [addB, hc] using hj
        have hg' : blkOf m' (j - base) = some g := by simpa [blkOf, hc] using hg
        exact ⟨hc, hj', hg', wb_own.1 (Rc.blk_lt hj' hg').2⟩
      · right
        have hj' : h j ≠ none := by simpa [addB, hc] using hj
        have hg' : blkOf m j = some g := by simpa [blkOf, hc] using hg
        exact ⟨hc, hj', hg', (R.blk_lt hj' hg').1⟩
    rcases cases_ id h1 e1 with ⟨c1, n1, b1, l1⟩ | ⟨c1, n1, b1, l1⟩ <;> rcases cases_ id' h2 e2 with ⟨c2, n2, b2, l2⟩ | ⟨c2, n2, b2, l2⟩
    · have := Rc.inj _ _ g n1 n2 b1 b2
      omega
    · omega
    · omega
    · exact R.inj _ _ g n1 n2 b1 b2
end
end Go.Proofs.Ytokahibbkdbndaa
