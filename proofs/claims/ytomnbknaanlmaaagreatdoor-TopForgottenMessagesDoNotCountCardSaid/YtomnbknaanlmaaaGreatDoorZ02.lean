/- Operations that read memory or make some: loads, variables, calls. -/
import Derived.Test.YtomnbknaanlmaaaGreatDoorZ01
namespace Go.Proofs.YtomnbknaanlmaaaGreatDoor
open Go.RowKit
section
variable {P : Program} {Z Y : ZMap} {m : Nat → Option Value} {w0 : WB} {w w' : World} {h hv : Nat → Option B} {sh : Nat → Bool}
theorem run_load {a : Addr} {u : Value} (hc : w.cell? a = some u) : (load a).run P w = .ok u w := by simp [load, Sem.run, hc]
theorem run_loadFrom {b o : Nat} : ∀ (l : List Value) (i : Nat) (acc : Array Value), (∀ (j : Nat) u, l[j]? = some u → w.cell? ⟨b, o + (i + j), none⟩ = some u) → (loadCellsFrom ⟨b, o, none⟩ i l.length acc).run P w = .ok (acc ++ l.toArray) w
  | [], i, acc, _ => by simp [loadCellsFrom]
  | u :: l, i, acc, hc => by
    have h0 := hc 0 u rfl
    simp only [List.length_cons, loadCellsFrom, Sem.run_bind, add_off]
    rw [run_load (by simpa using h0), Result.andThen_ok, run_loadFrom l (i + 1) (acc.push u) (fun j v hj => by
      have := hc (j + 1) v (by simpa using hj)
      rw [show i + 1 + j = i + (j + 1) from by omega]; exact this)]
    simp
theorem run_loadCells {b o : Nat} (l : List Value) (n : Nat) (hn : l.length = n) (hc : ∀ (j : Nat) u, l[j]? = some u → w.cell? ⟨b, o + j, none⟩ = some u) : (loadCells ⟨b, o, none⟩ n).run P w = .ok l.toArray w := by
  subst hn
  have := run_loadFrom (P := P) (b := b) (o := o) l 0 #[] (fun j u hj => by simpa using hc j u hj)
  simpa [loadCells] using this
theorem load_mem {t : TypeId} {b o off : Nat} {vs : Array Value} {cs : List V} {v : V} (hr : Rep Z Y m (.agg vs) (.agg cs)) (hmem : ∀ (j : Nat) u, vs[j]? = some u → w.cell? ⟨b, o + j, none⟩ = some u) (hp : partV P t cs off = some v) :
    ∃ cv, Rep Z Y m cv v ∧ (loadVar t ⟨b, o + off, none⟩).run P w = .ok cv w := by
  unfold partV at hp
  cases ha : aggB P t with
  | none => rw [ha] at hp; cases hp
  | some q =>
    cases hs : szO P t with
    | none => rw [ha, hs] at hp; cases hp
    | some n =>
      rw [ha, hs] at hp
      simp only [Option.bind_some] at hp
      cases q with
      | true =>
        simp only [if_true] at hp
        split at hp
        · rename_i hle
          injection hp with hp
          subst hp
          refine ⟨_, hr.agg_extract off n hle, ?_⟩
          have hsz := hr.agg_size
          have := run_loadCells (P := P) (w := w) (b := b) (o := o + off) (vs.extract off (off + n)).toList n (by simp; omega) (fun j u hj => by
            have hjn : j < n := by have := (List.getElem?_eq_some_iff.1 hj).1; simp at this; omega
            rw [Array.getElem?_toList, Array.getElem?_extract_of_lt (by omega)] at hj
            rw [Nat.add_assoc]
            exact hmem (off + j) u (by rw [Array.getElem?_eq_getElem (by omega)]; exact hj))
          simp only [loadVar, Sem.run_bind, run_agg ha, Result.andThen_ok, if_true, run_sz hs, this, Sem.run_pure, Array.toArray_toList]
        · cases hp
      | false =>
        simp only [Bool.false_eq_true, if_false] at hp
        obtain ⟨u, hu, hru, _⟩ := hr.agg_get hp
        exact ⟨u, hru, by simp only [loadVar, Sem.run_bind, run_agg ha, Result.andThen_ok, Bool.false_eq_true, if_false, run_load (hmem off u hu)]⟩
theorem loadV_sim (R : Rel w0 Z Y m h sh w) (hs : ∀ id b, hv id = some b → h id = some b) {t : TypeId} {x v : V} {vx : Value} (hl : loadV P hv t x = some v) (r : Rep Z Y m vx x) : ∃ cv, Rep Z Y m cv v ∧ (Instr.loadAt t vx).run P w = .ok cv w := by
  unfold loadV at hl
  split at hl
  · rename_i id off
    split at hl
    · rename_i cs he
      obtain ⟨g, hm, hat⟩ := R.box id cs (hs _ _ he)
      obtain ⟨t', vs, hvs, hrep⟩ := hat.ex
      cases r with
      | ptr _ _ g' hm' =>
        rw [hm] at hm'
        injection hm' with hm'; injection hm' with hm'; injection hm' with hm'; injection hm' with hm'
        subst hm'
        obtain ⟨cv, h1, h2⟩ := load_mem (w := w) (b := g) (o := 0) hrep (fun j u hj => by simp only [World.cell?, hvs, Nat.zero_add]; simpa using hj) hl
        exact ⟨cv, h1, by simpa [Instr.loadAt, Instr.sureAddr] using h2⟩
    · cases hl
  · rename_i id k i off
    split at hl
    · rename_i es he
      cases hei : es[i]? with
      | none => rw [hei] at hl; cases hl
      | some e =>
        rw [hei] at hl
        simp only [Option.bind_some] at hl
        split at hl
        · rename_i hk
          cases r with
          | rptr _ _ _ _ g n c hm' =>
            rcases R.row id es (hs _ _ he) with ⟨_, h0⟩ | ⟨g', n', c', k', hm, hat⟩
            · subst h0; cases hei
            · rw [hm] at hm'
              injection hm' with hm'; injection hm' with a1 a2 a3; injection a1 with a1; injection a1 with a1
              subst a1 a2 a3
              have hkk : k' = k := by rw [← hk]; exact (hat.each e (List.mem_of_getElem? hei)).symm
              subst hkk
              obtain ⟨t', fz, cur, hv', hcs, hfz, hcell⟩ := hat.ex
              have hlen : e.length = k' := hk
              have hrep : Rep Z Y m (.agg (Array.ofFn (n := k') fun j => (cur[i * k' + j.1]?).getD .nilFunc)) (.agg (e.map .c)) := by
                refine .agg _ _ (by simp [hlen]) ?_ ?_
                · intro u hu
                  simp only [Array.toList_ofFn, List.mem_ofFn] at hu
                  obtain ⟨j, rfl⟩ := hu
                  obtain ⟨u, hu, hr⟩ := hcell i e j.1 (e[j.1]'(by omega)) hei (List.getElem?_eq_getElem _)
                  rw [hu]; exact hr.one
                · intro j u x hu hx
                  rw [List.getElem?_map] at hx
                  cases hej : e[j]? with
                  | none => rw [hej] at hx; cases hx
                  | some z =>
                    rw [hej] at hx
                    injection hx with hx; subst hx
                    have hjk : j < k' := by have := (List.getElem?_eq_some_iff.1 hej).1; omega
                    obtain ⟨u', hu', hr⟩ := hcell i e j z hei hej
                    simp [hjk, hu'] at hu
                    subst hu
                    exact .c hr
              obtain ⟨cv, h1, h2⟩ := load_mem (w := w) (b := g') (o := i * k') hrep (fun j u hj => by
                have hjk : j < k' := by have := (Array.getElem?_eq_some_iff.1 hj).1; simpa using this
                simp only [Array.getElem?_ofFn, hjk, dite_true, Option.some.injEq] at hj
                obtain ⟨u', hu', _⟩ := hcell i e j (e[j]'(by omega)) hei (List.getElem?_eq_getElem _)
                rw [hu'] at hj
                simp only [Option.getD_some] at hj
                subst hj
                simp only [World.cell?, hv']
                simpa using hu') hl
              exact ⟨cv, h1, by simpa [Instr.loadAt, Instr.sureAddr] using h2⟩
        · cases hl
    · rename_i es q v0 he
      split at hl
      case isFalse => cases hl
      rename_i hko
      obtain ⟨rfl, rfl⟩ := hko
      cases hei : es[i]? with
      | none => rw [hei] at hl; cases hl
      | some e =>
        rw [hei] at hl
        simp only [Option.bind_some] at hl
        have hl' : ∃ x, (tabC es q v0)[i]? = some x ∧ partV P t [x] 0 = some v := by
          unfold tabC
          by_cases hiq : i = q
          · rw [if_pos hiq] at hl
            subst hiq
            exact ⟨v0, by rw [List.getElem?_set_self (by rw [List.length_map]; exact (List.getElem?_eq_some_iff.1 hei).1)], hl⟩
          · rw [if_neg hiq] at hl
            split at hl
            case isFalse => cases hl
            rename_i h1
            match e, h1 with
            | [x], _ => exact ⟨.c x, by rw [List.getElem?_set_ne (Ne.symm hiq), List.getElem?_map, hei]; rfl, hl⟩
        obtain ⟨x, hx, hp⟩ := hl'
        obtain ⟨g, n, c, hm, hat⟩ := R.tab id es q v0 (hs _ _ he)
        obtain ⟨t', fz, cur, hv', hcs, hfz, hcell⟩ := hat.ex
        cases r with
        | rptr _ _ _ _ g' n' c' hm' =>
          rw [hm] at hm'
          injection hm' with hm'; injection hm' with a1 a2 a3; injection a1 with a1; injection a1 with a1
          subst a1 a2 a3
          obtain ⟨u, hu, ho, hr⟩ := hcell i x hx
          have hrep : Rep Z Y m (.agg #[u]) (.agg [x]) := .agg _ _ rfl (by simpa using ho) (fun j u' x' h1 h2 => by
            cases j with
            | zero => simp at h1 h2; subst h1 h2; exact hr
            | succ j => simp at h1)
          obtain ⟨cv, h1, h2⟩ := load_mem (w := w) (b := g) (o := i) (off := 0) hrep (fun j u' hj => by
            cases j with
            | zero =>
              simp at hj; subst hj
              simp only [World.cell?, hv']
              simpa using hu
            | succ j => simp at hj) hp
          exact ⟨cv, h1, by simpa [Instr.loadAt, Instr.sureAddr] using h2⟩
    · cases hl
  · rename_i cs off
    cases r with
    | eptr b o _ U _ hz hr =>
      have hrep : Rep Z Y m (.agg (Array.ofFn (n := cs.length) fun j => U j.1)) (.agg (cs.map .c)) := by
        refine .agg _ _ (by simp) ?_ ?_
        · intro u hu
          simp only [Array.toList_ofFn, List.mem_ofFn] at hu
          obtain ⟨j, rfl⟩ := hu
          exact (hr j.1 (cs[j.1]) (List.getElem?_eq_getElem _)).one
        · intro j u x hu hx
          rw [List.getElem?_map] at hx
          cases hej : cs[j]? with
          | none => rw [hej] at hx; cases hx
          | some z =>
            rw [hej] at hx
            injection hx with hx; subst hx
            have hjk := (List.getElem?_eq_some_iff.1 hej).1
            simp [hjk] at hu
            subst hu
            exact .c (hr j z hej)
      obtain ⟨cv, h1, h2⟩ := load_mem (w := w) (b := b) (o := o) hrep (fun j u hj => by
        have hjk : j < cs.length := by have := (Array.getElem?_eq_some_iff.1 hj).1; simpa using this
        simp only [Array.getElem?_ofFn, hjk, dite_true, Option.some.injEq] at hj
        subst hj
        rcases hz j (cs[j]) (List.getElem?_eq_getElem _) with hz | hy
        · exact R.zok _ _ _ hz
        · exact R.yok' hy) hl
      exact ⟨cv, h1, by simpa [Instr.loadAt, Instr.sureAddr] using h2⟩
  · cases hl
theorem addB_nil (base : Nat) : addB h base [] = h := by funext j; simp [addB]; intro h1 h2; omega
theorem addB_one (base : Nat) (b : B) : addB h base [b] = upd h base (some b) := by
  funext j
  simp only [addB, upd, List.length_cons, List.length_nil]
  by_cases e : j = base
  · subst e; simp
  · rw [if_neg (by omega), if_neg e]
/-- a call that the machine answers is answered so by the model -/
def CallOk (P : Program) (g : FuncId) (args : List V) (res : V × List B) : Prop :=
  okRes res.1 = true ∧ (∀ b ∈ res.2, ∃ es, b = .row es) ∧ ∀ (w : World) (Z Y : ZMap) (cargs : Array Value), GW w → (∀ b o u, Z b o = some u → w.cell? ⟨b, o, none⟩ = some u) → (∀ b o u, Y b o = some u → w.cell? ⟨b, o, none⟩ = some u) → cargs.size = args.length →
    (∀ (i : Nat) u x, cargs[i]? = some u → args[i]? = some x → Rep Z Y noM u x) →
    Calls P g cargs w fun e w' => ∃ cv Z' m', e = .returned cv ∧ ZUp (wb w) Z Z' ∧ Rel (wb w) Z' (fun _ _ => none) m' (fun i => res.2[i]?) (fun _ => false) w' ∧ Rep Z' (fun _ _ => none) m' cv res.1 ∧ ∀ i, m' i ≠ none → i < res.2.length
theorem cellR_rep {Z' Y0 : ZMap} {m' m'' : Nat → Option Value} {f : Nat → Nat} (hm : ∀ i v, m' i = some v → m'' (f i) = some v) {v : Value} {x : V} (hx : cellOk x = true) (r : Rep Z' Y0 m' v x) : Rep Z' Y m'' v (cellR f x) := by
  cases r with
  | any v => exact .any v
  | c h => exact .c h
  | row id n A c h hA => exact .row _ n A c (hm _ _ h) hA
  | row0 id A h => exact .row0 _ A (hm _ _ h)
  | _ => cases hx
theorem aggR_rep {Z' Y0 : ZMap} {m' m'' : Nat → Option Value} {f : Nat → Nat} (hm : ∀ i v, m' i = some v → m'' (f i) = some v) {v : Value} {x : V} (hx : aggOk x = true) (r : Rep Z' Y0 m' v x) : Rep Z' Y m'' v (aggR f x) := by
  cases r with
  | agg vs cs hl h1 hr =>
    refine .agg vs _ (by simp [hl]) h1 (fun i u x hu hx' => ?_)
    rw [List.getElem?_map] at hx'
    cases hc : cs[i]? with
    | none => rw [hc] at hx'; cases hx'
    | some y =>
      rw [hc] at hx'
      injection hx' with hx'; subst hx'
      exact cellR_rep hm (List.all_eq_true.1 hx y (List.mem_of_getElem? hc)) (hr i u y hu hc)
  | c h => exact .c h
  | row id n A c h hA => exact .row _ n A c (hm _ _ h) hA
  | row0 id A h => exact .row0 _ A (hm _ _ h)
  | _ => cases hx
theorem ren_rep {Z' Y0 : ZMap} {m' m'' : Nat → Option Value} {f : Nat → Nat} (hm : ∀ i v, m' i = some v → m'' (f i) = some v) {v : Value} {x : V} (hx : okRes x = true) (r : Rep Z' Y0 m' v x) : Rep Z' Y m'' v (x.ren f) := by
  cases r with
  | tup us vs hl hr =>
    refine .tup us _ (by simp [hl]) (fun i u y hu hy => ?_)
    rw [List.getElem?_map] at hy
    cases hc : vs[i]? with
    | none => rw [hc] at hy; cases hy
    | some z =>
      rw [hc] at hy
      injection hy with hy; subst hy
      exact aggR_rep hm (List.all_eq_true.1 hx z (List.mem_of_getElem? hc)) (hr i u z hu hc)
  | agg vs cs hl h1 hr => exact aggR_rep (x := .agg cs) hm hx (.agg vs cs hl h1 hr)
  | c h => exact .c h
  | row id n A c h hA => exact .row _ n A c (hm _ _ h) hA
  | row0 id A h => exact .row0 _ A (hm _ _ h)
  | _ => cases hx
/-- what a call left, beside what was there -/
theorem Rel.join {Z1 Z' : ZMap} {m' : Nat → Option Value} {bs : List B} {base : Nat} (R : Rel w0 Z1 Y m h sh w) (Rc : Rel (wb w) Z' (fun _ _ => none) m' (fun i => bs[i]?) (fun _ => false) w') (hz : ZUp (wb w) Z1 Z') (hfr : ∀ i, base ≤ i → i < base + bs.length → m i = none ∧ h i = none)
    (hbs : ∀ b ∈ bs, ∃ es, b = .row es) : Rel w0 Z' Y (fun i => if base ≤ i ∧ i < base + bs.length then m' (i - base) else m i) (addB h base bs) sh w' := by
  have Rcb := wb_bel.1 Rc.bel
  have hmle : MLe m (fun i => if base ≤ i ∧ i < base + bs.length then m' (i - base) else m i) := fun i v hi => by
    dsimp only
    rw [if_neg (fun hc => by rw [(hfr i hc.1 hc.2).1] at hi; cases hi)]
    exact hi
  have hold : ∀ g x, w.heap[g]? = some x → w'.heap[g]? = some x := fun g x hx => by rw [Rcb.block g (heap_lt hx)]; exact hx
  have hzold : ∀ g o, g < w.heap.size → Z' g o ≠ none → Z1 g o ≠ none := fun g o hg hn => by
    cases hzz : Z' g o with
    | none => exact absurd hzz hn
    | some u =>
      rcases hz.own g o u hzz with h1 | h1
      · rw [h1]; simp
      · have := wb_own.1 h1; omega
  refine ⟨BelA.trans R.bel Rcb, R.gw, Rc.zok, R.yok, fun id cs hi => ?_, fun id es hi => ?_, fun id es i v hi => ?_, fun id l hi => ?_, fun id id' g h1 h2 e1 e2 => ?_⟩
  · unfold addB at hi
    split at hi
    · obtain ⟨es, he⟩ := hbs _ (List.mem_of_getElem? hi); cases he
    · rename_i hc
      obtain ⟨g, hm, hat⟩ := R.box id cs hi
      obtain ⟨t, vs, hv, hr⟩ := hat.ex
      refine ⟨g, hmle _ _ hm, ⟨hat.base, ⟨t, vs, hold _ _ hv, hr.mono hz.le hmle⟩, fun o => ?_⟩⟩
      cases hzz : Z' g o with
      | none => rfl
      | some u => exact absurd (hat.apart o) (hzold g o (heap_lt hv) (by rw [hzz]; simp))
  · unfold addB at hi
    split at hi
    · rename_i hc
      rcases Rc.row (id - base) es hi with ⟨h0, h1⟩ | ⟨g, n, c, k, hm, hat⟩
      · exact .inl ⟨by dsimp only; rw [if_pos hc]; exact h0, h1⟩
      · refine .inr ⟨g, n, c, k, by dsimp only; rw [if_pos hc]; exact hm, ⟨.inl (Nat.le_trans R.bel.size (wb_own.1 hat.base)), hat.ex, hat.len, hat.le, hat.max, hat.pos, hat.zero, hat.each, fun o ho => ?_⟩⟩
        have := hat.apart o ho
        cases this.1
    · rcases R.row id es hi with ⟨h0, h1⟩ | ⟨g, n, c, k, hm, hat⟩
      · exact .inl ⟨hmle _ _ h0, h1⟩
      · obtain ⟨t, fz, cur, hv, hcs, hfz, hcell⟩ := hat.ex
        refine .inr ⟨g, n, c, k, hmle _ _ hm, ⟨hat.base, ⟨t, fz, cur, hold _ _ hv, hcs, hfz, fun i e j x he hx => ?_⟩, hat.len, hat.le, hat.max, hat.pos, hat.zero, hat.each, fun o ho => hat.apart o (hzold g o (heap_lt hv) ho)⟩⟩
        obtain ⟨u, hu, hr⟩ := hcell i e j x he hx
        exact ⟨u, hu, hr.mono hz.le⟩
  · unfold addB at hi
    split at hi
    · obtain ⟨es, he⟩ := hbs _ (List.mem_of_getElem? hi); cases he
    · obtain ⟨g, n, c, hm, hat⟩ := R.tab id es i v hi
      obtain ⟨t, fz, cur, hv, _⟩ := hat.ex
      refine ⟨g, n, c, hmle _ _ hm, hat.up hz.le hmle (hold g) fun o => ?_⟩
      cases hzz : Z' g o with
      | none => rfl
      | some u => exact absurd (hat.apart o) (hzold g o (heap_lt hv) (by rw [hzz]; simp))
  · unfold addB at hi
    split at hi
    · obtain ⟨es, he⟩ := hbs _ (List.mem_of_getElem? hi); cases he
    · obtain ⟨g, hm, hat⟩ := R.mp id l hi
      obtain ⟨es, clock, hv, hr⟩ := hat.ex
      exact ⟨g, hmle _ _ hm, hat.base, es, clock, hold _ _ hv, hr⟩
  · have cases_ : ∀ j, addB h base bs j ≠ none → blkOf (fun i => if base ≤ i ∧ i < base + bs.length then m' (i - base) else m i) j = some g →
        ((base ≤ j ∧ j < base + bs.length) ∧ bs[j - base]? ≠ none ∧ blkOf m' (j - base) = some g ∧ w.heap.size ≤ g) ∨ (¬ (base ≤ j ∧ j < base + bs.length) ∧ h j ≠ none ∧ blkOf m j = some g ∧ g < w.heap.size) := by
      intro j hj hg
      by_cases hc : base ≤ j ∧ j < base + bs.length
      · left
        have hj' : bs[j - base]? ≠ none := by simpa [addB, hc] using hj
        have hg' : blkOf m' (j - base) = some g := by simpa [blkOf, hc] using hg
        exact ⟨hc, hj', hg', wb_own.1 (Rc.blk_lt hj' hg').2⟩
      · right
        have hj' : h j ≠ none := by simpa [addB, hc] using hj
        have hg' : blkOf m j = some g := by simpa [blkOf, hc] using hg
        exact ⟨hc, hj', hg', (R.blk_lt hj' hg').1⟩
    rcases cases_ id h1 e1 with ⟨c1, n1, b1, l1⟩ | ⟨c1, n1, b1, l1⟩ <;> rcases cases_ id' h2 e2 with ⟨c2, n2, b2, l2⟩ | ⟨c2, n2, b2, l2⟩
    · have := Rc.inj _ _ g n1 n2 b1 b2
      omega
    · omega
    · omega
    · exact R.inj _ _ g n1 n2 b1 b2
end
end Go.Proofs.YtomnbknaanlmaaaGreatDoor
namespace Go.Proofs.YtomnbknaanlmaaaGreatDoor
open Go.RowKit
section
variable {P : Program} {Z Y : ZMap} {m : Nat → Option Value} {w0 : WB} {w w' : World} {h hv : Nat → Option B} {sh : Nat → Bool}
theorem Rel.new_row (R : Rel w0 Z Y m h sh w) {base : Nat} {es : List (List C)} {cur : Array Value} {n c k : Nat} (t : TypeId) (fz : Nat × Nat) (hm : m base = none) (hlen : es.length = n) (hnc : n ≤ c) (hc : c ≤ maxLen) (hk : 0 < k) (h0 : n = 0 → c = 0) (hsz : cur.size = c * k) (hfz : (∀ o, o < cur.size → ¬ (fz.1 ≤ o ∧ o < fz.2)) ∧ (k ≠ 1 → fz = (0, 0)) ∧ fz.1 ≤ fz.2)
    (each : ∀ e ∈ es, e.length = k) (hcell : ∀ (i : Nat) (e : List C) (j : Nat) (x : C), es[i]? = some e → e[j]? = some x → ∃ u, cur[i * k + j]? = some u ∧ RepC Z u x) :
    Rel w0 Z Y (upd m base (some (.slice (some ⟨w.heap.size, 0, none⟩) n c))) (upd h base (some (.row es))) sh (w.alloc (.cells cur t fz)) :=
  R.new hm (.inr trivial) (.inr (.inl ⟨es, n, c, k, rfl, rfl, ⟨.inl R.bel.size, ⟨t, fz, cur, heap_alloc_new w _, hsz, hfz, hcell⟩, hlen, hnc, hc, hk, h0, each, fun o ho => by
    cases hz : Z w.heap.size o with
    | none => exact absurd hz ho
    | some u => have := R.z_lt hz; omega⟩⟩))
theorem Rel.new_tab (R : Rel w0 Z Y m h sh w) {base : Nat} {es : List (List C)} {cur : Array Value} {n c : Nat} {v : V} (t : TypeId) (fz : Nat × Nat) (hm : m base = none) (hlen : es.length = n) (hnc : n ≤ c) (hsz : cur.size = c) (hfz : ∀ o, o < cur.size → ¬ (fz.1 ≤ o ∧ o < fz.2))
    (each : ∀ e ∈ es, e.length = 1) (hcell : ∀ (i : Nat) (e : List C) (j : Nat) (x : C), es[i]? = some e → e[j]? = some x → ∃ u, cur[i * 1 + j]? = some u ∧ RepC Z u x) :
    Rel w0 Z Y (upd m base (some (.slice (some ⟨w.heap.size, 0, none⟩) n c))) (upd h base (some (.tab es n v))) sh (w.alloc (.cells cur t fz)) :=
  R.new hm (.inr trivial) (.inr (.inr <| .inl ⟨es, n, v, n, c, rfl, rfl, ⟨.inl R.bel.size, ⟨t, fz, cur, heap_alloc_new w _, hsz, hfz, fun j x hx => by
    unfold tabC at hx
    rw [List.set_eq_of_length_le (by simp [hlen]), List.getElem?_map] at hx
    cases he : es[j]? with
    | none => rw [he] at hx; cases hx
    | some e =>
      rw [he] at hx
      injection hx with hx; subst hx
      have h1 := each e (List.mem_of_getElem? he)
      match e, h1 with
      | [z], _ =>
        obtain ⟨u, hu, hr⟩ := hcell j [z] 0 z he rfl
        exact ⟨u, by simpa using hu, hr.one, .c hr⟩⟩, by simp [tabC, hlen], hnc, fun o => by
    cases hz : Z w.heap.size o with
    | none => rfl
    | some u => have := R.z_lt hz; omega⟩⟩))
/-- cells that lie in a row asx elements do -/
def Laid (Z : ZMap) (k : Nat) (es : List (List C)) (cur : Array Value) : Prop := (∀ e ∈ es, e.length = k) ∧ ∀ (i : Nat) (e : List C) (j : Nat) (x : C), es[i]? = some e → e[j]? = some x → ∃ u, cur[i * k + j]? = some u ∧ RepC Z u x
theorem laid_zero {k len : Nat} {zc : List C} {zs : Array Value} (hl : zc.length = k) (hs : zs.size = k) (hr : ∀ (j : Nat) u x, zs[j]? = some u → zc[j]? = some x → RepC Z u x) :
    Laid Z k (List.replicate len zc) ((Array.range (len * k)).map (zs[· % zs.size]!)) := by
  refine ⟨fun e he => by rw [List.eq_of_mem_replicate he]; exact hl, fun i e j x he hx => ?_⟩
  rw [List.getElem?_replicate] at he
  split at he
  · rename_i hi
    injection he with he; subst he
    have hj := (List.getElem?_eq_some_iff.1 hx).1
    rw [hl] at hj
    have hlt : i * k + j < len * k := by
      have : (i + 1) * k ≤ len * k := Nat.mul_le_mul_right k hi
      rw [Nat.add_mul] at this
      omega
    refine ⟨zs[j]'(by omega), ?_, hr j _ x (Array.getElem?_eq_getElem _) hx⟩
    have e : (i * k + j) % zs.size = j := by rw [hs, Nat.add_comm, Nat.add_mul_mod_self_right]; exact Nat.mod_eq_of_lt hj
    simp only [Array.getElem?_map, Array.getElem?_range, hlt, if_true, Option.map_some, e]
    rw [getElem!_pos zs j (by omega)]
  · cases he
theorem build_sim {k len : Nat} {r : Operand → V} {ρ : Operand → Value} (hk : 0 < k) (hs : ∀ id b, hv id = some b → h id = some b) : ∀ (ps : List (Nat × Operand)) {Z : ZMap} {sh : Nat → Bool} {es : List (List C)} {cur : Array Value} {y : List (List C) × List Nat},
    Rel w0 Z Y m h sh w → (∀ x, Rep Z Y m (ρ x) (r x)) → buildS hv k len r ps es = some y → es.length = len → cur.size = len * k → Laid Z k es cur →
    ∃ Z' cur', ZUp w0 Z Z' ∧ Rel w0 Z' Y m h (flag sh y.2) w ∧ y.1.length = len ∧ cur'.size = len * k ∧ Laid Z' k y.1 cur' ∧ Instr.fill (fun i => some (i * k, k)) cur (ps.map fun p => (p.1, ρ p.2)) = some cur'
  | [], Z, sh, es, cur, y, R, _, hb, hl, hc, hla => by
    injection hb with hb; subst hb
    exact ⟨Z, cur, ZUp.refl, by rw [flag_nil]; exact R, hl, hc, hla, rfl⟩
  | (i, x) :: ps, Z, sh, es, cur, y, R, hρ, hb, hl, hc, hla => by
    simp only [buildS] at hb
    split at hb
    · rename_i hi
      cases hcx : (r x).cells with
      | none => rw [hcx] at hb; cases hb
      | some vs =>
        rw [hcx] at hb
        simp only [Option.bind_some] at hb
        cases hf : frzL hv vs with
        | none => rw [hf] at hb; cases hb
        | some a =>
          rw [hf] at hb
          simp only [Option.bind_some] at hb
          split at hb
          · rename_i hak
            cases hb2 : buildS hv k len r ps (es.set i a.1) with
            | none => rw [hb2] at hb; cases hb
            | some y' =>
              rw [hb2] at hb
              injection hb with hb; subst hb
              have rc := (hρ x).cells hcx
              obtain ⟨Z1, u1, R1, l1, r1⟩ := frzL_sim vs (us := (ρ x).cells.toList) R hs hf (by simpa using rc.agg_size) (fun j u z hu hz => by
                obtain ⟨u', hu', hr', _⟩ := rc.agg_get hz
                rw [Array.getElem?_toList, hu'] at hu
                injection hu with hu; subst hu; exact hr')
              have hvk : (ρ x).cells.size = k := by rw [rc.agg_size, ← l1]; exact hak
              have hik : i * k + k ≤ len * k := by
                have : (i + 1) * k ≤ len * k := Nat.mul_le_mul_right k hi
                rw [Nat.add_mul] at this
                omega
              obtain ⟨s1, g1⟩ := fold_get (i * k) (ρ x).cells.toList 0 cur
              have hla1 : Laid Z1 k (es.set i a.1) (((ρ x).cells.toList.zipIdx 0).foldl (fun (cs : Array Value) (p : Value × Nat) => cs.setIfInBounds (i * k + p.2) p.1) cur) := by
                refine ⟨fun e he => ?_, fun i' e j z he hz => ?_⟩
                · rcases List.mem_or_eq_of_mem_set he with he | he
                  · exact hla.1 e he
                  · subst he; exact hak
                · have hi'l : i' < len := by have := (List.getElem?_eq_some_iff.1 he).1; simpa [hl] using this
                  have hek : e.length = k := by
                    rcases List.mem_or_eq_of_mem_set (List.mem_of_getElem? he) with he | he
                    · exact hla.1 e he
                    · subst he; exact hak
                  have hj : j < k := by have := (List.getElem?_eq_some_iff.1 hz).1; omega
                  have hlt : i' * k + j < cur.size := by
                    rw [hc]
                    have : (i' + 1) * k ≤ len * k := Nat.mul_le_mul_right k hi'l
                    rw [Nat.add_mul] at this
                    omega
                  rw [g1 _ hlt]
                  simp only [Array.length_toList, hvk, Nat.add_zero]
                  by_cases e' : i' = i
                  · subst e'
                    rw [List.getElem?_set_self (by omega)] at he
                    injection he with he; subst he
                    rw [if_pos (by omega)]
                    have hsub : i' * k + j - i' * k = j := by omega
                    rw [hsub]
                    have hju : (ρ x).cells.toList[j]? = some ((ρ x).cells[j]'(by omega)) := by simp
                    exact ⟨_, hju, r1 j _ z hju hz⟩
                  · rw [List.getElem?_set_ne (Ne.symm e')] at he
                    rw [if_neg (by
                      intro hcon
                      rcases Nat.lt_or_gt_of_ne e' with hlt' | hgt'
                      · have : (i' + 1) * k ≤ i * k := Nat.mul_le_mul_right k hlt'
                        rw [Nat.add_mul] at this
                        omega
                      · have : (i + 1) * k ≤ i' * k := Nat.mul_le_mul_right k hgt'
                        rw [Nat.add_mul] at this
                        omega)]
                    obtain ⟨u, hu, hr⟩ := hla.2 i' e j z he hz
                    exact ⟨u, hu, hr.mono u1.le⟩
              obtain ⟨Z2, cur', u2, R2, l2, c2, la2, f2⟩ := build_sim (ρ := ρ) hk hs ps (es := es.set i a.1) R1 (fun z => (hρ z).mono u1.le (MLe.refl _)) hb2 (by simpa using hl) (by rw [s1]; exact hc) hla1
              refine ⟨Z2, cur', u1.trans u2, by rw [← flag_append]; exact R2, l2, c2, la2, ?_⟩
              simp only [List.map_cons, Instr.fill]
              rw [if_neg (by simp [hvk]; omega), ← Array.foldl_toList, Array.toList_zipIdx]
              exact f2
          · cases hb
    · cases hb
end
end Go.Proofs.YtomnbknaanlmaaaGreatDoor
namespace Go.Proofs.YtomnbknaanlmaaaGreatDoor
open Go.RowKit
section
variable {P : Program} {Z Y : ZMap} {m : Nat → Option Value} {w0 : WB} {w w' : World} {h hv : Nat → Option B} {sh : Nat → Bool}
theorem wp_value {o : Oper} {a : Act} {K : Act → World → Prop} {Q : Exit → Act → World → Prop} {cv : Value} (hr : (execOp a.eval o).run P w = .ok (.value cv) w') (hK : K (a.put o.dst cv) w') : o.wp P a w K Q := by
  unfold Oper.wp
  rw [hr]
  exact hK
theorem run_newRow (e : TypeId) (cells : Array Value) : (newRow e cells).run P w = .ok ⟨w.heap.size, 0, none⟩ (w.alloc (.cells cells e)) := rfl
theorem upd_new {base : Nat} {v : Value} {n : Nat} (hn : 0 < n) : ∀ i, upd m base (some v) i ≠ none → m i ≠ none ∨ (base ≤ i ∧ i < base + n) := by
  intro i hi
  by_cases e : i = base
  · right; omega
  · left; simpa [upd, e] using hi
/-- what a slice's cells hold -/
theorem sl_cells {v : Value} {es : List (List C)} (r : RepC Z v (.sl es)) (R : ∀ b o u, Z b o = some u → w.cell? ⟨b, o, none⟩ = some u) {k : Nat} (hk : ∀ e ∈ es, e.length = k) :
    ∃ A c, v = .slice A es.length c ∧ es.length ≤ c ∧ c ≤ maxLen ∧ (es = [] ∨ ∃ (b off : Nat) (U : Nat → Value), A = some ⟨b, off, none⟩ ∧ (∀ (i : Nat) (e : List C) (j : Nat) (x : C), es[i]? = some e → e[j]? = some x → Z b (off + (i * k + j)) = some (U (i * k + j)) ∧ w.cell? ⟨b, off + (i * k + j), none⟩ = some (U (i * k + j)) ∧ RepC Z (U (i * k + j)) x)) := by
  cases r with
  | sl A n c k' b off U _ hl hc hm hk' hA hz hr hN =>
    subst hl
    refine ⟨A, c, rfl, hc, hm, ?_⟩
    cases es with
    | nil => exact .inl rfl
    | cons e0 es =>
      right
      have hkk : k' = k := by rw [← hk e0 (by simp), hk' e0 (by simp)]
      subst hkk
      exact ⟨b, off, U, hA (by simp), fun i e j x he hx => ⟨hz i e j x he hx, R _ _ _ (hz i e j x he hx), hr i e j x he hx⟩⟩
theorem bytes_each : ∀ {es : List (List C)} {l : List UInt8}, bytesOf es = some l → es.length = l.length ∧ (∀ e ∈ es, e.length = 1) ∧ ∀ (i : Nat) e, es[i]? = some e → ∃ n b, e = [.int .u8 n] ∧ l[i]? = some b ∧ b = UInt8.ofNat n.toNat
  | [], l, h => by
    injection h with h; subst h
    exact ⟨rfl, by simp, by simp⟩
  | e :: es, l, h => by
    unfold bytesOf at h
    split at h
    · cases ‹e :: es = []›
    · rename_i n es' he
      injection he with he1 he2
      subst he1 he2
      cases hb : bytesOf es with
      | none => rw [hb] at h; cases h
      | some l' =>
        rw [hb] at h
        injection h with h; subst h
        obtain ⟨h1, h2, h3⟩ := bytes_each hb
        refine ⟨by simp [h1], fun e he => ?_, fun i e he => ?_⟩
        · rcases List.mem_cons.1 he with rfl | he
          · rfl
          · exact h2 e he
        · cases i with
          | zero => simp at he; subst he; exact ⟨n, _, rfl, rfl, rfl⟩
          | succ i => exact h3 i e (by simpa using he)
    · cases h
theorem bytes_run (f : Value → ByteArray → Sem (ForInStep ByteArray)) (hf : ∀ n s, (f (.int .u8 n) s).run P w = .ok (.yield (s.push (UInt8.ofNat n.toNat))) w) : ∀ (l : List Value) (bs : List UInt8) (s : ByteArray), l.length = bs.length → (∀ (i : Nat) u b, l[i]? = some u → bs[i]? = some b → ∃ n : Int, u = .int .u8 n ∧ b = UInt8.ofNat n.toNat) →
    (forIn l s f).run P w = .ok ⟨s.data ++ bs.toArray⟩ w
  | [], [], s, _, _ => by simp
  | [], _ :: _, _, h, _ => by cases h
  | _ :: _, [], _, h, _ => by cases h
  | u :: l, b :: bs, s, h, hr => by
    obtain ⟨n, rfl, rfl⟩ := hr 0 u b rfl rfl
    have ih := bytes_run f hf l bs (s.push (UInt8.ofNat n.toNat)) (by simpa using h) (fun i u b hu hb => hr (i + 1) u b hu hb)
    simp only [List.forIn_cons, Sem.run_bind, hf, Result.andThen_ok]
    rw [ih]
    congr 1
    cases s
    simp [ByteArray.push]
theorem bytes_sim {v : Value} {es : List (List C)} {l : List UInt8} (hz : ∀ b o u, Z b o = some u → w.cell? ⟨b, o, none⟩ = some u) (r : RepC Z v (.sl es)) (hb : bytesOf es = some l) : (Conv.bytesToString v).run P w = .ok (.string ⟨l.toArray⟩) w := by
  obtain ⟨h1, h2, h3⟩ := bytes_each hb
  obtain ⟨A, c, rfl, hc, hm, hA⟩ := sl_cells r hz h2
  rcases hA with rfl | ⟨b, off, U, rfl, hcell⟩
  · have : l = [] := List.eq_nil_of_length_eq_zero (by simpa using h1.symm)
    subst this
    cases A with
    | none => rfl
    | some a => simp [Conv.bytesToString, loadCells, loadCellsFrom]; rfl
  · have hlc := run_loadCells (P := P) (w := w) (b := b) (o := off) ((List.range es.length).map U) es.length (by simp) (fun j u hj => by
      rw [List.getElem?_map] at hj
      have hjl : j < es.length := by
        rcases Nat.lt_or_ge j es.length with hlt | hge
        · exact hlt
        · rw [List.getElem?_eq_none (by simpa using hge)] at hj; cases hj
      rw [List.getElem?_range hjl] at hj
      injection hj with hj; subst hj
      obtain ⟨n, b', he, _, _⟩ := h3 j (es[j]) (List.getElem?_eq_getElem hjl)
      have := (hcell j (es[j]) 0 (.int .u8 n) (List.getElem?_eq_getElem hjl) (by rw [he]; rfl)).2.1
      simpa using this)
    simp only [Conv.bytesToString, Sem.run_bind, hlc, Result.andThen_ok]
    rw [← Array.forIn_toList]
    rw [bytes_run (P := P) (w := w) _ (fun n s => rfl) ((List.range es.length).map U) l ByteArray.empty (by simp [h1]) (fun i u b' hu hb' => by
      rw [List.getElem?_map] at hu
      have hil : i < es.length := by rw [h1]; exact (List.getElem?_eq_some_iff.1 hb').1
      rw [List.getElem?_range hil] at hu
      injection hu with hu; subst hu
      obtain ⟨n, b'', he, hl, rfl⟩ := h3 i (es[i]) (List.getElem?_eq_getElem hil)
      rw [hl] at hb'
      injection hb' with hb'; subst hb'
      have hrep := (hcell i (es[i]) 0 (.int .u8 n) (List.getElem?_eq_getElem hil) (by rw [he]; rfl)).2.2
      simp only [Nat.mul_one, Nat.add_zero] at hrep
      generalize hUi : U i = ui at hrep
      cases hrep
      exact ⟨n, rfl, rfl⟩)]
    show Result.ok (Value.string ⟨ByteArray.empty.data ++ l.toArray⟩) w = _
    have e : ByteArray.empty.data = #[] := rfl
    rw [e, Array.empty_append]
/-- a part of a slice -/
theorem sub_sim {v : Value} {es : List (List C)} (r : RepC Z v (.sl es)) {k l u : Nat} (hlu : l ≤ u) (hu : u ≤ es.length) (hk : ∀ e ∈ es, e.length = k) : ∃ A c, v = .slice A es.length c ∧ es.length ≤ c ∧ ∀ mm, u ≤ mm → mm ≤ c → RepC Z (.slice (if mm = l then A else A.map (·.add (l * k))) (u - l) (mm - l)) (.sl ((es.drop l).take (u - l))) := by
  cases r with
  | sl A n c k' b off U _ hl hc hm hk' hA hz hr hN =>
    subst hl
    refine ⟨A, c, rfl, hc, fun mm h1 h2 => ?_⟩
    rcases Nat.eq_or_lt_of_le hlu with he | hlt
    · subst he
      simp only [Nat.sub_self, List.take_zero]
      exact repC_empty Z (by omega) (fun h => by
        have hA0 : A = none := by split at h; (exact h); (cases A with | none => rfl | some a => simp at h)
        have := hN hA0; omega)
    · cases es with
      | nil => simp at hu; omega
      | cons e0 es' =>
        have hkk : k' = k := by rw [← hk e0 (by simp), hk' e0 (by simp)]
        subst hkk
        have := hA (by simp)
        subst this
        rw [if_neg (by omega)]
        simp only [Option.map_some, add_off]
        refine .sl _ (u - l) (mm - l) k' b (off + l * k') (fun o => U (l * k' + o)) _ (by rw [List.length_take, List.length_drop]; omega) (by omega) (by omega) (fun e he => hk' e (List.mem_of_mem_drop (List.mem_of_mem_take he))) (fun _ => rfl) ?_ ?_ (fun h => by cases h)
        · intro i e j x he hx
          rw [List.getElem?_take] at he
          split at he
          · rw [List.getElem?_drop] at he
            have := hz (l + i) e j x he hx
            rw [Nat.add_mul] at this
            rw [show off + l * k' + (i * k' + j) = off + (l * k' + i * k' + j) from by omega, show l * k' + (i * k' + j) = l * k' + i * k' + j from by omega]
            exact this
          · cases he
        · intro i e j x he hx
          rw [List.getElem?_take] at he
          split at he
          · rw [List.getElem?_drop] at he
            have := hr (l + i) e j x he hx
            rw [Nat.add_mul] at this
            rw [show l * k' + (i * k' + j) = l * k' + i * k' + j from by omega]
            exact this
          · cases he
theorem sb_run {x : V} {v : Value} {d mx n cap : Nat} {code : BoundsCode} (hb : bnd (some x) d mx = some n) (hr : Rep Z Y m v x) (hc : mx ≤ cap) : (Instr.sliceBound v cap code).run P w = .ok n w ∧ n ≤ mx := by
  unfold bnd at hb
  split at hb
  · cases ‹some x = none›
  · rename_i k i e
    injection e with e; subst e
    have := rep_int hr
    subst this
    split at hb
    · rename_i hi
      injection hb with hb; subst hb
      have : 0 ≤ i ∧ i ≤ (cap : Int) := by omega
      exact ⟨by simp [Instr.sliceBound, asIntOf, this], by omega⟩
    · cases hb
  · cases hb
theorem slice_run {t e : TypeId} {es : List (List C)} {k mm u l : Nat} {v : Value} {r : Operand → V} {ρ : Operand → Value} {lo hi mx : Option Operand} (hρ : ∀ x, Rep Z Y m (ρ x) (r x)) (hu : P.underlying t = some (.slice e)) (hs : szO P e = some k)
    (h1 : bnd (mx.map r) es.length es.length = some mm) (h2 : bnd (hi.map r) es.length mm = some u) (h3 : bnd (lo.map r) 0 u = some l) (hmh : ¬ (mx.isSome = true ∧ hi.isNone = true)) {A : Option Addr} {c : Nat} (hv : v = .slice A es.length c) (hc : es.length ≤ c) :
    l ≤ u ∧ u ≤ es.length ∧ ∃ cm, u ≤ cm ∧ cm ≤ c ∧ (mx.isSome = true → cm = mm) ∧ (Instr.sliceAt t v (lo.map ρ) (hi.map ρ) (mx.map ρ)).run P w = .ok (.slice (if cm = l then A else A.map (·.add (l * k))) (u - l) (cm - l)) w := by
  subst hv
  have hml : mm ≤ es.length := by
    cases mx with
    | none => injection h1 with h1; omega
    | some x => exact (sb_run (P := P) (w := w) (cap := es.length) (code := .sliceB) h1 (hρ x) (Nat.le_refl _)).2
  have hum : u ≤ es.length ∧ (hi.isSome = true → u ≤ mm) := by
    cases hi with
    | none => injection h2 with h2; exact ⟨by omega, by simp⟩
    | some x => have := (sb_run (P := P) (w := w) (cap := mm) (code := .sliceB) h2 (hρ x) (Nat.le_refl _)).2; exact ⟨by omega, fun _ => this⟩
  have hlu : l ≤ u := by
    cases lo with
    | none => injection h3 with h3; omega
    | some x => exact (sb_run (P := P) (w := w) (cap := u) (code := .sliceB) h3 (hρ x) (Nat.le_refl _)).2
  refine ⟨hlu, hum.1, ?_⟩
  have fin : ∀ cm, ((Instr.sliceBounds true es.length c (lo.map ρ) (hi.map ρ) (mx.map ρ)).run P w = .ok (l, u, cm) w) → (Instr.sliceAt t (.slice A es.length c) (lo.map ρ) (hi.map ρ) (mx.map ρ)).run P w = .ok (.slice (if cm = l then A else A.map (·.add (l * k))) (u - l) (cm - l)) w := by
    intro cm hb
    simp only [Instr.sliceAt, Instr.slice, Sem.run_bind, run_und hu, Result.andThen_ok, hb, run_sz hs, Sem.run_pure]
  have hlo : ∀ code, (match lo.map ρ with | some v => Instr.sliceBound v u code | none => pure 0).run P w = .ok l w := by
    intro code
    cases lo with
    | none => injection h3 with h3; subst h3; rfl
    | some x => exact (sb_run h3 (hρ x) (Nat.le_refl _)).1
  cases mx with
  | none =>
    refine ⟨c, by omega, Nat.le_refl _, by simp, fin c ?_⟩
    cases hi with
    | none =>
      injection h2 with h2
      subst h2
      have := hlo .sliceB
      cases lo <;> simp [Instr.sliceBounds] at this ⊢ <;> simp [this]
    | some y =>
      have hy := fun code => (sb_run (P := P) (w := w) (cap := c) (code := code) h2 (hρ y) (by omega)).1
      have := hlo .sliceB
      cases lo <;> simp [Instr.sliceBounds, hy] at this ⊢ <;> simp [this]
  | some x =>
    have hx := fun code => (sb_run (P := P) (w := w) (cap := c) (code := code) h1 (hρ x) hc).1
    cases hi with
    | none => simp at hmh
    | some y =>
      have hy := fun code => (sb_run (P := P) (w := w) (cap := mm) (code := code) h2 (hρ y) (Nat.le_refl _)).1
      refine ⟨mm, hum.2 rfl, by omega, fun _ => rfl, fin mm ?_⟩
      have := hlo .slice3C
      cases lo <;> simp [Instr.sliceBounds, hx, hy] at this ⊢ <;> simp [this]
end
end Go.Proofs.YtomnbknaanlmaaaGreatDoor
namespace Go.Proofs.YtomnbknaanlmaaaGreatDoor
open Go.RowKit
section
variable {P : Program} {Z Y : ZMap} {m : Nat → Option Value} {w0 : WB} {w w' : World} {h hv : Nat → Option B} {sh : Nat → Bool}
/-- only block g was written -/
structure Wr (g : Nat) (w w' : World) : Prop where
  os : w'.os = w.os
  tape : w'.tape = w.tape
  output : w'.output = w.output
  size : w'.heap.size = w.heap.size
  block : ∀ k, k ≠ g → w'.heap[k]? = w.heap[k]?
theorem Wr.refl (g : Nat) (w : World) : Wr g w w := ⟨rfl, rfl, rfl, rfl, fun _ _ => rfl⟩
theorem Wr.trans {g : Nat} {a b c : World} (h : Wr g a b) (h' : Wr g b c) : Wr g a c := ⟨h'.os.trans h.os, h'.tape.trans h.tape, h'.output.trans h.output, h'.size.trans h.size, fun k hk => (h'.block k hk).trans (h.block k hk)⟩
theorem wr_set {g o : Nat} (v : Value) : Wr g w (w.setCell ⟨g, o, none⟩ v) := ⟨rfl, rfl, rfl, by simp [World.setCell], fun k hk => Below.heap_setCell w _ v k hk⟩
theorem run_store {a : Addr} {u v : Value} (hc : w.cell? a = some u) (hf : w.frozen? a = false) (h1 : v.oneCell' = true) : (store a v).run P w = .ok () (w.setCell a v) := by
  cases v <;> first | (simp [store, Sem.run, hc, hf]; done) | (cases h1; done)
theorem run_storeCells {g o : Nat} {t : TypeId} {fz : Nat × Nat} : ∀ (l : List Value) (i : Nat) (w : World) (arr : Array Value), w.heap[g]? = some (.cells arr t fz) → (∀ u ∈ l, u.oneCell' = true) → o + i + l.length ≤ arr.size → (∀ q, q < arr.size → ¬ (fz.1 ≤ q ∧ q < fz.2)) →
    ∃ w', (storeCells ⟨g, o, none⟩ l i).run P w = .ok () w' ∧ Wr g w w' ∧ w'.heap[g]? = some (.cells ((l.zipIdx i).foldl (fun (cs : Array Value) (p : Value × Nat) => cs.setIfInBounds (o + p.2) p.1) arr) t fz)
  | [], i, w, arr, hb, _, _, _ => ⟨w, rfl, Wr.refl g w, hb⟩
  | v :: l, i, w, arr, hb, h1, hle, hfz => by
    simp only [List.length_cons] at hle
    have hc : w.cell? ⟨g, o + i, none⟩ = some (arr[o + i]'(by omega)) := by
      simp only [World.cell?, hb]; simp
    have hf : w.frozen? ⟨g, o + i, none⟩ = false := by
      obtain ⟨lo, hi⟩ := fz
      have := hfz (o + i) (by omega)
      simp only [World.frozen?, hb]
      simp only [Bool.and_eq_false_iff, decide_eq_false_iff_not]
      simp only at this
      omega
    have hs := run_store (P := P) (v := v) hc hf (h1 v (by simp))
    have hb' : (w.setCell ⟨g, o + i, none⟩ v).heap[g]? = some (.cells (arr.setIfInBounds (o + i) v) t fz) := by
      simp [World.setCell, Array.getElem?_modify, hb]
    obtain ⟨w', r1, r2, r3⟩ := run_storeCells (o := o) l (i + 1) _ _ hb' (fun u hu => h1 u (by simp [hu])) (by simp; omega) (by simpa using hfz)
    refine ⟨w', ?_, (wr_set v).trans r2, by simpa [List.zipIdx_cons] using r3⟩
    simp only [storeCells, add_off, Sem.run_bind, hs, Result.andThen_ok, r1]
theorem Bel.wr {g : Nat} (hb : BelA w0 w) (hg : w0.own g) (hw : Wr g w w') : BelA w0 w' :=
  ⟨hw.os.trans hb.os, hw.tape.trans hb.tape, hw.output.trans hb.output, by rw [hw.size]; exact hb.size, fun k hk hn => (hw.block k (by
    rintro rfl
    rcases hg with h | h
    · omega
    · exact hn h)).trans (hb.block k hk hn)⟩
/-- a block of the frame's was written; it may have another number from now on -/
theorem Rel.write (R : Rel w0 Z Y m h sh w) {id base g : Nat} {b b' : B} {v : Value} (hi : h id = some b) (hg : blkOf m id = some g) (hw : Wr g w w') (hbase : base = id ∨ (m base = none ∧ h base = none)) {sh' : Nat → Bool} (hsh : ∀ j, j ≠ base → h j ≠ none → j ≠ id → sh' j = sh j)
    (hz : ∀ o u, Z g o = some u → w'.cell? ⟨g, o, none⟩ = some u) (hv : base = id → m id = some v)
    (hb' : (∃ cs, b' = .box cs ∧ v = .pointer (some ⟨g, 0, none⟩) ∧ BoxAt w0.own Z Y m w' g cs) ∨ (∃ es n c k, b' = .row es ∧ v = .slice (some ⟨g, 0, none⟩) n c ∧ RowAt w0.own Z (sh' base) w' g n c k es) ∨ (∃ es i x n c, b' = .tab es i x ∧ v = .slice (some ⟨g, 0, none⟩) n c ∧ TabAt w0.own Z Y m w' g n c (tabC es i x)) ∨ (∃ l, b' = .mp l ∧ v = .map (some g) ∧ MapAt w0.own w' g l)) :
    Rel w0 Z Y (upd m base (some v)) (upd (upd h id none) base (some b')) sh' w' := by
  have hmle : MLe m (upd m base (some v)) := by
    rcases hbase with rfl | hbn
    · intro j u hj
      unfold upd
      split
      · rename_i e; subst e; rw [hv rfl] at hj; exact hj
      · exact hj
    · exact MLe.up hbn.1
  have hlt := R.blk_lt (by rw [hi]; simp) hg
  have hblk : blkOf (upd m base (some v)) base = some g := by rcases hb' with ⟨cs, _, rfl, _⟩ | ⟨es, n, c, k, _, rfl, _⟩ | ⟨es, i, x, n, c, _, rfl, _⟩ | ⟨l, _, rfl, _⟩ <;> simp [blkOf, upd]
  have hold : ∀ j, j ≠ base → blkOf (upd m base (some v)) j = blkOf m j := fun j hj => by simp [blkOf, upd, hj]
  have hother : ∀ j, j ≠ id → h j ≠ none → blkOf m j ≠ some g := fun j hj hn he => hj (R.inj j id g hn (by rw [hi]; simp) he hg)
  have hkeep : ∀ j g' x, j ≠ id → h j ≠ none → blkOf m j = some g' → w.heap[g']? = some x → w'.heap[g']? = some x := fun j g' x hj hn he hx => by
    rw [hw.block g' (fun e => hother j hj hn (by rw [he, e]))]; exact hx
  refine ⟨Bel.wr R.bel hlt.2 hw, R.gw, fun b o u hzz => ?_, R.yok, fun j cs hj => ?_, fun j es hj => ?_, fun j es i x hj => ?_, fun j l hj => ?_, fun j j' g' h1 h2 e1 e2 => ?_⟩
  · by_cases e : b = g
    · subst e; exact hz o u hzz
    · have := R.zok b o u hzz
      rw [World.cell?_of_block (w := w) (a := ⟨b, o, none⟩) (hw.block b e)]; exact this
  · unfold upd at hj
    split at hj
    · rename_i e
      subst e
      injection hj with hj
      rcases hb' with ⟨cs', e', rfl, hat⟩ | ⟨es, n, c, k, e', _⟩ | ⟨es, i, x, n, c, e', _⟩ | ⟨l, e', _⟩
      · rw [e'] at hj; injection hj with hj; subst hj
        refine ⟨g, by simp [upd], ⟨hat.base, ?_, hat.apart⟩⟩
        obtain ⟨t, vs, hvs, hr⟩ := hat.ex
        exact ⟨t, vs, hvs, hr.mono (ZLe.refl _) hmle⟩
      · rw [e'] at hj; cases hj
      · rw [e'] at hj; cases hj
      · rw [e'] at hj; cases hj
    · rename_i hjb
      split at hj
      · cases hj
      · rename_i hji
        obtain ⟨g', hm', hat⟩ := R.box j cs hj
        obtain ⟨t, vs, hvs, hr⟩ := hat.ex
        exact ⟨g', hmle _ _ hm', ⟨hat.base, ⟨t, vs, hkeep j g' _ hji (by rw [hj]; simp) (by simp [blkOf, hm']) hvs, hr.mono (ZLe.refl _) hmle⟩, hat.apart⟩⟩
  · unfold upd at hj
    split at hj
    · rename_i e
      subst e
      injection hj with hj
      rcases hb' with ⟨cs', e', _⟩ | ⟨es', n, c, k, e', rfl, hat⟩ | ⟨es, i, x, n, c, e', _⟩ | ⟨l, e', _⟩
      · rw [e'] at hj; cases hj
      · rw [e'] at hj; injection hj with hj; subst hj
        exact .inr ⟨g, n, c, k, by simp [upd], hat⟩
      · rw [e'] at hj; cases hj
      · rw [e'] at hj; cases hj
    · rename_i hjb
      split at hj
      · cases hj
      · rename_i hji
        rw [hsh j hjb (by rw [hj]; simp) hji]
        rcases R.row j es hj with ⟨h0, h1⟩ | ⟨g', n, c, k, hm', hat⟩
        · exact .inl ⟨hmle _ _ h0, h1⟩
        · obtain ⟨t, fz, cur, hvs, hr⟩ := hat.ex
          exact .inr ⟨g', n, c, k, hmle _ _ hm', ⟨hat.base, ⟨t, fz, cur, hkeep j g' _ hji (by rw [hj]; simp) (by simp [blkOf, hm']) hvs, hr⟩, hat.len, hat.le, hat.max, hat.pos, hat.zero, hat.each, hat.apart⟩⟩
  · unfold upd at hj
    split at hj
    · rename_i e
      subst e
      injection hj with hj
      rcases hb' with ⟨cs', e', _⟩ | ⟨es', n, c, k, e', _⟩ | ⟨es', i', x', n, c, e', rfl, hat⟩ | ⟨l, e', _⟩
      · rw [e'] at hj; cases hj
      · rw [e'] at hj; cases hj
      · rw [e'] at hj; injection hj with a1 a2 a3; subst a1 a2 a3
        exact ⟨g, n, c, by simp [upd], hat.up (ZLe.refl _) hmle (fun _ h => h) hat.apart⟩
      · rw [e'] at hj; cases hj
    · rename_i hjb
      split at hj
      · cases hj
      · rename_i hji
        obtain ⟨g', n, c, hm', hat⟩ := R.tab j es i x hj
        exact ⟨g', n, c, hmle _ _ hm', hat.up (ZLe.refl _) hmle (fun y hy => hkeep j g' y hji (by rw [hj]; simp) (by simp [blkOf, hm']) hy) hat.apart⟩
  · unfold upd at hj
    split at hj
    · rename_i e
      subst e
      injection hj with hj
      rcases hb' with ⟨cs', e', _⟩ | ⟨es', n, c, k, e', _⟩ | ⟨es', i', x', n, c, e', _⟩ | ⟨l', e', rfl, hat⟩
      · rw [e'] at hj; cases hj
      · rw [e'] at hj; cases hj
      · rw [e'] at hj; cases hj
      · rw [e'] at hj; injection hj with a1; subst a1
        exact ⟨g, by simp [upd], hat⟩
    · rename_i hjb
      split at hj
      · cases hj
      · rename_i hji
        obtain ⟨g', hm', hat⟩ := R.mp j l hj
        obtain ⟨es, clock, hvs, hr⟩ := hat.ex
        exact ⟨g', hmle _ _ hm', hat.base, es, clock, hkeep j g' _ hji (by rw [hj]; simp) (by simp [blkOf, hm']) hvs, hr⟩
  · have hsome : ∀ q, q ≠ base → upd (upd h id none) base (some b') q ≠ none → h q ≠ none ∧ q ≠ id := by
      intro q hq hn
      simp only [upd, hq, if_false] at hn
      split at hn
      · exact absurd rfl hn
      · rename_i hqi; exact ⟨hn, hqi⟩
    by_cases c1 : j = base
    · by_cases c2 : j' = base
      · rw [c1, c2]
      · obtain ⟨n2, i2⟩ := hsome j' c2 h2
        rw [c1, hblk] at e1
        injection e1 with e1; subst e1
        rw [hold j' c2] at e2
        exact absurd e2 (hother j' i2 n2)
    · obtain ⟨n1, i1⟩ := hsome j c1 h1
      by_cases c2 : j' = base
      · rw [c2, hblk] at e2
        injection e2 with e2; subst e2
        rw [hold j c1] at e1
        exact absurd e1 (hother j i1 n1)
      · obtain ⟨n2, i2⟩ := hsome j' c2 h2
        rw [hold j c1] at e1
        rw [hold j' c2] at e2
        exact R.inj j j' g' n1 n2 e1 e2
theorem headV_one {e : List C} (h : e.length = 1) : headV e = .c (e[0]'(by omega)) := by
  match e, h with
  | [z], _ => rfl
theorem upd_same {α : Type} (f : Nat → α) (i : Nat) (x y : α) : upd (upd f i x) i y = upd f i y := by funext j; simp only [upd]; split <;> rfl
theorem upd_id {f : Nat → Option Value} {i : Nat} {v : Value} (h : f i = some v) : upd f i (some v) = f := by funext j; simp only [upd]; split; (rename_i e; subst e; exact h.symm); rfl
theorem storeV_sim (R : Rel w0 Z Y m h sh w) {t : TypeId} {A x : V} {va vx : Value} {y : (Nat → Option B) × (Nat → Bool)} (hst : storeV P h sh t A x = some y) (ra : Rep Z Y m va A) (rx : Rep Z Y m vx x) :
    ∃ Z' w', ZUp w0 Z Z' ∧ Rel w0 Z' Y m y.1 y.2 w' ∧ (Instr.storeAt t va vx).run P w = .ok () w' := by
  unfold storeV at hst
  cases hc : x.cells with
  | none => rw [hc] at hst; cases hst
  | some vs =>
    rw [hc] at hst
    simp only [Option.bind_some] at hst
    split at hst
    · cases hst
    · rename_i hsz
      have hsz : szO P t = some vs.length := by simpa using hsz
      have rc := rx.cells hc
      have hcs := rc.agg_size
      have hrun : ∀ (b o : Nat) (w1 : World), va = .pointer (some ⟨b, o, none⟩) → (storeCells ⟨b, o, none⟩ vx.cells.toList 0).run P w = .ok () w1 → (Instr.storeAt t va vx).run P w = .ok () w1 := by
        intro b o w1 hva hs
        subst hva
        have : ¬ (vx.cells.size ≠ vs.length) := by simp [hcs]
        simp only [Instr.storeAt, Instr.sureAddr, Sem.run_bind, Sem.run_pure, Result.andThen_ok, storeVar, run_sz hsz, this, if_false]
        exact hs
      split at hst
      · rename_i id off
        split at hst
        · rename_i cs he
          split at hst
          · rename_i hle
            injection hst with hst; subst hst
            obtain ⟨g, hm, hat⟩ := R.box id cs he
            obtain ⟨t', us, hus, hr⟩ := hat.ex
            have hus' := hr.agg_size
            cases ra with
            | ptr _ _ g' hm' =>
              rw [hm] at hm'
              injection hm' with hm'; injection hm' with hm'; injection hm' with hm'; injection hm' with hm'
              subst hm'
              obtain ⟨w1, s1, s2, s3⟩ := run_storeCells (P := P) (g := g) (o := off) vx.cells.toList 0 w us hus (fun u hu => rc.agg_one u hu) (by simp only [Nat.add_zero, Array.length_toList, hcs, hus']; exact hle) (by simp)
              refine ⟨Z, w1, ZUp.refl, ?_, hrun g off w1 rfl s1⟩
              have hW := R.write (b' := .box (splice cs off vs)) (v := .pointer (some ⟨g, 0, none⟩)) (sh' := sh) (base := id) he (by simp [blkOf, hm]) s2 (.inl rfl) (fun _ _ _ _ => rfl) (fun o u hz => by rw [hat.apart o] at hz; cases hz) (fun _ => hm) (.inl ⟨_, rfl, rfl, ⟨hat.base, ⟨t', _, s3, ?_⟩, hat.apart⟩⟩)
              · rw [upd_same, upd_id hm] at hW
                exact hW
              · obtain ⟨f1, f2⟩ := fold_get off vx.cells.toList 0 us
                have hvl : vx.cells.toList.length = vs.length := by simpa using hcs
                have hget : ∀ j u, ((vx.cells.toList.zipIdx 0).foldl (fun (cs : Array Value) (p : Value × Nat) => cs.setIfInBounds (off + p.2) p.1) us)[j]? = some u → if off ≤ j ∧ j < off + vs.length then vx.cells[j - off]? = some u else us[j]? = some u := by
                  intro j u hu
                  have hj : j < us.size := by rw [← f1]; exact (Array.getElem?_eq_some_iff.1 hu).1
                  rw [f2 j hj] at hu
                  simp only [Nat.add_zero, hvl] at hu
                  split at hu
                  · rename_i hc; rw [if_pos hc]; simpa using hu
                  · rename_i hc; rw [if_neg hc]; exact hu
                refine .agg _ _ (by rw [f1, splice_len hle]; exact hus') ?_ ?_
                · intro u hu
                  obtain ⟨j, hj⟩ := List.getElem?_of_mem hu
                  have := hget j u (by simpa using hj)
                  split at this
                  · exact rc.agg_one u (List.mem_of_getElem? (i := j - off) (by simpa using this))
                  · exact hr.agg_one u (List.mem_of_getElem? (i := j) (by simpa using this))
                · intro j u z hu hz
                  have := hget j u hu
                  rw [splice_get hle] at hz
                  split at this
                  · rename_i hc
                    rw [if_pos hc] at hz
                    obtain ⟨u', hu', hr', _⟩ := rc.agg_get hz
                    rw [hu'] at this; injection this with this; subst this; exact hr'
                  · rename_i hc
                    rw [if_neg hc] at hz
                    obtain ⟨u', hu', hr', _⟩ := hr.agg_get hz
                    rw [hu'] at this; injection this with this; subst this; exact hr'
          · cases hst
        · cases hst
      · rename_i id k i off
        split at hst
        · rename_i hT
          obtain ⟨rfl, rfl, hrow⟩ := hT
          have hvs : vs = [x] := by
            cases x <;> first | (cases hrow; done) | (injection hc with hc; exact hc.symm)
          subst hvs
          cases ra with
          | rptr _ _ _ _ g' n' c' hm' =>
          have h1 : vx.cells = #[vx] ∧ vx.oneCell' = true := by
            cases x <;> first | (cases hrow; done) | (cases rx <;> exact ⟨rfl, rfl⟩)
          have hst2 : ∀ (cur : Array Value) (t0 : TypeId) (fz : Nat × Nat), w.heap[g']? = some (.cells cur t0 fz) → i < cur.size → (∀ q, q < cur.size → ¬ (fz.1 ≤ q ∧ q < fz.2)) → ∃ w1, (Instr.storeAt t (.pointer (some ⟨g', i * 1 + 0, none⟩)) vx).run P w = .ok () w1 ∧ Wr g' w w1 ∧ w1.heap[g']? = some (.cells (cur.setIfInBounds i vx) t0 fz) := by
            intro cur t0 fz hb hi hfz
            obtain ⟨w1, s1, s2, s3⟩ := run_storeCells (P := P) (g := g') (o := i) vx.cells.toList 0 w cur hb (fun u hu => by rw [h1.1] at hu; simp at hu; subst hu; exact h1.2) (by rw [h1.1]; simp; omega) hfz
            refine ⟨w1, hrun g' (i * 1 + 0) w1 rfl (by simpa using s1), s2, ?_⟩
            rw [s3, h1.1]
            simp
          unfold storeT at hst
          split at hst
          · rename_i es he
            split at hst
            case isFalse => cases hst
            rename_i hcond
            obtain ⟨hsh, hil, hall⟩ := hcond
            injection hst with hst; subst hst
            rcases R.row id es he with ⟨_, h0⟩ | ⟨g, n, c, k, hm, hat⟩
            · subst h0; simp at hil
            rw [hm] at hm'
            injection hm' with hm'; injection hm' with a1 a2 a3; injection a1 with a1; injection a1 with a1
            subst a1 a2 a3
            have hk : k = 1 := by
              have hz : es[i]'hil ∈ es := List.getElem_mem hil
              rw [← hat.each _ hz]
              have := List.all_eq_true.1 hall _ hz
              simpa using this
            subst hk
            have hzn : ∀ o, Z g o = none := fun o => by
              cases hz : Z g o with
              | none => rfl
              | some u => have := (hat.apart o (by rw [hz]; simp)).1; rw [hsh] at this; cases this
            obtain ⟨t', fz, cur, hv', hcsz, ⟨hfz, _⟩, hcell⟩ := hat.ex
            have hic : i < cur.size := by rw [hcsz]; have := hat.len; have := hat.le; omega
            obtain ⟨w1, s1, s2, s3⟩ := hst2 cur t' fz hv' hic hfz
            refine ⟨Z, w1, ZUp.refl, ?_, s1⟩
            have hW := R.write (b' := .tab es i x) (v := .slice (some ⟨g, 0, none⟩) n c) (sh' := sh) (base := id) he (by simp [blkOf, hm]) s2 (.inl rfl) (fun _ _ _ _ => rfl) (fun o u hz => by rw [hzn o] at hz; cases hz) (fun _ => hm)
              (.inr (.inr <| .inl ⟨es, i, x, n, c, rfl, rfl, ⟨hat.base, ⟨t', fz, _, s3, by simpa using hcsz, by simpa using hfz, ?_⟩, by have := hat.len; simpa [tabC] using this, hat.le, hzn⟩⟩))
            · rw [upd_same, upd_id hm] at hW
              exact hW
            · intro j y hy
              unfold tabC at hy
              have hj : j < es.length := by have := (List.getElem?_eq_some_iff.1 hy).1; simpa using this
              by_cases hji : j = i
              · subst hji
                rw [List.getElem?_set_self (by simpa using hj)] at hy
                injection hy with hy; subst hy
                exact ⟨vx, by simp [hic], h1.2, rx⟩
              · rw [List.getElem?_set_ne (Ne.symm hji), List.getElem?_map, List.getElem?_eq_getElem hj] at hy
                injection hy with hy; subst hy
                have hone : (es[j]).length = 1 := hat.each _ (List.getElem_mem hj)
                obtain ⟨u, hu, hr⟩ := hcell j (es[j]) 0 ((es[j])[0]'(by omega)) (List.getElem?_eq_getElem hj) (List.getElem?_eq_getElem _)
                refine ⟨u, by rw [Array.getElem?_setIfInBounds_ne (Ne.symm hji)]; simpa using hu, hr.one, ?_⟩
                have : headV es[j] = .c ((es[j])[0]'(by omega)) := headV_one hone
                rw [this]
                exact .c hr
          · rename_i es q v0 he
            split at hst
            case isFalse => cases hst
            rename_i hil
            split at hst
            case isFalse =>
              rename_i hq
              injection hst with hst; subst hst
              obtain ⟨g, n, c, hm, hat⟩ := R.tab id es q v0 he
              rw [hm] at hm'
              injection hm' with hm'; injection hm' with a1 a2 a3; injection a1 with a1; injection a1 with a1
              subst a1 a2 a3
              have hlen : es.length = n := by have := hat.len; simpa [tabC] using this
              obtain ⟨t', fz, cur, hv', hcsz, hfz, hcell⟩ := hat.ex
              have hic : i < cur.size := by rw [hcsz]; have := hat.le; omega
              obtain ⟨w1, s1, s2, s3⟩ := hst2 cur t' fz hv' hic hfz
              refine ⟨Z, w1, ZUp.refl, ?_, s1⟩
              have hW := R.write (b' := .tab es i x) (v := .slice (some ⟨g, 0, none⟩) n c) (sh' := sh) (base := id) he (by simp [blkOf, hm]) s2 (.inl rfl) (fun _ _ _ _ => rfl) (fun o u hz => by rw [hat.apart o] at hz; cases hz) (fun _ => hm)
                (.inr (.inr <| .inl ⟨es, i, x, n, c, rfl, rfl, ⟨hat.base, ⟨t', fz, _, s3, by simpa using hcsz, by simpa using hfz, ?_⟩, by simpa [tabC] using hlen, hat.le, hat.apart⟩⟩))
              · rw [upd_same, upd_id hm] at hW
                exact hW
              · intro j y hy
                unfold tabC at hy
                have hj : j < es.length := by have := (List.getElem?_eq_some_iff.1 hy).1; simpa using this
                by_cases hji : j = i
                · subst hji
                  rw [List.getElem?_set_self (by simpa using hj)] at hy
                  injection hy with hy; subst hy
                  exact ⟨vx, by simp [hic], h1.2, rx⟩
                · rw [List.getElem?_set_ne (Ne.symm hji)] at hy
                  rw [Array.getElem?_setIfInBounds_ne (Ne.symm hji)]
                  exact hcell j y (by unfold tabC; rw [List.set_eq_of_length_le (by simpa using Nat.not_lt.1 hq)]; exact hy)
            rename_i hq
            cases hf : frzC h v0 with
            | none => rw [hf] at hst; cases hst
            | some y' =>
            rw [hf] at hst
            simp only [Option.bind_some] at hst
            split at hst
            case isTrue => cases hst
            injection hst with hst; subst hst
            obtain ⟨g, n, c, hm, hat⟩ := R.tab id es q v0 he
            obtain ⟨t0', fz0, cur0, hv0, hcsz0, hfz0, hcell0⟩ := hat.ex
            have hlen : es.length = n := by have := hat.len; simpa [tabC] using this
            obtain ⟨u0, hu0, ho0, hr0⟩ := hcell0 q v0 (by unfold tabC; rw [List.getElem?_set_self (by simpa using hq)])
            obtain ⟨Z1, u1, R1, r1⟩ := frzC_sim R (fun _ _ h => h) hf hr0
            obtain ⟨g1, n1, c1, hm1, hat1⟩ := R1.tab id es q v0 he
            rw [hm] at hm1
            injection hm1 with hm1; injection hm1 with a1 a2 a3; injection a1 with a1; injection a1 with a1
            subst a1 a2 a3
            rw [hm] at hm'
            injection hm' with hm'; injection hm' with a1 a2 a3; injection a1 with a1; injection a1 with a1
            subst a1 a2 a3
            obtain ⟨t', fz, cur, hv', hcsz, hfz, hcell⟩ := hat1.ex
            rw [hv0] at hv'
            injection hv' with hv'; injection hv' with b1 b2 b3; subst b1 b2 b3
            have hic : i < cur0.size := by rw [hcsz]; have := hat.le; omega
            obtain ⟨w1, s1, s2, s3⟩ := hst2 cur0 t0' fz0 hv0 hic hfz
            refine ⟨Z1, w1, u1, ?_, s1⟩
            have hW := R1.write (b' := .tab (es.set q [y'.1]) i x) (v := .slice (some ⟨g, 0, none⟩) n c) (sh' := flag sh y'.2) (base := id) he (by simp [blkOf, hm]) s2 (.inl rfl) (fun _ _ _ _ => rfl) (fun o u hz => by rw [hat1.apart o] at hz; cases hz) (fun _ => hm)
              (.inr (.inr <| .inl ⟨es.set q [y'.1], i, x, n, c, rfl, rfl, ⟨hat.base, ⟨t0', fz0, _, s3, by simpa using hcsz, by simpa using hfz, ?_⟩, by simpa [tabC] using hlen, hat.le, hat1.apart⟩⟩))
            · rw [upd_same, upd_id hm] at hW
              exact hW
            · intro j y hy
              unfold tabC at hy
              have hj : j < es.length := by have := (List.getElem?_eq_some_iff.1 hy).1; simpa using this
              by_cases hji : j = i
              · subst hji
                rw [List.getElem?_set_self (by simpa using hj)] at hy
                injection hy with hy; subst hy
                exact ⟨vx, by simp [hic], h1.2, rx.mono u1.le (MLe.refl _)⟩
              · rw [List.getElem?_set_ne (Ne.symm hji), List.getElem?_map] at hy
                rw [Array.getElem?_setIfInBounds_ne (Ne.symm hji)]
                by_cases hjq : j = q
                · subst hjq
                  rw [List.getElem?_set_self hj] at hy
                  injection hy with hy; subst hy
                  exact ⟨u0, hu0, ho0, .c r1⟩
                · rw [List.getElem?_set_ne (Ne.symm hjq)] at hy
                  exact hcell j y (by unfold tabC; rw [List.getElem?_set_ne (Ne.symm hjq), List.getElem?_map]; exact hy)
          · cases hst
        split at hst
        · rename_i es he
          split at hst
          · cases hst
          · rename_i hsh
            cases hei : es[i]? with
            | none => rw [hei] at hst; cases hst
            | some e =>
              rw [hei] at hst
              simp only [Option.bind_some] at hst
              split at hst
              · rename_i hcond
                obtain ⟨hek, hoff⟩ := hcond
                cases hf : frzL h vs with
                | none => rw [hf] at hst; cases hst
                | some y' =>
                  rw [hf] at hst
                  simp only [Option.bind_some] at hst
                  split at hst
                  · cases hst
                  rename_i hnid
                  have hnid : id ∉ y'.2 := by simpa using hnid
                  injection hst with hst; subst hst
                  obtain ⟨Z1, u1, R1, l1, r1⟩ := frzL_sim vs (us := vx.cells.toList) R (fun _ _ h => h) hf (by simpa using hcs) (fun j u z hu hz => by
                    obtain ⟨u', hu', hr', _⟩ := rc.agg_get hz
                    rw [Array.getElem?_toList, hu'] at hu
                    injection hu with hu; subst hu; exact hr')
                  have hfid : flag sh y'.2 id = false := by simp [flag, hnid]; simpa using hsh
                  rcases R1.row id es he with ⟨_, h0⟩ | ⟨g, n, c, k', hm, hat⟩
                  · subst h0; cases hei
                  have hkk : k' = k := by rw [← hek]; exact (hat.each e (List.mem_of_getElem? hei)).symm
                  subst hkk
                  have hzn : ∀ o, Z1 g o = none := fun o => by
                    cases hz : Z1 g o with
                    | none => rfl
                    | some u => have := (hat.apart o (by rw [hz]; simp)).1; rw [hfid] at this; cases this
                  obtain ⟨t', fz, cur, hv', hcsz, hfz, hcell⟩ := hat.ex
                  have hil : i < n := by rw [← hat.len]; exact (List.getElem?_eq_some_iff.1 hei).1
                  have hik : i * k' + k' ≤ cur.size := by
                    rw [hcsz]
                    have h1 : (i + 1) * k' ≤ c * k' := Nat.mul_le_mul_right k' (Nat.le_trans hil hat.le)
                    rw [Nat.add_mul] at h1
                    omega
                  have hvl : vx.cells.toList.length = vs.length := by simpa using hcs
                  have hyl : y'.1.length = vs.length := l1
                  cases ra with
                  | rptr _ _ _ _ g' n' c' hm' =>
                    rw [hm] at hm'
                    injection hm' with hm'; injection hm' with a1 a2 a3; injection a1 with a1; injection a1 with a1
                    subst a1 a2 a3
                    obtain ⟨w1, s1, s2, s3⟩ := run_storeCells (P := P) (g := g) (o := i * k' + off) vx.cells.toList 0 w cur hv' (fun u hu => rc.agg_one u hu) (by rw [hvl]; omega) hfz.1
                    refine ⟨Z1, w1, u1, ?_, hrun g (i * k' + off) w1 rfl s1⟩
                    obtain ⟨f1, f2⟩ := fold_get (i * k' + off) vx.cells.toList 0 cur
                    have hW := R1.write (b' := .row (es.set i (splice e off y'.1))) (v := .slice (some ⟨g, 0, none⟩) n c) (sh' := flag sh y'.2) (base := id) he (by simp [blkOf, hm]) s2 (.inl rfl) (fun _ _ _ _ => rfl) (fun o u hz => by rw [hzn o] at hz; cases hz) (fun _ => hm)
                      (.inr (.inl ⟨_, n, c, k', rfl, rfl, ⟨hat.base, ⟨t', fz, _, s3, by rw [f1]; exact hcsz, by rw [f1]; exact hfz, ?_⟩, by simp [hat.len], hat.le, hat.max, hat.pos, hat.zero, ?_, fun o ho => absurd (hzn o) ho⟩⟩))
                    · rw [upd_same, upd_id hm] at hW
                      exact hW
                    · intro i' e' j z hi' hj
                      have hi'l : i' < n := by have := (List.getElem?_eq_some_iff.1 hi').1; simpa [hat.len] using this
                      have hpos : ∀ q, q < k' → i' * k' + q < cur.size := fun q hq => by
                        rw [hcsz]
                        have h1 : (i' + 1) * k' ≤ c * k' := Nat.mul_le_mul_right k' (Nat.le_trans hi'l hat.le)
                        rw [Nat.add_mul] at h1
                        omega
                      by_cases hii : i' = i
                      · subst hii
                        rw [List.getElem?_set_self (by rw [hat.len]; exact hi'l)] at hi'
                        injection hi' with hi'; subst hi'
                        have hjk : j < k' := by have := (List.getElem?_eq_some_iff.1 hj).1; rw [splice_len (by omega)] at this; omega
                        rw [f2 _ (hpos j hjk)]
                        rw [splice_get (by omega)] at hj
                        simp only [Nat.add_zero, hvl]
                        by_cases hc : off ≤ j ∧ j < off + y'.1.length
                        · rw [if_pos hc] at hj
                          rw [if_pos (by omega), show i' * k' + j - (i' * k' + off) = j - off from by omega]
                          have hju : vx.cells.toList[j - off]? = some (vx.cells.toList[j - off]'(by omega)) := List.getElem?_eq_getElem _
                          exact ⟨_, hju, r1 _ _ z hju hj⟩
                        · rw [if_neg hc] at hj
                          rw [if_neg (by omega)]
                          exact hcell i' e j z hei hj
                      · rw [List.getElem?_set_ne (Ne.symm hii)] at hi'
                        have hjk : j < k' := by have := (List.getElem?_eq_some_iff.1 hj).1; rw [hat.each e' (List.mem_of_getElem? hi')] at this; exact this
                        rw [f2 _ (hpos j hjk), if_neg (by
                          simp only [Nat.add_zero, hvl]
                          intro hcon
                          rcases Nat.lt_or_gt_of_ne hii with hlt' | hgt'
                          · have : (i' + 1) * k' ≤ i * k' := Nat.mul_le_mul_right k' hlt'
                            rw [Nat.add_mul] at this
                            omega
                          · have : (i + 1) * k' ≤ i' * k' := Nat.mul_le_mul_right k' hgt'
                            rw [Nat.add_mul] at this
                            omega)]
                        exact hcell i' e' j z hi' hj
                    · intro e' he'
                      rcases List.mem_or_eq_of_mem_set he' with h1 | h1
                      · exact hat.each e' h1
                      · subst h1
                        rw [splice_len (by omega)]
                        exact hek
              · cases hst
        · cases hst
      · cases hst
end
end Go.Proofs.YtomnbknaanlmaaaGreatDoor
