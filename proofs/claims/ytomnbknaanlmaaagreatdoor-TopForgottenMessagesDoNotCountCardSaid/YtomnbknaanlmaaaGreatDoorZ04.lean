/- A call on the caller's heap: what is handed on, what comes back. -/
import Derived.Test.YtomnbknaanlmaaaGreatDoorZ03
namespace Go.Proofs.YtomnbknaanlmaaaGreatDoor
open Go.RowKit
section
variable {P : Program} {Z Y : ZMap} {m m' : Nat → Option Value} {w0 : WB} {w w' : World} {h hv : Nat → Option B} {sh : Nat → Bool}
theorem pos_get {id j : Nat} : ∀ {l : List Nat}, pos id l = some j → l[j]? = some id
  | [], h => by cases h
  | x :: l, h => by
    simp only [pos] at h
    split at h
    · rename_i e; injection h with h; subst h e; rfl
    · cases hp : pos id l with
      | none => rw [hp] at h; cases h
      | some q => rw [hp] at h; injection h with h; subst h; simpa using pos_get hp
theorem dd_nodup : ∀ (l : List Nat), (dd l).Nodup
  | [] => by simp [dd]
  | x :: l => by
    simp only [dd, List.nodup_cons]
    exact ⟨by simp, List.Pairwise.filter _ (dd_nodup l)⟩
theorem cellO_rep {r : Nat → Option Nat} (hm : ∀ id j v, r id = some j → m id = some v → m' j = some v) {v : Value} {x : V} (h : Rep Z Y m v x) : Rep Z Y m' v (cellO r x) := by
  cases h with
  | any v => exact .any v
  | c h => exact .c h
  | agg cs Cs hl h1 hr => exact .any _
  | tup cs Cs hl hr => exact .any _
  | row id n A c h hA =>
    simp only [cellO]
    cases hr : r id with
    | none => exact .any _
    | some j => exact .row j n A c (hm _ _ _ hr h) hA
  | row0 id A h =>
    simp only [cellO]
    cases hr : r id with
    | none => exact .any _
    | some j => exact .row0 j A (hm _ _ _ hr h)
  | ptr id off g h =>
    simp only [cellO]
    cases hr : r id with
    | none => exact .any _
    | some j => exact .ptr j off g (hm _ _ _ hr h)
  | rptr id k i off g n c h =>
    simp only [cellO]
    cases hr : r id with
    | none => exact .any _
    | some j => exact .rptr j k i off g n c (hm _ _ _ hr h)
  | eptr b o off U cs h hr => exact .eptr b o off U cs h hr
  | fn f cs Cs hl hr hf => exact .any _
  | bnd f cs Cs hl hr hf => exact .any _
  | mp id g h =>
    simp only [cellO]
    cases hr : r id with
    | none => exact .any _
    | some j => exact .mp j g (hm _ _ _ hr h)
  | rowE id g n c h hc =>
    simp only [cellO]
    cases hr : r id with
    | none => exact .any _
    | some j => exact .rowE j g n c (hm _ _ _ hr h) hc
theorem map_rep {f : V → V} (hf : ∀ v x, Rep Z Y m v x → Rep Z Y m' v (f x)) {cs : Array Value} {Cs : List V} (hr : ∀ (i : Nat) (u : Value) (x : V), cs[i]? = some u → Cs[i]? = some x → Rep Z Y m u x) : ∀ (i : Nat) (u : Value) (x : V), cs[i]? = some u → (Cs.map f)[i]? = some x → Rep Z Y m' u x := by
  intro i u x hu hx
  rw [List.getElem?_map] at hx
  cases hc : Cs[i]? with
  | none => rw [hc] at hx; cases hx
  | some y => rw [hc] at hx; injection hx with hx; subst hx; exact hf u y (hr i u y hu hc)
theorem aggO_rep {r : Nat → Option Nat} (hm : ∀ id j v, r id = some j → m id = some v → m' j = some v) {v : Value} {x : V} (h : Rep Z Y m v x) : Rep Z Y m' v (aggO r x) := by
  cases h with
  | agg cs Cs hl h1 hr => exact .agg cs _ (by simp [hl]) h1 (map_rep (fun v x h => cellO_rep hm h) hr)
  | fn f cs Cs hl hr hf => exact .fn f cs _ (by simp [hl]) (map_rep (fun v x h => cellO_rep hm h) hr) hf
  | bnd f cs Cs hl hr hf => exact .bnd f cs _ (by simp [hl]) (map_rep (fun v x h => cellO_rep hm h) hr) hf
  | any v => exact .any v
  | c h => exact .c h
  | tup cs Cs hl hr => exact .any _
  | mp id g h => exact cellO_rep hm (.mp id g h)
  | rowE id g n c h hc => exact cellO_rep hm (.rowE id g n c h hc)
  | row id n A c h hA => exact cellO_rep hm (.row id n A c h hA)
  | row0 id A h => exact cellO_rep hm (.row0 id A h)
  | ptr id off g h => exact cellO_rep hm (.ptr id off g h)
  | rptr id k i off g n c h => exact cellO_rep hm (.rptr id k i off g n c h)
  | eptr b o off U cs h hr => exact .eptr b o off U cs h hr
theorem topO_rep {r : Nat → Option Nat} (hm : ∀ id j v, r id = some j → m id = some v → m' j = some v) {v : Value} {x : V} (h : Rep Z Y m v x) : Rep Z Y m' v (topO r x) := by
  cases h with
  | tup cs Cs hl hr => exact .tup cs _ (by simp [hl]) (map_rep (fun v x h => aggO_rep hm h) hr)
  | agg cs Cs hl h1 hr => exact aggO_rep hm (.agg cs Cs hl h1 hr)
  | fn f cs Cs hl hr hf => exact aggO_rep hm (.fn f cs Cs hl hr hf)
  | bnd f cs Cs hl hr hf => exact aggO_rep hm (.bnd f cs Cs hl hr hf)
  | any v => exact .any v
  | c h => exact .c h
  | mp id g h => exact aggO_rep hm (.mp id g h)
  | rowE id g n c h hc => exact aggO_rep hm (.rowE id g n c h hc)
  | row id n A c h hA => exact aggO_rep hm (.row id n A c h hA)
  | row0 id A h => exact aggO_rep hm (.row0 id A h)
  | ptr id off g h => exact aggO_rep hm (.ptr id off g h)
  | rptr id k i off g n c h => exact aggO_rep hm (.rptr id k i off g n c h)
  | eptr b o off U cs h hr => exact .eptr b o off U cs h hr
theorem pos_mem {id : Nat} : ∀ {l : List Nat}, id ∈ l → ∃ j, pos id l = some j
  | x :: l, h => by
    unfold pos
    split
    · exact ⟨0, rfl⟩
    · rename_i hne
      rcases List.mem_cons.1 h with e | h
      · exact absurd e.symm hne
      · obtain ⟨j, hj⟩ := pos_mem h
        exact ⟨j + 1, by rw [hj]; rfl⟩
theorem dd_mem {x : Nat} : ∀ {l : List Nat}, x ∈ l → x ∈ dd l
  | y :: l, h => by
    unfold dd
    by_cases e : x = y
    · subst e; exact List.mem_cons_self ..
    · rcases List.mem_cons.1 h with e' | h
      · exact absurd e' e
      · exact List.mem_cons_of_mem _ (List.mem_filter.2 ⟨dd_mem h, by simpa using e⟩)
/-- blocks of the heap have a place -/
theorem Rel.m_of_h (R : Rel w0 Z Y m h sh w) {i : Nat} (hi : h i ≠ none) : m i ≠ none := by
  cases hb : h i with
  | none => exact absurd hb hi
  | some b =>
    cases b with
    | box cs => obtain ⟨g, hm, _⟩ := R.box i cs hb; rw [hm]; simp
    | row es => rcases R.row i es hb with ⟨hm, _⟩ | ⟨g, n, c, k, hm, _⟩ <;> (rw [hm]; simp)
    | tab es q v => obtain ⟨g, n, c, hm, _⟩ := R.tab i es q v hb; rw [hm]; simp
    | mp l => obtain ⟨g, hm, _⟩ := R.mp i l hb; rw [hm]; simp
/-- what a call on the caller's heap comes to -/
def HeapOk (P : Program) (f : FuncId) (args : List V) (s0 : St) (v : V) (s1 : St) : Prop :=
  ∀ (G : Nat → Option Value) (w0 : WB) (w : World) (Z Y : ZMap) (m : Nat → Option Value) (cargs : Array Value), Rel w0 Z Y m s0.h s0.sh w → (∀ i, m i ≠ none → i < s0.nx) → (∀ (i id : Nat) (u : Value), s0.og[i]? = some id → G i = some u → m id = some u) →
    cargs.size = args.length → (∀ (i : Nat) u x, cargs[i]? = some u → args[i]? = some x → Rep Z Y m u x) →
    Calls P f cargs w fun e w' => ∃ cv Z' m', e = .returned cv ∧ ZUp w0 Z Z' ∧ Rel w0 Z' Y m' s1.h s1.sh w' ∧ Rep Z' Y m' cv v ∧ (∀ (i id : Nat) (u : Value), s1.og[i]? = some id → G i = some u → m' id = some u) ∧ ∀ i, m' i ≠ none → i < s1.nx
/-- blocks that are handed on -/
def handA (m : Nat → Option Value) (h : Nat → Option B) (K : List Nat) (g : Nat) : Prop := ∃ id, id ∈ K ∧ h id ≠ none ∧ blkOf m id = some g
theorem onlyB_some {K : List Nat} {h : Nat → Option B} {id : Nat} {b : B} (e : onlyB K h id = some b) : id ∈ K ∧ h id = some b := by
  unfold onlyB at e
  split at e
  · rename_i hk; exact ⟨hk, e⟩
  · cases e
theorem handA_own {h : Nat → Option B} {sh : Nat → Bool} (R : Rel w0 Z Y m h sh w) {K : List Nat} {g : Nat} (hg : handA m h K g) : w0.own g := by
  obtain ⟨id, _, h1, h2⟩ := hg
  exact (R.blk_lt h1 h2).2
theorem not_own {b o : Nat} {u : Value} (hy : w0.w.cell? ⟨b, o, none⟩ = some u) (ha : ¬ w0.A b) : ¬ w0.own b := by
  rintro (h | h)
  · have := cell_lt hy; omega
  · exact ha h
/-- a callee begins with what is handed on to it -/
theorem Rel.hand {h : Nat → Option B} {sh : Nat → Bool} (R : Rel w0 Z Y m h sh w) (K : List Nat) : Rel ⟨w, handA m h K⟩ Z Y m (onlyB K h) sh w := by
  have hb : ∀ id b g, onlyB K h id = some b → blkOf m id = some g → (⟨w, handA m h K⟩ : WB).own g := fun id b g e1 e2 => .inr ⟨id, (onlyB_some e1).1, by rw [(onlyB_some e1).2]; simp, e2⟩
  refine ⟨Frm.refl _ _, ⟨R.bel.gw R.gw, GB.of R.bel R.gw fun g hg => handA_own R hg⟩, R.zok, fun b o u hy => ⟨R.yok' hy, fun ha => not_own (R.yok _ _ _ hy).1 (R.yok _ _ _ hy).2 (handA_own R ha)⟩, fun id cs hi => ?_, fun id es hi => ?_, fun id es i v hi => ?_, fun id l hi => ?_, fun id id' g h1 h2 => ?_⟩
  · obtain ⟨g, hm, hat⟩ := R.box id cs (onlyB_some hi).2
    exact ⟨g, hm, ⟨hb id _ g hi (by simp [blkOf, hm]), hat.ex, hat.apart⟩⟩
  · rcases R.row id es (onlyB_some hi).2 with h0 | ⟨g, n, c, k, hm, hat⟩
    · exact .inl h0
    · exact .inr ⟨g, n, c, k, hm, ⟨hb id _ g hi (by simp [blkOf, hm]), hat.ex, hat.len, hat.le, hat.max, hat.pos, hat.zero, hat.each, hat.apart⟩⟩
  · obtain ⟨g, n, c, hm, hat⟩ := R.tab id es i v (onlyB_some hi).2
    exact ⟨g, n, c, hm, ⟨hb id _ g hi (by simp [blkOf, hm]), hat.ex, hat.len, hat.le, hat.apart⟩⟩
  · obtain ⟨g, hm, hat⟩ := R.mp id l (onlyB_some hi).2
    exact ⟨g, hm, ⟨hb id _ g hi (by simp [blkOf, hm]), hat.ex⟩⟩
  · refine R.inj id id' g ?_ ?_
    · cases e : onlyB K h id with
      | none => exact absurd e h1
      | some b => rw [(onlyB_some e).2]; simp
    · cases e : onlyB K h id' with
      | none => exact absurd e h2
      | some b => rw [(onlyB_some e).2]; simp
theorem renO_box {r : Nat → Option Nat} {b : B} {cs : List V} (e : b.renO r = .box cs) : ∃ cs0, b = .box cs0 ∧ cs = cs0.map (aggO r) := by
  cases b with
  | box cs0 => injection e with e; exact ⟨cs0, rfl, e.symm⟩
  | row es => cases e
  | tab es i v => cases e
  | mp l => cases e
theorem renO_row {r : Nat → Option Nat} {b : B} {es : List (List C)} (e : b.renO r = .row es) : b = .row es := by
  cases b with
  | box cs0 => cases e
  | row es0 => injection e with e; rw [e]
  | tab es i v => cases e
  | mp l => cases e
theorem renO_tab {r : Nat → Option Nat} {b : B} {es : List (List C)} {i : Nat} {v : V} (e : b.renO r = .tab es i v) : ∃ v0, b = .tab es i v0 ∧ v = aggO r v0 := by
  cases b with
  | box cs0 => cases e
  | row es0 => cases e
  | tab es0 i0 v0 => injection e with a1 a2 a3; subst a1 a2; exact ⟨v0, rfl, a3.symm⟩
  | mp l => cases e
theorem renO_mp {r : Nat → Option Nat} {b : B} {l : List (ByteArray × ByteArray)} (e : b.renO r = .mp l) : b = .mp l := by
  cases b with
  | box cs0 => cases e
  | row es0 => cases e
  | tab es i v => cases e
  | mp l => injection e with e; rw [e]
/-- the caller's places behind a call -/
def bkM (base : Nat) (s1 : St) (m' m : Nat → Option Value) : Nat → Option Value := fun i => if base ≤ i ∧ i < base + s1.nx then m' (i - base) else m i
section
variable {Z' : ZMap} {K og : List Nat} {base : Nat} {s1 : St}
theorem bkM_le (hfr : ∀ i, base ≤ i → i < base + s1.nx → m i = none ∧ h i = none) : MLe m (bkM base s1 m' m) := fun i v hv => by
  unfold bkM
  rw [if_neg (fun hc => by rw [(hfr i hc.1 hc.2).1] at hv; cases hv)]
  exact hv
theorem bk_ren (R : Rel w0 Z Y m h sh w) (hu : ∀ i, m' i ≠ none → i < s1.nx) (hfr : ∀ i, base ≤ i → i < base + s1.nx → m i = none ∧ h i = none) (hog : ∀ id ∈ og, id ∈ K ∧ h id ≠ none) (hlen : s1.og.length = og.length)
    (hG : ∀ (q j : Nat) (u : Value), s1.og[q]? = some j → (og[q]?).bind m = some u → m' j = some u) : ∀ j i u, (fun j => some (bkR og base s1.og j)) j = some i → m' j = some u → bkM base s1 m' m i = some u := by
  intro j i u hi hj
  injection hi with hi
  unfold bkR at hi
  cases hp : pos j s1.og with
  | none =>
    rw [hp] at hi
    simp only at hi
    subst hi
    have := hu j (by rw [hj]; simp)
    unfold bkM
    rw [if_pos ⟨by omega, by omega⟩, Nat.add_sub_cancel_left]
    exact hj
  | some q =>
    rw [hp] at hi
    simp only at hi
    have hq := pos_get hp
    have hql : q < og.length := by rw [← hlen]; exact (List.getElem?_eq_some_iff.1 hq).1
    have he : og[q]? = some i := by rw [List.getElem?_eq_getElem hql, ← hi, List.getD_eq_getElem?_getD, List.getElem?_eq_getElem hql]; rfl
    obtain ⟨_, hn⟩ := hog i (List.mem_of_getElem? he)
    obtain ⟨u0, hu0⟩ : ∃ u0, m i = some u0 := by cases hc : m i with | none => exact absurd hc (R.m_of_h hn) | some u0 => exact ⟨u0, rfl⟩
    have := hG q j u0 hq (by rw [he]; exact hu0)
    rw [hj] at this
    injection this with this; subst this
    exact bkM_le hfr _ _ hu0
/-- where a block behind a call comes from -/
theorem bk_key (R : Rel w0 Z Y m h sh w) (_hfr : ∀ i, base ≤ i → i < base + s1.nx → m i = none ∧ h i = none) (hog : ∀ id ∈ og, id ∈ K ∧ h id ≠ none)
    (hG : ∀ (q j : Nat) (u : Value), s1.og[q]? = some j → (og[q]?).bind m = some u → m' j = some u) {id : Nat} {b' : B} (hb : bkH K og base s1 h id = some b') :
    (∃ j b, s1.h j = some b ∧ b' = b.renO (fun j => some (bkR og base s1.og j)) ∧ (∀ u, m' j = some u → bkM base s1 m' m id = some u) ∧ bkS K og base s1 sh id = s1.sh j ∧ ((id = base + j ∧ j ∉ s1.og) ∨ (h id ≠ none ∧ bkM base s1 m' m id = m id ∧ j ∈ s1.og))) ∨
    (id ∉ K ∧ h id = some b' ∧ bkM base s1 m' m id = m id ∧ bkS K og base s1 sh id = sh id) := by
  unfold bkH at hb
  by_cases hr : base ≤ id ∧ id < base + s1.nx
  · rw [if_pos hr] at hb
    split at hb
    · cases hb
    · rename_i ho
      cases hs : s1.h (id - base) with
      | none => rw [hs] at hb; cases hb
      | some b =>
        rw [hs] at hb
        injection hb with hb
        exact .inl ⟨id - base, b, hs, hb.symm, fun u hu => by unfold bkM; rw [if_pos hr]; exact hu, by unfold bkS; rw [if_pos hr], .inl ⟨by omega, ho⟩⟩
  · rw [if_neg hr] at hb
    have hm : bkM base s1 m' m id = m id := by unfold bkM; rw [if_neg hr]
    split at hb
    · rename_i hK
      cases hp : pos id og with
      | none => rw [hp] at hb; cases hb
      | some q =>
        rw [hp] at hb
        simp only at hb
        cases ho : s1.og[q]? with
        | none => rw [ho] at hb; cases hb
        | some j =>
          rw [ho] at hb
          simp only [Option.bind_some] at hb
          cases hs : s1.h j with
          | none => rw [hs] at hb; cases hb
          | some b =>
            rw [hs] at hb
            injection hb with hb
            have he := pos_get hp
            obtain ⟨_, hn⟩ := hog id (List.mem_of_getElem? he)
            obtain ⟨u0, hu0⟩ : ∃ u0, m id = some u0 := by cases hc : m id with | none => exact absurd hc (R.m_of_h hn) | some u0 => exact ⟨u0, rfl⟩
            have hj := hG q j u0 ho (by rw [he]; exact hu0)
            exact .inl ⟨j, b, hs, hb.symm, fun u hu => by rw [hm, hu0, ← hj, hu], by unfold bkS; rw [if_neg hr, if_pos hK, hp]; simp [ho], .inr ⟨hn, hm, List.mem_of_getElem? ho⟩⟩
    · rename_i hK
      exact .inr ⟨hK, hb, hm, by unfold bkS; rw [if_neg hr, if_neg hK]⟩
/-- the caller's blocks behind a call: those that the callee gives back, those that were kept aside -/
theorem Rel.back {w' : World} (R : Rel w0 Z Y m h sh w) (Rc : Rel ⟨w, handA m h K⟩ Z' Y m' s1.h s1.sh w') (hz : ZUp ⟨w, handA m h K⟩ Z Z') (hu : ∀ i, m' i ≠ none → i < s1.nx) (hfr : ∀ i, base ≤ i → i < base + s1.nx → m i = none ∧ h i = none) (hog : ∀ id ∈ og, id ∈ K ∧ h id ≠ none) (hlen : s1.og.length = og.length)
    (hG : ∀ (q j : Nat) (u : Value), s1.og[q]? = some j → (og[q]?).bind m = some u → m' j = some u) : Rel w0 Z' Y (bkM base s1 m' m) (bkH K og base s1 h) (bkS K og base s1 sh) w' := by
  have hren := bk_ren R hu hfr hog hlen hG
  have hle : MLe m (bkM base s1 m' m) := bkM_le hfr
  have hown : ∀ g, (⟨w, handA m h K⟩ : WB).own g → w0.own g := fun g hg => by
    rcases hg with hg | hg
    · exact .inl (Nat.le_trans R.bel.size hg)
    · exact handA_own R hg
  have hfar : ∀ id g, h id ≠ none → id ∉ K → blkOf m id = some g → g < w.heap.size ∧ ¬ handA m h K g := fun id g h1 h2 h3 => by
    refine ⟨(R.blk_lt h1 h3).1, ?_⟩
    rintro ⟨id', k1, k2, k3⟩
    exact h2 (R.inj id id' g h1 k2 h3 k3 ▸ k1)
  have hkeep : ∀ id g, h id ≠ none → id ∉ K → blkOf m id = some g → w'.heap[g]? = w.heap[g]? := fun id g h1 h2 h3 => Rc.bel.block g (hfar id g h1 h2 h3).1 (hfar id g h1 h2 h3).2
  have hzk : ∀ id g o, h id ≠ none → id ∉ K → blkOf m id = some g → Z' g o ≠ none → Z g o ≠ none := fun id g o h1 h2 h3 hn => by
    cases e : Z' g o with
    | none => exact absurd e hn
    | some u =>
      rcases hz.own g o u e with h | h
      · rw [h]; simp
      · rcases h with h | h
        · have := (hfar id g h1 h2 h3).1; simp only at h; omega
        · exact absurd h (hfar id g h1 h2 h3).2
  have key : ∀ {id b'}, bkH K og base s1 h id = some b' → _ := fun {id b'} hb => bk_key (sh := sh) R hfr hog hG (id := id) (b' := b') hb
  refine ⟨?_, R.gw, Rc.zok, R.yok, fun id cs hi => ?_, fun id es hi => ?_, fun id es i v hi => ?_, fun id l hi => ?_, fun id id' g h1 h2 e1 e2 => ?_⟩
  · refine Frm.trans R.bel Rc.bel fun k hk hlt => ?_
    rcases handA_own R hk with h | h
    · omega
    · exact h
  · rcases key hi with ⟨j, b, hs, hb, hmj, _, _⟩ | ⟨hK, hb, hmi, _⟩
    · obtain ⟨cs0, rfl, rfl⟩ := renO_box hb.symm
      obtain ⟨g, hmg, hat⟩ := Rc.box j cs0 hs
      obtain ⟨t, vs, hv, hr⟩ := hat.ex
      refine ⟨g, hmj _ hmg, ⟨hown g hat.base, ⟨t, vs, hv, ?_⟩, hat.apart⟩⟩
      cases hr with
      | agg _ _ hll ho hrr => exact .agg vs _ (by simp [hll]) ho (map_rep (fun v x h => aggO_rep hren h) hrr)
    · obtain ⟨g, hmg, hat⟩ := R.box id cs hb
      obtain ⟨t, vs, hv, hr⟩ := hat.ex
      have hg : blkOf m id = some g := by simp [blkOf, hmg]
      refine ⟨g, by rw [hmi]; exact hmg, ⟨hat.base, ⟨t, vs, (hkeep id g (by rw [hb]; simp) hK hg).trans hv, hr.mono hz.le hle⟩, fun o => ?_⟩⟩
      cases e : Z' g o with
      | none => rfl
      | some u => exact absurd (hat.apart o) (hzk id g o (by rw [hb]; simp) hK hg (by rw [e]; simp))
  · rcases key hi with ⟨j, b, hs, hb, hmj, hsh, _⟩ | ⟨hK, hb, hmi, hsh⟩
    · have := renO_row hb.symm
      subst this
      rw [hsh]
      rcases Rc.row j es hs with ⟨h0, h1⟩ | ⟨g, n, c, k, hm, hat⟩
      · exact .inl ⟨hmj _ h0, h1⟩
      · exact .inr ⟨g, n, c, k, hmj _ hm, ⟨hown g hat.base, hat.ex, hat.len, hat.le, hat.max, hat.pos, hat.zero, hat.each, hat.apart⟩⟩
    · rw [hsh]
      rcases R.row id es hb with ⟨h0, h1⟩ | ⟨g, n, c, k, hmg, hat⟩
      · exact .inl ⟨by rw [hmi]; exact h0, h1⟩
      · have hg : blkOf m id = some g := by simp [blkOf, hmg]
        obtain ⟨t, fz, cur, hv, h1, h2, h3⟩ := hat.ex
        refine .inr ⟨g, n, c, k, by rw [hmi]; exact hmg, ⟨hat.base, ⟨t, fz, cur, (hkeep id g (by rw [hb]; simp) hK hg).trans hv, h1, h2, fun i e q x a b => ?_⟩, hat.len, hat.le, hat.max, hat.pos, hat.zero, hat.each, fun o ho => hat.apart o (hzk id g o (by rw [hb]; simp) hK hg ho)⟩⟩
        obtain ⟨u, hu1, hu2⟩ := h3 i e q x a b
        exact ⟨u, hu1, hu2.mono hz.le⟩
  · rcases key hi with ⟨j, b, hs, hb, hmj, _, _⟩ | ⟨hK, hb, hmi, _⟩
    · obtain ⟨v0, rfl, rfl⟩ := renO_tab hb.symm
      obtain ⟨g, n, c, hmg, hat⟩ := Rc.tab j _ _ _ hs
      obtain ⟨t, fz, cur, hv, hcs, hfz, hcell⟩ := hat.ex
      refine ⟨g, n, c, hmj _ hmg, ⟨hown g hat.base, ⟨t, fz, cur, hv, hcs, hfz, fun q x hx => ?_⟩, by have := hat.len; simpa [tabC] using this, hat.le, hat.apart⟩⟩
      have hq : q < es.length := by have := (List.getElem?_eq_some_iff.1 hx).1; simpa [tabC] using this
      by_cases hqi : q = i
      · subst hqi
        unfold tabC at hx
        rw [List.getElem?_set_self (by simpa using hq)] at hx
        injection hx with hx; subst hx
        obtain ⟨u, a, b, r⟩ := hcell q v0 (by unfold tabC; rw [List.getElem?_set_self (by simpa using hq)])
        exact ⟨u, a, b, aggO_rep hren r⟩
      · unfold tabC at hx
        rw [List.getElem?_set_ne (Ne.symm hqi)] at hx
        obtain ⟨u, a, b, r⟩ := hcell q x (by unfold tabC; rw [List.getElem?_set_ne (Ne.symm hqi)]; exact hx)
        refine ⟨u, a, b, ?_⟩
        rw [List.getElem?_map, List.getElem?_eq_getElem hq] at hx
        injection hx with hx; subst hx
        unfold headV at r ⊢
        split at r
        · cases r with | c r => exact .c r
        · exact .any _
    · obtain ⟨g, n, c, hmg, hat⟩ := R.tab id _ _ _ hb
      have hg : blkOf m id = some g := by simp [blkOf, hmg]
      have hat' := hat.up hz.le hle (fun x hx => (hkeep id g (by rw [hb]; simp) hK hg).trans hx) (fun o => by
        cases e : Z' g o with
        | none => rfl
        | some u => exact absurd (hat.apart o) (hzk id g o (by rw [hb]; simp) hK hg (by rw [e]; simp)))
      exact ⟨g, n, c, by rw [hmi]; exact hmg, hat'⟩
  · rcases key hi with ⟨j, b, hs, hb, hmj, _, _⟩ | ⟨hK, hb, hmi, _⟩
    · have := renO_mp hb.symm
      subst this
      obtain ⟨g, hmg, hat⟩ := Rc.mp j _ hs
      exact ⟨g, hmj _ hmg, hown g hat.base, hat.ex⟩
    · obtain ⟨g, hmg, hat⟩ := R.mp id _ hb
      have hg : blkOf m id = some g := by simp [blkOf, hmg]
      obtain ⟨es, clock, hv, hr⟩ := hat.ex
      exact ⟨g, by rw [hmi]; exact hmg, hat.base, es, clock, (hkeep id g (by rw [hb]; simp) hK hg).trans hv, hr⟩
  · obtain ⟨b1, hb1⟩ : ∃ b, bkH K og base s1 h id = some b := by cases e : bkH K og base s1 h id with | none => exact absurd e h1 | some b => exact ⟨b, rfl⟩
    obtain ⟨b2, hb2⟩ : ∃ b, bkH K og base s1 h id' = some b := by cases e : bkH K og base s1 h id' with | none => exact absurd e h2 | some b => exact ⟨b, rfl⟩
    have tr : ∀ {i j : Nat} {b : B}, s1.h j = some b → (∀ u, m' j = some u → bkM base s1 m' m i = some u) → bkM base s1 m' m i = m' j := fun {i j b} hs hmj => by
      cases e : m' j with
      | none => exact absurd e (Rc.m_of_h (by rw [hs]; simp))
      | some u => exact hmj u e
    rcases key hb1 with ⟨j, b, hs, hb, hmj, _, ht⟩ | ⟨hK, hb, hmi, _⟩ <;> rcases key hb2 with ⟨j', b', hs', hb', hmj', _, ht'⟩ | ⟨hK', hb', hmi', _⟩
    · have q1 := tr hs hmj
      have q2 := tr hs' hmj'
      have hjj : j = j' := Rc.inj j j' g (by rw [hs]; simp) (by rw [hs']; simp) (by rw [← e1]; simp only [blkOf, q1]) (by rw [← e2]; simp only [blkOf, q2])
      subst hjj
      rcases ht with ⟨t1, t2⟩ | ⟨t1, t2, t3⟩ <;> rcases ht' with ⟨t1', t2'⟩ | ⟨t1', t2', t3'⟩
      · omega
      · exact absurd t3' t2
      · exact absurd t3 t2'
      · exact R.inj id id' g t1 t1' (by rw [← e1]; simp only [blkOf, t2]) (by rw [← e2]; simp only [blkOf, t2'])
    · have q1 := tr hs hmj
      have hg1 : blkOf m' j = some g := by rw [← e1]; simp only [blkOf, q1]
      have hg2 : blkOf m id' = some g := by rw [← e2]; simp only [blkOf, hmi']
      rcases (Rc.blk_lt (by rw [hs]; simp) hg1).2 with h | h
      · have := (hfar id' g (by rw [hb']; simp) hK' hg2).1; simp only at h; omega
      · exact absurd h (hfar id' g (by rw [hb']; simp) hK' hg2).2
    · have q2 := tr hs' hmj'
      have hg2 : blkOf m' j' = some g := by rw [← e2]; simp only [blkOf, q2]
      have hg1 : blkOf m id = some g := by rw [← e1]; simp only [blkOf, hmi]
      rcases (Rc.blk_lt (by rw [hs']; simp) hg2).2 with h | h
      · have := (hfar id g (by rw [hb]; simp) hK hg1).1; simp only at h; omega
      · exact absurd h (hfar id g (by rw [hb]; simp) hK hg1).2
    · exact R.inj id id' g (by rw [hb]; simp) (by rw [hb']; simp) (by rw [← e1]; simp only [blkOf, hmi]) (by rw [← e2]; simp only [blkOf, hmi'])
end
theorem ioOf_op {ch : FuncId → Option (List V → St → Option (V × St))} {r : Operand → V} {o : Op} {f : FuncId} {g : List V → St → Option (V × St)} {asx : List V} (h : ioOf P ch r o = some (f, g, asx)) : ∃ x args ats fn caps g0, o = .call { callee := .value x, args := args, argTypes := ats } ∧ r x = .fn g0 caps ∧ f = cFn g0 ∧ bodyOf P f = some fn ∧ ch f = some g ∧ asx = cAr g0 (args.toList.map r) caps := by
  unfold ioOf at h
  split at h
  · rename_i x args ats
    split at h
    · rename_i f' caps hx
      cases hb : bodyOf P (cFn f') with
      | none => rw [hb] at h; cases h
      | some fn =>
        rw [hb] at h
        simp only [Option.bind_some, Option.map_eq_some_iff] at h
        obtain ⟨g', hg, e⟩ := h
        injection e with e1 e2
        injection e2 with e2 e3
        subst e1 e2 e3
        exact ⟨x, args, ats, fn, caps, f', rfl, hx, rfl, hb, hg, rfl⟩
    · cases h
  · cases h
/-- a call on the caller's heap, asx the model runs it -/
theorem heapD_sim {ch : FuncId → Option (List V → St → Option (V × St))} (hch : ∀ f g args s0 v s1, ch f = some g → g args s0 = some (v, s1) → HeapOk P f args s0 v s1) {a : Act} {s : St} (hρ : ∀ x, Rep Z Y m (a.eval x) (rho s.t x)) (R : Rel w0 Z Y m s.h s.sh w) {N : Nat} (hN : ∀ i, m i ≠ none → i < N)
    {o : Oper} {f : FuncId} {g : List V → St → Option (V × St)} {asx : List V} (hio : ioOf P ch (rho s.t) o.op = some (f, g, asx)) {lv : List Nat} {base : Nat} (hfr : ∀ i, base ≤ i → i < base + 8 → m i = none ∧ s.h i = none) {y : V × (Nat → Option B) × (Nat → Bool)} (hy : heapD g asx N lv base s = some y) {K' : Act → World → Prop} {Q : Exit → Act → World → Prop}
    (hK' : ∀ cv w' Z' m', ZUp w0 Z Z' → MLe m m' → (∀ i, m' i ≠ none → m i ≠ none ∨ (base ≤ i ∧ i < base + 8)) → Rel w0 Z' Y m' y.2.1 y.2.2 w' → Rep Z' Y m' cv y.1 → K' (a.put o.dst cv) w') : o.wp P a w K' Q := by
  obtain ⟨fx, args, ats, fn, caps, g0, ho, hfx, hf0, hb, hg, has⟩ := ioOf_op hio
  unfold heapD at hy
  generalize hK : reach s.h asx = K at hy
  generalize hog : ogK K lv s = og at hy
  cases hx : g asx { t := fun _ => .any, h := onlyB K s.h, sh := s.sh, nx := N, lr := fun _ => [], lw := fun _ => [], og := og } with
  | none => rw [hx] at hy; cases hy
  | some x =>
    obtain ⟨v, s1⟩ := x
    rw [hx] at hy
    simp only [Option.bind_some] at hy
    split at hy
    case isFalse => cases hy
    rename_i hc
    obtain ⟨hlen, h8⟩ := hc
    injection hy with hy; subst hy
    have rf := hfx ▸ hρ fx
    generalize hvf : a.eval fx = vf at rf
    obtain ⟨cs, hcl, hcr, hvv, _⟩ := rf.fun
    subst has
    obtain ⟨hA1, hA2⟩ := cAr_rep (R := fun u v => Rep Z Y m u v) g0 (asx := args.map a.eval) (cs := cs) (xs := args.toList.map (rho s.t)) (ys := caps) (by simp) hcl (fun i u v hu hv => getElem?_map_toList hρ args i u v hu hv) hcr
    have hH := hch f g _ _ v s1 hg hx (fun j => (og[j]?).bind m) _ w Z Y m (cArr g0 (args.map a.eval) cs) (R.hand K) hN (fun i id u h1 h2 => by
      simp only at h1
      rw [h1] at h2
      exact h2) hA1 hA2
    obtain ⟨dst, op, ty, pos_, aft, gd⟩ := o
    simp only at ho
    subst ho
    have hrun : (execOp a.eval { dst := dst, op := .call { callee := .value fx, args := args, argTypes := ats }, type := ty, pos := pos_, after := aft, guard := gd }).run P w = .ok (.enter f (cArr g0 (args.map a.eval) cs)) w := by
      rcases hvv with ⟨hb1, rfl⟩ | ⟨hb1, rfl⟩
      · subst hf0
        simp only [cFn, hb1, cond_true] at hb
        simp only [execOp, resolve, hvf, Deferred.ofValue, Sem.run_bind, Sem.run_pure, Result.andThen_ok, invoke, Array.empty_append, bodyOf_call hb, cFn, cArr, hb1, cond_true]
      · subst hf0
        simp only [cFn, hb1, cond_false] at hb
        simp only [execOp, resolve, hvf, Deferred.ofValue, Sem.run_bind, Sem.run_pure, Result.andThen_ok, invoke, Array.append_empty, bodyOf_call hb, cFn, cArr, hb1, cond_false]
    unfold Oper.wp
    rw [hrun]
    refine hH.mono ?_
    rintro e w' ⟨cv, Z', m', rfl, hz', Rc, rep, hog', hmb'⟩
    have hfr' : ∀ i, base ≤ i → i < base + s1.nx → m i = none ∧ s.h i = none := fun i h1 h2 => hfr i h1 (by omega)
    have hogs : ∀ id ∈ og, id ∈ K ∧ s.h id ≠ none := fun id hid => by
      rw [← hog] at hid
      unfold ogK at hid
      obtain ⟨h1, h2⟩ := List.mem_filter.1 hid
      rw [Bool.and_eq_true] at h2
      refine ⟨h1, fun hn => ?_⟩
      rw [hn] at h2
      simp at h2
    have hG : ∀ q j u, s1.og[q]? = some j → (og[q]?).bind m = some u → m' j = some u := fun q j u h1 h2 => hog' q j u h1 h2
    have hzz : ZUp w0 Z Z' := ⟨hz'.le, fun b o u hbu => (hz'.own b o u hbu).imp id fun h => h.elim (fun h => .inl (Nat.le_trans R.bel.size h)) (handA_own R)⟩
    refine hK' cv w' Z' (bkM base s1 m' m) hzz (bkM_le hfr') (fun i hi => ?_) (R.back Rc hz' hmb' hfr' hogs hlen hG) (topO_rep (bk_ren R hmb' hfr' hogs hlen hG) rep)
    unfold bkM at hi
    split at hi
    · rename_i hr; exact .inr ⟨hr.1, by omega⟩
    · exact .inl hi
end
end Go.Proofs.YtomnbknaanlmaaaGreatDoor
namespace Go.Proofs.YtomnbknaanlmaaaGreatDoor
open Go.RowKit
section
variable {P : Program} {Z Y : ZMap} {m : Nat → Option Value} {w0 : WB} {w w' : World} {h hv : Nat → Option B} {sh : Nat → Bool}
/-- the kit's datum of a map's entries -/
def litM (p : ByteArray × ByteArray) : Lit × DataW Unit := (.string p.1.data.toList, .lit (.string p.2.data.toList))
def datM (l : List (ByteArray × ByteArray)) : DataW Unit := .map (l.map litM)
theorem insM_lit (x : ByteArray × ByteArray) : ∀ l, (insM x l).map litM = DataW.insert (litM x) (l.map litM)
  | [] => rfl
  | y :: r => by
    show (bif befM x.1 y.1 then x :: y :: r else y :: insM x r).map litM = if (litM x).1.before (litM y).1 then _ else _
    have : (litM x).1.before (litM y).1 = befM x.1 y.1 := rfl
    rw [this]
    cases befM x.1 y.1 with
    | true => simp
    | false => simp [insM_lit x r]
theorem foldM_lit : ∀ l : List (ByteArray × ByteArray), (l.foldr insM []).map litM = (l.map litM).foldr DataW.insert []
  | [] => rfl
  | x :: l => by rw [List.foldr_cons, insM_lit, foldM_lit l]; rfl
theorem notKey_lit (k : ByteArray) (p : ByteArray × ByteArray) : (!(litM p).1.sameKey (.string k.data.toList)) = !(p.1.data.toList == k.data.toList) := rfl
theorem putM_lit (l : List (ByteArray × ByteArray)) (k v : ByteArray) : (datM l).put (.string k.data.toList) (.lit (.string v.data.toList)) = datM (putM l k v) := by
  unfold datM putM DataW.put
  simp only
  rw [insM_lit]
  congr 2
  induction l with
  | nil => rfl
  | cons p l ih =>
    rw [List.map_cons, List.filter_cons, List.filter_cons, notKey_lit]
    cases !(p.1.data.toList == k.data.toList) with
    | true => rw [if_pos rfl, if_pos rfl, List.map_cons, ih]
    | false => rw [if_neg (by simp), if_neg (by simp), ih]
theorem litM_inj {p q : ByteArray × ByteArray} (h : litM p = litM q) : p = q := by
  unfold litM at h
  injection h with h1 h2
  injection h1 with h1
  injection h2 with h2
  injection h2 with h2
  have e1 := Array.toList_inj.1 h1
  have e2 := Array.toList_inj.1 h2
  obtain ⟨⟨a⟩, ⟨b⟩⟩ := p
  obtain ⟨⟨c⟩, ⟨d⟩⟩ := q
  simp at e1 e2
  rw [e1, e2]
theorem insM_len (x : ByteArray × ByteArray) : ∀ l, (insM x l).length = l.length + 1
  | [] => rfl
  | y :: r => by unfold insM; cases befM x.1 y.1 <;> simp [insM_len x r]
theorem foldM_len : ∀ l : List (ByteArray × ByteArray), (l.foldr insM []).length = l.length
  | [] => rfl
  | x :: l => by rw [List.foldr_cons, insM_len, foldM_len l]; rfl
/-- how the kit reads a map of strings -/
abbrev RM (P : Program) (k : TypeId) : Value → Option (DataW Unit × List MemPlace) := plainElem P k
theorem keyOf_str {k : TypeId} (hk : P.underlying k = some .string) (v : Value) (l : Lit) : keyOf P k v = some l ↔ ∃ s, v = .string s ∧ s.size ≤ maxLen ∧ l = .string s.data.toList := by
  constructor
  · intro h
    cases v <;> simp [keyOf, hk, mapKey] at h
    exact ⟨_, rfl, h.1, h.2.symm⟩
  · rintro ⟨s, rfl, hs, rfl⟩
    simp [keyOf, hk, mapKey, hs]
theorem rd_str {k : TypeId} (hk : P.underlying k = some .string) {x : MapEntry} {a b : ByteArray} (hx : x.key = .string a) (hv : x.val = .string b) (ha : a.size ≤ maxLen) (hb : b.size ≤ maxLen) : WideElems.rd P k (RM P k) x = some (litM (a, b)) := by
  have h1 : keyOf P k x.key = some (.string a.data.toList) := (keyOf_str hk _ _).2 ⟨a, hx, ha, rfl⟩
  have h2 : RM P k x.val = some (.lit (.string b.data.toList), []) := by rw [hv]; exact plainElem_string hk hb
  obtain ⟨key, val, born⟩ := x
  exact WideElems.rd_mk h1 h2
theorem MapAt.owns {base : Nat → Prop} {g : Nat} {l : List (ByteArray × ByteArray)} (h : MapAt base w g l) {k : TypeId} (hk : P.underlying k = some .string) : w.ownsMap P k (RM P k) g l.length (datM l) := by
  obtain ⟨es, clock, hb, hsz, hst, hall, rfl⟩ := h.ex
  have hrg : es.toList.map (WideElems.rg P k (RM P k)) = (es.toList.map fun x => (strV x.key, strV x.val)).map litM := by
    rw [List.map_map]
    refine List.map_congr_left fun x hx => ?_
    obtain ⟨a, b, h1, h2, h3, h4⟩ := hall x hx
    rw [WideElems.rg_of (rd_str hk h1 h2 h3 h4), Function.comp, h1, h2]
    rfl
  refine ⟨es, clock, hb, ⟨hsz, hst, fun x hx => ?_⟩, ?_, ?_⟩
  · obtain ⟨a, b, h1, h2, h3, h4⟩ := hall x hx
    exact ⟨_, rd_str hk h1 h2 h3 h4⟩
  · rw [foldM_len]; simp
  · rw [hrg, ← foldM_lit]
    rfl
theorem MapAt.of_owns {base : Nat → Prop} {g n : Nat} {D : DataW Unit} (hg : base g) {k : TypeId} (hk : P.underlying k = some .string) (h : w.ownsMap P k (RM P k) g n D) : ∃ l, D = datM l ∧ MapAt base w g l ∧ l.length ≤ n := by
  obtain ⟨es, clock, hb, F, hn, rfl⟩ := h
  have hall : ∀ x ∈ es.toList, ∃ a b, x.key = .string a ∧ x.val = .string b ∧ a.size ≤ maxLen ∧ b.size ≤ maxLen := fun x hx => by
    obtain ⟨y, hy⟩ := F.reads x hx
    obtain ⟨a, h1, h2, _⟩ := (keyOf_str hk _ _).1 (WideElems.rd_key hy)
    obtain ⟨z, hz, _⟩ := WideElems.rd_val hy
    unfold RM plainElem at hz
    rw [hk] at hz
    split at hz
    · rename_i e _; cases e
    · rename_i e _; cases e
    · rename_i s _ hv
      split at hz
      · rename_i hs; exact ⟨a, _, h1, hv, h2, hs⟩
      · cases hz
    · cases hz
  have hrg : es.toList.map (WideElems.rg P k (RM P k)) = (es.toList.map fun x => (strV x.key, strV x.val)).map litM := by
    rw [List.map_map]
    refine List.map_congr_left fun x hx => ?_
    obtain ⟨a, b, h1, h2, h3, h4⟩ := hall x hx
    rw [WideElems.rg_of (rd_str hk h1 h2 h3 h4), Function.comp, h1, h2]
    rfl
  refine ⟨(es.toList.map fun x => (strV x.key, strV x.val)).foldr insM [], ?_, ⟨hg, es, clock, hb, F.size, F.stamped, hall, rfl⟩, ?_⟩
  · rw [hrg, ← foldM_lit]
    rfl
  · rw [foldM_len]; simpa using hn
theorem datM_inj {a b : List (ByteArray × ByteArray)} (h : datM a = datM b) : a = b := by
  injection h with h
  exact List.map_inj_right (fun _ _ h => litM_inj h) |>.1 h
/-- a block that is a map was written -/
theorem Rel.write_map (R : Rel w0 Z Y m h sh w) {id g : Nat} {l l' : List (ByteArray × ByteArray)} (hi : h id = some (.mp l)) (hm : m id = some (.map (some g))) (hw : Wr g w w') (hat : MapAt w0.own w' g l') : Rel w0 Z Y m (upd h id (some (.mp l'))) sh w' := by
  obtain ⟨g', hm', hat0⟩ := R.mp id l hi
  rw [hm] at hm'
  injection hm' with hm'; injection hm' with hm'; injection hm' with hm'; subst hm'
  have hW := R.write (b' := .mp l') (v := .map (some g)) (sh' := sh) (base := id) hi (by simp [blkOf, hm]) hw (.inl rfl) (fun _ _ _ _ => rfl) (fun o u hz => by
    obtain ⟨es, clock, hb, _⟩ := hat0.ex
    have := R.zok _ _ _ hz
    simp [World.cell?, hb] at this) (fun _ => hm) (.inr (.inr (.inr ⟨l', rfl, rfl, hat⟩)))
  rw [upd_same, upd_id hm] at hW
  exact hW
theorem wr_grown {g : Nat} (h : w.grownBy w' (some g)) (hs : w'.heap.size = w.heap.size) : Wr g w w' :=
  ⟨h.os, h.tape, h.output, hs, fun k hk => by
    rcases Nat.lt_or_ge k w.heap.size with hlt | hge
    · exact h.block k hlt (fun e => hk (by injection e))
    · rw [Array.getElem?_eq_none hge, Array.getElem?_eq_none (by omega)]⟩
theorem setM_sim (R : Rel w0 Z Y m h sh w) {t : TypeId} {M K X : V} {vm vk vx : Value} {y : V × (Nat → Option B) × (Nat → Bool)} (hst : setM P h sh t M K X = some y) (rm : Rep Z Y m vm M) (rk : Rep Z Y m vk K) (rx : Rep Z Y m vx X) :
    ∃ w', Rel w0 Z Y m y.2.1 y.2.2 w' ∧ y.1 = .any ∧ (Instr.mapUpdate t vm vk vx).run P w = .ok () w' := by
  unfold setM at hst
  split at hst
  case h_2 => cases hst
  rename_i kt et id k v hu
  cases hs : isStrT P kt with
  | false => rw [hs] at hst; cases hst
  | true =>
  rw [hs] at hst
  simp only [cond_true] at hst
  split at hst
  case h_2 => cases hst
  rename_i l hl
  split at hst
  case isFalse => cases hst
  rename_i hc
  injection hst with hst; subst hst
  have hk : P.underlying kt = some .string := by
    unfold isStrT at hs
    split at hs
    · rename_i e; exact e
    · cases hs
  cases rk with | c rk =>
  cases rk
  cases rx with | c rx =>
  cases rx
  cases rm with | mp _ g hm =>
  obtain ⟨g', hm', hat⟩ := R.mp id l hl
  rw [hm] at hm'
  injection hm' with hm'; injection hm' with hm'; injection hm' with hm'; subst hm'
  have ho := hat.owns hk
  obtain ⟨w1, hrun, ho1, hg1⟩ := ho.update (t := t) (e := et) (Maps.string_keyed hk) hu hc.2.2 (key := .string k) (val := .string v) ((keyOf_str hk _ _).2 ⟨k, rfl, hc.1, rfl⟩) (plainElem_string hk hc.2.1)
  rw [putM_lit] at ho1
  obtain ⟨l', hl', hat', _⟩ := MapAt.of_owns (base := w0.own) hat.base hk ho1
  have := datM_inj hl'
  subst this
  have hsz : w1.heap.size = w.heap.size := by
    obtain ⟨es, clock, hb, F, _, _⟩ := ho
    have hes : es.size ≤ l.length := by
      obtain ⟨es2, c2, hb2, _, _, _, h3⟩ := hat.ex
      have hb3 := Option.some.inj (hb2.symm.trans hb)
      have hb4 : es2 = es := by cases hb3; rfl
      rw [h3, foldM_len, ← hb4, List.length_map, Array.length_toList]
      exact Nat.le_refl _
    obtain ⟨es', clock', hrun', _⟩ := Maps.fit_store (R' := RM P kt) (Maps.string_keyed hk) hu hb F (Nat.lt_of_le_of_lt hes hc.2.2) (fun _ _ _ _ hz => hz) (key := .string k) (val := .string v) ((keyOf_str hk _ _).2 ⟨k, rfl, hc.1, rfl⟩) (plainElem_string hk hc.2.1)
    rw [hrun'] at hrun
    injection hrun with _ hrun
    rw [← hrun]
    simp [ChangeMaps.setBlock]
  exact ⟨w1, R.write_map hl hm (wr_grown hg1 hsz) hat', rfl, hrun⟩
end
end Go.Proofs.YtomnbknaanlmaaaGreatDoor
namespace Go.Proofs.YtomnbknaanlmaaaGreatDoor
open Go.RowKit
section
variable {P : Program} {Z Y : ZMap} {m : Nat → Option Value} {w0 : WB} {w w' : World} {h hv : Nat → Option B} {sh : Nat → Bool}
theorem byte_one {e : TypeId} {i : TypeInfo} (hb : isByteT P e = true) (hi : P.info? e = some i) : i.size = 1 := by
  simp only [isByteT, Bool.and_eq_true, szO, hi, Option.map_some, beq_iff_eq, Option.some.injEq] at hb
  exact hb.2
theorem ev2_sim {a : Act} {r : Operand → V} (hρ : ∀ x, Rep Z Y m (a.eval x) (r x)) (R : Rel w0 Z Y m h sh w) {o : Oper} {base : Nat} (hmb : m base = none) (hhb : h base = none) {res : V × (Nat → Option B) × (Nat → Bool)} (hev : ev2 P h sh r base o.op = some res) {K : Act → World → Prop} {Q : Exit → Act → World → Prop}
    (hK : ∀ cv w' Z' m', ZUp w0 Z Z' → MLe m m' → (∀ i, m' i ≠ none → m i ≠ none ∨ i = base) → Rel w0 Z' Y m' res.2.1 res.2.2 w' → Rep Z' Y m' cv res.1 → K (a.put o.dst cv) w') : o.wp P a w K Q := by
  obtain ⟨dst, op, ty, pos, aft, gd⟩ := o
  simp only at hev hK
  unfold ev2 at hev
  split at hev
  · rename_i t x v
    cases hst : storeV P h sh t (r x) (r v) with
    | none => rw [hst] at hev; cases hev
    | some y =>
      rw [hst] at hev
      injection hev with hev; subst hev
      obtain ⟨Z', w1, u1, R1, hrun⟩ := storeV_sim R hst (hρ x) (hρ v)
      unfold Oper.wp
      have : (execOp a.eval { dst := dst, op := .store t x v, type := ty, pos := pos, after := aft, guard := gd }).run P w = .ok .skip w1 := by simp only [execOp, Sem.run_bind, hrun, Result.andThen_ok, Sem.run_pure]
      rw [this]
      exact hK undef w1 Z' m u1 (MLe.refl m) (fun i hi => .inl hi) R1 (.any _)
  · rename_i t x k v
    obtain ⟨w1, R1, he, hrun⟩ := setM_sim R hev (hρ x) (hρ k) (hρ v)
    unfold Oper.wp
    have : (execOp a.eval { dst := dst, op := .mapUpdate t x k v, type := ty, pos := pos, after := aft, guard := gd }).run P w = .ok .skip w1 := by simp only [execOp, Sem.run_bind, hrun, Result.andThen_ok, Sem.run_pure]
    rw [this]
    exact hK undef w1 Z m ZUp.refl (MLe.refl m) (fun i hi => .inl hi) R1 (by rw [he]; exact .any _)
  · rename_i args ats
    split at hev
    · rename_i t t' s x ht hs
      split at hev
      · rename_i e e' hu hu'
        obtain ⟨Z', w1, cv, mv, u1, R1, r1, hrun⟩ := apdV_sim (t' := t') (vx := a.eval x) (ty := ty) R hu hmb hhb hev (hρ s) (fun i' f' xs' _ hk' hf' hxs' hxk' => src_slice R hu' (hρ x) hk' hf' hxs' hxk')
        have ea : args = #[s, x] := by rw [← Array.toList_inj]; exact hs
        have et : ats = #[t, t'] := by rw [← Array.toList_inj]; exact ht
        subst ea et
        refine wp_value (cv := cv) (w' := w1) ?_ (hK cv w1 Z' _ u1 (MLe.up hmb) (fun i hi => ?_) R1 r1)
        · simp only [execOp, resolve, invoke, builtin, Sem.run_bind, Sem.run_pure, Result.andThen_ok, List.map_toArray, List.map_cons, List.map_nil, hrun]
        · by_cases e : i = base
          · exact .inr e
          · left; simpa [upd, e] using hi
      · rename_i e hu hu'
        cases hb : isByteT P e with
        | false => rw [hb] at hev; cases hev
        | true =>
        rw [hb] at hev
        simp only [cond_true] at hev
        obtain ⟨Z', w1, cv, mv, u1, R1, r1, hrun⟩ := apdV_sim (t' := t') (vx := a.eval x) (ty := ty) R hu hmb hhb hev (hρ s) (fun i' f' xs' hi' hk' hf' hxs' hxk' => src_str R hu' (hρ x) (byte_one hb hi') hf' hxs')
        have ea : args = #[s, x] := by rw [← Array.toList_inj]; exact hs
        have et : ats = #[t, t'] := by rw [← Array.toList_inj]; exact ht
        subst ea et
        refine wp_value (cv := cv) (w' := w1) ?_ (hK cv w1 Z' _ u1 (MLe.up hmb) (fun i hi => ?_) R1 r1)
        · simp only [execOp, resolve, invoke, builtin, Sem.run_bind, Sem.run_pure, Result.andThen_ok, List.map_toArray, List.map_cons, List.map_nil, hrun]
        · by_cases e : i = base
          · exact .inr e
          · left; simpa [upd, e] using hi
      · cases hev
    · cases hev
  · cases hev
/-- a frame of the machine and one of the model -/
structure FrS (D : List Deferred) (G : Nat → Option Value) (w0 : WB) (Z Y : ZMap) (m : Nat → Option Value) (nt : Nat) (s : St) (a : Act) (w : World) : Prop where
  fr : Fr Z Y m nt s.t a
  rel : Rel w0 Z Y m s.h s.sh w
  og : ∀ (i id : Nat) (v : Value), s.og[i]? = some id → G i = some v → m id = some v
  df : a.defers = D
theorem put_df (a : Act) (d : Option Nat) (v : Value) : (a.put d v).defers = a.defers := by cases d <;> rfl
theorem og_le {G m m' : Nat → Option Value} {og : List Nat} (h : ∀ (i id : Nat) (v : Value), og[i]? = some id → G i = some v → m id = some v) (hm : MLe m m') : ∀ (i id : Nat) (v : Value), og[i]? = some id → G i = some v → m' id = some v := fun i id v a b => hm _ _ (h i id v a b)
theorem wanted_sim {nt : Nat} {t : Nat → V} {a : Act} {ops : Array Oper} {o : Oper} {b : Bool} (hf : Fr Z Y m nt t a) (hw : wantedV ops t o = some b) : Region.wanted o (yielded ops a.tmps) = b := by
  unfold wantedV at hw
  unfold Region.wanted
  cases hg : o.guard with
  | none => rw [hg] at hw; injection hw
  | some gw =>
    obtain ⟨j, want⟩ := gw
    rw [hg] at hw
    simp only at hw ⊢
    cases hd : (ops[j]?).bind (·.dst) with
    | none => rw [hd] at hw; cases hw
    | some d =>
      rw [hd] at hw
      simp only [Option.map_some] at hw
      have hr := hf.rep d
      unfold yielded
      rw [hd]
      simp only [Option.bind_some]
      rw [Array.getD_eq_getD_getElem?] at hr
      split at hw
      · rename_i q hq
        injection hq with hq
        rw [hq] at hr
        have := rep_bool hr
        cases hx : a.tmps[d]? with
        | none => rw [hx] at this; cases this
        | some u =>
          rw [hx] at this
          simp only [Option.getD_some] at this
          subst this
          injection hw with hw
      · rename_i vs hq
        injection hq with hq
        rw [hq] at hr
        injection hw with hw
        subst hw
        cases hx : a.tmps[d]? with
        | none => rfl
        | some u =>
          rw [hx] at hr
          simp only [Option.getD_some] at hr
          cases hr
          rfl
      · cases hw
theorem isIo_no {o : Op} : isIo (fun _ => false) o = false := by unfold isIo; split <;> rfl
theorem opD_sim {D : List Deferred} {G : Nat → Option Value} {hp : HP} (hcall : ∀ g args res, hp.call g args = some res → CallOk P g args res) {nt : Nat} {ops : Array Oper} {o : Oper} (hch : isIo hp.io o.op = true → ∀ f g args s0 v s1, hp.ch f = some g → g args s0 = some (v, s1) → HeapOk P f args s0 v s1) (hN : isIo hp.io o.op = true → ∀ i, m i ≠ none → i < hp.N) {base : Nat} {s s' : St} {a : Act} (F : FrS D G w0 Z Y m nt s a w) (hs : ∀ id b, hv id = some b → s.h id = some b) (hfr : ∀ i, base ≤ i → i < base + 8 → m i = none ∧ s.h i = none)
    (hst : opD P hp nt ops hv base o s = some s') {K : Act → World → Prop} {Q : Exit → Act → World → Prop}
    (hK : ∀ a' w' Z' m', ZUp w0 Z Z' → MLe m m' → (∀ i, m' i ≠ none → m i ≠ none ∨ (base ≤ i ∧ i < base + 8)) → FrS D G w0 Z' Y m' nt s' a' w' → K a' w') :
    if Region.wanted o (yielded ops a.tmps) then o.wp P a w K Q else K (a.put o.dst undef) w := by
  unfold opD at hst
  split at hst
  case isFalse => cases hst
  rename_i hd
  cases hw : wantedV ops s.t o with
  | none => rw [hw] at hst; cases hst
  | some b =>
    rw [hw] at hst
    simp only [Option.bind_some] at hst
    rw [wanted_sim F.fr hw]
    cases b with
    | false =>
      simp only [Bool.false_eq_true, if_false] at hst ⊢
      injection hst with hst; subst hst
      exact hK _ _ Z m ZUp.refl (MLe.refl m) (fun i hi => .inl hi) ⟨F.fr.put o.dst hd (.tup #[] [] rfl (by simp)), F.rel, F.og, (put_df _ _ _).trans F.df⟩
    | true =>
      simp only [if_true] at hst ⊢
      split at hst
      · cases he : ev0 P (rho s.t) o.op with
        | none => rw [he] at hst; cases hst
        | some v =>
          rw [he] at hst
          injection hst with hst; subst hst
          obtain ⟨cv, h1, h2⟩ := ev0_sim (fun x => F.fr.eval x) he
          exact wp_value (h2 w) (hK _ _ Z m ZUp.refl (MLe.refl m) (fun i hi => .inl hi) ⟨F.fr.put o.dst hd h1, F.rel, F.og, (put_df _ _ _).trans F.df⟩)
      · cases he : ev1 P hp.call hv (rho s.t) base o.op with
        | none => rw [he] at hst; cases hst
        | some x =>
          rw [he] at hst
          simp only [Option.bind_some] at hst
          split at hst
          · rename_i h8
            injection hst with hst; subst hst
            refine ev1_sim hcall (fun x => F.fr.eval x) F.rel hs hfr he h8 (fun cv w' Z' m' u1 u2 u3 R1 r1 => hK _ _ Z' m' u1 u2 (fun i hi => (u3 i hi).imp id (fun h => ⟨h.1, by omega⟩)) ⟨(F.fr.mono u1.le u2).put o.dst hd r1, R1, og_le F.og u2, (put_df _ _ _).trans F.df⟩)
          · cases hst
      · cases he : ev2H P hp base o.op s with
        | none => rw [he] at hst; cases hst
        | some x =>
          rw [he] at hst
          injection hst with hst; subst hst
          have hb := hfr base (Nat.le_refl _) (by omega)
          unfold ev2H at he
          cases hi : isIo hp.io o.op with
          | true =>
            rw [hi, cond_true] at he
            cases hz : ioOf P hp.ch (rho s.t) o.op with
            | none => rw [hz] at he; cases he
            | some z =>
              obtain ⟨f, g, asx⟩ := z
              rw [hz] at he
              simp only [Option.bind_some] at he
              exact heapD_sim (hch hi) (fun x => F.fr.eval x) F.rel (hN hi) hz hfr he (fun cv w' Z' m' u1 u2 u3 R1 r1 => hK _ _ Z' m' u1 u2 u3 ⟨(F.fr.mono u1.le u2).put o.dst hd r1, R1, og_le F.og u2, (put_df _ _ _).trans F.df⟩)
          | false =>
          rw [hi, cond_false] at he
          exact ev2_sim (fun x => F.fr.eval x) F.rel hb.1 hb.2 he (fun cv w' Z' m' u1 u2 u3 R1 r1 => hK _ _ Z' m' u1 u2 (fun i hi => (u3 i hi).imp id (fun h => ⟨by omega, by omega⟩)) ⟨(F.fr.mono u1.le u2).put o.dst hd r1, R1, og_le F.og u2, (put_df _ _ _).trans F.df⟩)
end
end Go.Proofs.YtomnbknaanlmaaaGreatDoor
namespace Go.Proofs.YtomnbknaanlmaaaGreatDoor
open Go.RowKit
section
variable {P : Program}
theorem ev0_congr {r r' : Operand → V} {o : Op} (h : ∀ x ∈ o.operands, r x = r' x) : ev0 P r o = ev0 P r' o := by
  have pairs : ∀ ps : Array (Nat × Operand), (∀ x ∈ ps.toList.map (·.2), r x = r' x) → (ps.toList.map fun p => (p.1, r p.2)) = ps.toList.map fun p => (p.1, r' p.2) := fun ps hp =>
    List.map_congr_left fun p hm => by rw [hp p.2 (List.mem_map.2 ⟨p, hm, rfl⟩)]
  have arr : ∀ ps : Array Operand, (∀ x ∈ ps, r x = r' x) → ps.toList.map r = ps.toList.map r' := fun ps hp => List.map_congr_left fun p hm => hp p (by simpa using hm)
  cases o <;> simp only [Op.operands] at h <;> simp only [ev0]
  case build t ps => rw [pairs ps fun x hx => h x (by simpa using hx)]
  case makeFunc fn first caps =>
    cases fn <;> simp only
    rw [arr caps fun x hx => h x (by simp [hx]), arr first fun x hx => h x (by simp [hx])]
  case slice t x lo hi mx =>
    have hx : r x = r' x := h x (by simp)
    cases mx <;> simp only
    have hlo : lo.map r = lo.map r' := by cases lo <;> simp_all
    have hhi : hi.map r = hi.map r' := by cases hi <;> simp_all
    rw [hx, hlo, hhi]
  case call c =>
    obtain ⟨callee, args, ats⟩ := c
    have ha := arr args fun x hx => h x (by simp [Call.operands, hx])
    have h0 : args[0]?.map r = args[0]?.map r' := by
      have := congrArg (fun l => l[0]?) ha
      simpa using this
    cases callee with
    | builtin b => cases b <;> first | rfl | (simp only [h0]; done) | (simp only [ha]; done)
    | value f => rfl
    | invoke f n => rfl
  all_goals (first | rfl | (simp_all; done))
theorem buildS_congr {hv : Nat → Option B} {k len : Nat} {r r' : Operand → V} : ∀ (ps : List (Nat × Operand)) (es : List (List C)), (∀ p ∈ ps, r p.2 = r' p.2) → buildS hv k len r ps es = buildS hv k len r' ps es
  | [], _, _ => rfl
  | p :: ps, es, h => by
    simp only [buildS]
    rw [h p (by simp)]
    have ih := fun es => buildS_congr (hv := hv) (k := k) (len := len) ps es (fun q hq => h q (by simp [hq]))
    simp only [ih]
theorem ev1_congr {call : FuncId → List V → Option (V × List B)} {hv : Nat → Option B} {base : Nat} {r r' : Operand → V} {o : Op} (h : ∀ x ∈ o.operands, r x = r' x) : ev1 P call hv r base o = ev1 P call hv r' base o := by
  cases o <;> simp only [Op.operands] at h <;> simp only [ev1]
  case buildSlice t n ps =>
    have : ∀ es k, buildS hv k n r ps.toList es = buildS hv k n r' ps.toList es := fun es k => buildS_congr ps.toList es (fun p hp => h p.2 (by simp; exact ⟨p.1, by simpa using hp⟩))
    simp only [this]
  case slice t x lo hi mx =>
    have hx : r x = r' x := h x (by simp)
    have hlo : lo.map r = lo.map r' := by cases lo <;> simp_all
    have hhi : hi.map r = hi.map r' := by cases hi <;> simp_all
    have hmx : mx.map r = mx.map r' := by cases mx <;> simp_all
    rw [hx, hlo, hhi, hmx]
  case call c =>
    obtain ⟨callee, args, ats⟩ := c
    have ha : args.toList.map r = args.toList.map r' := List.map_congr_left fun p hm => h p (by simp [Call.operands]; right; simpa using hm)
    cases callee with
    | builtin b =>
      cases b <;> try rfl
      simp only
      have hm : ∀ x ∈ args.toList, r x = r' x := fun x hx => h x (by simp [Call.operands]; simpa using hx)
      split
      · rename_i s x _ hs
        rw [hm s (by rw [hs]; simp), hm x (by rw [hs]; simp)]
      · rfl
    | value f =>
      have hf : r f = r' f := h f (by simp [Call.operands])
      simp only [hf, ha]
    | invoke f n => rfl
  case makeMap t rs => cases rs <;> rfl
  all_goals (first | rfl | (simp_all; done))
theorem ev2_congr {hh : Nat → Option B} {sh : Nat → Bool} {base : Nat} {r r' : Operand → V} {o : Op} (h : ∀ x ∈ o.operands, r x = r' x) : ev2 P hh sh r base o = ev2 P hh sh r' base o := by
  cases o <;> simp only [Op.operands] at h <;> simp only [ev2]
  case store t x y => rw [h x (by simp), h y (by simp)]
  case mapUpdate t x y z => rw [h x (by simp), h y (by simp), h z (by simp)]
  case call c =>
    obtain ⟨callee, args, ats⟩ := c
    cases callee with
    | builtin b =>
      cases b <;> try rfl
      simp only
      have hm : ∀ x ∈ args.toList, r x = r' x := fun x hx => h x (by simp [Call.operands]; simpa using hx)
      split
      · rename_i s x _ hs
        rw [hm s (by rw [hs]; simp), hm x (by rw [hs]; simp)]
      · rfl
    | value f => rfl
    | invoke f n => rfl
theorem adr_congr {io : FuncId → Bool} {ops : Array Oper} {h : Nat → Option B} {r r' : Operand → V} {o : Op} (hr : ∀ x ∈ o.operands, r x = r' x) : ldAdr r o = ldAdr r' o ∧ stAdr io ops h r o = stAdr io ops h r' o := by
  cases o <;> simp only [Op.operands] at hr
  case load t a => exact ⟨by simp only [ldAdr]; rw [hr a (by simp)], rfl⟩
  case store t a x => exact ⟨rfl, by simp only [stAdr]; rw [hr a (by simp)]⟩
  case call c =>
    obtain ⟨callee, args, ats⟩ := c
    have ha : args.toList.map r = args.toList.map r' := List.map_congr_left fun p hm => hr p (by simp [Call.operands]; right; simpa using hm)
    refine ⟨rfl, ?_⟩
    cases callee with
    | builtin b =>
      cases b <;> try rfl
      simp only [stAdr]
      cases hl : args.toList with
      | nil => rfl
      | cons s l => simp only []; rw [hr s (by simp [Call.operands]; rw [← Array.mem_toList_iff, hl]; simp)]
    | value f =>
      have hf := hr f (by simp [Call.operands])
      cases f <;> first | rfl | (simp only [stAdr, ha]; done) | (simp only [stAdr, ha]; rw [hf])
    | invoke f n => rfl
  all_goals exact ⟨rfl, rfl⟩
theorem rho_put {ops : Array Oper} {o : Oper} {t : Nat → V} {d : Option Nat} {v : V} (h : ∀ q, d = some q → q ∉ o.looksAt ops) : ∀ x ∈ o.op.operands, rho (putD t d v) x = rho t x := by
  intro x hx
  cases d with
  | none => rfl
  | some q =>
    cases x with
    | tmp i =>
      have hne : i ≠ q := by
        intro e
        subst e
        exact h i rfl (List.mem_append_left _ (List.mem_filterMap.2 ⟨.tmp i, by simpa using hx, rfl⟩))
      simp [rho, putD, upd, hne]
    | _ => rfl
theorem wantedV_put {ops : Array Oper} {o : Oper} {t : Nat → V} {d : Option Nat} {v : V} (h : ∀ q, d = some q → q ∉ o.looksAt ops) : wantedV ops (putD t d v) o = wantedV ops t o := by
  cases d with
  | none => rfl
  | some q =>
    unfold wantedV
    cases hg : o.guard with
    | none => rfl
    | some gw =>
      obtain ⟨g, want⟩ := gw
      simp only
      cases ht : (ops[g]?).bind (·.dst) with
      | none => rfl
      | some i =>
        have hne : i ≠ q := fun e => h q rfl (by subst e; simp [Oper.looksAt, hg, ht])
        simp [putD, upd, hne]
abbrev Hact := (List B × List Nat) ⊕ ((Nat → Option B) × (Nat → Bool))
variable (P)
/-- what an operation comes to -/
def evD (call : HP) (nt : Nat) (ops : Array Oper) (hv : Nat → Option B) (base : Nat) (o : Oper) (s : St) : Option (V × Hact) :=
  if (o.dst.all (fun d => decide (d < nt))) = true then
    (wantedV ops s.t o).bind fun w => if w then
      match kindB P call.io ops o.op with
      | 0 => (ev0 P (rho s.t) o.op).map fun v => (v, .inl ([], []))
      | 1 => (ev1 P call.call hv (rho s.t) base o.op).bind fun x => if x.2.1.length ≤ 8 then some (x.1, .inl x.2) else none
      | _ => (ev2H P call base o.op s).map fun x => (x.1, .inr x.2)
    else some (.tup [], .inl ([], []))
  else none
variable {P}
def apD (base : Nat) (o : Oper) (e : V × Hact) (s : St) : St :=
  { s with t := putD s.t o.dst e.1, h := (match e.2 with | .inl x => addB s.h base x.1 | .inr x => x.1), sh := (match e.2 with | .inl x => flag s.sh x.2 | .inr x => x.2) }
theorem opD_eq {call : HP} {nt : Nat} {ops : Array Oper} {hv : Nat → Option B} {base : Nat} {o : Oper} {s : St} : opD P call nt ops hv base o s = (evD P call nt ops hv base o s).map fun e => apD base o e s := by
  unfold opD evD
  split
  · cases wantedV ops s.t o with
    | none => rfl
    | some b =>
      cases b with
      | false => simp [apD, addB_nil, flag_nil]
      | true =>
        simp only [Option.bind_some, if_true]
        generalize kindB P call.io ops o.op = kk
        rcases kk with _ | _ | kk
        · cases ev0 P (rho s.t) o.op with
          | none => rfl
          | some v => simp [apD, addB_nil, flag_nil]
        · simp only [Nat.zero_add]
          cases ev1 P call.call hv (rho s.t) base o.op with
          | none => rfl
          | some x =>
            simp only [Option.bind_some]
            split
            · rfl
            · rfl
        · simp only
          cases ev2H P call base o.op s with
          | none => rfl
          | some x => rfl
  · rfl
theorem apart_sp {ops : Array Oper} {x y : Oper} (h : x.apart ops y = true) : (∀ d, x.dst = some d → d ∉ y.looksAt ops) ∧ (∀ d, y.dst = some d → d ∉ x.looksAt ops) ∧ ∀ d, x.dst = some d → y.dst ≠ some d := by
  obtain ⟨h1, h2, h3⟩ := Oper.apart_spec h
  exact ⟨h1, h3, h2⟩
theorem putD_comm {t : Nat → V} {d d' : Option Nat} {v v' : V} (h : ∀ q, d = some q → d' ≠ some q) : putD (putD t d v) d' v' = putD (putD t d' v') d v := by
  cases d with
  | none => rfl
  | some q =>
    cases d' with
    | none => rfl
    | some q' =>
      have hne : q' ≠ q := fun e => h q rfl (by rw [e])
      funext i
      simp only [putD, upd]
      by_cases h1 : i = q
      · have h2 : i ≠ q' := fun e => hne (e.symm.trans h1)
        rw [if_neg h2, if_pos h1, if_pos h1]
      · rw [if_neg h1]
        by_cases h2 : i = q'
        · simp [h2, hne]
        · simp [h1, h2]
theorem addB_comm {h : Nat → Option B} {b b' : Nat} {bs bs' : List B} (hl : bs.length ≤ 8) (hl' : bs'.length ≤ 8) (hd : b + 8 ≤ b' ∨ b' + 8 ≤ b) : addB (addB h b bs) b' bs' = addB (addB h b' bs') b bs := by
  funext j
  simp only [addB]
  by_cases h1 : b' ≤ j ∧ j < b' + bs'.length
  · rw [if_pos h1, if_neg (by omega), if_pos h1]
  · rw [if_neg h1]
    by_cases h2 : b ≤ j ∧ j < b + bs.length
    · rw [if_pos h2, if_pos h2]
    · rw [if_neg h2, if_neg h2, if_neg h1]
theorem flag_comm {sh : Nat → Bool} (a b : List Nat) : flag (flag sh a) b = flag (flag sh b) a := by
  funext i
  simp only [flag]
  by_cases h1 : i ∈ a <;> by_cases h2 : i ∈ b <;> simp [h1, h2]
theorem vis_addB {h : Nat → Option B} {rb an i : Nat} {bs : List B} (hl : bs.length ≤ 8) (hb : an.testBit i = false) : visB (addB h (rb + 8 * i) bs) rb an = visB h rb an := by
  funext id
  simp only [visB]
  split
  · rename_i hc
    simp only [addB]
    rw [if_neg]
    intro hr
    rcases hc with hc | hc
    · omega
    · have : (id - rb) / 8 = i := by omega
      rw [this, hb] at hc
      cases hc
  · rfl
theorem upd_comm {α : Type} {f : Nat → α} {i j : Nat} {x y : α} (h : i ≠ j) : upd (upd f i x) j y = upd (upd f j y) i x := by
  funext q
  simp only [upd]
  by_cases h1 : q = j
  · rw [if_pos h1, if_neg (fun e => h (e.symm.trans h1)), if_pos h1]
  · rw [if_neg h1]
    by_cases h2 : q = i
    · rw [if_pos h2, if_pos h2]
    · rw [if_neg h2, if_neg h2, if_neg h1]
theorem ioOf_congr {ch : FuncId → Option (List V → St → Option (V × St))} {r r' : Operand → V} {o : Op} (h : ∀ x ∈ o.operands, r x = r' x) : ioOf P ch r o = ioOf P ch r' o := by
  cases o <;> simp only [Op.operands] at h <;> simp only [ioOf]
  case call c =>
    obtain ⟨callee, args, ats⟩ := c
    have ha : args.toList.map r = args.toList.map r' := List.map_congr_left fun p hm => h p (by simp [Call.operands]; right; simpa using hm)
    cases callee with
    | builtin b => rfl
    | value f =>
      have hf : r f = r' f := h f (by simp [Call.operands])
      simp only [hf, ha]
    | invoke f n => rfl
theorem ogK_t {K lv : List Nat} {s : St} {d : Option Nat} {v : V} {lr lw : Nat → List Nat} (hl : ∀ q, d = some q → q ∉ lv) : ogK K lv { s with t := putD s.t d v, lr := lr, lw := lw } = ogK K lv s := by
  unfold ogK
  have e : lv.flatMap (fun i => topIds (putD s.t d v i) ++ (topIds (putD s.t d v i)).flatMap fun j => boxIds (s.h j)) = lv.flatMap (fun i => topIds (s.t i) ++ (topIds (s.t i)).flatMap fun j => boxIds (s.h j)) := by
    rw [List.flatMap_def, List.flatMap_def]
    congr 1
    refine List.map_congr_left fun i hi => ?_
    have e2 : putD s.t d v i = s.t i := by
      cases d with
      | none => rfl
      | some d =>
        simp only [putD, upd]
        rw [if_neg]
        rintro rfl
        exact hl _ rfl hi
    rw [e2]
  simp only [e]
/-- a log is not read at operations that met nothing -/
theorem evD_t {call : HP} {nt : Nat} {ops : Array Oper} {hv : Nat → Option B} {base : Nat} {o : Oper} {s : St} {d : Option Nat} {v : V} {lr lw : Nat → List Nat} (h : ∀ q, d = some q → q ∉ o.looksAt ops) (hl : ∀ q, d = some q → q ∉ call.lv base) :
    evD P call nt ops hv base o { s with t := putD s.t d v, lr := lr, lw := lw } = evD P call nt ops hv base o s := by
  have e2 : ev2H P call base o.op { s with t := putD s.t d v, lr := lr, lw := lw } = ev2H P call base o.op s := by
    unfold ev2H
    cases isIo call.io o.op with
    | true =>
      simp only [cond_true, ioOf_congr (rho_put (t := s.t) (v := v) h)]
      cases ioOf P call.ch (rho s.t) o.op with
      | none => rfl
      | some z => simp only [Option.bind_some, heapD, ogK_t hl]
    | false => simp only [cond_false, ev2_congr (rho_put (t := s.t) (v := v) h)]
  unfold evD
  simp only [wantedV_put h, ev0_congr (rho_put (t := s.t) (v := v) h), ev1_congr (rho_put (t := s.t) (v := v) h), e2]
section
variable {io : FuncId → Bool}
theorem kind_ld {ops : Array Oper} {o : Op} (h : isLd o = true) : kindB P io ops o = 1 ∧ ∃ t a, o = .load t a := by cases o <;> simp [isLd] at h; exact ⟨rfl, _, _, rfl⟩
theorem isIo_call {o : Op} (h : isIo io o = true) : ∃ x args ats, o = .call { callee := .value x, args := args, argTypes := ats } ∧ ((∃ f, x = .func f ∧ io f = true) ∨ ∃ t, x = .tmp t ∧ io 1000000 = true) := by
  unfold isIo at h
  split at h
  · exact ⟨_, _, _, rfl, .inl ⟨_, rfl, h⟩⟩
  · exact ⟨_, _, _, rfl, .inr ⟨_, rfl, h⟩⟩
  · cases h
theorem isApd_call {ops : Array Oper} {o : Op} (h : isApd ops o = true) : ∃ args ats, o = .call { callee := .builtin .append, args := args, argTypes := ats } ∧ freshA ops o = false := by
  unfold isApd at h
  split at h
  · exact ⟨_, _, rfl, by simpa using h⟩
  · cases h
theorem kind_wr {ops : Array Oper} {o : Op} (h : isWr io ops o = true) : kindB P io ops o = 2 := by
  unfold isWr at h
  unfold kindB
  cases hi : isIo io o with
  | true => rfl
  | false =>
    rw [hi, Bool.or_false] at h
    cases hs : isSt o with
    | true => cases o <;> simp [isSt] at hs; rfl
    | false =>
      rw [hs, Bool.false_or] at h
      obtain ⟨args, ats, rfl, hf⟩ := isApd_call h
      simp only [cond_false, kindA, hf]
      rfl
theorem adr_none {ops : Array Oper} {h : Nat → Option B} {r : Operand → V} {o : Op} : (isLd o = false → ldAdr r o = []) ∧ (isWr io ops o = false → stAdr io ops h r o = []) := by
  refine ⟨fun h => ?_, fun h => ?_⟩
  · cases o <;> first | rfl | (simp [isLd] at h)
  · unfold stAdr
    split
    · simp [isWr, isSt] at h
    · simp only [isWr, isSt, isIo, Bool.false_or, isApd, Bool.or_false] at h
      rw [h]; rfl
    · simp only [isWr, isSt, isIo, Bool.false_or, isApd, Bool.or_false] at h
      rw [h]; rfl
    · simp only [isWr, isSt, isIo, Bool.false_or, isApd, Bool.not_eq_false'] at h
      rw [h]; rfl
    · rfl
theorem kind_io {ops : Array Oper} {o : Op} (h : kindB P io ops o = 0 ∨ kindB P io ops o = 1) : isIo io o = false := by
  cases hi : isIo io o with
  | false => rfl
  | true => unfold kindB at h; rw [hi] at h; rcases h with h | h <;> cases h
theorem kind0_plain {ops : Array Oper} {o : Op} (h : kindB P io ops o = 0) : isLd o = false ∧ isWr io ops o = false := by
  have hi := kind_io (.inl h)
  unfold kindB at h
  rw [hi, cond_false] at h
  unfold isWr
  have ha : isApd ops o = false := by
    cases h' : isApd ops o with
    | false => rfl
    | true =>
      obtain ⟨args, ats, rfl, hf⟩ := isApd_call h'
      simp [kindA, hf, kindOf] at h
  rw [hi, ha]
  cases o <;> first | exact ⟨rfl, rfl⟩ | (simp [kindA, freshA, kindOf] at h)
theorem kind1_plain {ops : Array Oper} {o : Op} (h : kindB P io ops o = 1) : isWr io ops o = false := by
  have hi := kind_io (.inr h)
  unfold kindB at h
  rw [hi, cond_false] at h
  unfold isWr
  have ha : isApd ops o = false := by
    cases h' : isApd ops o with
    | false => rfl
    | true =>
      obtain ⟨args, ats, rfl, hf⟩ := isApd_call h'
      simp [kindA, hf, kindOf] at h
  rw [hi, ha]
  cases o <;> first | rfl | (simp [kindA, freshA, kindOf] at h)
end
def lgD (io : FuncId → Bool) (ops : Array Oper) (n : Nat) (an : Nat → Nat) (j : Nat) (o : Oper) (s : St) : Bool := logOk n an s.lw j (ldAdr (rho s.t) o.op) && logOk n an s.lr j (stAdr io ops s.h (rho s.t) o.op)
def afD (io : FuncId → Bool) (ops : Array Oper) (rb j : Nat) (o : Oper) (e : V × Hact) (s : St) : St := { apD (rb + 8 * j) o e s with lr := upd s.lr j (ldAdr (rho s.t) o.op), lw := upd s.lw j (stAdr io ops s.h (rho s.t) o.op) }
section
variable {call : HP} {nt : Nat} {ops : Array Oper} {an : Nat → Nat} {rb : Nat}
theorem stepD_eq {j : Nat} {o : Oper} {s : St} : stepD P call nt ops an rb j o s = if lgD call.io ops ops.size an j o s = true then (evD P call nt ops (visB s.h rb (an j)) (rb + 8 * j) o s).map fun e => afD call.io ops rb j o e s else none := by
  unfold stepD lgD
  split
  · rw [opD_eq, Option.map_map]; rfl
  · rfl
/-- exchanged, if neither sees what the other does -/
theorem comm_of {i j : Nat} {x y : Oper} {s : St} (h1 : ∀ e, evD P call nt ops (visB s.h rb (an i)) (rb + 8 * i) x s = some e → lgD call.io ops ops.size an i x s = true → lgD call.io ops ops.size an j y (afD call.io ops rb i x e s) = lgD call.io ops ops.size an j y s ∧ evD P call nt ops (visB (afD call.io ops rb i x e s).h rb (an j)) (rb + 8 * j) y (afD call.io ops rb i x e s) = evD P call nt ops (visB s.h rb (an j)) (rb + 8 * j) y s)
    (h2 : ∀ e, evD P call nt ops (visB s.h rb (an j)) (rb + 8 * j) y s = some e → lgD call.io ops ops.size an j y s = true → lgD call.io ops ops.size an i x (afD call.io ops rb j y e s) = lgD call.io ops ops.size an i x s ∧ evD P call nt ops (visB (afD call.io ops rb j y e s).h rb (an i)) (rb + 8 * i) x (afD call.io ops rb j y e s) = evD P call nt ops (visB s.h rb (an i)) (rb + 8 * i) x s)
    (h3 : ∀ e f, evD P call nt ops (visB s.h rb (an i)) (rb + 8 * i) x s = some e → evD P call nt ops (visB s.h rb (an j)) (rb + 8 * j) y s = some f → afD call.io ops rb j y f (afD call.io ops rb i x e s) = afD call.io ops rb i x e (afD call.io ops rb j y f s)) :
    (stepD P call nt ops an rb i x s).bind (stepD P call nt ops an rb j y) = (stepD P call nt ops an rb j y s).bind (stepD P call nt ops an rb i x) := by
  rw [stepD_eq, stepD_eq]
  by_cases c1 : lgD call.io ops ops.size an i x s = true
  · rw [if_pos c1]
    cases e1 : evD P call nt ops (visB s.h rb (an i)) (rb + 8 * i) x s with
    | none =>
      by_cases c2 : lgD call.io ops ops.size an j y s = true
      · rw [if_pos c2]
        cases e2 : evD P call nt ops (visB s.h rb (an j)) (rb + 8 * j) y s with
        | none => rfl
        | some f =>
          obtain ⟨a1, a2⟩ := h2 f e2 c2
          simp only [Option.map_none, Option.bind_none, Option.map_some, Option.bind_some]
          rw [stepD_eq, a1, if_pos c1, a2, e1]
          rfl
      · rw [if_neg c2]; rfl
    | some e =>
      obtain ⟨b1, b2⟩ := h1 e e1 c1
      simp only [Option.map_some, Option.bind_some]
      rw [stepD_eq, b1, b2]
      by_cases c2 : lgD call.io ops ops.size an j y s = true
      · rw [if_pos c2, if_pos c2]
        cases e2 : evD P call nt ops (visB s.h rb (an j)) (rb + 8 * j) y s with
        | none => rfl
        | some f =>
          obtain ⟨a1, a2⟩ := h2 f e2 c2
          simp only [Option.map_some, Option.bind_some]
          rw [stepD_eq, a1, if_pos c1, a2, e1]
          simp only [Option.map_some]
          rw [h3 e f e1 e2]
      · rw [if_neg c2, if_neg c2]; rfl
  · rw [if_neg c1]
    simp only [Option.bind_none]
    by_cases c2 : lgD call.io ops ops.size an j y s = true
    · rw [if_pos c2]
      cases e2 : evD P call nt ops (visB s.h rb (an j)) (rb + 8 * j) y s with
      | none => rfl
      | some f =>
        obtain ⟨a1, a2⟩ := h2 f e2 c2
        simp only [Option.map_some, Option.bind_some]
        rw [stepD_eq, a1, if_neg c1]
    · rw [if_neg c2]; rfl
/-- the act of an operation by its kind -/
theorem evD_act {hv : Nat → Option B} {base : Nat} {o : Oper} {s : St} {e : V × Hact} (h : evD P call nt ops hv base o s = some e) : (∃ bs fl, e.2 = .inl (bs, fl) ∧ bs.length ≤ 8 ∧ (kindB P call.io ops o.op = 0 → bs = [] ∧ fl = []) ∧ (isLd o.op = true → bs = [] ∧ fl = [])) ∨ (∃ z, e.2 = .inr z ∧ kindB P call.io ops o.op ≠ 0 ∧ kindB P call.io ops o.op ≠ 1) := by
  unfold evD at h
  split at h
  case isFalse => cases h
  cases hw : wantedV ops s.t o with
  | none => rw [hw] at h; cases h
  | some b =>
    rw [hw] at h
    simp only [Option.bind_some] at h
    cases b with
    | false =>
      simp only [Bool.false_eq_true, if_false] at h
      injection h with h; subst h
      exact .inl ⟨[], [], rfl, by simp, fun _ => ⟨rfl, rfl⟩, fun _ => ⟨rfl, rfl⟩⟩
    | true =>
      simp only [if_true] at h
      split at h
      · rename_i hk
        cases he : ev0 P (rho s.t) o.op with
        | none => rw [he] at h; cases h
        | some v =>
          rw [he] at h
          injection h with h; subst h
          exact .inl ⟨[], [], rfl, by simp, fun _ => ⟨rfl, rfl⟩, fun _ => ⟨rfl, rfl⟩⟩
      · rename_i hk
        cases he : ev1 P call.call hv (rho s.t) base o.op with
        | none => rw [he] at h; cases h
        | some x =>
          rw [he] at h
          simp only [Option.bind_some] at h
          split at h
          · rename_i h8
            injection h with h; subst h
            refine .inl ⟨x.2.1, x.2.2, rfl, h8, fun h0 => (by rw [hk] at h0; cases h0), fun hl => ?_⟩
            obtain ⟨_, t, a, ho⟩ := kind_ld (P := P) (io := call.io) (ops := ops) hl
            rw [ho] at he
            simp only [ev1] at he
            cases hv' : loadV P hv t (rho s.t a) with
            | none => rw [hv'] at he; cases he
            | some v => rw [hv'] at he; injection he with he; subst he; exact ⟨rfl, rfl⟩
          · cases h
      · rename_i hk0 hk1
        cases he : ev2H P call base o.op s with
        | none => rw [he] at h; cases h
        | some x =>
          rw [he] at h
          injection h with h; subst h
          exact .inr ⟨x.2, rfl, hk0, hk1⟩
/-- operations of kinds 0 and 1 do not look at the whole heap -/
theorem evD_heap {hv : Nat → Option B} {base : Nat} {o : Oper} {s : St} {h' : Nat → Option B} {sh' : Nat → Bool} (hk : kindB P call.io ops o.op = 0 ∨ kindB P call.io ops o.op = 1) : evD P call nt ops hv base o { s with h := h', sh := sh' } = evD P call nt ops hv base o s := by
  unfold evD
  rcases hk with hk | hk <;> simp only [hk]
theorem evD_view {hv hv' : Nat → Option B} {base : Nat} {o : Oper} {s : St} (hk : kindB P call.io ops o.op ≠ 1) : evD P call nt ops hv base o s = evD P call nt ops hv' base o s := by
  unfold evD
  generalize hkk : kindB P call.io ops o.op = kk
  rw [hkk] at hk
  rcases kk with _ | _ | kk
  · rfl
  · exact absurd rfl hk
  · rfl
end
end
end Go.Proofs.YtomnbknaanlmaaaGreatDoor
