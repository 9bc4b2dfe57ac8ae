/- The abstract heap and memory: new blocks, rows that are shared, stores. -/
import Derived.Test.YtokahibbkdbndaaDLight2
namespace Go.Proofs.Ytokahibbkdbndaa
open Go.RowKit
section
variable {P : Program} {Z Y : ZMap} {m : Nat → Option Value} {w0 : WB} {w w' : World} {h : Nat → Option B} {sh : Nat → Bool}

theorem heap_lt {w : World} {g : Nat} {x : Obj} (h : w.heap[g]? = some x) : g < w.heap.size := (Array.getElem?_eq_some_iff.1 h).1

theorem Rel.blk_lt (R : Rel w0 Z Y m h sh w) {id g : Nat} (hi : h id ≠ none) (hg : blkOf m id = some g) : g < w.heap.size ∧ w0.own g := by
  cases hb : h id with
  | none => exact absurd hb hi
  | some b =>
    cases b with
    | box cs =>
      obtain ⟨g', hm, hat⟩ := R.box id cs hb
      obtain ⟨t, vs, hv, _⟩ := hat.ex
      simp only [blkOf, hm, Option.some.injEq] at hg
      subst hg
      exact ⟨heap_lt hv, hat.base⟩
    | row es =>
      rcases R.row id es hb with ⟨hm, _⟩ | ⟨g', n, c, k, hm, hat⟩
      · simp [blkOf, hm] at hg
      · obtain ⟨t, fz, cur, hv, _⟩ := hat.ex
        simp only [blkOf, hm, Option.some.injEq] at hg
        subst hg
        exact ⟨heap_lt hv, hat.base⟩
    | tab es i v =>
      obtain ⟨g', n, c, hm, hat⟩ := R.tab id es i v hb
      obtain ⟨t, fz, cur, hv, _⟩ := hat.ex
      simp only [blkOf, hm, Option.some.injEq] at hg
      subst hg
      exact ⟨heap_lt hv, hat.base⟩

theorem Rel.z_lt (R : Rel w0 Z Y m h sh w) {b o : Nat} {u : Value} (hz : Z b o = some u) : b < w.heap.size := cell_lt (R.zok b o u hz)

/-- fewer blocks are known -/
theorem Rel.less (R : Rel w0 Z Y m h sh w) {h' : Nat → Option B} (hs : ∀ id b, h' id = some b → h id = some b) : Rel w0 Z Y m h' sh w := by
  have hn : ∀ id, h' id ≠ none → h id ≠ none := fun id hi => by
    cases hb : h' id with
    | none => exact absurd hb hi
    | some b => rw [hs id b hb]; simp
  exact ⟨R.bel, R.gw, R.zok, R.yok, fun id cs hi => R.box id cs (hs _ _ hi), fun id es hi => R.row id es (hs _ _ hi), fun id es i v hi => R.tab id es i v (hs _ _ hi), fun id id' g h1 h2 => R.inj id id' g (hn _ h1) (hn _ h2)⟩

theorem MLe.up {i : Nat} {v : Value} (hi : m i = none) : MLe m (upd m i (some v)) := fun j u hj => by
  unfold upd
  by_cases e : j = i
  · subst e; rw [hi] at hj; cases hj
  · simp [e, hj]

theorem heap_alloc {g : Nat} {x : Obj} (o : Obj) (hx : w.heap[g]? = some x) : (w.alloc o).heap[g]? = some x := (Below.heap_alloc w o g (heap_lt hx)).trans hx

/-- a new block -/
theorem Rel.new (R : Rel w0 Z Y m h sh w) {base : Nat} {v : Value} {b : B} {o : Obj} (hm : m base = none) (hs : sh base = false ∨ True)
    (hb : (∃ cs, b = .box cs ∧ v = .pointer (some ⟨w.heap.size, 0, none⟩) ∧ BoxAt w0.own Z Y m (w.alloc o) w.heap.size cs) ∨
      (∃ es n c k, b = .row es ∧ v = .slice (some ⟨w.heap.size, 0, none⟩) n c ∧ RowAt w0.own Z (sh base) (w.alloc o) w.heap.size n c k es) ∨
      (∃ es i x n c, b = .tab es i x ∧ v = .slice (some ⟨w.heap.size, 0, none⟩) n c ∧ TabAt w0.own Z Y m (w.alloc o) w.heap.size n c (tabC es i x))) :
    Rel w0 Z Y (upd m base (some v)) (upd h base (some b)) sh (w.alloc o) := by
  have hmle := MLe.up (v := v) hm
  have hblk : blkOf (upd m base (some v)) base = some w.heap.size := by
    rcases hb with ⟨cs, _, rfl, _⟩ | ⟨es, n, c, k, _, rfl, _⟩ | ⟨es, i, x, n, c, _, rfl, _⟩ <;> simp [blkOf, upd]
  have hold : ∀ id, id ≠ base → blkOf (upd m base (some v)) id = blkOf m id := fun id hne => by simp [blkOf, upd, hne]
  refine ⟨R.bel.alloc o, R.gw, fun b' o' u hz => ?_, R.yok, fun id cs hi => ?_, fun id es hi => ?_, fun id es i v' hi => ?_, fun id id' g h1 h2 e1 e2 => ?_⟩
  · have := R.zok b' o' u hz
    rw [((Bel.refl w).alloc o).cell _ (cell_lt this)]; exact this
  · unfold upd at hi
    split at hi
    · rename_i e
      subst e
      injection hi with hi
      rcases hb with ⟨cs', e, rfl, hat⟩ | ⟨es, n, c, k, e, _⟩ | ⟨es, i, x, n, c, e, _⟩
      · rw [e] at hi; injection hi with hi; subst hi
        refine ⟨w.heap.size, by simp [upd], ⟨hat.base, ?_, hat.apart⟩⟩
        obtain ⟨t, vs, hv, hr⟩ := hat.ex
        exact ⟨t, vs, hv, hr.mono (ZLe.refl _) hmle⟩
      · rw [e] at hi; cases hi
      · rw [e] at hi; cases hi
    · rename_i hne
      obtain ⟨g, hg, hat⟩ := R.box id cs hi
      obtain ⟨t, vs, hv, hr⟩ := hat.ex
      exact ⟨g, hmle _ _ hg, ⟨hat.base, ⟨t, vs, heap_alloc o hv, hr.mono (ZLe.refl _) hmle⟩, hat.apart⟩⟩
  · unfold upd at hi
    split at hi
    · rename_i e
      subst e
      injection hi with hi
      rcases hb with ⟨cs', e, _⟩ | ⟨es', n, c, k, e, rfl, hat⟩ | ⟨es, i, x, n, c, e, _⟩
      · rw [e] at hi; cases hi
      · rw [e] at hi; injection hi with hi; subst hi
        exact .inr ⟨w.heap.size, n, c, k, by simp [upd], hat⟩
      · rw [e] at hi; cases hi
    · rename_i hne
      rcases R.row id es hi with ⟨h0, h1⟩ | ⟨g, n, c, k, hg, hat⟩
      · exact .inl ⟨hmle _ _ h0, h1⟩
      · obtain ⟨t, fz, cur, hv, hr⟩ := hat.ex
        exact .inr ⟨g, n, c, k, hmle _ _ hg, ⟨hat.base, ⟨t, fz, cur, heap_alloc o hv, hr⟩, hat.len, hat.le, hat.max, hat.pos, hat.zero, hat.each, hat.apart⟩⟩
  · unfold upd at hi
    split at hi
    · rename_i e
      subst e
      injection hi with hi
      rcases hb with ⟨cs', e, _⟩ | ⟨es', n, c, k, e, _⟩ | ⟨es', i', x', n, c, e, rfl, hat⟩
      · rw [e] at hi; cases hi
      · rw [e] at hi; cases hi
      · rw [e] at hi; injection hi with a1 a2 a3; subst a1 a2 a3
        exact ⟨w.heap.size, n, c, by simp [upd], hat.up (ZLe.refl _) hmle (fun _ h => h) hat.apart⟩
    · obtain ⟨g, n, c, hg, hat⟩ := R.tab id es i v' hi
      exact ⟨g, n, c, hmle _ _ hg, hat.up (ZLe.refl _) hmle (fun x hx => heap_alloc o hx) hat.apart⟩
  · by_cases e : id = base
    · by_cases e' : id' = base
      · rw [e, e']
      · rw [e, hblk] at e1
        injection e1 with e1
        rw [hold id' e'] at e2
        have h2' : h id' ≠ none := by simpa [upd, e'] using h2
        have := (R.blk_lt h2' e2).1
        omega
    · by_cases e' : id' = base
      · rw [e', hblk] at e2
        injection e2 with e2
        rw [hold id e] at e1
        have h1' : h id ≠ none := by simpa [upd, e] using h1
        have := (R.blk_lt h1' e1).1
        omega
      · rw [hold id e] at e1
        rw [hold id' e'] at e2
        exact R.inj id id' g (by simpa [upd, e] using h1) (by simpa [upd, e'] using h2) e1 e2

theorem Rel.new_box (R : Rel w0 Z Y m h sh w) {base : Nat} {vs : Array Value} {cs : List V} (t : TypeId) (hm : m base = none) (hr : Rep Z Y m (.agg vs) (.agg cs)) :
    Rel w0 Z Y (upd m base (some (.pointer (some ⟨w.heap.size, 0, none⟩)))) (upd h base (some (.box cs))) sh (w.alloc (.cells vs t)) :=
  R.new hm (.inr trivial) (.inl ⟨cs, rfl, rfl, ⟨.inl R.bel.size, ⟨t, vs, heap_alloc_new w _, hr⟩, fun o => by
    cases hz : Z w.heap.size o with
    | none => rfl
    | some u => have := R.z_lt hz; omega⟩⟩)

/-- a row that is shared from now on -/
theorem Rel.share (R : Rel w0 Z Y m h sh w) {id : Nat} {es : List (List C)} (hi : h id = some (.row es)) :
    ∃ Z', ZLe Z Z' ∧ (∀ b o u, Z' b o = some u → Z b o = some u ∨ w0.own b) ∧ Rel w0 Z' Y m h (fun i => if i = id then true else sh i) w ∧ ∀ v n, Rep Z Y m v (.row id n) → RepC Z' v (.sl es) := by
  rcases R.row id es hi with ⟨hm, rfl⟩ | ⟨g, n, c, k, hm, hat⟩
  · refine ⟨Z, ZLe.refl Z, fun b o u hz => .inl hz, ⟨R.bel, R.gw, R.zok, R.yok, R.box, fun id' es' hi' => ?_, R.tab, R.inj⟩, ?_⟩
    · rcases R.row id' es' hi' with h0 | ⟨g, n, c, k, hg, hat⟩
      · exact .inl h0
      · refine .inr ⟨g, n, c, k, hg, ⟨hat.base, hat.ex, hat.len, hat.le, hat.max, hat.pos, hat.zero, hat.each, fun o ho => ?_⟩⟩
        have := hat.apart o ho
        exact ⟨by simp [this.1], this.2⟩
    · intro v n r
      cases r with
      | row _ _ A c hm' hA =>
        rw [hm] at hm'
        injection hm' with hm'
        injection hm' with a1 a2 a3
        subst a1 a2 a3
        exact .sl none 0 0 0 0 0 (fun _ => .nilFunc) [] rfl (Nat.le_refl _) (by simp) (by simp) (by simp) (by simp) (by simp) (fun _ => rfl)
      | row0 _ A hm' => exact .sl A 0 0 0 0 0 (fun _ => .nilFunc) [] rfl (Nat.le_refl _) (by simp) (by simp) (by simp) (by simp) (by simp) (fun _ => rfl)
  · obtain ⟨t, fz, cur, hv, hcs, hfz, hcell⟩ := hat.ex
    have hnk : n * k ≤ cur.size := by rw [hcs]; exact Nat.mul_le_mul_right k hat.le
    have hle : ZLe Z (fun b o => if b = g ∧ o < n * k then cur[o]? else Z b o) := by
      intro b o u hz
      show (if b = g ∧ o < n * k then cur[o]? else Z b o) = some u
      split
      · rename_i hc
        obtain ⟨rfl, hc⟩ := hc
        have := R.zok b o u hz
        simp only [World.cell?, hv] at this
        simpa using this
      · exact hz
    have hcr : ∀ (i : Nat) (e : List C) (j : Nat) (x : C), es[i]? = some e → e[j]? = some x → i * k + j < n * k := by
      intro i e j x he hx
      have h1 := (List.getElem?_eq_some_iff.1 he).1
      have h2 := (List.getElem?_eq_some_iff.1 hx).1
      rw [hat.each e (List.mem_of_getElem? he)] at h2
      rw [hat.len] at h1
      have : (i + 1) * k ≤ n * k := Nat.mul_le_mul_right k h1
      rw [Nat.add_mul] at this
      omega
    refine ⟨fun b o => if b = g ∧ o < n * k then cur[o]? else Z b o, hle, fun b o u hz => ?_, ⟨R.bel, R.gw, fun b o u hz => ?_, R.yok, fun id' cs hi' => ?_, fun id' es' hi' => ?_, fun id' es' i' v' hi' => ?_, R.inj⟩, ?_⟩
    · dsimp only at hz
      split at hz
      · rename_i hc; rw [hc.1]; exact .inr hat.base
      · exact .inl hz
    · split at hz
      · rename_i hc
        obtain ⟨rfl, hc⟩ := hc
        simp only [World.cell?, hv]
        simpa using hz
      · exact R.zok b o u hz
    · obtain ⟨g', hg', hat'⟩ := R.box id' cs hi'
      obtain ⟨t', vs, hv', hr⟩ := hat'.ex
      refine ⟨g', hg', ⟨hat'.base, ⟨t', vs, hv', hr.mono hle (MLe.refl _)⟩, fun o => ?_⟩⟩
      have hne : g' ≠ g := by
        intro e
        subst e
        have := R.inj id' id g' (by simp [hi']) (by simp [hi]) (by simp [blkOf, hg']) (by simp [blkOf, hm])
        subst this
        rw [hi] at hi'; cases hi'
      simp [hne, hat'.apart o]
    · rcases R.row id' es' hi' with h0 | ⟨g', n', c', k', hg', hat'⟩
      · exact .inl h0
      · obtain ⟨t', fz', cur', hv', hcs', hfz', hcell'⟩ := hat'.ex
        refine .inr ⟨g', n', c', k', hg', ⟨hat'.base, ⟨t', fz', cur', hv', hcs', hfz', fun i e j x he hx => ?_⟩, hat'.len, hat'.le, hat'.max, hat'.pos, hat'.zero, hat'.each, fun o ho => ?_⟩⟩
        · obtain ⟨u, hu, hr⟩ := hcell' i e j x he hx
          exact ⟨u, hu, hr.mono hle⟩
        · by_cases e : id' = id
          · subst e
            rw [hm] at hg'
            injection hg' with hg'
            injection hg' with a1 a2 a3
            injection a1 with a1
            injection a1 with a1
            subst a1 a2 a3
            refine ⟨by simp, ?_⟩
            have hkk : k' = k ∨ n = 0 := by
              rcases Nat.eq_zero_or_pos n with h0 | h0
              · exact .inr h0
              · left
                have hl := hat.len
                rw [hi] at hi'
                injection hi' with hi'; injection hi' with hi'; subst hi'
                cases es with
                | nil => simp at hl; omega
                | cons e0 es => rw [← hat'.each e0 (by simp), hat.each e0 (by simp)]
            by_cases hc : o < n * k
            · rcases hkk with rfl | h0
              · exact hc
              · subst h0; simp at hc
            · simp [hc] at ho
              exact (hat'.apart o (by simpa using ho)).2
          · have hne : g' ≠ g := by
              intro e'
              subst e'
              exact e (R.inj id' id g' (by simp [hi']) (by simp [hi]) (by simp [blkOf, hg']) (by simp [blkOf, hm]))
            simp [hne] at ho
            have := hat'.apart o (by simpa using ho)
            exact ⟨by simp [this.1], this.2⟩
    · obtain ⟨g', n', c', hg', hat'⟩ := R.tab id' es' i' v' hi'
      refine ⟨g', n', c', hg', hat'.up hle (MLe.refl _) (fun _ h => h) fun o => ?_⟩
      have hne : g' ≠ g := by
        intro e
        subst e
        have := R.inj id' id g' (by simp [hi']) (by simp [hi]) (by simp [blkOf, hg']) (by simp [blkOf, hm])
        subst this
        rw [hi] at hi'; cases hi'
      simp [hne, hat'.apart o]
    · intro v n' r
      cases r with
      | row _ _ A c' hm' hA =>
        rw [hm] at hm'
        injection hm' with hm'
        injection hm' with a1 a2 a3
        subst a1 a2 a3
        refine .sl _ n c k g 0 (fun o => (cur[o]?).getD .nilFunc) es hat.len hat.le hat.max hat.each (fun _ => rfl) ?_ ?_ (fun h => by cases h)
        · intro i e j x he hx
          obtain ⟨u, hu, _⟩ := hcell i e j x he hx
          have := hcr i e j x he hx
          simp [this, hu]
        · intro i e j x he hx
          obtain ⟨u, hu, hr⟩ := hcell i e j x he hx
          rw [hu]
          exact hr.mono hle
      | row0 _ A hm' => rw [hm] at hm'; cases hm'
end
end Go.Proofs.Ytokahibbkdbndaa
