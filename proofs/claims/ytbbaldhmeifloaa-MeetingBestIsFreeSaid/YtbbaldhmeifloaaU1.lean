/- The comparison that freebusy.Union hands to the sort; the sort's contract at periods. -/
import Derived.Test.YtbbaldhmeifloaaU5
import Derived.Test.YtbbaldhmeifloaaSort
namespace Go.Proofs.Ytbbaldhmeifloaa
open Go.RowKit Go.Sort

instance : Inhabited Pd := ⟨⟨0, 0⟩⟩
/-- a period's cells -/
def encP (x : Pd) : List Value := [.int .i64 x.From, .int .i64 x.To]
def cfP (x y : Pd) : Int := if x.From < y.From then -1 else if y.From < x.From then 1 else 0

theorem nan_calls (x : Int) (w : World) : Calls Try.prog 89 #[.int .i64 x] w fun e w' => e = .returned (.bool false) ∧ w' = w := by
  go_enter Try.func89, Try.ntmps89
  go_wp2
  go_ret
  exact ⟨by simp, rfl⟩

theorem cmpI_calls (x y : Int) (w : World) : Calls Try.prog 70 #[.int .i64 x, .int .i64 y] w fun e w' => e = .returned (.int .i64 (if x < y then -1 else if y < x then 1 else 0)) ∧ w' = w := by
  by_cases h1 : x < y
  · go_enter Try.func70, Try.ntmps70
    go_wp2_with (go_at_call 89; refine (nan_calls _ _).mono ?_; rintro e w' ⟨rfl, rfl⟩)
    go_ret
    exact ⟨by simp [], rfl⟩
  · by_cases h2 : y < x
    · go_enter Try.func70, Try.ntmps70
      go_wp2_with (go_at_call 89; refine (nan_calls _ _).mono ?_; rintro e w' ⟨rfl, rfl⟩)
      go_ret
      exact ⟨by simp [], rfl⟩
    · go_enter Try.func70, Try.ntmps70
      go_wp2_with (go_at_call 89; refine (nan_calls _ _).mono ?_; rintro e w' ⟨rfl, rfl⟩)
      go_ret
      exact ⟨by simp [], rfl⟩

theorem cmp_calls (x y : Pd) (w : World) : Calls Try.prog 69 #[.agg #[.int .i64 x.From, .int .i64 x.To], .agg #[.int .i64 y.From, .int .i64 y.To]] w fun e w' => e = .returned (.int .i64 (cfP x y)) ∧ ∃ q os', w' = grow (w.drewN q) os' := by
  have hc : ∀ w : World, Calls Try.prog 70 #[.int .i64 x.From, .int .i64 y.From] w fun e w' => e = .returned (.int .i64 (cfP x y)) ∧ w' = w := fun w => cmpI_calls _ _ w
  generalize cfP x y = r at hc ⊢
  go_enter Try.func69, Try.ntmps69
  go_wp2_with (go_at_call 70; refine (hc _).mono ?_; rintro e w' ⟨rfl, rfl⟩)
  go_ret
  exact ⟨rfl, 0, _, by rw [alloc_eq_grow, alloc_eq_grow, grow_grow]; rfl⟩

theorem ltOf_cfP (x y : Pd) : ltOf cfP x y = decide (x.From < y.From) := by
  unfold ltOf cfP
  by_cases h1 : x.From < y.From
  · simp [h1]
  · by_cases h2 : y.From < x.From
    · simp [h1, h2]
    · simp [h1, h2]
theorem cfP_swo : SWO (ltOf cfP) := by
  refine ⟨fun x => by simp [ltOf_cfP], fun x y z h1 h2 => ?_, fun x y z h1 h2 => ?_⟩
  · rw [ltOf_cfP] at *; simp at *; omega
  · rw [ltOf_cfP] at *; simp at *; omega
theorem cmp_lays (blk off size : Nat) (w : World) : CmpLays Try.prog 69 #[] encP 2 cfP blk off size w := fun m os dk _ x y => cmp_calls x y _

/-- the periods as the sort leaves them -/
def sortU (l : List Pd) : List Pd := (pdq (ltOf cfP) l.toArray 0 l.toArray.size (Lib.bitLen l.toArray.size) true true).toList
theorem sortU_spec (l : List Pd) : (sortU l).Perm l ∧ (sortU l).length = l.length ∧ SortedF (sortU l) := by
  obtain ⟨⟨h1, h2, h3⟩, h4⟩ := pdq_sorts (ltOf cfP) cfP_swo l.toArray 0 l.toArray.size (Lib.bitLen l.toArray.size) true true (Nat.zero_le _) (Nat.le_refl _) (Or.inl rfl)
  unfold sortU
  generalize pdq (ltOf cfP) l.toArray 0 l.toArray.size (Lib.bitLen l.toArray.size) true true = d at *
  have hs : d.size = l.length := by simpa using h1
  have hp : d.toList.Perm l := by
    have e1 : (d.extract 0 l.toArray.size).toList = d.toList := by
      rw [Array.toList_extract]; simp [List.extract]; exact List.take_of_length_le (by simp [hs])
    have e2 : (l.toArray.extract 0 l.toArray.size).toList = l := by rw [Array.toList_extract]; simp [List.extract]
    rw [e1, e2] at h3; exact h3
  refine ⟨hp, by simp [hs], ?_⟩
  have key : ∀ (l' : List Pd), (∀ i j (hi : i < j) (hj : j < l'.length), l'[i].From ≤ l'[j].From) → SortedF l' := by
    intro l'
    induction l' with
    | nil => intro _; trivial
    | cons x l' ih =>
      intro h
      refine ⟨fun q hq => ?_, ih fun i j hi hj => ?_⟩
      · obtain ⟨j, hj, rfl⟩ := List.getElem_of_mem hq
        exact h 0 (j + 1) (by omega) (by simpa using hj)
      · exact h (i + 1) (j + 1) (by omega) (by simpa using hj)
  refine key _ fun i j hi hj => ?_
  have hj' : j < d.size := by simpa using hj
  have := h4 i j (Nat.zero_le _) hi (by simpa [hs] using hj')
  rw [ltOf_cfP, getElem!_pos d j hj', getElem!_pos d i (by omega)] at this
  simp at this
  simpa using this
theorem encP_flat (d : Array Pd) {i : Nat} (hi : i < d.size) {j : Nat} (hj : j < 2) : (flatK encP 2 d)[i * 2 + j]! = (encP d[i]!)[j]! := by
  rw [get_flatK _ _ _ _ (by omega)]
  have e1 : (i * 2 + j) / 2 = i := by omega
  have e2 : (i * 2 + j) % 2 = j := by omega
  rw [e1, e2]
theorem RowP.holds {w : World} {g n c : Nat} {l : List Pd} (h : RowP w g n c l) : HoldsK encP 2 w g 0 l.toArray := by
  obtain ⟨⟨t, fz, cur, hv, hs, hf, hc⟩, hl, hle, hm, hp⟩ := h
  intro j hj
  simp only [size_flatK] at hj
  have hj' : j < l.length * 2 := by simpa using hj
  have hi : j / 2 < l.length := by omega
  obtain ⟨c1, c2⟩ := hc (j / 2) l[j / 2] (List.getElem?_eq_getElem hi)
  have he : l.toArray[j / 2]! = l[j / 2] := by rw [getElem!_pos l.toArray (j / 2) (by simpa using hi)]; simp
  have hfz : w.frozen? ⟨g, 0 + j, none⟩ = false := by
    obtain ⟨lo, hi⟩ := fz
    have := hf (0 + j) (by omega)
    simp only [World.frozen?, hv]
    simp only [Bool.and_eq_false_iff, decide_eq_false_iff_not]
    simp only at this
    omega
  refine ⟨?_, hfz⟩
  have e : j = (j / 2) * 2 + j % 2 := by omega
  have hm2 : j % 2 < 2 := Nat.mod_lt _ (by decide)
  rw [show (flatK encP 2 l.toArray)[j]! = (flatK encP 2 l.toArray)[(j / 2) * 2 + j % 2]! from by rw [← e], encP_flat _ (by simpa using hi) hm2, he]
  simp only [World.cell?, hv, Nat.zero_add, id]
  rcases (show j % 2 = 0 ∨ j % 2 = 1 by omega) with h0 | h0
  · rw [h0]; rw [h0] at e; rw [Nat.add_zero] at e; rw [← e] at c1; simpa [encP] using c1
  · rw [h0]; rw [h0] at e; rw [← e] at c2; simpa [encP] using c2
theorem RowP.sorted {W w : World} {g n c : Nat} {l : List Pd} (h : RowP w g n c l) (hb : Bel W w) (hg : W.heap.size ≤ g) (d : Array Pd) (hd : d.size = l.length) (m : Nat) (os : Array Obj) : Bel W (sortWorldK encP 2 w g 0 m d os) ∧ RowP (sortWorldK encP 2 w g 0 m d os) g n c d.toList := by
  obtain ⟨⟨t, fz, cur, hv, hs, hf, hc⟩, hl, hle, hm, hp⟩ := h
  have hlt := heap_lt hv
  have hsz : (putRow id (Sort.ahead w m) g 0 (flatK encP 2 d)).heap.size = w.heap.size := by rw [size_putRow]; rfl
  have hat : ∀ k, k < w.heap.size → (sortWorldK encP 2 w g 0 m d os).heap[k]? = if k = g then some (.cells (putCells id 0 (flatK encP 2 d) cur) t fz) else w.heap[k]? := by
    intro k hk
    show ((putRow id (Sort.ahead w m) g 0 (flatK encP 2 d)).heap ++ os)[k]? = _
    rw [Array.getElem?_append_left (by rw [hsz]; exact hk)]
    show (w.heap.modify g _)[k]? = _
    rw [Array.getElem?_modify]
    by_cases e : g = k
    · subst e
      simp only [if_true, hv, Option.map_some, onCells]
    · rw [if_neg e, if_neg (Ne.symm e)]
  refine ⟨⟨hb.os, hb.tape, hb.output, ?_, fun k hk => ?_⟩, ⟨t, fz, putCells id 0 (flatK encP 2 d) cur, by rw [hat g hlt, if_pos rfl], by simp [putCells, hs], by simpa [putCells] using hf, fun i x hx => ?_⟩, by rw [← hl, ← hd]; simp, hle, hm, hp⟩
  · show W.heap.size ≤ ((putRow id (Sort.ahead w m) g 0 (flatK encP 2 d)).heap ++ os).size
    rw [Array.size_append, hsz]
    have := hb.size
    omega
  · have := hb.size
    rw [hat k (by omega), if_neg (by omega)]
    exact hb.block k hk
  · have hi : i < d.size := by have := (List.getElem?_eq_some_iff.1 hx).1; simpa using this
    have hx' : d[i]! = x := by
      rw [getElem!_pos d i hi]
      rw [List.getElem?_eq_getElem (by simpa using hi)] at hx
      injection hx with hx
    have one : ∀ j, j < 2 → (putCells id 0 (flatK encP 2 d) cur)[i * 2 + j]? = some (encP x)[j]! := fun j hj => by
      have hq : i * 2 + j < cur.size := by omega
      unfold putCells
      rw [Array.getElem?_mapIdx, Array.getElem?_eq_getElem hq]
      simp only [Option.map_some, size_flatK, Nat.zero_le, true_and, Nat.zero_add, Nat.sub_zero, id]
      rw [if_pos (by omega), encP_flat d hi hj, hx']
    exact ⟨by simpa [encP] using one 0 (by decide), by simpa [encP] using one 1 (by decide)⟩
theorem sort_calls {W w : World} {g n c : Nat} {l : List Pd} (hb : Bel W w) (hg : W.heap.size ≤ g) (h : RowP w g n c l) (hn : n < 4611686018427387904) :
    Calls Try.prog 68 #[.slice (some ⟨g, 0, none⟩) n c, .func (.func 69) #[] #[]] w fun e w' => e = .returned (.tuple #[]) ∧ Bel W w' ∧ RowP w' g n c (sortU l) := by
  obtain ⟨⟨t, fz, cur, hv, _⟩, hl, _⟩ := id h
  have hcon := AnyQ.slices_SortFunc_eq sortP 2 Try.isAgg58 Try.sizeOf58 encP (fun _ => rfl) (fun x v hv => by simp [encP] at hv; rcases hv with rfl | rfl <;> rfl) cfP cfP_swo 69 #[] g 0 c l.toArray w (enters_of Try.func69 (by kernel_rfl) rfl) (cmp_lays g 0 _ w) h.holds (heap_lt hv) (by simp; omega)
  change Calls Try.prog 68 _ _ _ at hcon
  have e : l.toArray.size = n := by simpa using hl
  rw [e] at hcon
  have hs := (sortU_spec l).2.1
  have hu : sortU l = (pdq (ltOf cfP) l.toArray 0 n (Lib.bitLen n) true true).toList := by unfold sortU; rw [e]
  rw [hu] at hs ⊢
  generalize pdq (ltOf cfP) l.toArray 0 n (Lib.bitLen n) true true = d at *
  refine hcon.mono ?_
  rintro e w' ⟨rfl, m, os, rfl⟩
  obtain ⟨h1, h2⟩ := h.sorted hb hg d (by simpa using hs) m os
  exact ⟨rfl, h1, h2⟩
end Go.Proofs.Ytbbaldhmeifloaa
