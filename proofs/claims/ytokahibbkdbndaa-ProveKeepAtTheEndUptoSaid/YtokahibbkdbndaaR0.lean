/- From a law's contract to its row; arguments opened. -/
import Derived.Test.YtokahibbkdbndaaBase
import Derived.Test.YtokahibbkdbndaaChecked
import Derived.ProofKit
import Derived.OpenShut
import Derived.JoinedCond
import Derived.Deep.Slices
import Derived.Deep.Fields
import Derived.Lib.SmallJoins
namespace Go.Proofs.Ytokahibbkdbndaa
open Go.ChangeShapes Go.WideShapes Go.ChangeAt Go.RowKit Go.Deep

theorem Try_own : ownKnob Try.prog.godebug = none := by kernel_rfl
theorem Try_laid : laidOutB Try.prog = true := by kernel_rfl

section
variable {H : Type} {enc : TypeId × Value → H} {P : Program}

theorem trodAll_bel (hl : laidOutB P = true) {W W' : World} (hb : Bel W W') : ∀ {ts : List TypeId} {vs : List Value} {ds : List (DataW H)} {ps : List MemPlace}, ts.all (fun t => P.readableRec t && decide (t < P.types.size)) = true →
    DataW.TrodAll enc P W 0 (fun _ => true) true ts vs ds ps → (∀ x ∈ ps, x.block < W.heap.size) → DataW.TrodAll enc P W' 0 (fun b => decide (b < W.heap.size)) true ts vs ds ps
  | [], [], [], _, _, h, _ => h
  | [], [], _ :: _, _, _, h, _ => h.elim
  | [], _ :: _, _, _, _, h, _ => h.elim
  | _ :: _, [], _, _, _, h, _ => h.elim
  | _ :: _, _ :: _, [], _, _, h, _ => h.elim
  | t :: ts, v :: vs, d :: ds, ps, hr, h, hlt => by
    obtain ⟨p, q, h1, h2, rfl⟩ := h
    simp only [List.all_cons, Bool.and_eq_true, decide_eq_true_eq] at hr
    exact ⟨p, q, Below.trod hl hr.1.1 hr.1.2 h1 hb (fun x hx => hlt x (List.mem_append_left _ hx)), trodAll_bel hl hb hr.2 h2 (fun x hx => hlt x (List.mem_append_right _ hx)), rfl⟩

/-- A law that returned true and left memory as it was: its row's post. -/
theorem law_post {fn : Func} {s : ChangeSpec} {W W' : World} {args : Array Value} {ds gs : List (DataW H)} {before : List MemPlace} {tb : TypeId} (hl : laidOutB P = true)
    (hr : fn.params.toList.all (fun t => P.readableRec t && decide (t < P.types.size)) = true) (hrt : fn.resultTypes = #[tb]) (htb : P.underlying tb = some .bool) (hvars : s.vars = [])
    (hfn : s.fn H ds = { results := [.lit (.bool true)], args := ds })
    (hW : DataW.Whole enc P fn.params.toList s.vars false W args.toList ds gs before) (hb : Bel W W') : s.post enc P fn false true false false W args (.bool true) W' := by
  have hW' := hW
  have hlt : ∀ x ∈ before, x.block < W.heap.size := fun x hx => hW.lt x hx
  obtain ⟨p, q, hA, hV, rfl, hfz, hnd⟩ := hW
  rw [hvars] at hV
  obtain ⟨rfl, rfl⟩ := trodVars_none hV
  have e : s.fn H (ds ++ []) = { results := [.lit (.bool true)], args := ds } := by rw [List.append_nil]; exact hfn
  refine ⟨ds, [], p ++ [], [], p, [], hW', ?_, ?_, ?_, hb.frame _, fun h => by cases h⟩
  · rw [e, hrt]
    exact trodAll_mk1 (shut_bool htb true)
  · rw [e]
    exact trodAll_bel hl hb hr hA (fun x hx => hlt x (by simpa using hx))
  · rw [e, hvars]
    rfl

/-- the rows of a slice's elements -/
theorem open_rows {w : World} {base : Nat} {spare : Nat → Bool} {held : Bool} {t e : TypeId} {k fuel : Nat} {v : Value} {x : DataW H × List MemPlace} (ht : P.underlying t = some (.slice e)) (hC : P.cellsOf e = k) (hk : 0 < k)
    (hone : ∀ fuel cs y, DataW.trod enc P w base spare held fuel e cs = some y → ∀ u ∈ cs, u.oneCell' = true)
    (h : DataW.trod enc P w base spare held fuel t [v] = some x) :
    ∃ A n c css, v = .slice A n c ∧ Rd w k A n c (List.flatten css) ∧ css.length = n ∧ ∀ cs ∈ css, cs.length = k ∧ ∃ fuel y, DataW.trod enc P w base spare held fuel e cs = some y := by
  rcases open_slice ht h with ⟨hcs, _⟩ | ⟨a, len, cap, m, n, D, Pl, hcs, _, hl, hm, hmm, _, hi⟩
  · injection hcs with hcs
    exact ⟨none, 0, 0, [], hcs, Rd.nil, rfl, by simp⟩
  · injection hcs with hcs
    have hlm : len ≤ m := by rw [hmm]; split <;> omega
    have hex : ∀ i, i < len → ∃ cs', w.cells? base (a.add (i * k)) k = some cs' ∧ DataW.trod enc P w base spare held n e cs' = some (D i, Pl i) := fun i hi' => by
      have := hi i (by omega)
      rwa [hC] at this
    obtain ⟨C, hCC⟩ := choose_lt (α := List Value) (p := fun i cs' => w.cells? base (a.add (i * k)) k = some cs' ∧ DataW.trod enc P w base spare held n e cs' = some (D i, Pl i)) hex
    have hlen : ∀ i, i < len → (C i).length = k := fun i hi' => (World.cells?_some (hCC i hi').1).2.1
    have hcell : ∀ i, i < len → ∀ j, j < k → w.cell? (a.add (i * k + j)) = (C i)[j]? := fun i hi' j hj => by
      have := (World.cells?_some (hCC i hi').1).2.2 j hj
      rwa [Go.Deep.add_add] at this
    have hfl : ∀ m', m' ≤ len → (((List.range m').map C).flatten).length = m' * k := by
      intro m' hm'
      induction m' with
      | zero => simp
      | succ m' ih =>
        rw [List.range_succ, List.map_append, List.flatten_append, List.length_append, ih (by omega)]
        simp [hlen m' (by omega), Nat.add_mul]
    have hget : ∀ m', m' ≤ len → ∀ i j, i < m' → j < k → (((List.range m').map C).flatten)[i * k + j]? = (C i)[j]? := by
      intro m' hm'
      induction m' with
      | zero => intro i j hi'; omega
      | succ m' ih =>
        intro i j hi' hj
        rw [List.range_succ, List.map_append, List.flatten_append]
        rcases Nat.lt_or_ge i m' with h' | h'
        · rw [List.getElem?_append_left (by
            rw [hfl m' (by omega)]
            have : (i + 1) * k ≤ m' * k := Nat.mul_le_mul_right k h'
            rw [Nat.add_mul] at this
            omega)]
          exact ih (by omega) i j h' hj
        · have : i = m' := by omega
          subst this
          rw [List.getElem?_append_right (by rw [hfl i (by omega)]; omega), hfl i (by omega)]
          simp
    refine ⟨some a, len, cap, (List.range len).map C, hcs, ⟨by rw [hfl len (Nat.le_refl _)], hl, hm, ?_, ?_⟩, by simp, ?_⟩
    · intro u hu
      obtain ⟨cs, hcs', hu'⟩ := List.mem_flatten.1 hu
      obtain ⟨i, hi', rfl⟩ := List.mem_map.1 hcs'
      exact hone n _ _ (hCC i (by simpa using hi')).2 u hu'
    · intro hpos
      have hl0 : 0 < len := Nat.pos_of_mul_pos_right hpos
      have h00 := hcell 0 hl0 0 hk
      have hc0 : (C 0)[0]? = some ((C 0)[0]'(by rw [hlen 0 hl0]; exact hk)) := List.getElem?_eq_getElem _
      rw [hc0] at h00
      have hadd : (a.add (0 * k + 0)) = a := by simp [Addr.add]
      rw [hadd] at h00
      obtain ⟨b, off, spot⟩ := a
      have hsp : spot = none := by
        cases spot with
        | none => rfl
        | some s =>
          unfold World.cell? at h00
          split at h00 <;> simp at h00
      subst hsp
      refine ⟨b, off, rfl, ?_, ?_⟩
      · rcases Nat.lt_or_ge b w.heap.size with hlt | hge
        · exact hlt
        · unfold World.cell? at h00
          rw [Array.getElem?_eq_none hge] at h00
          cases h00
      · intro j u hu
        have hjl : j < len * k := by
          rw [← hfl len (Nat.le_refl _)]
          rcases Nat.lt_or_ge j ((List.range len).map C).flatten.length with h' | h'
          · exact h'
          · rw [List.getElem?_eq_none h'] at hu; cases hu
        have hdm : j / k * k + j % k = j := by rw [Nat.mul_comm]; exact Nat.div_add_mod j k
        have hdl : j / k < len := (Nat.div_lt_iff_lt_mul hk).2 hjl
        have h1 := hcell (j / k) hdl (j % k) (Nat.mod_lt _ hk)
        have h2 := hget len (Nat.le_refl _) (j / k) (j % k) hdl (Nat.mod_lt _ hk)
        rw [hdm] at h1 h2
        rw [h2] at hu
        rw [hu] at h1
        rw [← h1]
        unfold Addr.add
        split
        · rename_i h0; subst h0; rfl
        · rfl
    · intro cs hcs'
      obtain ⟨i, hi', rfl⟩ := List.mem_map.1 hcs'
      exact ⟨hlen i (by simpa using hi'), n, _, (hCC i (by simpa using hi')).2⟩

/-- a struct's field -/
theorem trod_field {w : World} {base : Nat} {spare : Nat → Bool} {held : Bool} {t : TypeId} {fs : Array Field} {fuel : Nat} {cs : List Value} {x : DataW H × List MemPlace} (ht : P.underlying t = some (.struct fs))
    (h : DataW.trod enc P w base spare held fuel t cs = some x) : cs.length = P.cellsOf t ∧ ∃ n, ∀ (i : Nat) (f : Field), fs[i]? = some f → ∃ y, DataW.trod enc P w base spare held n f.type ((cs.drop f.offset).take (P.cellsOf f.type)) = some y := by
  obtain ⟨xs, n, _, _, hl, hxl, hf⟩ := DataW.trod_struct ht h
  refine ⟨hl, n, fun i f hi => ⟨xs[i]'?_, ?_⟩⟩
  · rw [hxl]
    exact (Array.getElem?_eq_some_iff.1 hi).1
  · rw [hf i f hi]
    exact List.getElem?_eq_getElem _

/-- where each element's cells are those of a value -/
theorem rows_of {α : Type} (f : α → List Value) (Q : α → Prop) : ∀ {css : List (List Value)}, (∀ cs ∈ css, ∃ a, cs = f a ∧ Q a) → ∃ l : List α, List.flatten css = l.flatMap f ∧ l.length = css.length ∧ ∀ a ∈ l, Q a
  | [], _ => ⟨[], rfl, rfl, by simp⟩
  | cs :: css, h => by
    obtain ⟨a, rfl, hq⟩ := h cs (List.mem_cons_self ..)
    obtain ⟨l, hl, hn, hq'⟩ := rows_of f Q (css := css) (fun c hc => h c (List.mem_cons_of_mem _ hc))
    exact ⟨a :: l, by simp [hl], by simp [hn], by intro x hx; rcases List.mem_cons.1 hx with rfl | hx; exact hq; exact hq' x hx⟩
end
end Go.Proofs.Ytokahibbkdbndaa
