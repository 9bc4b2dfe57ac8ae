/- slices.AppendSeq of what tokens.each yields. -/
import Derived.Test.YtomnbknaanlmaaaGreatDoorZ15
import Derived.OwnWalkIn
import Derived.Laws.EntriesVeiled
import Derived.RangeFuncRecord
import Derived.Lib.SlicesCompact
import Derived.Sort.Walk0
import Derived.WalkKit
import Derived.Shelf.Sort.Plain
import Derived.Shelf.Slices.CompactS
import Derived.Shelf.Slices.Clone
import Derived.Shelf.Slices.In.SortNone
import Derived.Sort.OwnSorted
import Derived.Lib.OwnBridge
import Derived.Test.YtomnbknaanlmaaaGreatDoorZ14
import Derived.Test.YtomnbknaanlmaaaGreatDoorZ00
import Derived.Test.YtomnbknaanlmaaaGreatDoorChecked
import Derived.ProofKit
import Derived.OpenShut
import Derived.JoinedCond
import Derived.Deep.Slices
import Derived.Deep.Fields
import Derived.Lib.SmallJoins
import Derived.Test.YtomnbknaanlmaaaGreatDoorZ10
import Derived.Test.YtomnbknaanlmaaaGreatDoorRows
import Derived.Deep.QuietTactic
import Derived.BigQuiet
import Derived.WalkMore
namespace Go.Proofs.YtomnbknaanlmaaaGreatDoor
open Go.RowKit
set_option maxRecDepth 100000
theorem sal_new (W : World) (o : Obj) {k : Nat} (h : k = W.heap.size) : (W.alloc o).heap[k]? = some o := by subst h; exact World.alloc_heap_new W o
theorem sal_old {W : World} {x : Obj} (o : Obj) {k : Nat} (h : W.heap[k]? = some x) : (W.alloc o).heap[k]? = some x := (Below.heap_alloc W o k (Array.getElem?_eq_some_iff.1 h).1).trans h
theorem sblk_bel {W W' : World} {p : Nat} {x : Obj} (h : W.heap[p]? = some x) (hb : Bel W W') : W'.heap[p]? = some x := (hb.block _ (Array.getElem?_eq_some_iff.1 h).1).trans h
theorem sgwb {w w' : World} (h : GW w) (hb : Bel w w') : GW w' := BelA.gw (wb_bel.2 hb) ⟨h, GB.no h⟩
theorem slt {W : World} {k : Nat} {x : Obj} (h : W.heap[k]? = some x) : k < W.heap.size := (Array.getElem?_eq_some_iff.1 h).1
theorem sfrz {W : World} {k : Nat} {cs : Array Value} {t : TypeId} (h : W.heap[k]? = some (.cells cs t)) : ∀ o, W.frozen? ⟨k, o, none⟩ = false := fun o => by simp [World.frozen?, h]
theorem EI.later {W W' : World} {p1 p2 : Nat} {s : ByteArray} (h : EI W p1 p2 s) (hb : Bel W W') : EI W' p1 p2 s := ⟨sgwb h.gw hb, (hb.cell 0 (cell_lt h.c1)).trans h.c1, (hb.cell 0 (cell_lt h.c2)).trans h.c2⟩
abbrev OwnS (o : Nat) (W : World) (v : Value) (l : List ByteArray) : Prop := W.ownsRow o 9 1 v l.length (l.map Value.string)
/-- between two rounds -/
structure So (w W : World) (L D po o : Nat) (rec : Loop) (v : Value) (acc : List ByteArray) : Prop where
  lp : W.heap[L]? = some (.loop rec)
  dd : W.heap[D]? = some (.deferred (some []))
  bel : Bel w W
  out : W.heap[po]? = some (.cells #[v] 25)
  own : OwnS o W v acc
  ob : o ≤ W.heap.size
  ow : w.heap.size ≤ o ∧ w.heap.size ≤ po ∧ w.heap.size ≤ L
  lt : L < o ∧ D < o ∧ po < o
/-- blocks that a round leaves asx they are -/
def Kp (a o : Nat) (W W' : World) : Prop := ∀ k, a ≤ k → k < o → W'.heap[k]? = W.heap[k]?
theorem Kp.trans {a o : Nat} {A B C : World} (h : Kp a o A B) (h' : Kp a o B C) : Kp a o A C := fun k h1 h2 => (h' k h1 h2).trans (h k h1 h2)
theorem Kp.bel {a o : Nat} {A B : World} (h : Bel A B) (ho : o ≤ A.heap.size) : Kp a o A B := fun k _ h2 => h.block k (by omega)
theorem Kp.put {a o L : Nat} {A : World} (h : L < a) (x : Obj) : Kp a o A (A.putObj L x) := fun k h1 _ => World.putObj_heap_other (by omega)
theorem Kp.set {a o p : Nat} {A : World} (h : p < a) (x : Value) : Kp a o A (A.setCell ⟨p, 0, none⟩ x) := fun k h1 _ => Below.heap_setCell A ⟨p, 0, none⟩ x k (by show k ≠ p; omega)
section
variable {w W W' : World} {L D po o : Nat} {r r' : Loop} {v x : Value} {k k2 : List ByteArray}
theorem OwnS.low (h : OwnS o W v k) : ∀ j, v.ownBlock = some j → o ≤ j := fun j hj => by
  rcases h.2 with ⟨e, _⟩ | ⟨g, cap, cur, e, hgo, _⟩
  · subst e; cases hj
  · subst e; injection hj with hj; subst hj; exact hgo
theorem own_keep (h : OwnS o W v k) (hb : ∀ g x, o ≤ g → W.heap[g]? = some x → W'.heap[g]? = some x) : OwnS o W' v k := by
  refine ⟨h.1, h.2.imp id ?_⟩
  rintro ⟨g, cap, cur, e, hg, hx, hr⟩
  exact ⟨g, cap, cur, e, hg, hb _ _ hg hx, hr⟩
theorem So.later (h : So w W L D po o r v k) (hb : Bel W W') : So w W' L D po o r v k :=
  ⟨sblk_bel h.lp hb, sblk_bel h.dd hb, h.bel.trans hb, sblk_bel h.out hb, own_keep h.own (fun _g _x _ hx => sblk_bel hx hb), Nat.le_trans h.ob hb.size, h.ow, h.lt⟩
theorem So.put (h : So w W L D po o r v k) : So w (W.putObj L (.loop r')) L D po o r' v k := by
  have ne : ∀ {j : Nat} {x : Obj}, W.heap[j]? = some x → (∀ y, x ≠ .loop y) → (W.putObj L (.loop r')).heap[j]? = some x := fun {j x} hx hy => by
    have : j ≠ L := fun e => by subst e; rw [h.lp] at hx; injection hx with hx; exact hy r hx.symm
    exact (World.putObj_heap_other this).trans hx
  have hb : Bel w (W.putObj L (.loop r')) := ⟨h.bel.os, h.bel.tape, h.bel.output, by simpa using h.bel.size, fun j hj => (World.putObj_heap_other (by have := h.ow.2.2; omega)).trans (h.bel.block j hj)⟩
  exact ⟨World.putObj_heap_same (slt h.lp), ne h.dd (by simp), hb, ne h.out (by simp), own_keep h.own (fun g x hg hx => (World.putObj_heap_other (by have := h.lt.1; omega)).trans hx), by simpa using h.ob, h.ow, h.lt⟩
end
/-- behind an append to the row: the box is not yet written -/
structure Sg (w W : World) (L D po o : Nat) (rec : Loop) (v : Value) : Prop where
  lp : W.heap[L]? = some (.loop rec)
  dd : W.heap[D]? = some (.deferred (some []))
  bel : Bel w W
  out : W.heap[po]? = some (.cells #[v] 25)
  ob : o ≤ W.heap.size
section
variable {w W W' : World} {L D po o : Nat} {r r' : Loop} {v v3 x : Value} {k k2 : List ByteArray}
theorem Sg.setO (h : Sg w W L D po o r v) (how : w.heap.size ≤ o ∧ w.heap.size ≤ po ∧ w.heap.size ≤ L) (hlt : L < o ∧ D < o ∧ po < o) (ho : OwnS o W x k2) : So w (W.setCell ⟨po, 0, none⟩ x) L D po o r x k2 := by
  have ne : ∀ {j : Nat} {y : Obj}, W.heap[j]? = some y → j ≠ po → (W.setCell ⟨po, 0, none⟩ x).heap[j]? = some y := fun {j y} hx hj => (Below.heap_setCell W ⟨po, 0, none⟩ x j hj).trans hx
  have hb : Bel w (W.setCell ⟨po, 0, none⟩ x) := h.bel.setCell (p := ⟨po, 0, none⟩) how.2.1 x
  refine ⟨ne h.lp (fun e => by have h1 := h.lp; rw [e, h.out] at h1; cases h1), ne h.dd (fun e => by have h1 := h.dd; rw [e, h.out] at h1; cases h1), hb, ?_, own_keep ho (fun g y hg hx => ne hx (by omega)), by simpa using h.ob, how, hlt⟩
  simp [World.setCell, Array.getElem?_modify, h.out]
theorem So.grown (h : So w W L D po o r v k) (hg : W.grownBy W' v.ownBlock) : Sg w W' L D po o r v := by
  have hob := h.own.low
  have ne : ∀ {j : Nat} {x : Obj}, W.heap[j]? = some x → j < o → W'.heap[j]? = some x := fun {j x} hx hj => (hg.block j (slt hx) (fun e => by have := hob j e.symm; omega)).trans hx
  have hb : Bel w W' := by
    refine ⟨hg.os.trans h.bel.os, hg.tape.trans h.bel.tape, hg.output.trans h.bel.output, Nat.le_trans h.bel.size hg.size, fun j hj => ?_⟩
    have h1 := h.bel.size
    exact (hg.block j (by omega) (fun e => by have := hob j e.symm; have := h.ow.1; omega)).trans (h.bel.block j hj)
  obtain ⟨l1, l2, l3⟩ := h.lt
  exact ⟨ne h.lp l1, ne h.dd l2, hb, ne h.out l3, Nat.le_trans h.ob hg.size⟩
theorem So.kp (h : So w W L D po o r v k) (hg : W.grownBy W' v.ownBlock) {a : Nat} : Kp a o W W' := fun j _ hj => hg.block j (by have := h.ob; omega) (fun e => by have := h.own.low j e.symm; omega)
end
/-- what Collect answers -/
def SeqQ (w : World) (ts : List ByteArray) (e : Ending) (w' : World) : Prop := ∃ v, e = .returned v ∧ Bel w w' ∧ OwnS w.heap.size w' v ts
theorem strInfo : ∃ i0 z, Tryz.prog.info? 9 = some i0 ∧ i0.size = 1 ∧ i0.zero = some z ∧ i0.bytes = 16 ∧ z.cells.size = 1 := by
  have h : (Tryz.prog.info? 9).map (fun i => (i.zero, i.size, i.bytes)) = some (some (.string ⟨#[]⟩), 1, 16) := by kernel_rfl
  cases hi : Tryz.prog.info? 9 with
  | none => rw [hi] at h; cases h
  | some i0 =>
    rw [hi] at h
    simp only [Option.map_some, Option.some.injEq, Prod.mk.injEq] at h
    exact ⟨i0, _, rfl, h.2.1, h.1, h.2.2, rfl⟩
theorem scell_new {W : World} {t : ByteArray} {ty : TypeId} : ∀ (j : Nat) (u : Value), [Value.string t][j]? = some u → (W.alloc (.cells #[.string t] ty)).cell? (Addr.add ⟨W.heap.size, 0, none⟩ j) = some u := fun j u hj => by
  match j, hj with
  | 0, hj => simp at hj; subst hj; exact scell_at (sal_new _ _ rfl)
  | j + 1, hj => simp at hj
theorem tokF_len (l : List ByteArray) : (tokF l).length ≤ l.length := by
  unfold tokF
  rw [List.length_map]
  exact List.length_filter_le _ _
set_option maxHeartbeats 4000000 in
theorem seq_in (s : ByteArray) (hs : s.size ≤ 4000) (p1 p2 : Nat) (w : World) (hI : EI w p1 p2 s) :
    CallsIn Fence.wide 6 Tryz.prog 33 #[.slice none 0 0, .func (.func 37) #[] #[.pointer (some ⟨p1, 0, none⟩), .pointer (some ⟨p2, 0, none⟩)]] w (SeqQ w (tokF (flds s))) := by
  have hts : (tokF (flds s)).length ≤ 4001 := Nat.le_trans (tokF_len _) (flds_len s hs)
  refine callsIn_of_wp_marks Tryz.func33 rfl trivial ?_ rfl
  simp only [Tryz.ntmps33, List.size_toArray, List.length_cons, List.length_nil, Nat.reduceAdd, Nat.reduceSub, Array.replicate_succ, Array.replicate_zero, List.push_toArray, List.append_toArray, List.nil_append, List.cons_append]
  gi_wp2
  generalize hW3 : World.alloc w _ = w3
  have ho : w3.heap[w.heap.size]? = some (.cells #[.slice none 0 0] 25) := by rw [← hW3]; exact sal_new _ _ rfl
  have hb3 : Bel w w3 := by rw [← hW3]; exact (Bel.refl _).alloc _
  clear hW3
  have hpo : w.heap.size ≤ w.heap.size := Nat.le_refl _
  obtain ⟨po, hpe⟩ : ∃ po, w.heap.size = po := ⟨_, rfl⟩
  rw [hpe] at ho
  conv at hpo => rhs; rw [hpe]
  rw [hpe]
  clear hpe
  refine range_enter rfl (by decide) (gf := 37) (lb := #[.pointer (some ⟨p1, 0, none⟩), .pointer (some ⟨p2, 0, none⟩)]) rfl trivial (enters_of Tryz.func37 (by kernel_rfl) rfl) ?_
  intro fn hfn
  show CallsIn Fence.wide 5 Tryz.prog 37 #[.func (.yield (w3.heap.size + 1)) #[] #[], .pointer (some ⟨p1, 0, none⟩), .pointer (some ⟨p2, 0, none⟩)] _ _
  generalize hW1 : (w3.alloc (.deferred (some []))).alloc _ = W1
  have hK : W1.heap[w3.heap.size]? = some (.deferred (some [])) := by rw [← hW1]; exact sal_old _ (sal_new _ _ rfl)
  have hL := sal_new (w3.alloc (.deferred (some []))) _ (k := w3.heap.size + 1) (by simp) |> (fun h => (congrArg (fun W : World => W.heap[w3.heap.size + 1]?) hW1).symm.trans h)
  have hb4 : Bel w3 W1 := by rw [← hW1]; exact ((Bel.refl _).alloc _).alloc _
  clear hW1
  revert hL
  generalize hrec : recL fn _ _ _ _ _ = rec
  intro hL
  have hDw : w.heap.size ≤ w3.heap.size := hb3.size
  have hLw : w.heap.size ≤ w3.heap.size + 1 := by omega
  replace ho := sblk_bel ho hb4
  have hbW : Bel w W1 := hb3.trans hb4
  clear hb4 hb3
  generalize w3.heap.size + 1 = L at hL hLw ⊢
  generalize w3.heap.size = D at hK hrec hDw ⊢
  have hLa : L < W1.heap.size := slt hL
  have hDa : D < W1.heap.size := slt hK
  have hpa : po < W1.heap.size := slt ho
  obtain ⟨ii, zi, hi0, hs0, hz0, hy0, hc0⟩ := strInfo
  have hSo : ∀ W, Bel W1 W → So w W L D po W.heap.size (rec .ready none) (.slice none 0 0) [] := fun W hW =>
    ⟨sblk_bel hL hW, sblk_bel hK hW, hbW.trans hW, sblk_bel ho hW, ⟨rfl, .inl ⟨rfl, rfl⟩⟩, Nat.le_refl _, ⟨(hbW.trans hW).size, hpo, hLw⟩, Nat.lt_of_lt_of_le hLa hW.size, Nat.lt_of_lt_of_le hDa hW.size, Nat.lt_of_lt_of_le hpa hW.size⟩
  refine (e2_in L p1 p2 s hs W1 (fun o acc W => ∃ v, So w W L D po o (rec .ready none) v acc) ?_ ?_ (hI.later hbW) ?_ ?_).mono ?_
  · rintro o acc W ⟨v, h⟩
    exact sgwb hI.gw h.bel
  · rintro o acc W W' ⟨v, h⟩ hb
    exact ⟨v, h.later hb⟩
  · intro W hW
    exact ⟨_, hSo W hW⟩
  · rintro o acc t W m ⟨r2, hr2⟩ ⟨v, hB⟩
    have hkl : acc.length ≤ 4001 := by
      have := congrArg List.length hr2
      simp at this
      omega
    clear hr2 hSo hL hK ho hts
    have hL' := hB.lp
    rw [← hrec] at hL'
    refine yield_round trivial hL' rfl ?_
    rw [hrec]
    gi_wp2_with (rw [Oper.semAt_eq _ _ _ (fun c h => by cases h)]; go_simp; try go_bits)
    intro W2 hW2
    have hB2 : So w W2 L D po o (rec .busy none) v acc := by rw [hW2]; exact hB.put
    have hk2 : Kp W1.heap.size o W W2 := by rw [hW2]; exact Kp.put hLa _
    clear hW2 hL' hB
    have mo : ∀ o, W2.cell? ⟨po, o, none⟩ = (#[v] : Array Value)[o]? := fun o => scell_at hB2.out
    have fo := sfrz hB2.out
    have lo : po < W2.heap.size := slt hB2.out
    gi_wp2_with (first
      | (gi_at_builtin
         refine wpListIn_append_own _ rfl (.tmp 8) (.tmp 10) 25 rfl o 9 ii zi 1 16 Tryz.underlying25 hi0 hz0 hs0 hy0 hc0 (by decide) v acc.length (acc.map Value.string) rfl (hB2.later ((Bel.refl _).alloc _)).own ⟨W2.heap.size, 0, none⟩ 1 1 [.string t] rfl rfl scell_new (by simp; rfl) (by unfold maxLen; omega) (by omega) (hB2.later ((Bel.refl _).alloc _)).ob ?_
         intro v3 w6 ho3 hg3 _
         obtain ⟨g3, c3, rfl⟩ : ∃ g3 c3, v3 = .slice (some ⟨g3, 0, none⟩) (acc.length + 1) c3 := by
           rcases ho3.2 with ⟨_, h⟩ | ⟨g, cap, _, h, _⟩
           · omega
           · exact ⟨g, cap, h⟩
         have hB3 := hB2.later ((Bel.refl W2).alloc (.cells #[.string t] 9))
         have hB6 := hB3.grown hg3
         have hk6 := (hk2.trans (Kp.bel ((Bel.refl W2).alloc (.cells #[.string t] 9)) hB2.ob)).trans (hB3.kp hg3 (a := W1.heap.size))
         have mo6 : ∀ o, w6.cell? ⟨po, o, none⟩ = (#[v] : Array Value)[o]? := fun o => scell_at hB6.out
         have fo6 : ∀ o, w6.frozen? ⟨po, o, none⟩ = false := sfrz hB6.out
         have lo6 : po < w6.heap.size := slt hB6.out)
      | (rw [Oper.semAt_eq _ _ _ (fun c h => by cases h)]; go_simp; try go_bits))
    have hB7 := hB6.setO (x := .slice (some ⟨g3, 0, none⟩) (acc.length + 1) c3) (k2 := acc ++ [t]) hB2.ow hB2.lt (by
      show w6.ownsRow o 9 1 _ (acc ++ [t]).length ((acc ++ [t]).map Value.string)
      rw [List.length_append, List.map_append]
      exact ho3)
    exact ⟨hB7.lp, rfl, ⟨_, hB7.put⟩, (hk6.trans (Kp.set hpa _)).trans (Kp.put hLa _)⟩
  · rintro e W3 ⟨⟨vv, rfl⟩, o, v, hB⟩
    have hend : (Instr.endLoop L).run Tryz.prog W3 = .ok none (W3.putObj L (.loop { rec .ready none with state := .exhausted })) := by
      have h := run_endLoop (P := Tryz.prog) hB.lp (by rw [← hrec]; simp [recL])
      have hp : (rec .ready none).pending = none := by rw [← hrec]; rfl
      rw [h]
      show Result.ok (rec .ready none).pending _ = _
      rw [hp]
      first | done | rfl | (simp only [hp]; done)
    have hB4 : So w (W3.putObj L (.loop { rec .ready none with state := .exhausted })) L D po o { rec .ready none with state := .exhausted } v (tokF (flds s)) := hB.put
    generalize W3.putObj L (.loop { rec .ready none with state := .exhausted }) = W4 at hend hB4
    refine ⟨none, W4, hend, ?_⟩
    generalize tokF (flds s) = ts at *
    have mo : ∀ o, W4.cell? ⟨po, o, none⟩ = (#[v] : Array Value)[o]? := fun o => scell_at hB4.out
    have lo : po < W4.heap.size := slt hB4.out
    clear hSo hL hK ho hB
    gi_wp2
    refine ⟨by simp, .inl ⟨_, _, rfl, run_takeDeferred hB4.dd, ?_⟩⟩
    refine ⟨_, results_tmp rfl _ _ _, v, rfl, ⟨hB4.bel.os, hB4.bel.tape, hB4.bel.output, by simpa using hB4.bel.size, fun j hj => (World.putObj_heap_other (by omega)).trans (hB4.bel.block j hj)⟩, hB4.own.1, ?_⟩
    rcases hB4.own.2 with h | ⟨g, cap, cur, e1, hg, hx, hr⟩
    · exact .inl h
    · exact .inr ⟨g, cap, cur, e1, Nat.le_trans hB4.ow.1 hg, (World.putObj_heap_other (by have := hB4.lt.2.1; omega)).trans hx, hr⟩
theorem each_calls (s : ByteArray) (w : World) (hG : GW w) : Calls Tryz.prog 13 #[.string s] w fun e w' => ∃ p1 p2, e = .returned (.func (.func 37) #[] #[.pointer (some ⟨p1, 0, none⟩), .pointer (some ⟨p2, 0, none⟩)]) ∧ EI w' p1 p2 s ∧ Bel w w' := by
  go_enter Tryz.func13, Tryz.ntmps13
  go_wp2
  go_ret
  have hb : Bel w ((w.alloc (.cells #[.string s] 9)).alloc (.cells #[.func (.func 34) #[] #[]] 87)) := ((Bel.refl _).alloc _).alloc _
  refine ⟨_, _, rfl, ⟨sgwb hG hb, ?_, ?_⟩, hb⟩
  · exact (scell_at (sal_old _ (sal_new _ _ rfl))).trans rfl
  · exact (scell_at (sal_new _ _ (by simp))).trans rfl
theorem collect_calls (s : ByteArray) (hs : s.size ≤ 4000) (p1 p2 : Nat) (w : World) (hI : EI w p1 p2 s) :
    Calls Tryz.prog 12 #[.func (.func 37) #[] #[.pointer (some ⟨p1, 0, none⟩), .pointer (some ⟨p2, 0, none⟩)]] w (SeqQ w (tokF (flds s))) := by
  have h := callsIn_wide.1 (seq_in s hs p1 p2 w hI)
  go_enter Tryz.func12, Tryz.ntmps12
  go_wp2_with (go_at_call 33; refine h.mono ?_; rintro e w' ⟨v, rfl, hb, ho⟩)
  go_ret
  exact ⟨v, rfl, hb, ho⟩
end Go.Proofs.YtomnbknaanlmaaaGreatDoor
namespace Go.Proofs.YtomnbknaanlmaaaGreatDoor
open Go.RowKit
abbrev LU := List UInt8
def leU (x y : LU) : Bool := decide (x ≤ y)
theorem lu_lt {x y : LU} (h : x ≤ y) (hne : x ≠ y) : x < y := by
  rcases Classical.em (x < y) with h' | h'
  · exact h'
  · exact absurd (List.le_antisymm h (List.not_lt.1 h')) hne
theorem comp_upto {zs : List LU} (hs : zs.Pairwise (· ≤ ·)) : ∀ m, m ≤ zs.length → (Lib.compactUpTo zs.toArray m).Pairwise (· < ·) ∧ ∀ x ∈ Lib.compactUpTo zs.toArray m, x ∈ zs ∧ ∃ (h : m - 1 < zs.length), x ≤ zs[m - 1]
  | 0, _ => by
    have e : Lib.compactUpTo zs.toArray 0 = [] := rfl
    rw [e]
    simp
  | m + 1, hm => by
    obtain ⟨h1, h2⟩ := comp_upto hs m (by omega)
    have hlt : m < zs.length := by omega
    have em : zs.toArray[m]! = zs[m] := by simp [hlt]
    rw [Lib.compactUpTo_succ]
    have up : ∀ x ∈ Lib.compactUpTo zs.toArray m, x ≤ zs[m] := fun x hx => by
      obtain ⟨_, hq, h3⟩ := h2 x hx
      rcases Nat.eq_zero_or_pos m with e | e
      · subst e
        have e : Lib.compactUpTo zs.toArray 0 = [] := rfl
        rw [e] at hx
        cases hx
      · exact List.le_trans h3 (List.pairwise_iff_getElem.1 hs (m - 1) m hq hlt (by omega))
    cases hk : Lib.keeps zs.toArray m with
    | false =>
      simp only [Bool.false_eq_true, if_false, List.append_nil, Nat.add_sub_cancel]
      exact ⟨h1, fun x hx => ⟨(h2 x hx).1, hlt, up x hx⟩⟩
    | true =>
      simp only [if_true, Nat.add_sub_cancel, em]
      refine ⟨List.pairwise_append.2 ⟨h1, List.pairwise_singleton _ _, fun x hx y hy => ?_⟩, fun x hx => ?_⟩
      · rw [List.mem_singleton.1 hy]
        rcases Nat.eq_zero_or_pos m with e | e
        · subst e
          have e : Lib.compactUpTo zs.toArray 0 = [] := rfl
          rw [e] at hx
          cases hx
        · have hq : m - 1 < zs.length := by omega
          have hne : zs[m] ≠ zs[m - 1] := by
            have : zs.toArray[m - 1]! = zs[m - 1] := by simp [hq]
            simp only [Lib.keeps, decide_eq_true_eq] at hk
            rw [em, this] at hk
            rcases hk with hk | hk
            · omega
            · exact hk
          obtain ⟨_, _, h3⟩ := h2 x hx
          exact List.lt_of_le_of_lt h3 (lu_lt (List.pairwise_iff_getElem.1 hs (m - 1) m hq hlt (by omega)) (fun e => hne e.symm))
      · rcases List.mem_append.1 hx with hx | hx
        · exact ⟨(h2 x hx).1, hlt, up x hx⟩
        · rw [List.mem_singleton.1 hx]
          exact ⟨List.getElem_mem hlt, hlt, List.le_refl _⟩
theorem sort_ord (l : List LU) : (l.mergeSort leU).Pairwise (· ≤ ·) := by
  have h := List.pairwise_mergeSort (le := leU) (fun a b c h1 h2 => by
    simp only [leU, decide_eq_true_eq] at *
    exact List.le_trans h1 h2) (fun a b => by
    simp only [leU, Bool.or_eq_true, decide_eq_true_eq]
    exact List.le_total a b) l
  exact h.imp fun h => by simpa [leU] using h
/-- what first makes of a list of texts -/
def firstL (l : List LU) : List LU := (Lib.compact (l.mergeSort leU)).take 1000
theorem firstL_ord (l : List LU) : (firstL l).Pairwise (· < ·) := by
  have h := (comp_upto (sort_ord l) _ (Nat.le_refl _)).1
  exact h.sublist (List.take_sublist _ _)
theorem firstL_mem {l : List LU} {x : LU} (h : x ∈ firstL l) : x ∈ l := by
  have h2 := ((comp_upto (sort_ord l) _ (Nat.le_refl _)).2 x (List.mem_of_mem_take h)).1
  exact List.mem_mergeSort.1 h2
theorem firstL_len (l : List LU) : (firstL l).length ≤ 1000 := by unfold firstL; rw [List.length_take]; omega
end Go.Proofs.YtomnbknaanlmaaaGreatDoor
namespace Go.Proofs.YtomnbknaanlmaaaGreatDoor
open Go.RowKit Go.Sort
set_option maxRecDepth 100000
abbrev OwnL (o : Nat) (W : World) (v : Value) (l : List LU) : Prop := W.ownsRow o 9 1 v l.length (l.map encStr)
theorem OwnS.ownL {o : Nat} {W : World} {v : Value} {l : List ByteArray} (h : OwnS o W v l) : OwnL o W v (l.map (·.data.toList)) := by
  have e : (l.map (·.data.toList)).map encStr = l.map Value.string := by
    rw [List.map_map]
    rfl
  show W.ownsRow o 9 1 v (l.map (·.data.toList)).length ((l.map (·.data.toList)).map encStr)
  rw [e, List.length_map]
  exact h
theorem OwnL.nil {o : Nat} {W : World} {v : Value} {l : List LU} (h : OwnL o W v l) (hv : v = .slice none 0 0) : l = [] := by
  rcases h.2 with ⟨_, h0⟩ | ⟨g, cap, cur, e, _⟩
  · exact List.eq_nil_of_length_eq_zero h0
  · rw [hv] at e; cases e
theorem OwnL.none {o : Nat} {W : World} : OwnL o W (.slice none 0 0) [] := ⟨rfl, .inl ⟨rfl, rfl⟩⟩
theorem sortS_own {o : Nat} {W : World} {v : Value} {l : List LU} (h : OwnL o W v l) (ho : o ≤ W.heap.size) (hs : l.length ≤ 4001) :
    Calls Tryz.prog 30 #[v] W fun e W' => e = .returned (.tuple #[]) ∧ OwnL o W' v (l.mergeSort leU) ∧ Below o W W' := by
  by_cases hv : v = .slice none 0 0
  · have hl := h.nil hv
    subst hl hv
    refine (Any.slices_Sort_string_none lays190 none 0 W).mono ?_
    rintro e w' ⟨rfl, rfl⟩
    exact ⟨rfl, by rw [List.mergeSort_nil]; exact OwnL.none, Below.refl _ _⟩
  · obtain ⟨g, cap, rfl, hog, hgl, hnc, hcm, hlen, hH⟩ := Lib.holds_of_ownsRow h hv
    refine (Any.slices_Sort_string lays190 g 0 cap l W hH hgl (by omega)).mono ?_
    rintro e w' ⟨rfl, q, os, rfl⟩
    rcases h.2 with ⟨e0, _⟩ | ⟨g', cap', cur, e0, hb, hg, hn, hm, hs', ht⟩
    · cases e0
    · injection e0 with e1 _ e3
      injection e1 with e1
      injection e1 with e1
      subst e1; subst e3
      have hls : (l.mergeSort leU).length = l.length := List.length_mergeSort l
      have hown := ownsRow_sorted (n := q) (os := os) (ss := l) (ts := l.mergeSort leU) hls hb hg hn hm hs'
      have hgb := grownBy_sorted (w := W) (g := g) (n := q) (os := os) (l.mergeSort leU).toArray
      refine ⟨rfl, ?_, (Below.refl o W).grown hgb ho (fun j hj => by cases hj; exact hog)⟩
      show World.ownsRow _ _ _ _ _ _ _
      rw [hls]
      exact hown
theorem compS_own {o : Nat} {W : World} {g cap : Nat} {l : List LU} (h : OwnL o W (.slice (some ⟨g, 0, Option.none⟩) l.length cap) l) (hs : l.length ≤ 4001) :
    Calls Tryz.prog 31 #[.slice (some ⟨g, 0, Option.none⟩) l.length cap] W fun e W' => e = .returned (.slice (some ⟨g, 0, Option.none⟩) (Lib.compact l).length cap) ∧ OwnL o W' (.slice (some ⟨g, 0, Option.none⟩) (Lib.compact l).length cap) (Lib.compact l) ∧ Below o W W' := by
  obtain ⟨g', cap', e0, hog, hgl, hnc, hcm, hlen, hH⟩ := Lib.holds_of_ownsRow h (by intro e; cases e)
  injection e0 with e1 _ e3
  injection e1 with e1
  injection e1 with e1
  subst e1 e3
  refine (Any.slices_Compact_string lays194 g 0 cap l W hH (by omega) hnc).mono ?_
  rintro e w' ⟨rfl, q, rfl⟩
  have hle := Lib.compact_length_le l
  have hown := Lib.ownsRow_putRow (q := q) (k := (Lib.compact l).length) (ys := Lib.compact l ++ List.replicate (l.length - (Lib.compact l).length) []) h (by simp; omega) hle
  rw [List.take_left] at hown
  exact ⟨rfl, hown, Lib.below_putRow (Below.refl _ _) hog⟩
/-- the first of a list, asx a list of its own -/
theorem cloneS_own {o : Nat} {W : World} {v : Value} {l : List LU} (h : OwnL o W v l) (ho : o ≤ W.heap.size) (hs : l.length ≤ 4001) (k : Nat) (hk : k ≤ l.length) (A : Option Addr) (c : Nat) (hv : v = .slice A l.length c) :
    Calls Tryz.prog 32 #[.slice A k c] W fun e W' => ∃ v', e = .returned v' ∧ OwnL o W' v' (l.take k) ∧ Below o W W' := by
  by_cases hn : A = Option.none
  · subst hn
    have hc : l = [] := by
      rcases h.2 with ⟨_, h0⟩ | ⟨g, cap, cur, e, _⟩
      · exact List.eq_nil_of_length_eq_zero h0
      · rw [hv] at e; cases e
    subst hc
    refine (Any.slices_Clone_string_nil laysNm216 k c W).mono ?_
    rintro e w' ⟨rfl, rfl⟩
    exact ⟨_, rfl, by rw [List.take_nil]; exact OwnL.none, Below.refl _ _⟩
  · rcases h.2 with ⟨e0, _⟩ | ⟨g, cap, cur, e0, hb, hg, hn', hm, hs', ht⟩
    · rw [hv] at e0; injection e0 with e0; exact absurd e0 hn
    · rw [hv] at e0
      injection e0 with e1 _ e3
      subst e1 e3
      have hget : ∀ j, j < l.length → W.cell? ⟨g, 0 + j, Option.none⟩ = some (.string ((l.map fun x => (⟨x.toArray⟩ : ByteArray)).getD j ByteArray.empty)) := fun j hj => by
        have h1 : (l.map encStr)[j]? = some (encStr l[j]) := by rw [List.getElem?_map, List.getElem?_eq_getElem hj]; rfl
        rw [← ht, List.getElem?_take] at h1
        split at h1
        case isFalse => cases h1
        rw [scell_at hg, Nat.zero_add, ← Array.getElem?_toList, h1]
        simp [encStr, hj]
      refine (Any.slices_Clone_string laysNm216 g 0 k c (l.map fun x => (⟨x.toArray⟩ : ByteArray)) W (by simpa using hk) (by omega) (fun j hj => hget j (by simpa using hj))).mono ?_
      rintro e w' ⟨v', rfl, hown, _, hbe⟩
      have e2 : ((l.map fun x => (⟨x.toArray⟩ : ByteArray)).take k).map Value.string = (l.take k).map encStr := by
        rw [← List.map_take, List.map_map]
        rfl
      rw [e2] at hown
      refine ⟨v', rfl, ?_, hbe.mono ho⟩
      show w'.ownsRow o 9 1 v' (l.take k).length ((l.take k).map encStr)
      rw [List.length_take, Nat.min_eq_left hk]
      refine ⟨hown.1, hown.2.imp id ?_⟩
      rintro ⟨g2, c2, cur2, q1, q2, q3⟩
      exact ⟨g2, c2, cur2, q1, Nat.le_trans ho q2, q3⟩
theorem own_sliceS {o : Nat} {W : World} {v : Value} {l : List LU} (h : OwnL o W v l) : (v = .slice Option.none 0 0 ∧ l = []) ∨ ∃ g c, v = .slice (some ⟨g, 0, Option.none⟩) l.length c ∧ l.length ≤ c ∧ c ≤ maxLen := by
  rcases h.2 with ⟨h1, h2⟩ | ⟨g, cap, cur, e, _, _, q1, q2, _⟩
  · exact .inl ⟨h1, List.eq_nil_of_length_eq_zero h2⟩
  · exact .inr ⟨g, cap, e, q1, q2⟩
theorem firstL_nil : firstL [] = [] := by
  unfold firstL
  rw [List.mergeSort_nil]
  rfl
set_option maxHeartbeats 2000000 in
theorem first_calls {o : Nat} {W : World} {v : Value} {l : List LU} (h : OwnL o W v l) (ho : o ≤ W.heap.size) (hs : l.length ≤ 4001) :
    Calls Tryz.prog 11 #[v] W fun e W' => ∃ v', e = .returned v' ∧ OwnL o W' v' (firstL l) ∧ Below o W W' := by
  rcases own_sliceS h with ⟨rfl, rfl⟩ | ⟨g, c, rfl, hlc, hcm⟩
  · rw [firstL_nil]
    go_enter Tryz.func11, Tryz.ntmps11
    go_wp2_with (first
      | (go_at_call 30; refine (Any.slices_Sort_string_none lays190 Option.none 0 _).mono ?_; rintro e w1 ⟨rfl, rfl⟩)
      | (go_at_call 31; refine (Any.slices_Compact_string_empty lays194 Option.none 0 _).mono ?_; rintro e w2 ⟨rfl, rfl⟩)
      | (go_at_call 32; refine (Any.slices_Clone_string_nil laysNm216 0 0 _).mono ?_; rintro e w3 ⟨rfl, rfl⟩))
    go_ret
    exact ⟨_, rfl, OwnL.none, Below.refl _ _⟩
  have c1 := sortS_own h ho hs
  have hl0 : (l.mergeSort leU).length = l.length := List.length_mergeSort l
  have hl2 := Lib.compact_length_le (l.mergeSort leU)
  have c2 := fun W' (h' : OwnL o W' (.slice (some ⟨g, 0, Option.none⟩) l.length c) (l.mergeSort leU)) => (by
    rw [← hl0] at h'
    have := compS_own h' (by omega)
    rw [hl0] at this
    exact this : Calls Tryz.prog 31 #[.slice (some ⟨g, 0, Option.none⟩) l.length c] W' fun e W2 => e = .returned (.slice (some ⟨g, 0, Option.none⟩) (Lib.compact (l.mergeSort leU)).length c) ∧ OwnL o W2 (.slice (some ⟨g, 0, Option.none⟩) (Lib.compact (l.mergeSort leU)).length c) (Lib.compact (l.mergeSort leU)) ∧ Below o W' W2)
  unfold firstL
  generalize Lib.compact (l.mergeSort leU) = m at *
  have hmc : (m.length : Int) ≤ (c : Int) := by omega
  have hc63 : c ≤ 9223372036854775807 := by unfold maxLen at hcm; omega
  have h0 : (0 : Int) ≤ (m.length : Int) := by omega
  have hk : (min (m.length : Int) 1000).toNat = min m.length 1000 := by omega
  go_enter Tryz.func11, Tryz.ntmps11
  go_wp2_with (first
    | (go_at_call 30; refine c1.mono ?_; rintro e w1 ⟨rfl, ho1, hb1⟩; have c3 := c2 _ ho1)
    | (go_at_call 31; refine c3.mono ?_; rintro e w2 ⟨rfl, ho2, hb2⟩; have c4 := cloneS_own ho2 (Nat.le_trans ho (hb1.trans hb2).size) (by omega) (min m.length 1000) (by omega) _ c rfl)
    | (go_at_call 32; refine c4.mono ?_; rintro e w3 ⟨v3, rfl, ho3, hb3⟩))
  go_ret
  refine ⟨v3, rfl, ?_, (hb1.trans hb2).trans hb3⟩
  have e : m.take (min m.length 1000) = m.take 1000 := by
    rcases Nat.le_total m.length 1000 with h | h
    · rw [Nat.min_eq_left h, List.take_of_length_le (Nat.le_refl _), List.take_of_length_le h]
    · rw [Nat.min_eq_right h]
  rwa [e] at ho3
end Go.Proofs.YtomnbknaanlmaaaGreatDoor
namespace Go.Proofs.YtomnbknaanlmaaaGreatDoor
open Go.RowKit
set_option maxRecDepth 100000
theorem none_calls (w : World) : Calls Tryz.prog 14 #[] w fun e w' => e = .returned (.agg #[.int .i64 0, .int .i64 0]) ∧ Below w.heap.size w w' := by
  go_enter Tryz.func14, Tryz.ntmps14
  go_wp2
  refine bodyPost_ret (results_cell_row rfl _ _ w.heap.size 27 _ (0, 0) _ rfl (sal_new w _ rfl) Tryz.underlying27 rfl (by kernel_rfl)) rfl ?_
  exact ⟨rfl, (Below.refl _ w).alloc (Nat.le_refl _) _⟩
theorem fault_calls (a b : Int) (w : World) : Calls Tryz.prog 10 #[.int .i64 a, .int .i64 b] w fun e w' => e = .returned (.agg #[.int .i64 a, .int .i64 b]) ∧ Below w.heap.size w w' := by
  go_enter Tryz.func10, Tryz.ntmps10
  go_wp2
  refine bodyPost_ret (results_cell_row rfl _ _ w.heap.size 27 _ (0, 0) _ rfl (sal_new w _ rfl) Tryz.underlying27 rfl (by kernel_rfl)) rfl ?_
  exact ⟨rfl, (Below.refl _ w).alloc (Nat.le_refl _) _⟩
theorem sresults_tc {P : Program} {fn : Func} {p u : Tmp} {ty t : TypeId} (h : fn.results = #[.tmp u, .cell p ty]) (tmps : Array Value) {w : World} {g : Nat} {cs : Array Value} {fr : Nat × Nat} {d : TypeDesc} {v : Value} (hv : tmps.getD u undef = v) (hp : tmps.getD p undef = .pointer (some ⟨g, 0, none⟩))
    (hg : w.heap[g]? = some (.cells cs t fr)) (hu : P.underlying ty = some d) (hd : (match d with | .struct _ | .array _ _ => true | _ => false) = true) (hi : (P.info? ty).map (·.size) = some cs.size) : (results fn tmps).run P w = .ok (.tuple #[v, .agg cs]) w := by
  have hp' : tmps[p]?.getD undef = .pointer (some ⟨g, 0, none⟩) := by simpa using hp
  have hv' : tmps[u]?.getD undef = v := by simpa using hv
  simp [results, h, hp', hv', asAddr, run_loadVar_row w g t ty cs fr d hg hu hd hi]
theorem sset2 {W : World} {p : Nat} {x y a b : Value} {t : TypeId} (h : W.heap[p]? = some (.cells #[x, y] t)) : ((W.setCell ⟨p, 0, none⟩ a).setCell ⟨p, 1, none⟩ b).heap[p]? = some (.cells #[a, b] t) := by
  simp [World.setCell, Array.getElem?_modify, h]
def SplQ (w : World) (l : List LU) (f : Int × Int) (e : Ending) (w' : World) : Prop := ∃ v, e = .returned (.tuple #[v, .agg #[.int .i64 f.1, .int .i64 f.2]]) ∧ Bel w w' ∧ OwnL w.heap.size w' v l
/-- how Split ends -/
theorem spl_done {w W : World} {l : List LU} {v : Value} {a b : Int} {tm : Array Value} (hb : Bel w W) (hk : W.heap[w.heap.size]? = some (.cells #[.int .i64 0, .int .i64 0] 27)) (ho : OwnL (w.heap.size + 1) W v l) (hv : tm.getD 2 undef = v) (hp : tm.getD 3 undef = .pointer (some ⟨w.heap.size, 0, none⟩)) :
    bodyPost Tryz.prog Tryz.f4 (SplQ w l (a, b)) .ret { tmps := tm, defers := [] } ((W.setCell ⟨w.heap.size, 0, none⟩ (.int .i64 a)).setCell ⟨w.heap.size, 1, none⟩ (.int .i64 b)) := by
  refine bodyPost_ret (sresults_tc rfl tm hv hp (sset2 hk) Tryz.underlying27 rfl (by kernel_rfl)) rfl ?_
  refine ⟨v, rfl, (hb.setCell (p := ⟨w.heap.size, 0, none⟩) (Nat.le_refl _) _).setCell (p := ⟨w.heap.size, 1, none⟩) (Nat.le_refl _) _, ho.1, ho.2.imp id ?_⟩
  rintro ⟨g, cap, cur, e1, hg, hx, hr⟩
  exact ⟨g, cap, cur, e1, by omega, (Below.heap_setCell _ ⟨w.heap.size, 1, none⟩ _ g (by show g ≠ w.heap.size; omega)).trans ((Below.heap_setCell W ⟨w.heap.size, 0, none⟩ _ g (by show g ≠ w.heap.size; omega)).trans hx), hr⟩
set_option maxHeartbeats 2000000 in
theorem split_long (s : ByteArray) (hs : ¬ s.size ≤ 4000) (w : World) : Calls Tryz.prog 4 #[.string s] w (SplQ w [] (1, -1)) := by
  have hs' : ¬ (s.size : Int) ≤ 4000 := by omega
  go_enter Tryz.func4, Tryz.ntmps4
  go_wp2_with (go_at_call 10; refine (fault_calls 1 (-1) _).mono ?_; rintro e w1 ⟨rfl, hb1⟩; have hk1 : w1.heap[w.heap.size]? = some (.cells #[.int .i64 0, .int .i64 0] 27) := (hb1.block _ (by simp)).trans (sal_new w _ rfl); have m1 : ∀ o, w1.cell? ⟨w.heap.size, o, none⟩ = (#[.int .i64 0, .int .i64 0] : Array Value)[o]? := fun o => scell_at hk1; have f1 := sfrz hk1; have l1 := slt hk1)
  exact spl_done (((Bel.refl w).alloc _).trans (bel_w hb1)) hk1 ⟨rfl, .inl ⟨rfl, rfl⟩⟩ rfl rfl
set_option maxHeartbeats 2000000 in
theorem split_calls (s : ByteArray) (hs : s.size ≤ 4000) (w : World) (hG : GW w) : Calls Tryz.prog 4 #[.string s] w (SplQ w (firstL ((tokF (flds s)).map (·.data.toList))) (0, 0)) := by
  have hs' : (s.size : Int) ≤ 4000 := by omega
  have hts : ((tokF (flds s)).map (·.data.toList)).length ≤ 4001 := by
    rw [List.length_map]
    exact Nat.le_trans (tokF_len _) (flds_len s hs)
  have hb0 : Bel w (w.alloc (.cells #[.int .i64 0, .int .i64 0] 27)) := (Bel.refl _).alloc _
  have hk0 : (w.alloc (.cells #[.int .i64 0, .int .i64 0] 27)).heap[w.heap.size]? = some (.cells #[.int .i64 0, .int .i64 0] 27) := sal_new _ _ rfl
  go_enter Tryz.func4, Tryz.ntmps4
  go_wp2_with (first
    | (go_at_call 13; refine (each_calls s _ (sgwb hG hb0)).mono ?_; rintro e w1 ⟨p1, p2, rfl, hE, hb1⟩)
    | (go_at_call 12; refine (collect_calls s hs p1 p2 _ hE).mono ?_; rintro e w2 ⟨v2, rfl, hb2, ho2⟩)
    | (go_at_call 11; refine (first_calls (o := w1.heap.size) ho2.ownL hb2.size hts).mono ?_; rintro e w3 ⟨v3, rfl, ho3, hb3⟩)
    | (go_at_call 14; refine (none_calls _).mono ?_; rintro e w4 ⟨rfl, hb4⟩
       have hb03 : Bel (w.alloc (.cells #[.int .i64 0, .int .i64 0] 27)) w4 := ⟨hb4.os.trans (hb3.os.trans (hb2.os.trans hb1.os)), hb4.tape.trans (hb3.tape.trans (hb2.tape.trans hb1.tape)), hb4.output.trans (hb3.output.trans (hb2.output.trans hb1.output)), Nat.le_trans hb1.size (Nat.le_trans hb2.size (Nat.le_trans hb3.size hb4.size)), fun k hk => by
         have k1 := Nat.lt_of_lt_of_le hk hb1.size
         have k2 := Nat.lt_of_lt_of_le k1 hb2.size
         exact (hb4.block k (Nat.lt_of_lt_of_le k2 hb3.size)).trans ((hb3.block k k1).trans ((hb2.block k k1).trans (hb1.block k hk)))⟩
       have hk1 := sblk_bel hk0 hb03
       have m1 : ∀ o, w4.cell? ⟨w.heap.size, o, none⟩ = (#[.int .i64 0, .int .i64 0] : Array Value)[o]? := fun o => scell_at hk1
       have f1 := sfrz hk1
       have l1 := slt hk1))
  have hsz : w.heap.size + 1 ≤ w1.heap.size := by have := hb1.size; simpa using this
  refine spl_done (hb0.trans hb03) hk1 ⟨ho3.1, ho3.2.imp id ?_⟩ rfl rfl
  rintro ⟨g, cap, cur, e1, hg, hx, hr⟩
  exact ⟨g, cap, cur, e1, Nat.le_trans hsz hg, (hb4.block g (slt hx)).trans hx, hr⟩
end Go.Proofs.YtomnbknaanlmaaaGreatDoor
namespace Go.Proofs.YtomnbknaanlmaaaGreatDoor
open Go.RowKit
set_option maxRecDepth 100000
def baU (x : LU) : ByteArray := ⟨x.toArray⟩
theorem rep_two {Z Y : ZMap} {m : Nat → Option Value} (a b : Int) : Rep Z Y m (.agg #[.int .i64 a, .int .i64 b]) (.agg [.c (.int .i64 a), .c (.int .i64 b)]) := by
  refine .agg _ _ rfl (fun u hu => ?_) (fun i u x hu hx => ?_)
  · simp at hu
    rcases hu with rfl | rfl <;> rfl
  · match i with
    | 0 => simp at hu hx; subst hu hx; exact .c (.int _ _)
    | 1 => simp at hu hx; subst hu hx; exact .c (.int _ _)
    | i + 2 => simp at hu
theorem rep_res {Z Y : ZMap} {m : Nat → Option Value} {v : Value} {es : List (List C)} {a b : Int} (h : RepC Z v (.sl es)) : Rep Z Y m (.tuple #[v, .agg #[.int .i64 a, .int .i64 b]]) (.tup [.c (.sl es), .agg [.c (.int .i64 a), .c (.int .i64 b)]]) := by
  refine .tup _ _ rfl (fun i u x hu hx => ?_)
  match i with
  | 0 => simp at hu hx; subst hu hx; exact .c h
  | 1 => simp at hu hx; subst hu hx; exact rep_two a b
  | i + 2 => simp at hu
theorem spl_callOk (s : ByteArray) (l : List LU) (f : Int × Int) (hc : ∀ w, GW w → Calls Tryz.prog 4 #[.string s] w (SplQ w l f)) : CallOk Tryz.prog 4 [.c (.str s)] (splR (l.map baU, f.1, f.2)) := by
  unfold splR
  refine ⟨rfl, (fun b hb => by cases hb), fun w Z Y cargs hG hZ hY hs hr => ?_⟩
  have hs1 : cargs.size = 1 := hs
  obtain ⟨u, hu⟩ : ∃ u, cargs[0]? = some u := ⟨cargs[0]'(by omega), Array.getElem?_eq_getElem _⟩
  have r0 := hr 0 u _ hu rfl
  obtain rfl : cargs = #[u] := by
    apply Array.ext (by simpa using hs1)
    intro i h1 h2
    have : i = 0 := by simp at h2; omega
    subst this
    rw [Array.getElem?_eq_getElem h1] at hu
    injection hu
  cases r0 with
  | c r0 =>
  cases r0 with
  | str =>
  refine (hc w hG).mono ?_
  rintro e w' ⟨v, rfl, hb, ho⟩
  rcases ho.2 with ⟨rfl, hl0⟩ | ⟨g, cap, cur, rfl, hg, hgc, hcap, hcm, hcs, htk⟩
  · have hl1 : l = [] := List.eq_nil_of_length_eq_zero hl0
    subst hl1
    exact ⟨_, Z, fun _ => none, rfl, ZUp.refl, ⟨wb_bel.2 hb, ⟨hG, GB.no hG⟩, (fun b o u h => by have h2 := hZ _ _ _ h; rw [hb.cell _ (cell_lt h2)]; exact h2), (fun _ _ _ h => by cases h), by simp, by simp, by simp, by simp, by simp⟩, rep_res (repC_empty _ (by decide) (fun _ => rfl)), fun i h => absurd rfl h⟩
  let Z' : ZMap := fun b' o => if b' = g then w'.cell? ⟨g, o, none⟩ else Z b' o
  have hzg : ∀ b' o u, Z b' o = some u → b' ≠ g := fun b' o u h e => by
    have := cell_lt (hZ _ _ _ h)
    omega
  have hup : ZUp (wb w) Z Z' := ⟨fun b' o u h => by simp [Z', hzg b' o u h, h], fun b' o u h => by
    by_cases e : b' = g
    · right; subst e; exact .inl (by show w.heap.size ≤ b'; omega)
    · left; simpa [Z', e] using h⟩
  have hZ' : ∀ b' o u, Z' b' o = some u → w'.cell? ⟨b', o, none⟩ = some u := fun b' o u h => by
    by_cases e : b' = g
    · subst e; simpa [Z'] using h
    · have h1 : Z b' o = some u := by simpa [Z', e] using h
      have h2 := hZ _ _ _ h1
      rw [hb.cell _ (cell_lt h2)]; exact h2
  refine ⟨_, Z', fun _ => none, rfl, hup, ⟨wb_bel.2 hb, ⟨hG, GB.no hG⟩, hZ', (fun _ _ _ h => by cases h), by simp, by simp, by simp, by simp, by simp⟩, rep_res ?_, fun i h => absurd rfl h⟩
  have hget : ∀ (i : Nat) (e : List C) (j : Nat) (x : C), ((l.map baU).map fun x => ([.str x] : List C))[i]? = some e → e[j]? = some x → j = 0 ∧ ∃ y : ByteArray, x = .str y ∧ w'.cell? ⟨g, i, none⟩ = some (.string y) := by
    intro i e j x he hx
    rw [List.getElem?_map, List.getElem?_map] at he
    cases hi : l[i]? with
    | none => rw [hi] at he; cases he
    | some y =>
      rw [hi] at he
      injection he with he
      subst he
      match j, hx with
      | 0, hx =>
        simp at hx
        subst hx
        refine ⟨rfl, _, rfl, ?_⟩
        have h1 : (l.map encStr)[i]? = some (.string (baU y)) := by rw [List.getElem?_map, hi]; rfl
        rw [← htk, List.getElem?_take] at h1
        split at h1
        · rw [scell_at hgc, ← Array.getElem?_toList]
          exact h1
        · cases h1
      | j + 1, hx => simp at hx
  refine .sl _ l.length cap 1 g 0 (fun j => (w'.cell? ⟨g, j, none⟩).getD undef) _ (by simp) hcap hcm (fun e he => by obtain ⟨x, _, rfl⟩ := List.mem_map.1 he; rfl) (fun _ => rfl) ?_ ?_ (by simp)
  · intro i e j x he hx
    obtain ⟨rfl, n, rfl, hcl⟩ := hget i e j x he hx
    simp [Z', hcl]
  · intro i e j x he hx
    obtain ⟨rfl, n, rfl, hcl⟩ := hget i e j x he hx
    simp only [Nat.mul_one, Nat.add_zero, hcl, Option.getD_some]
    exact .str _
/-- the tokens of a text -/
def splL (s : ByteArray) : List LU := firstL ((tokF (flds s)).map (·.data.toList))
theorem bytesLess_lt {x y : LU} (h : x < y) : Go.Op.bytesLess x y = true := by
  rw [bytesLess_eq]
  exact decide_eq_true h
theorem splL_ok (s : ByteArray) : tokOk ((splL s).map baU) := by
  refine ⟨by rw [List.length_map]; exact firstL_len _, fun x hx => ?_, fun i x y hx hy => ?_⟩
  · obtain ⟨y, hy, rfl⟩ := List.mem_map.1 hx
    obtain ⟨z, hz, rfl⟩ := List.mem_map.1 (firstL_mem hy)
    unfold tokF at hz
    obtain ⟨q, hq, rfl⟩ := List.mem_map.1 hz
    have hok := (List.mem_filter.1 hq).2
    simp only [okT, Bool.and_eq_true, decide_eq_true_eq] at hok
    have := lowS_len q hok.1 hok.2
    have e : (baU (lowS q).data.toList).size = (lowS q).size := by
      show (lowS q).data.toList.toArray.size = (lowS q).data.size
      rw [Array.toArray_toList]
    omega
  · rw [List.getElem?_map] at hx hy
    cases h1 : (splL s)[i]? with
    | none => rw [h1] at hx; cases hx
    | some a =>
      cases h2 : (splL s)[i + 1]? with
      | none => rw [h2] at hy; cases hy
      | some b =>
        rw [h1] at hx
        rw [h2] at hy
        injection hx with hx
        injection hy with hy
        subst hx hy
        obtain ⟨i1, e1⟩ := List.getElem?_eq_some_iff.1 h1
        obtain ⟨i2, e2⟩ := List.getElem?_eq_some_iff.1 h2
        have := List.pairwise_iff_getElem.1 (firstL_ord ((tokF (flds s)).map (·.data.toList))) i (i + 1) i1 i2 (by omega)
        have hl : (splL s)[i] < (splL s)[i + 1] := this
        rw [e1, e2] at hl
        rw [ByteArray.toList_eq, ByteArray.toList_eq]
        exact bytesLess_lt hl
theorem spl_ex (s : ByteArray) : ∃ r, splP s = some r ∧ splOk s r := by
  have h : ∃ r, splOk s r ∧ CallOk Tryz.prog 4 [.c (.str s)] (splR r) := by
    by_cases hs : s.size ≤ 4000
    · refine ⟨((splL s).map baU, 0, 0), ?_, spl_callOk s (splL s) (0, 0) fun w hG => split_calls s hs w hG⟩
      unfold splOk
      rw [if_pos hs]
      exact ⟨splL_ok s, rfl⟩
    · refine ⟨([], 1, -1), ?_, spl_callOk s [] (1, -1) fun w _ => split_long s hs w⟩
      unfold splOk
      rw [if_neg hs]
      decide
  refine ⟨Classical.choose h, ?_, (Classical.choose_spec h).1⟩
  unfold splP
  rw [dif_pos h]
end Go.Proofs.YtomnbknaanlmaaaGreatDoor
namespace Go.Proofs.YtomnbknaanlmaaaGreatDoor
open Go.RowKit
theorem dn_up (x y : Bool) (G J : Int) : dn x (up y (up x G J).1 (up x G J).2).1 (up y (up x G J).1 (up x G J).2).2 = up y G J := by
  cases x <;> cases y <;> simp [dn, up] <;> omega
theorem law45 (G J : Int) (T : List S74) (a b : ByteArray) (x y : Bool) (text : ByteArray) : posthousetop_TopForgottenMessagesDoNotCount_s G J T a b x y text = some true := by
  obtain ⟨r0, h0, k0⟩ := spl_ex a
  obtain ⟨r1, h1, k1⟩ := spl_ex b
  obtain ⟨r2, h2, k2⟩ := spl_ex text
  suffices h : Ok (posthousetop_TopForgottenMessagesDoNotCount_s G J T a b x y text) fun r => r = true by
    obtain ⟨r, e, rfl⟩ := h; exact e
  refine .via posthousetop_TopForgottenMessagesDoNotCount_eq ?_
  unfold posthousetop_TopForgottenMessagesDoNotCount_t
  simp only [EC.decL_encL, EC.isL_encL]
  refine ok_at h0 (ok_at h1 (ok_at h2 (ok_br (fun _ => ok_br (fun _ => ok_br (fun _ => ok_some rfl) fun hc => ?_) fun _ => ok_some rfl) fun _ => ok_some rfl)))
  have hz : r2.2.1 = 0 := by simpa using hc
  have hk2 : KOk r2.1 := by
    unfold splOk at k2
    split at k2
    · exact KOk_of k2.1
    · exact absurd hz k2
  refine ok_gd rfl (ok_gd rfl (ok_bind (learn_s G J T r0.1 x) fun r3 p3 => ok_gd rfl (ok_gd rfl (ok_bind (learn_s _ _ _ r1.1 y) fun r4 p4 => ok_gd rfl (ok_gd rfl (ok_bind (learn_s G J T r1.1 y) fun r5 p5 => ?_))))))
  refine ok_br (fun c3 => ok_br (fun c4 => ok_br (fun _ => ok_some rfl) fun c5 => ?_) fun _ => ok_some rfl) fun _ => ok_some rfl
  obtain ⟨v0, ka, e3, v3⟩ := p3 (by simpa using c3)
  rw [e3] at p4
  obtain ⟨_, kb, e4, v4⟩ := p4 (by simpa using c4)
  obtain ⟨_, _, e5, v5⟩ := p5 (by simpa using c5)
  rw [e4, e5]
  obtain ⟨m, hm, hf⟩ := forget_learn x y (k := r0.1) (l := r1.1) v0.srt (fun e he => by have := v0.bd.all e he; exact ⟨this.1, this.2.2.1, this.2.2.2.2⟩)
  have hd := dn_up x y G J
  have hfs := forget_s v4 ka (x := x) (M := m) (by
    have := v0.g; have := v0.j
    cases x <;> cases y <;> simp only [cp, up, if_true, Bool.false_eq_true, if_false] <;> omega) hm (by rw [hd, hf]; exact v5)
  rw [hd, hf] at hfs
  obtain ⟨n, hn⟩ := score_s v5 hk2
  refine ok_gd rfl (ok_gd rfl (ok_at hfs (ok_gd rfl (ok_gd rfl (ok_at hn (ok_gd rfl (ok_gd rfl (ok_at hn ?_))))))))
  refine ok_br (fun _ => ok_br (fun _ => ok_br (fun _ => ok_br (fun _ => ok_gd rfl (ok_gd rfl (ok_at (same_s (up y G J).1 (up y G J).2 (learn y T r1.1) (by have := v5.len; omega)) (ok_br (fun _ => ok_some rfl) fun h => ?_)))) fun h => ?_) fun h => ?_) fun h => ?_) fun h => ?_
  · cases h
  · simp at h
  · simp at h
  · simp at h
  · simp at h
end Go.Proofs.YtomnbknaanlmaaaGreatDoor
namespace Go.Proofs.YtomnbknaanlmaaaGreatDoor
open Go.ChangeShapes Go.WideShapes Go.ChangeAt Go.RowKit Go.Deep
theorem Try_own : ownKnob Tryz.prog.godebug = none := by kernel_rfl
theorem Try_laid : laidOutB Tryz.prog = true := by kernel_rfl
section
variable {H : Type} {enc : TypeId × Value → H} {P : Program}
theorem trodAll_bel (hl : laidOutB P = true) {W W' : World} (hb : Bel W W') : ∀ {ts : List TypeId} {vs : List Value} {ds : List (DataW H)} {ps : List MemPlace}, ts.all (fun t => P.readableRec t && decide (t < P.types.size)) = true →
    DataW.TrodAll enc P W 0 (fun _ => true) true ts vs ds ps → (∀ x ∈ ps, x.block < W.heap.size) → DataW.TrodAll enc P W' 0 (fun b => decide (b < W.heap.size)) true ts vs ds ps
  | [], [], [], _, _, h, _ => h
  | [], [], _ :: _, _, _, h, _ => h.elim
  | [], _ :: _, _, _, _, h, _ => h.elim
  | _ :: _, [], _, _, _, h, _ => h.elim
  | _ :: _, _ :: _, [], _, _, h, _ => h.elim
  | t :: ts, v :: vs, d :: ds, ps, hr, h, hlt => by
    obtain ⟨p, q, h1, h2, rfl⟩ := h
    simp only [List.all_cons, Bool.and_eq_true, decide_eq_true_eq] at hr
    exact ⟨p, q, Below.trod hl hr.1.1 hr.1.2 h1 hb (fun x hx => hlt x (List.mem_append_left _ hx)), trodAll_bel hl hb hr.2 h2 (fun x hx => hlt x (List.mem_append_right _ hx)), rfl⟩
/-- A law that returned true and left memory asx it was: its row's post. -/
theorem law_post {fn : Func} {s : ChangeSpec} {W W' : World} {args : Array Value} {ds gs : List (DataW H)} {before : List MemPlace} {tb : TypeId} (hl : laidOutB P = true)
    (hr : fn.params.toList.all (fun t => P.readableRec t && decide (t < P.types.size)) = true) (hrt : fn.resultTypes = #[tb]) (htb : P.underlying tb = some .bool) (hvars : s.vars = [])
    (hfn : s.fn H ds = { results := [.lit (.bool true)], args := ds })
    (hW : DataW.Whole enc P fn.params.toList s.vars false W args.toList ds gs before) (hb : Bel W W') : s.post enc P fn false true false false W args (.bool true) W' := by
  have hW' := hW
  have hlt : ∀ x ∈ before, x.block < W.heap.size := fun x hx => hW.lt x hx
  obtain ⟨p, q, hA, hV, rfl, hfz, hnd⟩ := hW
  rw [hvars] at hV
  obtain ⟨rfl, rfl⟩ := trodVars_none hV
  have e : s.fn H (ds ++ []) = { results := [.lit (.bool true)], args := ds } := by rw [List.append_nil]; exact hfn
  refine ⟨ds, [], p ++ [], [], p, [], hW', ?_, ?_, ?_, hb.frame _, fun h => by cases h⟩
  · rw [e, hrt]
    exact trodAll_mk1 (shut_bool htb true)
  · rw [e]
    exact trodAll_bel hl hb hr hA (fun x hx => hlt x (by simpa using hx))
  · rw [e, hvars]
    rfl
end
end Go.Proofs.YtomnbknaanlmaaaGreatDoor
namespace Go.Proofs.YtomnbknaanlmaaaGreatDoor
open Go.ChangeShapes Go.WideShapes Go.ChangeAt Go.RowKit Go.Deep
theorem bulk_pos {H : Type} (d : DataW H) : 1 ≤ Rows.uptoBulk d := by
  cases d with
  | lit l => cases l <;> simp [Rows.uptoBulk]
  | nil => simp [Rows.uptoBulk]
  | ptr d => simp [Rows.uptoBulk]
  | slice elems spare => simp [Rows.uptoBulk]
  | agg parts => simp [Rows.uptoBulk]
  | iface t d => simp [Rows.uptoBulk]
  | map entries => simp [Rows.uptoBulk]
  | held h => simp [Rows.uptoBulk]
theorem bulk_mem {H : Type} {d : DataW H} : ∀ {l : List (DataW H)}, d ∈ l → Rows.uptoBulk d ≤ Rows.uptoBulkAll l
  | x :: r, h => by
    simp only [Rows.uptoBulkAll]
    rcases List.mem_cons.1 h with rfl | h
    · omega
    · have := bulk_mem h; omega
/-- memory at the call -/
def Zw (w : World) : ZMap := fun b o => w.cell? ⟨b, o, none⟩
/-- cells and what they stand for -/
def RepL (Z : ZMap) : List Value → List C → Prop
  | [], [] => True
  | u :: us, x :: xs => RepC Z u x ∧ RepL Z us xs
  | _, _ => False
theorem RepL.len {Z : ZMap} : ∀ {us : List Value} {xs : List C}, RepL Z us xs → us.length = xs.length
  | [], [], _ => rfl
  | u :: us, x :: xs, h => by simp [RepL.len h.2]
  | [], _ :: _, h => h.elim
  | _ :: _, [], h => h.elim
theorem RepL.get {Z : ZMap} : ∀ {us : List Value} {xs : List C}, RepL Z us xs → ∀ (i : Nat) u x, us[i]? = some u → xs[i]? = some x → RepC Z u x
  | [], [], _, i, u, x, h, _ => by simp at h
  | u :: us, x :: xs, h, i, u', x', h1, h2 => by
    cases i with
    | zero => simp at h1 h2; subst h1 h2; exact h.1
    | succ i => simp at h1 h2; exact RepL.get h.2 i u' x' h1 h2
  | [], _ :: _, h, _, _, _, _, _ => h.elim
  | _ :: _, [], h, _, _, _, _, _ => h.elim
theorem RepL.agg {Z Y : ZMap} {m : Nat → Option Value} {us : List Value} {xs : List C} (h : RepL Z us xs) : Rep Z Y m (.agg us.toArray) (.agg (xs.map .c)) := by
  refine .agg _ _ (by simp [h.len]) ?_ ?_
  · intro u hu
    obtain ⟨i, hi, rfl⟩ := List.getElem_of_mem (by simpa using hu)
    have hx : i < xs.length := by rw [← h.len]; exact hi
    exact (h.get i _ _ (List.getElem?_eq_getElem hi) (List.getElem?_eq_getElem hx)).one
  · intro i u x hu hx
    rw [List.getElem?_map] at hx
    cases hy : xs[i]? with
    | none => rw [hy] at hx; cases hx
    | some y =>
      rw [hy] at hx
      injection hx with hx; subst hx
      exact .c (h.get i u y (by simpa using hu) hy)
theorem flatten_get {α : Type} {k : Nat} : ∀ {css : List (List α)}, (∀ cs ∈ css, cs.length = k) → ∀ (i j : Nat) cs, css[i]? = some cs → j < k → css.flatten[i * k + j]? = cs[j]?
  | [], _, i, j, cs, h, _ => by simp at h
  | c :: css, hk, i, j, cs, h, hj => by
    have hc : c.length = k := hk c (by simp)
    cases i with
    | zero =>
      simp at h; subst h
      rw [List.flatten_cons, List.getElem?_append_left (by omega)]
      simp
    | succ i =>
      simp at h
      rw [List.flatten_cons, List.getElem?_append_right (by rw [hc, Nat.add_mul]; omega), ← flatten_get (fun d hd => hk d (by simp [hd])) i j cs h hj]
      congr 1
      rw [hc, Nat.add_mul]; omega
theorem rd_rep {w : World} {k n c : Nat} {A : Option Addr} {css : List (List Value)} {es : List (List C)} (hr : Rd w k A n c css.flatten) (hn : css.length = n) (hN : A = none → c = 0) (hk : 0 < k) (hcs : ∀ cs ∈ css, cs.length = k) (hl : es.length = css.length)
    (he : ∀ (i : Nat) cs e, css[i]? = some cs → es[i]? = some e → RepL (Zw w) cs e) : RepC (Zw w) (.slice A n c) (.sl es) := by
  have helen : ∀ e ∈ es, e.length = k := fun e hm => by
    obtain ⟨i, hi, rfl⟩ := List.getElem_of_mem hm
    have hx : i < css.length := by omega
    rw [← (he i _ _ (List.getElem?_eq_getElem hx) (List.getElem?_eq_getElem hi)).len]
    exact hcs _ (List.getElem_mem hx)
  by_cases h0 : es = []
  · subst h0
    have : n = 0 := by rw [← hn, ← hl]; rfl
    exact .sl A n c k 0 0 (fun _ => .nilFunc) [] (by simp [this]) hr.le hr.2.2.1 (by simp) (by simp) (by simp) (by simp) hN
  · have hn0 : 0 < n * k := by
      have : 0 < es.length := List.length_pos_iff.2 h0
      exact Nat.mul_pos (by omega) hk
    obtain ⟨b, off, hA, _, hcell⟩ := hr.place hn0
    have hget : ∀ (i : Nat) (e : List C) (j : Nat) (x : C), es[i]? = some e → e[j]? = some x → ∃ u, css.flatten[i * k + j]? = some u ∧ RepC (Zw w) u x := by
      intro i e j x h1 h2
      have hi : i < css.length := by
        have := (List.getElem?_eq_some_iff.1 h1).1
        omega
      have hj : j < k := by
        rw [← helen e (List.mem_of_getElem? h1)]
        exact (List.getElem?_eq_some_iff.1 h2).1
      have hcl := hcs _ (List.getElem_mem hi)
      have hu : css[i][j]? = some (css[i][j]'(by omega)) := List.getElem?_eq_getElem _
      exact ⟨_, by rw [flatten_get hcs i j css[i] (List.getElem?_eq_getElem hi) hj, hu], (he i _ e (List.getElem?_eq_getElem hi) h1).get j _ x hu h2⟩
    refine .sl A n c k b off (fun j => (css.flatten[j]?).getD .nilFunc) es (by omega) hr.le hr.2.2.1 helen (fun _ => hA) ?_ ?_ hN
    · intro i e j x h1 h2
      obtain ⟨u, hu, _⟩ := hget i e j x h1 h2
      simp only [hu, Option.getD_some]
      exact hcell _ _ hu
    · intro i e j x h1 h2
      obtain ⟨u, hu, hr'⟩ := hget i e j x h1 h2
      simp only [hu, Option.getD_some]
      exact hr'
theorem nil_cap {H : Type} {enc : TypeId × Value → H} {P : Program} {w : World} {base : Nat} {spare : Nat → Bool} {held : Bool} {t e : TypeId} {fuel n c : Nat} {A : Option Addr} {x : DataW H × List MemPlace} (ht : P.underlying t = some (.slice e))
    (h : DataW.trod enc P w base spare held fuel t [.slice A n c] = some x) : A = none → c = 0 := by
  intro hA
  subst hA
  rcases open_slice ht h with ⟨hcs, _⟩ | ⟨a, len, cap, m, n', D, Pl, hcs, _⟩
  · injection hcs with hcs
    injection hcs
  · injection hcs with hcs
    injection hcs with h1
    cases h1
section
variable {H : Type} {enc : TypeId × Value → H} {P : Program}
/-- the rows of a slice's elements -/
theorem open_rowsI {w : World} {base : Nat} {spare : Nat → Bool} {held : Bool} {t e : TypeId} {k fuel : Nat} {v : Value} {x : DataW H × List MemPlace} (ht : P.underlying t = some (.slice e)) (hC : P.cellsOf e = k) (hk : 0 < k)
    (h : DataW.trod enc P w base spare held fuel t [v] = some x) (hone : ∀ fuel cs y, Rows.uptoBulk y.1 < Rows.uptoBulk x.1 → DataW.trod enc P w base spare held fuel e cs = some y → ∀ u ∈ cs, u.oneCell' = true) :
    ∃ A n c css ds, v = .slice A n c ∧ Rd w k A n c (List.flatten css) ∧ css.length = n ∧ ds.length = n ∧ Rows.uptoBulkAll ds + 1 ≤ Rows.uptoBulk x.1 ∧ ∀ (i : Nat) cs d, css[i]? = some cs → ds[i]? = some d → cs.length = k ∧ ∃ fuel pl, DataW.trod enc P w base spare held fuel e cs = some (d, pl) := by
  rcases open_slice ht h with ⟨hcs, _⟩ | ⟨a, len, cap, m, n, D, Pl, hcs, _, hl, hm, hmm, hxx, hi⟩
  · injection hcs with hcs
    exact ⟨none, 0, 0, [], [], hcs, Rd.nil, rfl, rfl, by have := bulk_pos x.1; simp only [Rows.uptoBulkAll]; omega, by simp⟩
  · injection hcs with hcs
    have hlm : len ≤ m := by rw [hmm]; split <;> omega
    have hsum : Rows.uptoBulkAll ((List.range len).map D) + 1 ≤ Rows.uptoBulk x.1 := by rw [hxx]; simp only [Rows.uptoBulk]; omega
    have hDb : ∀ i, i < len → Rows.uptoBulk (D i) < Rows.uptoBulk x.1 := fun i hi' => by
      have := bulk_mem (List.mem_map.2 ⟨i, List.mem_range.2 hi', rfl⟩ : D i ∈ (List.range len).map D)
      omega
    have hex : ∀ i, i < len → ∃ cs', w.cells? base (a.add (i * k)) k = some cs' ∧ DataW.trod enc P w base spare held n e cs' = some (D i, Pl i) := fun i hi' => by
      have := hi i (by omega)
      rwa [hC] at this
    obtain ⟨C, hCC⟩ := choose_lt (α := List Value) (p := fun i cs' => w.cells? base (a.add (i * k)) k = some cs' ∧ DataW.trod enc P w base spare held n e cs' = some (D i, Pl i)) hex
    have hlen : ∀ i, i < len → (C i).length = k := fun i hi' => (World.cells?_some (hCC i hi').1).2.1
    have hcell : ∀ i, i < len → ∀ j, j < k → w.cell? (a.add (i * k + j)) = (C i)[j]? := fun i hi' j hj => by
      have := (World.cells?_some (hCC i hi').1).2.2 j hj
      rwa [Go.Deep.add_add] at this
    have hfl : ∀ m', m' ≤ len → (((List.range m').map C).flatten).length = m' * k := by
      intro m' hm'
      induction m' with
      | zero => simp
      | succ m' ih =>
        rw [List.range_succ, List.map_append, List.flatten_append, List.length_append, ih (by omega)]
        simp [hlen m' (by omega), Nat.add_mul]
    have hget : ∀ m', m' ≤ len → ∀ i j, i < m' → j < k → (((List.range m').map C).flatten)[i * k + j]? = (C i)[j]? := by
      intro m' hm'
      induction m' with
      | zero => intro i j hi'; omega
      | succ m' ih =>
        intro i j hi' hj
        rw [List.range_succ, List.map_append, List.flatten_append]
        rcases Nat.lt_or_ge i m' with h' | h'
        · rw [List.getElem?_append_left (by
            rw [hfl m' (by omega)]
            have : (i + 1) * k ≤ m' * k := Nat.mul_le_mul_right k h'
            rw [Nat.add_mul] at this
            omega)]
          exact ih (by omega) i j h' hj
        · have : i = m' := by omega
          subst this
          rw [List.getElem?_append_right (by rw [hfl i (by omega)]; omega), hfl i (by omega)]
          simp
    refine ⟨some a, len, cap, (List.range len).map C, (List.range len).map D, hcs, ⟨by rw [hfl len (Nat.le_refl _)], hl, hm, ?_, ?_⟩, by simp, by simp, hsum, ?_⟩
    · intro u hu
      obtain ⟨cs, hcs', hu'⟩ := List.mem_flatten.1 hu
      obtain ⟨i, hi', rfl⟩ := List.mem_map.1 hcs'
      exact hone n _ _ (hDb i (by simpa using hi')) (hCC i (by simpa using hi')).2 u hu'
    · intro hpos
      have hl0 : 0 < len := Nat.pos_of_mul_pos_right hpos
      have h00 := hcell 0 hl0 0 hk
      have hc0 : (C 0)[0]? = some ((C 0)[0]'(by rw [hlen 0 hl0]; exact hk)) := List.getElem?_eq_getElem _
      rw [hc0] at h00
      have hadd : (a.add (0 * k + 0)) = a := by simp [Addr.add]
      rw [hadd] at h00
      obtain ⟨b, off, spot⟩ := a
      have hsp : spot = none := by
        cases spot with
        | none => rfl
        | some s =>
          unfold World.cell? at h00
          split at h00 <;> simp at h00
      subst hsp
      refine ⟨b, off, rfl, ?_, ?_⟩
      · rcases Nat.lt_or_ge b w.heap.size with hlt | hge
        · exact hlt
        · unfold World.cell? at h00
          rw [Array.getElem?_eq_none hge] at h00
          cases h00
      · intro j u hu
        have hjl : j < len * k := by
          rw [← hfl len (Nat.le_refl _)]
          rcases Nat.lt_or_ge j ((List.range len).map C).flatten.length with h' | h'
          · exact h'
          · rw [List.getElem?_eq_none h'] at hu; cases hu
        have hdm : j / k * k + j % k = j := by rw [Nat.mul_comm]; exact Nat.div_add_mod j k
        have hdl : j / k < len := (Nat.div_lt_iff_lt_mul hk).2 hjl
        have h1 := hcell (j / k) hdl (j % k) (Nat.mod_lt _ hk)
        have h2 := hget len (Nat.le_refl _) (j / k) (j % k) hdl (Nat.mod_lt _ hk)
        rw [hdm] at h1 h2
        rw [h2] at hu
        rw [hu] at h1
        rw [← h1]
        unfold Addr.add
        split
        · rename_i h0; subst h0; rfl
        · rfl
    · intro i cs d h1 h2
      have hi' : i < len := by
        have := (List.getElem?_eq_some_iff.1 h1).1
        simpa using this
      rw [List.getElem?_map, List.getElem?_range hi'] at h1 h2
      simp only [Option.map_some, Option.some.injEq] at h1 h2
      subst h1 h2
      exact ⟨hlen i hi', n, _, (hCC i hi').2⟩
end
/-- two lists, related at each place -/
def All2 {α β : Type} (R : α → β → Prop) : List α → List β → Prop
  | [], [] => True
  | a :: l, b :: m => R a b ∧ All2 R l m
  | _, _ => False
theorem all2_of {α β : Type} {R : α → β → Prop} : ∀ {l : List α} {m : List β}, l.length = m.length → (∀ (i : Nat) a b, l[i]? = some a → m[i]? = some b → R a b) → All2 R l m
  | [], [], _, _ => trivial
  | a :: l, b :: m, h, hR => ⟨hR 0 a b rfl rfl, all2_of (by simpa using h) fun i x y hx hy => hR (i + 1) x y hx hy⟩
  | [], _ :: _, h, _ => by cases h
  | _ :: _, [], h, _ => by cases h
/-- a list's elements, each of a kind -/
theorem rows_repI {H : Type} {enc : TypeId × Value → H} {w : World} {t e : TypeId} {k fuel : Nat} {v : Value} {x : DataW H × List MemPlace} {τ : Type} (E : EC τ) (R : τ → DataW H → Prop) (ht : Tryz.prog.underlying t = some (.slice e)) (hC : Tryz.prog.cellsOf e = k) (hk : 0 < k)
    (h : DataW.trod enc Tryz.prog w 0 (fun _ => true) true fuel t [v] = some x)
    (hE : ∀ fuel cs y, Rows.uptoBulk y.1 < Rows.uptoBulk x.1 → DataW.trod enc Tryz.prog w 0 (fun _ => true) true fuel e cs = some y → ∃ a : τ, RepL (Zw w) cs (E.enc a) ∧ R a y.1) :
    ∃ (l : List τ) (ds : List (DataW H)), RepC (Zw w) v (.sl (E.encL l)) ∧ Rows.uptoBulkAll ds + 1 ≤ Rows.uptoBulk x.1 ∧ All2 R l ds := by
  obtain ⟨A, n, c, css, ds, hv, hr, hn, hn', hsum, hcs⟩ := open_rowsI ht hC hk h (fun fuel cs y hb hy u hu => by
    obtain ⟨a, ha, _⟩ := hE fuel cs y hb hy
    obtain ⟨i, hi, rfl⟩ := List.getElem_of_mem hu
    have hx : i < (E.enc a).length := by rw [← ha.len]; exact hi
    exact (ha.get i _ _ (List.getElem?_eq_getElem hi) (List.getElem?_eq_getElem hx)).one)
  subst hv
  haveI : Inhabited τ := ⟨E.dec []⟩
  have hall : ∀ i, i < css.length → ∃ a : τ, (∀ cs, css[i]? = some cs → RepL (Zw w) cs (E.enc a)) ∧ (∀ d, ds[i]? = some d → R a d) := fun i hi => by
    have hi' : i < ds.length := by omega
    obtain ⟨_, fuel, pl, hy⟩ := hcs i _ _ (List.getElem?_eq_getElem hi) (List.getElem?_eq_getElem hi')
    have hb := bulk_mem (List.getElem_mem hi')
    obtain ⟨a, ha, hra⟩ := hE fuel _ _ (by show Rows.uptoBulk ds[i] < _; omega) hy
    exact ⟨a, fun cs h => by rw [List.getElem?_eq_getElem hi] at h; injection h with h; subst h; exact ha, fun d h => by rw [List.getElem?_eq_getElem hi'] at h; injection h with h; subst h; exact hra⟩
  obtain ⟨F, hF⟩ := choose_lt (α := τ) (n := css.length) hall
  refine ⟨(List.range css.length).map F, ds, rd_rep hr hn (nil_cap ht h) hk (fun cs hc => by
    obtain ⟨i, hi, rfl⟩ := List.getElem_of_mem hc
    exact (hcs i _ _ (List.getElem?_eq_getElem hi) (List.getElem?_eq_getElem (show i < ds.length by omega))).1) (by simp [EC.encL]) ?_, hsum, all2_of (by simp; omega) ?_⟩
  · intro i cs e h1 h2
    have hi : i < css.length := (List.getElem?_eq_some_iff.1 h1).1
    rw [EC.encL, List.getElem?_map, List.getElem?_map, List.getElem?_range hi] at h2
    simp only [Option.map_some, Option.some.injEq] at h2
    subst h2
    exact (hF i hi).1 cs h1
  · intro i a d h1 h2
    have hi : i < css.length := by have := (List.getElem?_eq_some_iff.1 h1).1; simpa using this
    rw [List.getElem?_map, List.getElem?_range hi] at h1
    simp only [Option.map_some, Option.some.injEq] at h1
    subst h1
    exact (hF i hi).2 d h2
end Go.Proofs.YtomnbknaanlmaaaGreatDoor
namespace Go.Proofs.YtomnbknaanlmaaaGreatDoor
open Go.ChangeShapes Go.WideShapes Go.ChangeAt Go.RowKit Go.Deep
theorem lthree {α : Type} {l : List α} (h : l.length = 3) : ∃ a b c, l = [a, b, c] := by
  match l, h with
  | [a, b, c], _ => exact ⟨a, b, c, rfl⟩
section
variable {H : Type} {enc : TypeId × Value → H} {w : World}
/-- a token -/
theorem open_tok {fuel : Nat} {cs : List Value} {y : DataW H × List MemPlace} (h : DataW.trod enc Tryz.prog w 0 (fun _ => true) true fuel 74 cs = some y) :
    ∃ a : S74, RepL (Zw w) cs (ec_74.enc a) ∧ True := by
  obtain ⟨xs, n, _, hx, hl, hxl, hf⟩ := DataW.trod_struct Tryz.underlying74 h
  have hc : Tryz.prog.cellsOf 74 = 3 := by kernel_rfl
  have c1 : Tryz.prog.cellsOf 3 = 1 := by kernel_rfl
  have c2 : Tryz.prog.cellsOf 9 = 1 := by kernel_rfl
  rw [hc] at hl
  obtain ⟨u0, u1, u2, rfl⟩ := lthree hl
  obtain ⟨x0, x1, x2, rfl⟩ := lthree hxl
  have h0 : DataW.trod enc Tryz.prog w 0 (fun _ => true) true n 9 [u0] = some x0 := by have := hf 0 _ rfl; simpa [c2] using this
  have h1 : DataW.trod enc Tryz.prog w 0 (fun _ => true) true n 3 [u1] = some x1 := by have := hf 1 _ rfl; simpa [c1] using this
  have h2 : DataW.trod enc Tryz.prog w 0 (fun _ => true) true n 3 [u2] = some x2 := by have := hf 2 _ rfl; simpa [c1] using this
  obtain ⟨a0, e0, _, _⟩ := DataW.trod_string Tryz.underlying9 h0
  obtain ⟨a1, e1, _, _⟩ := DataW.trod_int Tryz.underlying3 h1
  obtain ⟨a2, e2, _, _⟩ := DataW.trod_int Tryz.underlying3 h2
  injection e0 with e0; injection e1 with e1; injection e2 with e2
  subst e0 e1 e2
  refine ⟨⟨a0, a1, a2⟩, ?_, trivial⟩
  rw [enc_74]
  exact ⟨.str _, .int _ _, .int _ _, trivial⟩
set_option maxRecDepth 100000 in
/-- an argument of type api.Words -/
theorem open_words {d : DataW H} {p : List MemPlace} {v : Value} (hv : ∃ cs : Array Value, v = .agg cs ∧ cs.size = Tryz.prog.cellsOf 24) (h : DataW.Trod enc Tryz.prog w 0 (fun _ => true) true 24 v d p) :
    ∃ (G J : Int) (T : List S74), Rep (Zw w) (fun _ _ => none) noM v (.agg [.c (.int .i64 G), .c (.int .i64 J), .c (.sl (ec_74.encL T))]) := by
  obtain ⟨cs, rfl, hsz⟩ := hv
  obtain ⟨fuel, h⟩ := h
  obtain ⟨xs, n, _, hx, hl, hxl, hf⟩ := DataW.trod_struct Tryz.underlying24 h
  have hc : Tryz.prog.cellsOf 24 = 3 := by kernel_rfl
  have c1 : Tryz.prog.cellsOf 3 = 1 := by kernel_rfl
  have c2 : Tryz.prog.cellsOf 22 = 1 := by kernel_rfl
  rw [hc] at hl
  obtain ⟨l⟩ := cs
  obtain ⟨u0, u1, u2, rfl⟩ := lthree hl
  obtain ⟨x0, x1, x2, rfl⟩ := lthree hxl
  have h0 : DataW.trod enc Tryz.prog w 0 (fun _ => true) true n 3 [u0] = some x0 := by have := hf 0 _ rfl; simpa [Value.cells, c1] using this
  have h1 : DataW.trod enc Tryz.prog w 0 (fun _ => true) true n 3 [u1] = some x1 := by have := hf 1 _ rfl; simpa [Value.cells, c1] using this
  have h2 : DataW.trod enc Tryz.prog w 0 (fun _ => true) true n 22 [u2] = some x2 := by have := hf 2 _ rfl; simpa [Value.cells, c2] using this
  obtain ⟨a0, e0, _, _⟩ := DataW.trod_int Tryz.underlying3 h0
  obtain ⟨a1, e1, _, _⟩ := DataW.trod_int Tryz.underlying3 h1
  injection e0 with e0; injection e1 with e1
  subst e0 e1
  obtain ⟨T, ds, r2, _, _⟩ := rows_repI (k := 3) ec_74 (fun _ _ => True) Tryz.underlying22 (by kernel_rfl) (by decide) h2 (fun fuel cs y hlt hy => open_tok hy)
  exact ⟨a0, a1, T, RepL.agg (us := [.int .i64 a0, .int .i64 a1, u2]) (xs := [.int .i64 a0, .int .i64 a1, .sl (ec_74.encL T)]) ⟨.int _ _, .int _ _, r2, trivial⟩⟩
theorem open_str0 {d : DataW H} {p : List MemPlace} {v : Value} (hv : ∃ s, v = .string s) (h : DataW.Trod enc Tryz.prog w 0 (fun _ => true) true 9 v d p) :
    ∃ x : ByteArray, v = .string x := by
  obtain ⟨s, rfl⟩ := hv
  exact ⟨s, rfl⟩
end
end Go.Proofs.YtomnbknaanlmaaaGreatDoor
namespace Go.Proofs.YtomnbknaanlmaaaGreatDoor
open Go.RowKit
theorem enc_spec (r : Int) (h : 128 ≤ r) : ∃ l : List UInt8, ∃ x : UInt8, Utf8.encode r = ⟨(l ++ [x]).toArray⟩ ∧ 128 ≤ x.toNat ∧ 1 ≤ l.length ∧ l.length ≤ 3 := by
  have hc : 128 ≤ (if Utf8.valid r then r.toNat else Utf8.runeError) ∧ (if Utf8.valid r then r.toNat else Utf8.runeError) < 2097152 := by
    split
    · rename_i hv
      unfold Utf8.valid at hv
      simp at hv
      omega
    · unfold Utf8.runeError; omega
  unfold Utf8.encode
  simp only
  generalize (if Utf8.valid r then r.toNat else Utf8.runeError) = c at hc
  have hb : ∀ n, 128 ≤ (UInt8.ofNat (128 + n % 64)).toNat := by
    intro n
    rw [UInt8.toNat_ofNat']
    have : n % 64 < 64 := Nat.mod_lt _ (by decide)
    omega
  rw [if_neg (by omega)]
  split
  · exact ⟨[_], _, rfl, hb _, by simp, by simp⟩
  · split
    · exact ⟨[_, _], _, rfl, hb _, by simp, by simp⟩
    · exact ⟨[_, _, _], _, rfl, hb _, by simp, by simp⟩
theorem dec_spec (s : ByteArray) (i : Nat) (hi : i < s.size) (h : 128 ≤ (s[i]'hi).toNat) : 128 ≤ (Utf8.decode s i).1 ∧ (Utf8.decode s i).1 < 2147483648 ∧ 1 ≤ (Utf8.decode s i).2 ∧ i + (Utf8.decode s i).2 ≤ s.size ∧ ∀ j (hj : j < s.size), i ≤ j → j < i + (Utf8.decode s i).2 → 128 ≤ (s[j]'hj).toNat := by
  have g : ∀ j (hj : j < s.size), s.get! j = s[j]'hj := by
    intro j hj
    simp [ByteArray.get!, getElem!_pos, hj]
    rfl
  have hone : ∀ j (hj : j < s.size), i ≤ j → j < i + 1 → 128 ≤ (s[j]'hj).toNat := by
    intro j hj h1 h2
    have : j = i := by omega
    subst this
    exact h
  have hcont : ∀ k, (decide (i + k < s.size) && (s.get! (i + k)).toNat / 64 == 2) = true → ∃ hk : i + k < s.size, 128 ≤ (s[i + k]'hk).toNat := by
    intro k hk
    simp at hk
    refine ⟨hk.1, ?_⟩
    have := hk.2
    rw [g _ hk.1] at this
    omega
  have h0 : (s.get! (i + 0)).toNat = (s[i]'hi).toNat := by rw [Nat.add_zero, g i hi]
  have herr : 128 ≤ Utf8.runeError ∧ Utf8.runeError < 2147483648 := by unfold Utf8.runeError; omega
  unfold Utf8.decode
  simp only [h0]
  rw [if_neg (by omega)]
  split
  · rename_i hh
    rw [Bool.and_eq_true] at hh
    obtain ⟨k1, c1⟩ := hcont 1 hh.2
    split
    · rename_i hc
      refine ⟨hc, ?_, by simp, by simp; omega, ?_⟩
      · have : (s[i]'hi).toNat < 256 := UInt8.toNat_lt _
        simp only
        have h1 := Nat.mod_lt (s[i]'hi).toNat (show 32 > 0 by decide)
        have h2 := Nat.mod_lt (s.get! (i + 1)).toNat (show 64 > 0 by decide)
        omega
      · intro j hj h1 h2
        simp only at h2
        rcases (by omega : j = i ∨ j = i + 1) with rfl | rfl
        · exact h
        · exact c1
    · exact ⟨herr.1, herr.2, by simp, by simp; omega, hone⟩
  · split
    · rename_i hh
      rw [Bool.and_eq_true, Bool.and_eq_true] at hh
      obtain ⟨k1, c1⟩ := hcont 1 hh.1.2
      obtain ⟨k2, c2⟩ := hcont 2 hh.2
      split
      · rename_i hc
        rw [Bool.and_eq_true] at hc
        refine ⟨?_, ?_, by simp, by simp; omega, ?_⟩
        · have := of_decide_eq_true hc.1
          simp only
          omega
        · simp only
          have h1 := Nat.mod_lt (s[i]'hi).toNat (show 16 > 0 by decide)
          have h2 := Nat.mod_lt (s.get! (i + 1)).toNat (show 64 > 0 by decide)
          have h3 := Nat.mod_lt (s.get! (i + 2)).toNat (show 64 > 0 by decide)
          omega
        · intro j hj h1 h2
          simp only at h2
          rcases (by omega : j = i ∨ j = i + 1 ∨ j = i + 2) with rfl | rfl | rfl
          · exact h
          · exact c1
          · exact c2
      · exact ⟨herr.1, herr.2, by simp, by simp; omega, hone⟩
    · split
      · rename_i hh
        rw [Bool.and_eq_true, Bool.and_eq_true, Bool.and_eq_true] at hh
        obtain ⟨k1, c1⟩ := hcont 1 hh.1.1.2
        obtain ⟨k2, c2⟩ := hcont 2 hh.1.2
        obtain ⟨k3, c3⟩ := hcont 3 hh.2
        split
        · rename_i hc
          rw [Bool.and_eq_true] at hc
          refine ⟨?_, ?_, by simp, by simp; omega, ?_⟩
          · have := of_decide_eq_true hc.1
            simp only
            omega
          · simp only
            have h1 := Nat.mod_lt (s[i]'hi).toNat (show 8 > 0 by decide)
            have h2 := Nat.mod_lt (s.get! (i + 1)).toNat (show 64 > 0 by decide)
            have h3 := Nat.mod_lt (s.get! (i + 2)).toNat (show 64 > 0 by decide)
            have h4 := Nat.mod_lt (s.get! (i + 3)).toNat (show 64 > 0 by decide)
            omega
          · intro j hj h1 h2
            simp only at h2
            rcases (by omega : j = i ∨ j = i + 1 ∨ j = i + 2 ∨ j = i + 3) with rfl | rfl | rfl | rfl
            · exact h
            · exact c1
            · exact c2
            · exact c3
        · exact ⟨herr.1, herr.2, by simp, by simp; omega, hone⟩
      · exact ⟨herr.1, herr.2, by simp, by simp; omega, hone⟩
end Go.Proofs.YtomnbknaanlmaaaGreatDoor
namespace Go.Proofs.YtomnbknaanlmaaaGreatDoor
open Go.RowKit
theorem ixb_calls (s : ByteArray) (c : Int) (w : World) : Calls Tryz.prog 88 #[.string s, .int .u8 c] w fun e w' => e = .returned (.int .i64 (Lib.indexByte s.data.toList c.toNat.toUInt8)) ∧ w' = w := Any.strings_IndexByte lays137 s c w
theorem vrn_calls (r : Int) (w : World) : Calls Tryz.prog 254 #[.int .i32 r] w fun e w' => e = .returned (.bool (Lib.validRune r)) ∧ w' = w := Any.utf8_ValidRune lays119 r w
theorem enc_three (r : Int) (h : 128 ≤ r) : (∃ a x, Utf8.encode r = ⟨#[a, x]⟩ ∧ 128 ≤ x.toNat) ∨ (∃ a b x, Utf8.encode r = ⟨#[a, b, x]⟩ ∧ 128 ≤ x.toNat) ∨ ∃ a b c x, Utf8.encode r = ⟨#[a, b, c, x]⟩ ∧ 128 ≤ x.toNat := by
  obtain ⟨l, x, he, hx, h1, h2⟩ := enc_spec r h
  match l, h1, h2, he with
  | [a], _, _, he => exact .inl ⟨a, x, he, hx⟩
  | [a, b], _, _, he => exact .inr (.inl ⟨a, b, x, he, hx⟩)
  | [a, b, c], _, _, he => exact .inr (.inr ⟨a, b, c, x, he, hx⟩)
theorem ixb_none (s : ByteArray) (x : UInt8) (hs : s.data.toList.all (fun b => decide (b.toNat < 128)) = true) (hx : 128 ≤ x.toNat) (w : World) : Calls Tryz.prog 88 #[.string s, .int .u8 (x.toNat : Int)] w fun e w' => e = .returned (.int .i64 (-1)) ∧ w' = w := by
  have h := ixb_calls s (x.toNat : Int) w
  have hb : ((x.toNat : Int)).toNat.toUInt8 = x := by simp
  have : Lib.indexByte s.data.toList x = -1 := by
    generalize s.data.toList = l at hs
    induction l with
    | nil => rfl
    | cons b l ih =>
      rw [List.all_cons, Bool.and_eq_true] at hs
      have h1 := of_decide_eq_true hs.1
      have hne : (b == x) = false := by
        rw [beq_eq_false_iff_ne]
        intro e
        subst e
        omega
      rw [Lib.indexByte, hne, ih hs.2]
      rfl
  rw [hb, this] at h
  exact h
theorem below_drewN' (w : World) (n : Nat) : Below w.heap.size w (w.drewN n) := ⟨rfl, rfl, rfl, Nat.le_refl _, fun _ _ => rfl⟩
theorem below_alloc4 (w : World) (o : Obj) : Below w.heap.size w (w.alloc o) := (Below.refl _ w).alloc (Nat.le_refl _) o
set_option maxHeartbeats 4000000 in
set_option maxRecDepth 100000 in
theorem ixr_calls (r : Int) (h : 128 ≤ r) (w : World) : Calls Tryz.prog 238 #[.string ⟨#[13, 10, 0]⟩, .int .i32 r] w fun e w' => e = .returned (.int .i64 (-1)) ∧ Below w.heap.size w w' := by
  have h0 : (0 : Int) ≤ r := by omega
  have h1 : ¬ r < 128 := by omega
  go_enter Tryz.func238, Tryz.ntmps238
  go_wp2_with (first
    | (go_at_call 254; refine (vrn_calls r _).mono ?_; rintro e w2 ⟨rfl, rfl⟩)
    | go_in)
  · -- the rune of an error: none of the three
    have n0 := fun ty => run_next_ascii (P := Tryz.prog) w ⟨#[13, 10, 0]⟩ 0 ty (by decide) (by decide)
    have n1 := fun ty => run_next_ascii (P := Tryz.prog) w ⟨#[13, 10, 0]⟩ 1 ty (by decide) (by decide)
    have n2 := fun ty => run_next_ascii (P := Tryz.prog) w ⟨#[13, 10, 0]⟩ 2 ty (by decide) (by decide)
    have n3 := fun ty => run_next_end (P := Tryz.prog) w ⟨#[13, 10, 0]⟩ 3 ty (by decide)
    refine wp_loop_rounds 4 ?_
    rw [rounds_succ]
    go_wp2
    rw [rounds_succ]
    go_wp2
    rw [rounds_succ]
    go_wp2
    rw [rounds_succ]
    go_wp2
    go_ret
    exact ⟨rfl, below_alloc4 _ _⟩
  · go_ret
    exact ⟨rfl, Below.refl _ _⟩
  · rcases enc_three r h with ⟨a, x, he, hx⟩ | ⟨a, b, x, he, hx⟩ | ⟨a, b, c, x, he, hx⟩
    · have d1 : ((10 : Int) != (x.toNat : Int)) = true := by rw [bne_iff_ne]; omega
      have d2 : ((0 : Int) != (x.toNat : Int)) = true := by rw [bne_iff_ne]; omega
      go_step3
      go_wp2
      refine wp_loop_rounds 1 ?_
      rw [rounds_succ]
      go_wp2
      go_step3
      go_wp2
      go_quiet (fail)
      go_wp2
      go_quiet ((go_at_call 88; exact (ixb_none _ x (by decide) hx _).mono fun _ _ h => ⟨h.1, _, h.2⟩))
      go_wp2
      · simp only [Exit.noGoto, Exit.inBlock, Exit.then]
        go_ret
        exact ⟨rfl, below_drewN' _ _⟩
      · exfalso
        have hh : ((10 : Int) != (x.toNat : Int)) = false := by assumption
        exact absurd (d1.symm.trans hh) (by decide)
    · have d1 : ((10 : Int) != (x.toNat : Int)) = true := by rw [bne_iff_ne]; omega
      have d2 : ((0 : Int) != (x.toNat : Int)) = true := by rw [bne_iff_ne]; omega
      go_step3
      go_wp2
      refine wp_loop_rounds 1 ?_
      rw [rounds_succ]
      go_wp2
      go_step3
      go_wp2
      go_quiet (fail)
      go_wp2
      go_quiet ((go_at_call 88; exact (ixb_none _ x (by decide) hx _).mono fun _ _ h => ⟨h.1, _, h.2⟩))
      go_wp2
      · simp only [Exit.noGoto, Exit.inBlock, Exit.then]
        go_ret
        exact ⟨rfl, below_drewN' _ _⟩
      · exfalso
        have hh : ((0 : Int) != (x.toNat : Int)) = false := by assumption
        exact absurd (d2.symm.trans hh) (by decide)
    · go_step3
      go_wp2
      refine wp_loop_rounds 1 ?_
      rw [rounds_succ]
      go_wp2
      rw [Exit.noGoto_ret]
      go_ret
      exact ⟨rfl, Below.refl _ _⟩
end Go.Proofs.YtomnbknaanlmaaaGreatDoor
