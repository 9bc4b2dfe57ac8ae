/- Words of this proof: slices that read as lists of cells, rows of one's own, worlds that only grew. No program in sight. -/
import Derived.WalkKit
import Derived.WalkSpells
import Derived.WalkLawsBesides
import Derived.Deep.AppendLies
import Derived.Deep.Draws
import Derived.Maps.AppendAt
import Derived.RegionTactic
import Derived.OwnWalk
import Derived.Deep.QuietTactic
import Derived.BigQuiet
import Derived.Lib.Hide
import Derived.StillTailTactics
import Derived.Deep.RegionHeld3
import Derived.Deep.DeepCutAuto
import Derived.Deep.LoopGhost
namespace Go.Proofs.Ytokahibbkdbndaa
open Go.RowKit

/-- Memory that was there is as it was. -/
abbrev Bel (w w' : World) : Prop := Below w.heap.size w w'

theorem Bel.refl (w : World) : Bel w w := Below.refl _ _
theorem Bel.trans {a b c : World} (h : Bel a b) (h' : Bel b c) : Bel a c := Below.trans h (h'.mono h.size)
theorem Bel.alloc {a b : World} (h : Bel a b) (o : Obj) : Bel a (b.alloc o) := Below.alloc h h.size o
theorem Bel.drew {a b : World} (h : Bel a b) : Bel a b.drew := Below.drew h
theorem Bel.drewN {a b : World} (h : Bel a b) (n : Nat) : Bel a (b.drewN n) := ⟨h.os, h.tape, h.output, h.size, h.block⟩
theorem Bel.setCell {a b : World} (h : Bel a b) {p : Addr} (hp : a.heap.size ≤ p.block) (v : Value) : Bel a (b.setCell p v) := Below.setCell h hp v
theorem Bel.cell {a b : World} (h : Bel a b) {g : Nat} (o : Nat) (hg : g < a.heap.size) : b.cell? ⟨g, o, none⟩ = a.cell? ⟨g, o, none⟩ := Below.cell (p := ⟨g, o, none⟩) h hg
theorem Bel.cells {a b : World} (h : Bel a b) : (∀ g o, g < a.heap.size → b.cell? ⟨g, o, none⟩ = a.cell? ⟨g, o, none⟩) ∧ (∀ g o, g < a.heap.size → b.frozen? ⟨g, o, none⟩ = a.frozen? ⟨g, o, none⟩) :=
  ⟨fun g o hg => Below.cell (p := ⟨g, o, none⟩) h hg, fun g o hg => Below.frozen (p := ⟨g, o, none⟩) h hg⟩

/-- What lies in the blocks of S may have changed; all else that was there is as it was. -/
structure Frm (S : Nat → Prop) (w w' : World) : Prop where
  os : w'.os = w.os
  tape : w'.tape = w.tape
  output : w'.output = w.output
  size : w.heap.size ≤ w'.heap.size
  block : ∀ k, k < w.heap.size → ¬ S k → w'.heap[k]? = w.heap[k]?

theorem Frm.refl (S : Nat → Prop) (w : World) : Frm S w w := ⟨rfl, rfl, rfl, Nat.le_refl _, fun _ _ _ => rfl⟩
theorem Frm.trans {S T : Nat → Prop} {a b c : World} (h : Frm S a b) (h' : Frm T b c) (hs : ∀ k, T k → k < a.heap.size → S k) : Frm S a c :=
  ⟨h'.os.trans h.os, h'.tape.trans h.tape, h'.output.trans h.output, Nat.le_trans h.size h'.size, fun k hk hn => (h'.block k (Nat.lt_of_lt_of_le hk h.size) (fun ht => hn (hs k ht hk))).trans (h.block k hk hn)⟩
theorem Frm.mono {S T : Nat → Prop} {a b : World} (h : Frm S a b) (hs : ∀ k, S k → k < a.heap.size → T k) : Frm T a b :=
  ⟨h.os, h.tape, h.output, h.size, fun k hk hn => h.block k hk (fun ht => hn (hs k ht hk))⟩
theorem Frm.drew {S : Nat → Prop} {a b : World} (h : Frm S a b) : Frm S a b.drew := ⟨h.os, h.tape, h.output, h.size, h.block⟩
theorem Frm.drewN {S : Nat → Prop} {a b : World} (h : Frm S a b) (n : Nat) : Frm S a (b.drewN n) := ⟨h.os, h.tape, h.output, h.size, h.block⟩
theorem Frm.alloc {S : Nat → Prop} {a b : World} (h : Frm S a b) (o : Obj) : Frm S a (b.alloc o) :=
  ⟨h.os, h.tape, h.output, Nat.le_trans h.size (by simp), fun k hk hn => (Below.heap_alloc b o k (Nat.lt_of_lt_of_le hk h.size)).trans (h.block k hk hn)⟩
theorem Frm.setCell {S : Nat → Prop} {a b : World} (h : Frm S a b) {p : Addr} (hp : S p.block ∨ a.heap.size ≤ p.block) (v : Value) : Frm S a (b.setCell p v) :=
  ⟨h.os, h.tape, h.output, by simpa [World.setCell] using h.size, fun k hk hn => (Below.heap_setCell b p v k (by
    rintro rfl
    rcases hp with hp | hp
    · exact hn hp
    · omega)).trans (h.block k hk hn)⟩
theorem Frm.bel {S : Nat → Prop} {a b : World} (h : Frm S a b) (hs : ∀ k, S k → a.heap.size ≤ k) : Bel a b := ⟨h.os, h.tape, h.output, h.size, fun k hk => h.block k hk (fun hk' => by have := hs k hk'; omega)⟩
theorem Bel.frm {a b : World} (h : Bel a b) (S : Nat → Prop) : Frm S a b := ⟨h.os, h.tape, h.output, h.size, fun k hk _ => h.block k hk⟩
theorem frm_grown {a b : World} {r : Option Nat} (h : a.grownBy b r) : Frm (fun k => some k = r) a b := ⟨h.os, h.tape, h.output, h.size, fun k hk hn => h.block k hk hn⟩

/-- The slice value '.slice A n c' holds the cells xs, k to an element, in memory that is there. -/
def Rd (w : World) (k : Nat) (A : Option Addr) (n c : Nat) (xs : List Value) : Prop :=
  xs.length = n * k ∧ n ≤ c ∧ c ≤ maxLen ∧ (∀ u ∈ xs, u.oneCell' = true) ∧ (0 < n * k → ∃ b off, A = some ⟨b, off, none⟩ ∧ b < w.heap.size ∧ ∀ j u, xs[j]? = some u → w.cell? ⟨b, off + j, none⟩ = some u)

section
variable {w w' : World} {k n c : Nat} {A : Option Addr} {xs : List Value}
theorem Rd.len (h : Rd w k A n c xs) : xs.length = n * k := h.1
theorem Rd.le (h : Rd w k A n c xs) : n ≤ c := h.2.1
theorem Rd.cap (h : Rd w k A n c xs) : c ≤ 9223372036854775807 := by have := h.2.2.1; unfold maxLen at this; omega
theorem Rd.keep (h : Rd w k A n c xs) (hs : w.heap.size ≤ w'.heap.size) (hb : ∀ b off, A = some ⟨b, off, none⟩ → w'.heap[b]? = w.heap[b]?) : Rd w' k A n c xs := by
  refine ⟨h.1, h.2.1, h.2.2.1, h.2.2.2.1, fun hn => ?_⟩
  obtain ⟨b, off, e, hlt, hc⟩ := h.2.2.2.2 hn
  exact ⟨b, off, e, Nat.lt_of_lt_of_le hlt hs, fun j u hu => (World.cell?_of_block (w := w) (a := ⟨b, off + j, none⟩) (hb b off e)).trans (hc j u hu)⟩
theorem Rd.bel (h : Rd w k A n c xs) (hb : Bel w w') : Rd w' k A n c xs := by
  refine ⟨h.1, h.2.1, h.2.2.1, h.2.2.2.1, fun hn => ?_⟩
  obtain ⟨b, off, e, hlt, hc⟩ := h.2.2.2.2 hn
  exact ⟨b, off, e, Nat.lt_of_lt_of_le hlt hb.size, fun j u hu => (hb.cell _ hlt).trans (hc j u hu)⟩
theorem Rd.nil : Rd w k none 0 0 [] := ⟨by simp, by simp, by simp, by simp, fun h => absurd h (by simp)⟩
theorem Rd.empty (A : Option Addr) (c : Nat) (hc : c ≤ maxLen) : Rd w k A 0 c [] := ⟨by simp, by simp, hc, by simp, fun h => absurd h (by simp)⟩
theorem Rd.at_ {j : Nat} (h : Rd w k A n c xs) (hj : j < n * k) : ∃ b off u, A = some ⟨b, off, none⟩ ∧ b < w.heap.size ∧ xs[j]? = some u ∧ w.cell? ⟨b, off + j, none⟩ = some u := by
  obtain ⟨b, off, e, hlt, hc⟩ := h.2.2.2.2 (by omega)
  have hl : j < xs.length := by rw [h.1]; exact hj
  exact ⟨b, off, xs[j], e, hlt, List.getElem?_eq_getElem hl, hc j _ (List.getElem?_eq_getElem hl)⟩
/-- the place where a slice's cells lie -/
theorem Rd.place (h : Rd w k A n c xs) (hn : 0 < n * k) : ∃ b off, A = some ⟨b, off, none⟩ ∧ b < w.heap.size ∧ ∀ j u, xs[j]? = some u → w.cell? ⟨b, off + j, none⟩ = some u := h.2.2.2.2 hn
end

/-- a new block, whole, as a slice -/
theorem Rd.new (w : World) (k n : Nat) (t : TypeId) (cs : Array Value) (hs : cs.size = n * k) (hn : n ≤ maxLen) (h1 : ∀ u ∈ cs.toList, u.oneCell' = true) : Rd (w.alloc (.cells cs t)) k (some ⟨w.heap.size, 0, none⟩) n n cs.toList :=
  ⟨by simpa using hs, Nat.le_refl _, hn, h1, fun _ => ⟨_, _, rfl, by simp, fun j u hu => by
    have hb : (w.alloc (.cells cs t)).heap[w.heap.size]? = some (.cells cs t (0, 0)) := heap_alloc_new w _
    simp only [World.cell?, hb, Nat.zero_add]
    simpa using hu⟩⟩

/-- The block of a slice. -/
def blk (A : Option Addr) : Option Nat := A.map (·.block)
theorem ownBlock_slice (A : Option Addr) (n c : Nat) : (Value.slice A n c).ownBlock = blk A := by cases A <;> rfl

/-- A row of one's own: a slice that begins at the head of a block that nobody else has. -/
def Own (w : World) (base : Nat) (e : TypeId) (k : Nat) (A : Option Addr) (n c : Nat) (xs : List Value) : Prop :=
  w.ownsRow base e k (.slice A n c) n xs ∧ ∀ u ∈ xs, u.oneCell' = true

section
variable {w w' : World} {base e k n c : Nat} {A : Option Addr} {xs : List Value}
theorem Own.nil : Own w base e k none 0 0 [] := ⟨⟨by simp, .inl ⟨rfl, rfl⟩⟩, by simp⟩
theorem Own.form (h : Own w base e k A n c xs) : (A = none ∧ n = 0 ∧ c = 0 ∧ xs = []) ∨ ∃ g cur, A = some ⟨g, 0, none⟩ ∧ base ≤ g ∧ g < w.heap.size ∧ w.heap[g]? = some (.cells cur e) ∧ n ≤ c ∧ c ≤ maxLen ∧ cur.size = c * k ∧ List.take (n * k) cur.toList = xs := by
  rcases h.1.2 with ⟨hv, hn⟩ | ⟨g, cap, cur, hv, hg, hh, hnc, hcm, hs, ht⟩
  · injection hv with h1 h2 h3
    subst h1 h3 hn
    exact .inl ⟨rfl, rfl, rfl, List.eq_nil_of_length_eq_zero (by have := h.1.1; simpa using this)⟩
  · injection hv with h1 h2 h3
    subst h1 h3
    have hlt : g < w.heap.size := by
      rcases Nat.lt_or_ge g w.heap.size with hlt | hge
      · exact hlt
      · rw [Array.getElem?_eq_none hge] at hh; cases hh
    exact .inr ⟨g, cur, rfl, hg, hlt, hh, hnc, hcm, hs, ht⟩
theorem Own.rd (h : Own w base e k A n c xs) : Rd w k A n c xs := by
  rcases h.form with ⟨rfl, rfl, rfl, rfl⟩ | ⟨g, cur, rfl, hg, hlt, hh, hnc, hcm, hs, ht⟩
  · exact Rd.nil
  · refine ⟨h.1.1, hnc, hcm, h.2, fun _ => ⟨g, 0, rfl, hlt, fun j u hu => ?_⟩⟩
    subst ht
    rw [List.getElem?_take] at hu
    split at hu
    · simp only [Nat.zero_add, World.cell?, hh]
      simpa using hu
    · cases hu
theorem Own.keep (h : Own w base e k A n c xs) (hb : ∀ g, blk A = some g → w'.heap[g]? = w.heap[g]?) : Own w' base e k A n c xs := by
  refine ⟨⟨h.1.1, ?_⟩, h.2⟩
  rcases h.1.2 with hl | ⟨g, cap, cur, hv, hg, hh, hr⟩
  · exact .inl hl
  · injection hv with h1 h2 h3
    subst h1 h3
    exact .inr ⟨g, c, cur, rfl, hg, (hb g rfl).trans hh, hr⟩
theorem Own.lt (h : Own w base e k A n c xs) {g : Nat} (hg : blk A = some g) : base ≤ g ∧ g < w.heap.size := by
  rcases h.form with ⟨rfl, _⟩ | ⟨g', cur, rfl, hg', hlt, _⟩
  · cases hg
  · have : g' = g := by simpa [blk] using hg
    subst this
    exact ⟨hg', hlt⟩
theorem Own.frm {S : Nat → Prop} (h : Own w base e k A n c xs) (hf : Frm S w w') (hs : ∀ g, blk A = some g → ¬ S g) : Own w' base e k A n c xs :=
  h.keep fun g hg => hf.block g (h.lt hg).2 (hs g hg)
theorem Own.bel (h : Own w base e k A n c xs) (hf : Bel w w') : Own w' base e k A n c xs := h.keep fun g hg => hf.block g (h.lt hg).2
theorem Own.alloc (h : Own w base e k A n c xs) (o : Obj) : Own (w.alloc o) base e k A n c xs := h.bel ((Bel.refl w).alloc o)
theorem Own.drewN (h : Own w base e k A n c xs) (m : Nat) : Own (w.drewN m) base e k A n c xs := h.bel ((Bel.refl w).drewN m)
theorem Own.base_ {b' : Nat} (h : Own w base e k A n c xs) (hb : ∀ g, blk A = some g → b' ≤ g) : Own w b' e k A n c xs := by
  refine ⟨⟨h.1.1, ?_⟩, h.2⟩
  rcases h.1.2 with hl | ⟨g, cap, cur, hv, hg, hh, hr⟩
  · exact .inl hl
  · injection hv with h1 h2 h3
    subst h1 h3
    exact .inr ⟨g, c, cur, rfl, hb g rfl, hh, hr⟩
end

/-- a new block, whole, as a row of one's own -/
theorem Own.new {w : World} {base e : Nat} (k n : Nat) (cs : Array Value) (hb : base ≤ w.heap.size) (hs : cs.size = n * k) (hn : n ≤ maxLen) (h1 : ∀ u ∈ cs.toList, u.oneCell' = true) : Own (w.alloc (.cells cs e)) base e k (some ⟨w.heap.size, 0, none⟩) n n cs.toList :=
  ⟨⟨by simpa using hs, .inr ⟨_, n, cs, rfl, hb, heap_alloc_new w _, Nat.le_refl _, hn, hs, List.take_of_length_le (by simp [hs])⟩⟩, h1⟩

/-- Block g is just the cells cs of type t. -/
def Blk (w : World) (g : Nat) (t : TypeId) (cs : Array Value) : Prop := w.heap[g]? = some (.cells cs t (0, 0))
section
variable {w w' : World} {g : Nat} {t : TypeId} {cs : Array Value}
theorem Blk.lt (h : Blk w g t cs) : g < w.heap.size := by
  rcases Nat.lt_or_ge g w.heap.size with hlt | hge
  · exact hlt
  · unfold Blk at h; rw [Array.getElem?_eq_none hge] at h; cases h
theorem Blk.cell (h : Blk w g t cs) : ∀ o, w.cell? ⟨g, o, none⟩ = cs[o]? := fun o => by unfold Blk at h; simp [World.cell?, h]
theorem Blk.frz (h : Blk w g t cs) : ∀ o, w.frozen? ⟨g, o, none⟩ = false := fun o => by unfold Blk at h; simp [World.frozen?, h]
theorem Blk.frm {S : Nat → Prop} (h : Blk w g t cs) (hf : Frm S w w') (hs : ¬ S g) : Blk w' g t cs := (hf.block g h.lt hs).trans h
theorem Blk.bel (h : Blk w g t cs) (hf : Bel w w') : Blk w' g t cs := (hf.block g h.lt).trans h
theorem Blk.new (w : World) (t : TypeId) (cs : Array Value) : Blk (w.alloc (.cells cs t)) w.heap.size t cs := heap_alloc_new w _
theorem Blk.alloc (h : Blk w g t cs) (o : Obj) : Blk (w.alloc o) g t cs := (Below.heap_alloc w o g h.lt).trans h
theorem Blk.set_ (h : Blk w g t cs) (i : Nat) (u : Value) : Blk (w.setCell ⟨g, i, none⟩ u) g t (cs.setIfInBounds i u) := by
  unfold Blk at h ⊢
  simp [World.setCell, Array.getElem?_modify, h]
theorem Blk.far (h : Blk w g t cs) {p : Addr} (hp : g ≠ p.block) (u : Value) : Blk (w.setCell p u) g t cs := (Below.heap_setCell w p u g hp).trans h
end

/-- A slice type t whose elements have the type e, k cells and by bytes. -/
structure SlT (P : Program) (t e : TypeId) (k by_ : Nat) : Prop where
  under : P.underlying t = some (.slice e)
  info : ∃ i z, P.info? e = some i ∧ i.zero = some z ∧ i.size = k ∧ i.bytes = by_ ∧ z.cells.size = k
  pos : 0 < k

theorem SlT.mk' {P : Program} {t e : TypeId} {k by_ : Nat} {z : Value} (h : P.underlying t = some (.slice e)) (hi : (P.info? e).map (fun i => (i.zero, i.size, i.bytes)) = some (some z, k, by_)) (hz : z.cells.size = k) (hp : 0 < k) : SlT P t e k by_ := by
  obtain ⟨i, h1, h2, h3, h4⟩ := info_parts hi
  exact ⟨h, ⟨i, z, h1, h2, h3, h4, hz⟩, hp⟩

section
variable {P : Program} {w : World} {t e : TypeId} {k by_ base n c m d : Nat} {A B : Option Addr} {xs ys : List Value}

/-- append to a row of one's own, whatever the source -/
theorem run_apd (ty : TypeId) (hT : SlT P t e k by_) (hown : Own w base e k A n c xs) (hsrc : Rd w k B m d ys) (h63 : n + m ≤ maxLen) (hby : (n + m) * by_ ≤ 140737488355328) (hbase : base ≤ w.heap.size) :
    ∃ A' c' w', (Builtin.append_ #[t, t] ty #[.slice A n c, .slice B m d]).run P w = .ok (.slice A' (n + m) c') w' ∧ Own w' base e k A' (n + m) c' (xs ++ ys) ∧ Frm (fun g => some g = blk A) w w' ∧ (blk A' = blk A ∨ blk A' = some w.heap.size) := by
  obtain ⟨i, z, h1, h2, h3, h4, h5⟩ := hT.info
  have hall : ∀ u ∈ xs ++ ys, u.oneCell' = true := by
    intro u hu
    rcases List.mem_append.1 hu with hu | hu
    · exact hown.2 u hu
    · exact hsrc.2.2.2.1 u hu
  have fin : ∀ v' w', (Builtin.append_ #[t, t] ty #[.slice A n c, .slice B m d]).run P w = .ok v' w' → w'.ownsRow base e k v' (n + m) (xs ++ ys) → w.grownBy w' (Value.slice A n c).ownBlock →
      (v'.ownBlock = (Value.slice A n c).ownBlock ∨ v'.ownBlock = some w.heap.size) → ∃ A' c' w', (Builtin.append_ #[t, t] ty #[.slice A n c, .slice B m d]).run P w = .ok (.slice A' (n + m) c') w' ∧ Own w' base e k A' (n + m) c' (xs ++ ys) ∧ Frm (fun g => some g = blk A) w w' ∧ (blk A' = blk A ∨ blk A' = some w.heap.size) := by
    intro v' w' hr ho hg hbk
    have hex : ∃ A' c', v' = .slice A' (n + m) c' := by
      rcases ho.2 with ⟨hv, hn⟩ | ⟨g, cap, cur, hv, _⟩
      · exact ⟨none, 0, by rw [hv, hn]⟩
      · exact ⟨_, cap, hv⟩
    obtain ⟨A', c', hv⟩ := hex
    subst hv
    refine ⟨A', c', w', hr, ⟨ho, hall⟩, ?_, ?_⟩
    · have := frm_grown hg
      rw [ownBlock_slice] at this
      exact this
    · rw [ownBlock_slice, ownBlock_slice] at hbk
      exact hbk
  rcases B with _ | ad
  · have hm : m = 0 := by
      rcases Nat.eq_zero_or_pos m with h0 | h0
      · exact h0
      · obtain ⟨b, off, he, _⟩ := hsrc.place (Nat.mul_pos h0 hT.pos)
        cases he
    subst hm
    have hy : ys = [] := List.eq_nil_of_length_eq_zero (by have := hsrc.1; simpa using this)
    subst hy
    have hrun : (Builtin.append_ #[t, t] ty #[.slice A n c, .slice none 0 d]).run P w = .ok (.slice A n c) w := by
      rcases hown.form with ⟨rfl, rfl, rfl, rfl⟩ | ⟨g, cur, rfl, _, _, _, hnc, _⟩
      · simp [Builtin.append_, run_underlying hT.under, sizeOf, typeInfo, h1, Builtin.lenOf, Builtin.firstCells]
      · simp [Builtin.append_, run_underlying hT.under, sizeOf, typeInfo, h1, Builtin.lenOf, Builtin.firstCells, hnc, storeCells]
    exact fin _ _ hrun (by simpa using hown.1) (World.grownBy.refl w _) (.inl rfl)
  · have hcells : ∀ j u, ys[j]? = some u → w.cell? (ad.add j) = some u := by
      intro j u hu
      have h0 : 0 < m * k := by
        rw [← hsrc.1]
        rcases Nat.lt_or_ge j ys.length with hl | hl
        · omega
        · rw [List.getElem?_eq_none hl] at hu; cases hu
      obtain ⟨b, off, he, hlt, hc⟩ := hsrc.place h0
      injection he with he
      subst he
      have := hc j u hu
      unfold Addr.add
      split
      · rename_i h0; subst h0; exact this
      · exact this
    obtain ⟨v', w', hr, ho, hg, _, hbk⟩ := run_append_own_at (P := P) w base t ty e i z k by_ hT.under h1 h2 h3 h4 h5 hT.pos (.slice A n c) n xs hown.1 ad m d ys hsrc.1 hcells hsrc.2.2.2.1 h63 hby hbase
    exact fin v' w' hr ho hg hbk

theorem wpList_apd {ops : Array Oper} {rest : List Oper} {o : Oper} {a : Act} {Q : Exit → Act → World → Prop} (s x : Operand) (hgd : o.guard = none)
    (ho : o.op = .call { callee := .builtin .append, args := #[s, x], argTypes := #[t, t] }) (hs : a.eval s = .slice A n c) (hx : a.eval x = .slice B m d)
    (hT : SlT P t e k by_) (hown : Own w base e k A n c xs) (hsrc : Rd w k B m d ys) (h63 : n + m ≤ maxLen) (hby : (n + m) * by_ ≤ 140737488355328) (hbase : base ≤ w.heap.size)
    (h : ∀ A' c' w', Own w' base e k A' (n + m) c' (xs ++ ys) → Frm (fun g => some g = blk A) w w' → (blk A' = blk A ∨ blk A' = some w.heap.size) → wpList P ops Q rest (a.put o.dst (.slice A' (n + m) c')) w') : wpList P ops Q (o :: rest) a w := by
  refine wpList_plain hgd fun K hK => ?_
  obtain ⟨A', c', w', hr, h2, h3, h4⟩ := run_apd (P := P) o.type hT hown hsrc h63 hby hbase
  unfold Oper.wp execOp
  simp only [ho, resolve, invoke, builtin, Sem.run_bind, Sem.run_pure, Result.andThen_ok, List.map_toArray, List.map_cons, List.map_nil, hs, hx, hr]
  exact hK _ _ (h A' c' w' h2 h3 h4)
end
end Go.Proofs.Ytokahibbkdbndaa
