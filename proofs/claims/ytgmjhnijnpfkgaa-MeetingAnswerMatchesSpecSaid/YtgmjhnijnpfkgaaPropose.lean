/- slices.Clone over guests, meeting.propose. -/
import Derived.Test.YtgmjhnijnpfkgaaValidate
import Derived.Lib.SliceRun
namespace Go.Proofs.Ytgmjhnijnpfkgaa
open Go.RowKit

theorem guestsT : SlT Try.prog 36 48 4 40 := SlT.mk' (z := .agg #[.string ByteArray.empty, .int .i64 0, .int .i64 0, .int .i64 0]) Try.underlying36 (by kernel_rfl) rfl (by decide)

theorem Own.set_ {w : World} {base e k n c g j : Nat} {xs : List Value} {u : Value} (h : Own w base e k (some ⟨g, 0, none⟩) n c xs) (hu : u.oneCell' = true) : Own (w.setCell ⟨g, j, none⟩ u) base e k (some ⟨g, 0, none⟩) n c (xs.set j u) :=
  ⟨(h.1.stored j u).1, fun v hv => by
    rcases List.mem_or_eq_of_mem_set hv with hv | hv
    · exact h.2 v hv
    · subst hv; exact hu⟩
theorem Own.cell {w : World} {base e k n c g : Nat} {xs : List Value} (h : Own w base e k (some ⟨g, 0, none⟩) n c xs) {j : Nat} {u : Value} (hj : xs[j]? = some u) : w.cell? ⟨g, j, none⟩ = some u := by
  have hl : j < n * k := by
    rw [← h.1.1]
    rcases Nat.lt_or_ge j xs.length with h' | h'
    · exact h'
    · rw [List.getElem?_eq_none h'] at hj; cases hj
  rw [h.1.cellAt j hl]
  exact hj
theorem Own.frz {w : World} {base e k n c g : Nat} {xs : List Value} (h : Own w base e k (some ⟨g, 0, none⟩) n c xs) (j : Nat) : w.frozen? ⟨g, j, none⟩ = false := h.1.frozenAt j

def ClonePost (xs : List Value) (n : Nat) (w : World) (e : Ending) (w' : World) : Prop := ∃ A' c', e = .returned (.slice A' n c') ∧ Own w' w.heap.size 48 4 A' n c' xs ∧ Bel w w'

set_option maxHeartbeats 400000 in
set_option maxRecDepth 4000 in
theorem clone (A : Option Addr) (n c : Nat) (xs : List Value) (w : World) (h : Rd w 4 A n c xs) (hn : n ≤ 1000000) :
    Calls Try.prog 48 #[.slice A n c] w (ClonePost xs n w) := by
  have H := Lib.hid h
  have hz : ∀ w : World, (binOp .eql 36 (.slice A n c) (.slice none 0 0)).run Try.prog w = .ok (.bool A.isNone) w := fun w => Lib.run_eql_slice_nil w _ _ _ _ _ _ _ Try.underlying36
  cases A with
  | none =>
    have h0 : n = 0 := by
      rcases Nat.eq_zero_or_pos n with h0 | h0
      · exact h0
      · obtain ⟨b, off, e, _⟩ := h.place (by omega)
        cases e
    have hx : xs = [] := List.eq_nil_of_length_eq_zero (by have := h.1; rw [h0] at this; simpa using this)
    subst h0 hx
    clear h
    go_enter Try.func48, Try.ntmps48
    go_wp2
    go_ret
    exact ⟨none, 0, rfl, Own.nil, Bel.refl _⟩
  | some ad =>
    clear h
    go_enter Try.func48, Try.ntmps48
    go_wp2_with (at_builtin
                 refine wpList_apd (base := w.heap.size) (.tmp 5) (.tmp 6) rfl rfl rfl rfl guestsT (Own.new (base := w.heap.size) 4 0 #[] (Nat.le_refl _) rfl (Nat.zero_le _) (by simp)) (H.out.bel ((Bel.refl _).alloc _)) (by unfold maxLen; omega) (by omega) (by simp <;> omega) ?_
                 intro A1 c1 w1 hown1 hfr1 hb1
                 simp only [Nat.zero_add, List.nil_append] at hown1
                 have HO1 := Lib.hid hown1
                 have HB := Lib.hid (show Bel w w1 from ((Bel.refl w).alloc _).frm_own (Own.new (base := w.heap.size) 4 0 #[] (Nat.le_refl _) rfl (Nat.zero_le _) (by simp)) (Nat.le_refl _) hfr1)
                 clear hown1 hfr1 hb1)
    go_ret
    exact ⟨A1, c1, rfl, HO1.out, HB.out⟩

def Guest.clear (g : Guest) : Guest := ⟨g.addr, 0, 0, 0⟩
def Mtg.proposed (m : Mtg) (f t : Int) : Mtg := ⟨m.org, m.guests.map Guest.clear, m.round + 1, f, t, m.can⟩

/-- what a meeting that is returned is -/
def MtgPost (m : Mtg) (w : World) (e : Ending) (w' : World) : Prop := ∃ A n c, e = .returned (.agg (mval m A n c)) ∧ Rd w' 4 A n c (m.guests.flatMap Guest.cells) ∧ Bel w w' ∧ ∀ q, blk A = some q → w.heap.size ≤ q

/-- the guests, the first k of them cleared -/
def cleared (l : List Guest) (k : Nat) : List Guest := (l.take k).map Guest.clear ++ l.drop k
theorem set_at (P Q : List Value) (u : Value) (i j : Nat) (hj : j = P.length + i) : (P ++ Q).set j u = P ++ Q.set i u := by
  subst hj
  rw [List.set_append_right _ _ (by omega)]
  congr 2
  omega
theorem guest_set (l : List Guest) {k : Nat} {g h : Guest} (hg : l[k]? = some g) (ha : h.addr = g.addr) :
    ((((l.flatMap Guest.cells).set (k * 4 + 1) (.int .i64 h.ans)).set (k * 4 + 2) (.int .i64 h.of_)).set (k * 4 + 3) (.int .i64 h.ot)) = (l.take k ++ h :: l.drop (k + 1)).flatMap Guest.cells := by
  have e : l = l.take k ++ g :: l.drop (k + 1) := by rw [← drop_at hg, List.take_append_drop]
  have hk : k < l.length := by
    rcases Nat.lt_or_ge k l.length with h' | h'
    · exact h'
    · rw [List.getElem?_eq_none h'] at hg; cases hg
  have hP : ((l.take k).flatMap Guest.cells).length = k * 4 := by rw [flat_len Guest.cells 4 (fun _ => rfl), List.length_take]; omega
  generalize l.take k = T at *
  generalize l.drop (k + 1) = D at *
  subst e
  simp only [List.flatMap_append, List.flatMap_cons]
  generalize T.flatMap Guest.cells = P at *
  rw [set_at P _ _ 1 _ (by omega), set_at P _ _ 2 _ (by omega), set_at P _ _ 3 _ (by omega)]
  simp [Guest.cells, ha]
theorem cleared_at {l : List Guest} {k : Nat} {g : Guest} (h : l[k]? = some g) : (cleared l k)[k]? = some g := by
  have hk : k < l.length := by
    rcases Nat.lt_or_ge k l.length with h' | h'
    · exact h'
    · rw [List.getElem?_eq_none h'] at h; cases h
  unfold cleared
  rw [List.getElem?_append_right (by simp; omega)]
  simpa [Nat.min_eq_left (Nat.le_of_lt hk)] using h
theorem cleared_next {l : List Guest} {k : Nat} {g : Guest} (h : l[k]? = some g) :
    ((((cleared l k).flatMap Guest.cells).set (k * 4 + 1) (.int .i64 0)).set (k * 4 + 2) (.int .i64 0)).set (k * 4 + 3) (.int .i64 0) = (cleared l (k + 1)).flatMap Guest.cells := by
  have hk : k < l.length := by
    rcases Nat.lt_or_ge k l.length with h' | h'
    · exact h'
    · rw [List.getElem?_eq_none h'] at h; cases h
  refine (guest_set (h := g.clear) _ (cleared_at h) rfl).trans ?_
  congr 1
  unfold cleared
  have hl : ((l.take k).map Guest.clear).length = k := by simp; omega
  rw [List.take_append_of_le_length (by omega), List.take_of_length_le (by omega), List.drop_append, hl]
  rw [List.drop_of_length_le (by omega), List.nil_append, List.drop_drop, List.take_add_one, h]
  simp

def PropRel (base : Nat) (W : World) (A : Option Addr) (n c : Nat) (l : List Guest) (i : Value) (wr : World) : Prop :=
  ∃ k : Nat, k ≤ n ∧ i = .int .i64 k ∧ Own wr base 48 4 A n c ((cleared l k).flatMap Guest.cells) ∧ Frm (fun q => some q = blk A) W wr

set_option maxHeartbeats 1000000 in
theorem propose (m : Mtg) (f t : Int) (A : Option Addr) (n c : Nat) (w : World) (h : Rd w 4 A n c (m.guests.flatMap Guest.cells)) (hn : n ≤ 1000000) (hr : 0 ≤ m.round ∧ m.round ≤ 1000000) :
    Calls Try.prog 55 #[.agg (mval m A n c), .agg #[.int .i64 f, .int .i64 t]] w (MtgPost (m.proposed f t) w) := by
  have HL := Lib.hid (h.count (fun _ => rfl) (by decide))
  have H := Lib.hid h
  clear h
  obtain ⟨hr0, hr1⟩ := hr
  go_enter Try.func55, Try.ntmps55
  go_wp2_with fail
  refine (clone A n c _ _ (H.out.bel ?_) hn).mono ?_
  · (repeat (first | with_reducible refine Bel.alloc ?_ _)); exact Bel.refl _
  rintro e w1 ⟨A1, c1, rfl, hown, hb⟩
  have hM := (show Blk (((w.alloc (.cells (mval m A n c) 40)).alloc (.cells #[.int .i64 f, .int .i64 t] 38)).alloc _) w.heap.size 40 (mval m A n c) from ((Blk.new _ _ _).alloc _).alloc _).bel hb
  have hP := (show Blk (((w.alloc (.cells (mval m A n c) 40)).alloc (.cells #[.int .i64 f, .int .i64 t] 38)).alloc _) (w.heap.size + 1) 38 #[.int .i64 f, .int .i64 t] from (Blk.new' _ _ (by simp)).alloc _).bel hb
  have hR := (show Blk (((w.alloc (.cells (mval m A n c) 40)).alloc (.cells #[.int .i64 f, .int .i64 t] 38)).alloc (.cells #[.string ⟨#[]⟩, .slice none 0 0, .int .i64 0, .int .i64 0, .int .i64 0, .bool false] 40)) (w.heap.size + 2) 40 #[.string ⟨#[]⟩, .slice none 0 0, .int .i64 0, .int .i64 0, .int .i64 0, .bool false] from Blk.new' _ _ (by simp)).bel hb
  have hcm := hM.cell
  have hfm := hM.frz
  have hlm : w.heap.size < w1.heap.size := hM.lt
  have HM := Lib.hid hM
  have HP := Lib.hid hP
  have HR := Lib.hid hR
  have HO := Lib.hid hown
  have HB := Lib.hid (show Bel w w1 from ((((Bel.refl w).alloc _).alloc _).alloc _).trans hb)
  clear hM hP hR hown hb
  go_wp2
  generalize hW : (World.setCell w1 _ _) = W
  have hM := HM.out.set_ 1 (.slice A1 n c1)
  rw [hW] at hM
  have HMW := Lib.hid (show Blk W w.heap.size 40 (mval m A1 n c1) from hM)
  have HPW := Lib.hid (show Blk W (w.heap.size + 1) 38 #[.int .i64 f, .int .i64 t] from by rw [← hW]; exact HP.out.far (by show w.heap.size + 1 ≠ w.heap.size; omega) _)
  have HRW := Lib.hid (show Blk W (w.heap.size + 1 + 1) 40 #[.string ⟨#[]⟩, .slice none 0 0, .int .i64 0, .int .i64 0, .int .i64 0, .bool false] from by rw [← hW]; exact HR.out.far (by show w.heap.size + 2 ≠ w.heap.size; omega) _)
  have HOW := Lib.hid (show Own W (w.heap.size + 3) 48 4 A1 n c1 (m.guests.flatMap Guest.cells) from by
    rw [← hW]
    refine (HO.out.base_ (b' := w.heap.size + 3) fun g hg => ?_).keep fun g hg => Below.heap_setCell w1 _ _ g ?_
    · have := (HO.out.lt hg).1
      simpa using this
    · have := (HO.out.lt hg).1
      simp at this
      show g ≠ w.heap.size
      omega)
  have HBW := Lib.hid (show Bel w W from by rw [← hW]; exact HB.out.setCell (Nat.le_refl _) _)
  clear hW hM hcm hfm hlm HM HP HR HO HB
  have hnc := HOW.out.rd.le
  have hcc := HOW.out.rd.cap
  go_loopw [13] (PropRel (w.heap.size + 3) W A1 n c1 m.guests) (fun i _ => n - (intOf i).toNat)
  case atStart => exact ⟨0, Nat.zero_le _, rfl, by simpa [cleared] using HOW.out, Frm.refl _ _⟩
  case round =>
    obtain ⟨k, hk, rfl, ho, hfr⟩ := hrel
    have hnot : ∀ j, j < 3 → ¬ some (w.heap.size + j) = blk A1 := fun j hj h => by have := (HOW.out.lt h.symm).1; omega
    have bM := HMW.out.frm hfr (hnot 0 (by decide))
    have bP := HPW.out.frm hfr (hnot 1 (by decide))
    have bR := HRW.out.frm hfr (hnot 2 (by decide))
    have hcm := bM.cell
    have hfm := bM.frz
    have hl0 : w.heap.size < wr.heap.size := bM.lt
    have hl1 : w.heap.size + 1 < wr.heap.size := bP.lt
    have hl2 : w.heap.size + 1 + 1 < wr.heap.size := bR.lt
    have HO := Lib.hid ho
    have HFR := Lib.hid hfr
    have HP := Lib.hid bP
    have HR := Lib.hid bR
    clear hnot bM bP bR ho hfr
    by_cases hlt : k < n
    · obtain ⟨g, hu⟩ : ∃ g, m.guests[k]? = some g := ⟨_, List.getElem?_eq_getElem (by have := HL.out; omega)⟩
      obtain ⟨q, hq⟩ : ∃ q, A1 = some ⟨q, 0, none⟩ := by
        rcases HO.out.form with ⟨_, h0, _⟩ | ⟨q, _, h, _⟩
        · omega
        · exact ⟨q, h⟩
      subst hq
      have hge := (HO.out.lt (g := q) rfl).1
      have hfq := HO.out.frz
      have hfl := flat_get Guest.cells 4 (fun _ => rfl) (cleared m.guests k) k
      have c1' : wr.cell? ⟨q, k * 4 + 1, none⟩ = some (.int .i64 g.ans) := HO.out.cell (by rw [hfl 1 g (cleared_at hu) (by decide)]; rfl)
      have c2' : wr.cell? ⟨q, k * 4 + 2, none⟩ = some (.int .i64 g.of_) := HO.out.cell (by rw [hfl 2 g (cleared_at hu) (by decide)]; rfl)
      have c3' : wr.cell? ⟨q, k * 4 + 3, none⟩ = some (.int .i64 g.ot) := HO.out.cell (by rw [hfl 3 g (cleared_at hu) (by decide)]; rfl)
      have HU := Lib.hid hu
      clear hu hfl
      go_wp2
      go_region
      go_wp2
      go_roundw
      case rel =>
        refine ⟨k + 1, hlt, by go_num, ?_, ?_⟩
        · rw [← cleared_next HU.out]
          exact (((HO.out.set_ rfl).set_ rfl).set_ rfl).bel (Bel.refl _).drew
        · (repeat (first | with_reducible refine Frm.setCell ?_ (.inl (by simp [blk])) _ | with_reducible refine Frm.drew ?_)); exact HFR.out
      case measure => simp [intOf]; omega
    · have hkn : k = n := by omega
      subst hkn
      have hcp := HP.out.cell
      have hcr := HR.out.cell
      have hfr := HR.out.frz
      go_wp2
      refine bodyPost_ret (v := .agg (mval (m.proposed f t) A1 k c1)) (by simp [results, Try.results55, go_sem, hcr, Mtg.proposed]) rfl ⟨A1, k, c1, rfl, ?_, ?_, fun q hq => by have := (HOW.out.lt hq).1; omega⟩
      · have hx : (m.proposed f t).guests = cleared m.guests k := by
          show m.guests.map Guest.clear = cleared m.guests k
          unfold cleared
          rw [List.take_of_length_le (by rw [HL.out]; exact Nat.le_refl _), List.drop_of_length_le (by rw [HL.out]; exact Nat.le_refl _), List.append_nil]
        rw [hx]
        refine (HO.out.frm (S := fun q => q = w.heap.size ∨ q = w.heap.size + 1 + 1) ?_ ?_).rd
        · (repeat (first | with_reducible refine Frm.setCell ?_ (by simp) _ | with_reducible refine Frm.drew ?_)); exact Frm.refl _ _
        · intro g hg hS
          have := (HO.out.lt hg).1
          omega
      · refine ((((HBW.out.frm (fun q => w.heap.size ≤ q)).trans HFR.out (fun q hq _ => by have := (HOW.out.lt hq.symm).1; omega)).trans (T := fun q => q = w.heap.size ∨ q = w.heap.size + 1 + 1) ?_ (fun q hq _ => by omega))).bel (fun _ h => h)
        (repeat (first | with_reducible refine Frm.setCell ?_ (by simp) _ | with_reducible refine Frm.drew ?_)); exact Frm.refl _ _
end Go.Proofs.Ytgmjhnijnpfkgaa
