/- the reference: SameMeeting (of one meeting with itself), Proposed. -/
import Derived.Test.YtgmjhnijnpfkgaaPropose
namespace Go.Proofs.Ytgmjhnijnpfkgaa
open Go.RowKit

def SmRel (W : World) (n : Nat) (i : Value) (wr : World) : Prop := ∃ k : Nat, k ≤ n ∧ i = .int .i64 k ∧ Bel W wr
set_option maxHeartbeats 1000000 in
theorem sameMeeting (m : Mtg) (A B : Option Addr) (n n' c d : Nat) (w : World) (h : Rd w 4 A n c (m.guests.flatMap Guest.cells)) (h' : Rd w 4 B n' d (m.guests.flatMap Guest.cells)) :
    Calls Try.prog 22 #[.agg (mval m A n c), .agg (mval m B n' d)] w fun e w' => e = .returned (.bool true) ∧ Bel w w' := by
  have hnn : n' = n := (h'.count (fun _ => rfl) (by decide)).symm.trans (h.count (fun _ => rfl) (by decide))
  subst hnn
  have hn := h.le
  have hm := h.cap
  have hn' := h'.le
  have hm' := h'.cap
  have HL := Lib.hid (h.count (fun _ => rfl) (by decide))
  have H := Lib.hid h
  have H' := Lib.hid h'
  clear h h'
  go_enter Try.func22, Try.ntmps22
  go_wp2
  generalize hW : (World.alloc (World.alloc w _) _) = W
  have HM := Lib.hid (show Blk W w.heap.size 40 (mval m A n' c) from by rw [← hW]; exact (Blk.new _ _ _).alloc _)
  have HN := Lib.hid (show Blk W (w.heap.size + 1) 40 (mval m B n' d) from by rw [← hW]; exact Blk.new' _ _ (by simp))
  have HBW := Lib.hid (show Bel w W from by rw [← hW]; exact ((Bel.refl _).alloc _).alloc _)
  clear hW
  go_loopw [5] (SmRel W n') (fun i _ => n' - (intOf i).toNat)
  case atStart => exact ⟨0, Nat.zero_le _, rfl, Bel.refl _⟩
  case round =>
    obtain ⟨k, hk, rfl, hb⟩ := hrel
    have hcm := (HM.out.bel hb).cell
    have hcn := (HN.out.bel hb).cell
    have HB := Lib.hid hb
    clear hb
    by_cases hlt : k < n'
    · obtain ⟨b, off, g, rfl, hlb, hu, hc⟩ := (H.out.bel (HBW.out.trans HB.out)).elem (fun _ => rfl) (by decide) hlt
      obtain ⟨b', off', g', rfl, hlb', hu', hc'⟩ := (H'.out.bel (HBW.out.trans HB.out)).elem (fun _ => rfl) (by decide) hlt
      have hgg : g' = g := by rw [hu'] at hu; injection hu
      subst hgg
      have x0 : wr.cell? ⟨b, off + k * 4, none⟩ = some (.string g'.addr) := hc 0 _ rfl
      have x1 : wr.cell? ⟨b, off + k * 4 + 1, none⟩ = some (.int .i64 g'.ans) := hc 1 _ rfl
      have x2 : wr.cell? ⟨b, off + k * 4 + 2, none⟩ = some (.int .i64 g'.of_) := hc 2 _ rfl
      have x3 : wr.cell? ⟨b, off + k * 4 + 3, none⟩ = some (.int .i64 g'.ot) := hc 3 _ rfl
      have y0 : wr.cell? ⟨b', off' + k * 4, none⟩ = some (.string g'.addr) := hc' 0 _ rfl
      have y1 : wr.cell? ⟨b', off' + k * 4 + 1, none⟩ = some (.int .i64 g'.ans) := hc' 1 _ rfl
      have y2 : wr.cell? ⟨b', off' + k * 4 + 2, none⟩ = some (.int .i64 g'.of_) := hc' 2 _ rfl
      have y3 : wr.cell? ⟨b', off' + k * 4 + 3, none⟩ = some (.int .i64 g'.ot) := hc' 3 _ rfl
      clear hc hc' hu hu'
      go_wp2
      go_quiet (fail)
      go_wp2
      go_roundw
      case rel => exact ⟨k + 1, hlt, by go_num, HB.out.drewN _⟩
      case measure => simp [intOf]; omega
    · go_wp2
      go_ret
      exact ⟨rfl, HBW.out.trans HB.out⟩

def PrRel (base : Nat) (W : World) (l : List Guest) (n : Nat) (s i : Value) (wr : World) : Prop :=
  ∃ (k : Nat) (A : Option Addr) (c : Nat), k ≤ n ∧ i = .int .i64 k ∧ s = .slice A k c ∧ Own wr base 48 4 A k c (((l.take k).map Guest.clear).flatMap Guest.cells) ∧ Frm (fun q => base ≤ q) W wr
set_option maxHeartbeats 1000000 in
set_option maxRecDepth 4000 in
theorem proposedR (m : Mtg) (f t : Int) (A : Option Addr) (n c : Nat) (w : World) (h : Rd w 4 A n c (m.guests.flatMap Guest.cells)) (hn1 : n ≤ 1000000) (hr : 0 ≤ m.round ∧ m.round ≤ 1000000) :
    Calls Try.prog 31 #[.agg (mval m A n c), .agg #[.int .i64 f, .int .i64 t]] w (MtgPost (m.proposed f t) w) := by
  have hn := h.le
  have hm := h.cap
  have HL := Lib.hid (h.count (fun _ => rfl) (by decide))
  have H := Lib.hid h
  clear h
  obtain ⟨hr0, hr1⟩ := hr
  go_enter Try.func31, Try.ntmps31
  go_wp2
  generalize hW : (World.alloc (World.alloc (World.alloc w _) _) _) = W
  have HM := Lib.hid (show Blk W w.heap.size 40 (mval m A n c) from by rw [← hW]; exact ((Blk.new _ _ _).alloc _).alloc _)
  have HP := Lib.hid (show Blk W (w.heap.size + 1) 38 #[.int .i64 f, .int .i64 t] from by rw [← hW]; exact (Blk.new' _ _ (by simp)).alloc _)
  have HR := Lib.hid (show Blk W (w.heap.size + 1 + 1) 40 #[.string ⟨#[]⟩, .slice none 0 0, .int .i64 0, .int .i64 0, .int .i64 0, .bool false] from by rw [← hW]; exact Blk.new' _ _ (by simp))
  have HBW := Lib.hid (show Bel w W from by rw [← hW]; exact (((Bel.refl _).alloc _).alloc _).alloc _)
  have HZ := Lib.hid (show W.heap.size = w.heap.size + 3 by rw [← hW]; simp)
  clear hW
  go_loopw [5, 6] (PrRel (w.heap.size + 3) W m.guests n) (fun _ i _ => n - (intOf i).toNat)
  case atStart => exact ⟨0, none, 0, Nat.zero_le _, rfl, rfl, Own.nil, Frm.refl _ _⟩
  case round =>
    obtain ⟨k, A1, c1, hk, rfl, rfl, ho, hfr⟩ := hrel
    have bM := HM.out.frm hfr (by omega)
    have bP := HP.out.frm hfr (by omega)
    have bR := HR.out.frm hfr (by omega)
    have hcm := bM.cell
    have hl0 : w.heap.size < wr.heap.size := bM.lt
    have hl1 : w.heap.size + 1 < wr.heap.size := bP.lt
    have hl2 : w.heap.size + 1 + 1 < wr.heap.size := bR.lt
    have HO := Lib.hid ho
    have HFR := Lib.hid hfr
    have HBR := Lib.hid (show Bel w wr from ((HBW.out.frm (fun q => w.heap.size ≤ q)).trans hfr (by intro q hq _; omega)).bel (fun _ h => h))
    by_cases hlt : k < n
    · obtain ⟨b, off, g, rfl, hlb, hu, hc⟩ := (H.out.bel HBR.out).elem (fun _ => rfl) (by decide) hlt
      have x0 : wr.cell? ⟨b, off + k * 4, none⟩ = some (.string g.addr) := hc 0 _ rfl
      have HU := Lib.hid hu
      clear hc hu bM bP bR ho hfr
      go_wp2_with (at_builtin
                   refine wpList_apd (base := w.heap.size + 3) (.tmp 14) (.tmp 22) rfl rfl rfl rfl guestsT (HO.out.alloc _) (Rd.new wr 4 1 _ #[.string g.addr, .int .i64 0, .int .i64 0, .int .i64 0] rfl (by unfold maxLen; omega) (by simp [Value.oneCell'])) (by unfold maxLen; omega) (by omega) (by simp <;> omega) ?_
                   intro A2 c2 w2 hown2 hfr2 hb2
                   have HO2 := Lib.hid hown2
                   have HF2 := Lib.hid hfr2
                   clear hown2 hfr2 hb2)
      go_roundw
      case rel =>
        refine ⟨k + 1, A2, c2, hlt, by go_num, rfl, ?_, (HFR.out.alloc _).trans HF2.out (fun q hq _ => (HO.out.lt hq.symm).1)⟩
        have e : ((m.guests.take (k + 1)).map Guest.clear).flatMap Guest.cells = ((m.guests.take k).map Guest.clear).flatMap Guest.cells ++ [.string g.addr, .int .i64 0, .int .i64 0, .int .i64 0] := by
          rw [List.take_add_one, HU.out]
          simp [Guest.cells, Guest.clear]
        rw [e]
        exact HO2.out
      case measure => simp [intOf]; omega
    · have hkn : k = n := by omega
      subst hkn
      have hfm := bM.frz
      have hcp := bP.cell
      have hcr := bR.cell
      have hfrr := bR.frz
      clear bM bP bR ho hfr
      go_wp2
      refine bodyPost_ret (v := .agg (mval (m.proposed f t) A1 k c1)) (by simp only [results, Try.results31]; go_simp; exact ⟨rfl, rfl, rfl, rfl, rfl⟩) rfl ⟨A1, k, c1, rfl, ?_, ?_, fun q hq => by have := (HO.out.lt hq).1; omega⟩
      · have hx : (m.proposed f t).guests = (m.guests.take k).map Guest.clear := by
          rw [List.take_of_length_le (by rw [HL.out]; exact Nat.le_refl _)]
          rfl
        rw [hx]
        refine (HO.out.frm (S := fun q => q = w.heap.size ∨ q = w.heap.size + 1 + 1) ?_ ?_).rd
        · (repeat (first | with_reducible refine Frm.setCell ?_ (by simp) _ | with_reducible refine Frm.drew ?_)); exact Frm.refl _ _
        · intro g hg hS
          have := (HO.out.lt hg).1
          omega
      · refine ((HBR.out.frm (fun q => w.heap.size ≤ q)).trans (T := fun q => q = w.heap.size ∨ q = w.heap.size + 1 + 1) ?_ (fun q hq _ => by omega)).bel (fun _ h => h)
        (repeat (first | with_reducible refine Frm.setCell ?_ (by simp) _ | with_reducible refine Frm.drew ?_)); exact Frm.refl _ _
end Go.Proofs.Ytgmjhnijnpfkgaa
