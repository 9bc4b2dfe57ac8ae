/- meeting.Agreed, meeting.Cancel. -/
import Derived.Test.YtgmjhnijnpfkgaaMeetOps
namespace Go.Proofs.Ytgmjhnijnpfkgaa
open Go.RowKit

theorem agreed1_tells (w : World) : Tells 49 #[] (fun x => x.ans != 1) w := by
  refine ⟨fun args w => by kernel_rfl, fun x wr hb => ?_⟩
  clear hb
  go_enter Try.func49, Try.ntmps49
  go_wp2
  go_ret
  exact ⟨rfl, (Bel.refl _).alloc _⟩

def agreedOf (m : Mtg) : Bool := !m.can && (decide (0 < m.round) && !decide (0 ≤ gidx (fun x => x.ans != 1) 0 m.guests))
def agRes (m : Mtg) : Bool × Int × Int := if (mtgFault m).1 = 0 then (agreedOf m, 0, 0) else (false, mtgFault m)
def AgPost (r : Bool × Int × Int) (w : World) (e : Ending) (w' : World) : Prop := e = .returned (.tuple #[.bool r.1, .agg #[.int .i64 r.2.1, .int .i64 r.2.2]]) ∧ Bel w w'
theorem AgPost.mk {r : Bool × Int × Int} {w w' : World} {b : Bool} {c i : Int} (hr : r = (b, c, i)) (hb : Bel w w') : AgPost r w (.returned (.tuple #[.bool b, .agg #[.int .i64 c, .int .i64 i]])) w' := by
  subst hr
  exact ⟨rfl, hb⟩

set_option maxHeartbeats 1000000 in
theorem agreedX (m : Mtg) (A : Option Addr) (n c : Nat) (w : World) (h : Rd w 4 A n c (m.guests.flatMap Guest.cells)) :
    Calls Try.prog 20 #[.agg (mval m A n c)] w (AgPost (agRes m) w) := by
  have H := Lib.hid h
  clear h
  obtain ⟨fc, fi, hF⟩ : ∃ fc fi, mtgFault m = (fc, fi) := ⟨_, _, rfl⟩
  have HF := Lib.hid hF
  clear hF
  go_enter Try.func20, Try.ntmps20
  go_wp2_with fail
  refine (validate' m A n c fc fi _ (H.out.bel (((Bel.refl _).alloc _).alloc _)) HF.out).mono ?_
  rintro e w1 ⟨rfl, hb⟩
  have hM := (show Blk ((w.alloc (.cells (mval m A n c) 40)).alloc (.cells #[.int .i64 0, .int .i64 0] 27)) w.heap.size 40 (mval m A n c) from (Blk.new _ _ _).alloc _).bel hb
  have hE := (show Blk ((w.alloc (.cells (mval m A n c) 40)).alloc (.cells #[.int .i64 0, .int .i64 0] 27)) (w.heap.size + 1) 27 #[.int .i64 0, .int .i64 0] from Blk.new' _ _ (by simp)).bel hb
  have hcm := hM.cell
  have hce := hE.cell
  have hfe := hE.frz
  have hl1 : w.heap.size + 1 < w1.heap.size := hE.lt
  have hl0 : w.heap.size < w1.heap.size := by omega
  have hl0a : w.heap.size < w1.heap.size + 1 := by omega
  have hl0b : w.heap.size < w1.heap.size + 1 + 1 := by omega
  have hl0c : w.heap.size < w1.heap.size + 1 + 1 + 1 := by omega
  have HB := Lib.hid (show Bel w w1 from (((Bel.refl w).alloc _).alloc _).trans hb)
  have HE := Lib.hid hE
  clear hM hE hb
  by_cases z : fc = 0
  · have bz : (fc != 0) = false := by simp [z]
    have Z := Lib.hid z
    clear z
    cases kc : m.can with
    | true =>
      have KC := Lib.hid kc
      go_wp2_with (first | (go_at_call 44; refine (failed _ _ _).mono ?_; rintro e w' ⟨rfl, rfl⟩) | (go_at_call 42; refine (none_ _).mono ?_; rintro e w' ⟨rfl, rfl⟩))
      refine bodyPost_ret (v := .tuple #[.bool false, .agg #[.int .i64 0, .int .i64 0]]) (by simp only [results, Try.results20]; go_simp) rfl (AgPost.mk (by unfold agRes; rw [if_pos (by rw [HF.out]; exact Z.out)]; simp [agreedOf, KC.out]) ?_)
      (repeat (first | with_reducible refine Bel.setCell ?_ (by simp <;> omega) _ | with_reducible refine Bel.alloc ?_ _ | with_reducible refine Bel.drew ?_)); exact HB.out
    | false =>
      have KC := Lib.hid kc
      by_cases r : 0 < m.round
      · have br : decide (0 < m.round) = true := by simpa using r
        have R := Lib.hid r
        clear r
        cases kg : decide (0 ≤ gidx (fun x => x.ans != 1) 0 m.guests) with
        | true =>
          have KG := Lib.hid kg
          have kg' : 0 ≤ gidx (fun x => x.ans != 1) 0 m.guests := by simpa using kg
          go_wp2_with (go_at_call 44; refine (failed _ _ _).mono ?_; rintro e w' ⟨rfl, rfl⟩)
          refine (contFunc 49 #[] (fun x => x.ans != 1) _ _ _ m.guests _ (H.out.bel ?_) (agreed1_tells _)).mono ?_
          · (repeat (first | with_reducible refine Bel.setCell ?_ (by simp <;> omega) _ | with_reducible refine Bel.alloc ?_ _ | with_reducible refine Bel.drew ?_)); exact HB.out
          rintro e w2 ⟨rfl, hb2⟩
          have bE := ((HE.out.alloc _).alloc _).bel hb2
          have gce := bE.cell
          have gfe := bE.frz
          have gl1 : w.heap.size + 1 < w2.heap.size := bE.lt
          have gl0 : w.heap.size < w2.heap.size := by omega
          have HB2 := Lib.hid (show Bel w w2 from Bel.trans (by (repeat (first | with_reducible refine Bel.setCell ?_ (by simp <;> omega) _ | with_reducible refine Bel.alloc ?_ _ | with_reducible refine Bel.drew ?_)); exact HB.out) hb2)
          clear bE hb2 hcm hce hfe hl1 hl0 hl0a hl0b hl0c
          go_wp2_with (go_at_call 42; refine (none_ _).mono ?_; rintro e w' ⟨rfl, rfl⟩)
          refine bodyPost_ret (v := .tuple #[.bool false, .agg #[.int .i64 0, .int .i64 0]]) (by simp only [results, Try.results20]; go_simp) rfl (AgPost.mk (by unfold agRes; rw [if_pos (by rw [HF.out]; exact Z.out)]; have k1 := KG.out; simp at k1; simp [agreedOf, KC.out, R.out, k1]) ?_)
          (repeat (first | with_reducible refine Bel.setCell ?_ (by simp <;> omega) _ | with_reducible refine Bel.alloc ?_ _ | with_reducible refine Bel.drew ?_)); exact HB2.out
        | false =>
          have KG := Lib.hid kg
          have kg' : gidx (fun x => x.ans != 1) 0 m.guests < 0 := by simpa using kg
          go_wp2_with (go_at_call 44; refine (failed _ _ _).mono ?_; rintro e w' ⟨rfl, rfl⟩)
          refine (contFunc 49 #[] (fun x => x.ans != 1) _ _ _ m.guests _ (H.out.bel ?_) (agreed1_tells _)).mono ?_
          · (repeat (first | with_reducible refine Bel.setCell ?_ (by simp <;> omega) _ | with_reducible refine Bel.alloc ?_ _ | with_reducible refine Bel.drew ?_)); exact HB.out
          rintro e w2 ⟨rfl, hb2⟩
          have bE := ((HE.out.alloc _).alloc _).bel hb2
          have gce := bE.cell
          have gfe := bE.frz
          have gl1 : w.heap.size + 1 < w2.heap.size := bE.lt
          have gl0 : w.heap.size < w2.heap.size := by omega
          have HB2 := Lib.hid (show Bel w w2 from Bel.trans (by (repeat (first | with_reducible refine Bel.setCell ?_ (by simp <;> omega) _ | with_reducible refine Bel.alloc ?_ _ | with_reducible refine Bel.drew ?_)); exact HB.out) hb2)
          clear bE hb2 hcm hce hfe hl1 hl0 hl0a hl0b hl0c
          go_wp2_with (go_at_call 42; refine (none_ _).mono ?_; rintro e w' ⟨rfl, rfl⟩)
          refine bodyPost_ret (v := .tuple #[.bool true, .agg #[.int .i64 0, .int .i64 0]]) (by simp only [results, Try.results20]; go_simp) rfl (AgPost.mk (by unfold agRes; rw [if_pos (by rw [HF.out]; exact Z.out)]; have k1 := KG.out; simp at k1; simp [agreedOf, KC.out, R.out, k1]) ?_)
          (repeat (first | with_reducible refine Bel.setCell ?_ (by simp <;> omega) _ | with_reducible refine Bel.alloc ?_ _ | with_reducible refine Bel.drew ?_)); exact HB2.out
      · have br : decide (0 < m.round) = false := by simpa using r
        have R := Lib.hid r
        clear r
        go_wp2_with (first | (go_at_call 44; refine (failed _ _ _).mono ?_; rintro e w' ⟨rfl, rfl⟩) | (go_at_call 42; refine (none_ _).mono ?_; rintro e w' ⟨rfl, rfl⟩))
        refine bodyPost_ret (v := .tuple #[.bool false, .agg #[.int .i64 0, .int .i64 0]]) (by simp only [results, Try.results20]; go_simp) rfl (AgPost.mk (by unfold agRes; rw [if_pos (by rw [HF.out]; exact Z.out)]; simp only [agreedOf, show decide (0 < m.round) = false from decide_eq_false (Int.not_lt.2 R.out), Bool.false_and, Bool.and_false]) ?_)
        (repeat (first | with_reducible refine Bel.setCell ?_ (by simp <;> omega) _ | with_reducible refine Bel.alloc ?_ _ | with_reducible refine Bel.drew ?_)); exact HB.out
  · have bz : (fc != 0) = true := by simpa using z
    have Z := Lib.hid z
    clear z
    go_wp2_with (go_at_call 44; refine (failed _ _ _).mono ?_; rintro e w' ⟨rfl, rfl⟩)
    go_region
    go_wp2
    refine bodyPost_ret (v := .tuple #[.bool false, .agg #[.int .i64 fc, .int .i64 fi]]) (by simp only [results, Try.results20]; go_simp) rfl (AgPost.mk (by unfold agRes; rw [if_neg (by rw [HF.out]; exact Z.out), HF.out]) ?_)
    (repeat (first | with_reducible refine Bel.setCell ?_ (by simp <;> omega) _ | with_reducible refine Bel.alloc ?_ _ | with_reducible refine Bel.drew ?_)); exact HB.out

def Mtg.cancelled (m : Mtg) : Mtg := ⟨m.org, m.guests, m.round, m.pf, m.pt, true⟩
def cancelOf (m : Mtg) : Mtg × Int × Int := if (mtgFault m).1 ≠ 0 then (Mtg.zero, mtgFault m) else if m.can = true then (Mtg.zero, 8, -4) else (m.cancelled, 0, 0)

set_option maxHeartbeats 1000000 in
theorem cancel (m : Mtg) (A : Option Addr) (n c : Nat) (w : World) (h : Rd w 4 A n c (m.guests.flatMap Guest.cells)) :
    Calls Try.prog 29 #[.agg (mval m A n c)] w (MFPost (cancelOf m) w) := by
  have H := Lib.hid h
  have HL := Lib.hid (h.count (fun _ => rfl) (by decide))
  clear h
  obtain ⟨fc, fi, hF⟩ : ∃ fc fi, mtgFault m = (fc, fi) := ⟨_, _, rfl⟩
  have HF := Lib.hid hF
  clear hF
  go_enter Try.func29, Try.ntmps29
  go_wp2_with fail
  refine (validate' m A n c fc fi _ (H.out.bel ((((Bel.refl _).alloc _).alloc _).alloc _)) HF.out).mono ?_
  rintro e w1 ⟨rfl, hb⟩
  have hM := (show Blk ((((w.alloc (.cells (mval m A n c) 40)).alloc (.cells zmeet 40)).alloc (.cells #[.int .i64 0, .int .i64 0] 27))) w.heap.size 40 (mval m A n c) from ((Blk.new _ _ _).alloc _).alloc _).bel hb
  have hR := (show Blk ((((w.alloc (.cells (mval m A n c) 40)).alloc (.cells zmeet 40)).alloc (.cells #[.int .i64 0, .int .i64 0] 27))) (w.heap.size + 1) 40 zmeet from (Blk.new' _ _ (by simp)).alloc _).bel hb
  have hE := (show Blk ((((w.alloc (.cells (mval m A n c) 40)).alloc (.cells zmeet 40)).alloc (.cells #[.int .i64 0, .int .i64 0] 27))) (w.heap.size + 1 + 1) 27 #[.int .i64 0, .int .i64 0] from Blk.new' _ _ (by simp)).bel hb
  have hcm := hM.cell
  have hcr := hR.cell
  have hce := hE.cell
  have hfr := hR.frz
  have hfe := hE.frz
  have hl2 : w.heap.size + 1 + 1 < w1.heap.size := hE.lt
  have hl1 : w.heap.size + 1 < w1.heap.size := by omega
  have hl0 : w.heap.size < w1.heap.size := by omega
  have hl0a : w.heap.size < w1.heap.size + 1 := by omega
  have hl0b : w.heap.size < w1.heap.size + 1 + 1 := by omega
  have HB := Lib.hid (show Bel w w1 from ((((Bel.refl w).alloc _).alloc _).alloc _).trans hb)
  have HM := Lib.hid hM
  have HR := Lib.hid hR
  have HE := Lib.hid hE
  clear hM hR hE hb
  by_cases z : fc = 0
  · have bz : (fc != 0) = false := by simp [z]
    have hok := mtg_ok (m := m) (fi := fi) (by rw [HF.out, z])
    have hn30 : n ≤ 30 := by have := hok.2.1; rw [HL.out] at this; exact this
    have Z := Lib.hid z
    clear z hok
    cases kc : m.can with
    | true =>
      have KC := Lib.hid kc
      go_wp2_with (first | (go_at_call 44; refine (failed _ _ _).mono ?_; rintro e w' ⟨rfl, rfl⟩) | (go_at_call 40; refine (fault _ _ _).mono ?_; rintro e w' ⟨rfl, rfl⟩))
      refine bodyPost_ret (v := .tuple #[.agg zmeet, .agg #[.int .i64 8, .int .i64 (-4)]]) (by simp only [results, Try.results29]; go_simp) rfl (MFPost.err (by unfold cancelOf; rw [if_neg (by rw [HF.out]; simpa using Z.out), if_pos KC.out]) ?_)
      (repeat (first | with_reducible refine Bel.setCell ?_ (by simp <;> omega) _ | with_reducible refine Bel.alloc ?_ _ | with_reducible refine Bel.drew ?_)); exact HB.out
    | false =>
      have KC := Lib.hid kc
      go_wp2_with (go_at_call 44; refine (failed _ _ _).mono ?_; rintro e w' ⟨rfl, rfl⟩)
      refine (clone A n c _ _ (H.out.bel ?_) (by omega)).mono ?_
      · (repeat (first | with_reducible refine Bel.setCell ?_ (by simp <;> omega) _ | with_reducible refine Bel.alloc ?_ _ | with_reducible refine Bel.drew ?_)); exact HB.out
      rintro e w2 ⟨A2, c2, rfl, hown, hb2⟩
      have bM := ((HM.out.alloc _).alloc _).bel hb2
      have bR := ((HR.out.alloc _).alloc _).bel hb2
      have bE := ((HE.out.alloc _).alloc _).bel hb2
      have gcm := bM.cell
      have gfm := bM.frz
      have gcr := bR.cell
      have gfr := bR.frz
      have gce := bE.cell
      have gfe := bE.frz
      have gl2 : w.heap.size + 1 + 1 < w2.heap.size := bE.lt
      have gl1 : w.heap.size + 1 < w2.heap.size := by omega
      have gl0 : w.heap.size < w2.heap.size := by omega
      have HO := Lib.hid (hown.base_ (b' := w.heap.size + 3) fun g hg => by have := (hown.lt hg).1; simp at this; omega)
      have HB2 := Lib.hid (show Bel w w2 from Bel.trans (by (repeat (first | with_reducible refine Bel.setCell ?_ (by simp <;> omega) _ | with_reducible refine Bel.alloc ?_ _ | with_reducible refine Bel.drew ?_)); exact HB.out) hb2)
      clear bM bR bE hown hb2 hcm hcr hce hfr hfe hl2 hl1 hl0 hl0a hl0b
      go_wp2
      go_region_with (go_at_call 42; refine (none_ _).mono ?_; rintro e w' ⟨rfl, rfl⟩)
      all_goals
        go_wp2
        refine bodyPost_ret (v := .tuple #[.agg (mval m.cancelled A2 n c2), .agg #[.int .i64 0, .int .i64 0]]) (by simp only [results, Try.results29]; go_simp; exact ⟨rfl, rfl, rfl, rfl, rfl⟩) rfl ?_
        rw [show cancelOf m = (m.cancelled, 0, 0) by unfold cancelOf; rw [if_neg (by rw [HF.out]; simpa using Z.out), if_neg (by simp [KC.out])]]
        refine ⟨A2, n, c2, rfl, (HO.out.frm (S := fun q => q = w.heap.size ∨ q = w.heap.size + 1 ∨ q = w.heap.size + 1 + 1) ?_ ?_).rd, ?_, fun q hq => by have := (HO.out.lt hq).1; omega⟩
        · (repeat (first | with_reducible refine Frm.setCell ?_ (by simp) _ | with_reducible refine Frm.alloc ?_ _ | with_reducible refine Frm.drew ?_)); exact Frm.refl _ _
        · intro q hq hS
          have := (HO.out.lt hq).1
          omega
        · (repeat (first | with_reducible refine Bel.setCell ?_ (by simp <;> omega) _ | with_reducible refine Bel.alloc ?_ _ | with_reducible refine Bel.drew ?_)); exact HB2.out
  · have bz : (fc != 0) = true := by simpa using z
    have Z := Lib.hid z
    clear z
    go_wp2_with (go_at_call 44; refine (failed _ _ _).mono ?_; rintro e w' ⟨rfl, rfl⟩)
    go_region
    go_wp2
    refine bodyPost_ret (v := .tuple #[.agg zmeet, .agg #[.int .i64 fc, .int .i64 fi]]) (by simp only [results, Try.results29]; go_simp) rfl (MFPost.err (by unfold cancelOf; rw [if_pos (by simpa [HF.out] using Z.out), HF.out]) ?_)
    (repeat (first | with_reducible refine Bel.setCell ?_ (by simp <;> omega) _ | with_reducible refine Bel.alloc ?_ _ | with_reducible refine Bel.drew ?_)); exact HB.out
end Go.Proofs.Ytgmjhnijnpfkgaa
