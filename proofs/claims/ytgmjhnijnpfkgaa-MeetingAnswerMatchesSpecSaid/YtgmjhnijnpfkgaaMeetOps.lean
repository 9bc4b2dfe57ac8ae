/- meeting.running, Propose, Agreed, Cancel. -/
import Derived.Test.YtgmjhnijnpfkgaaPropose
namespace Go.Proofs.Ytgmjhnijnpfkgaa
open Go.RowKit

theorem validate' (m : Mtg) (A : Option Addr) (n c : Nat) (fc fi : Int) (w : World) (h : Rd w 4 A n c (m.guests.flatMap Guest.cells)) (hf : mtgFault m = (fc, fi)) :
    Calls Try.prog 30 #[.agg (mval m A n c)] w fun e w' => e = .returned (.agg #[.int .i64 fc, .int .i64 fi]) ∧ Bel w w' := by
  have := validate m A n c w h
  rw [hf] at this
  exact this
abbrev zmeet : Array Value := #[.string ⟨#[]⟩, .slice none 0 0, .int .i64 0, .int .i64 0, .int .i64 0, .bool false]
/-- a valid meeting's bounds -/
theorem mtg_ok {m : Mtg} {fi : Int} (h : mtgFault m = (0, fi)) : 1 ≤ m.guests.length ∧ m.guests.length ≤ 30 ∧ 0 ≤ m.round ∧ m.round ≤ 1000000 := by
  unfold mtgFault at h
  split at h
  · cases h
  split at h
  · cases h
  split at h
  · cases h
  · omega

def runFault (m : Mtg) : Int × Int := if (mtgFault m).1 ≠ 0 then mtgFault m else if m.can = true ∨ m.round = 1000000 then (8, -4) else (0, 0)

set_option maxHeartbeats 1000000 in
theorem running (m : Mtg) (A : Option Addr) (n c : Nat) (w : World) (h : Rd w 4 A n c (m.guests.flatMap Guest.cells)) :
    Calls Try.prog 54 #[.agg (mval m A n c)] w fun e w' => e = .returned (.agg #[.int .i64 (runFault m).1, .int .i64 (runFault m).2]) ∧ Bel w w' := by
  have H := Lib.hid h
  clear h
  obtain ⟨fc, fi, hF⟩ : ∃ fc fi, mtgFault m = (fc, fi) := ⟨_, _, rfl⟩
  have HF := Lib.hid hF
  clear hF
  go_enter Try.func54, Try.ntmps54
  go_wp2_with fail
  refine (validate' m A n c fc fi _ (H.out.bel (((Bel.refl _).alloc _).alloc _)) HF.out).mono ?_
  rintro e w1 ⟨rfl, hb⟩
  have hM := (show Blk ((w.alloc (.cells (mval m A n c) 40)).alloc _) w.heap.size 40 (mval m A n c) from (Blk.new _ _ _).alloc _).bel hb
  have hR := (show Blk ((w.alloc _).alloc (.cells #[.int .i64 0, .int .i64 0] 27)) (w.heap.size + 1) 27 #[.int .i64 0, .int .i64 0] from Blk.new' _ _ (by simp)).bel hb
  have hcm := hM.cell
  have hcr := hR.cell
  have hfr := hR.frz
  have hl1 : w.heap.size + 1 < w1.heap.size := hR.lt
  have hl0 : w.heap.size < w1.heap.size := hM.lt
  have hl0a : w.heap.size < w1.heap.size + 1 := by omega
  have hl0b : w.heap.size < w1.heap.size + 1 + 1 := by omega
  have HB := Lib.hid (show Bel w w1 from (((Bel.refl w).alloc _).alloc _).trans hb)
  clear hM hR hb
  by_cases z : fc = 0
  · have bz : (fc != 0) = false := by simp [z]
    have Z := Lib.hid z
    clear z
    cases kc : m.can with
    | true =>
      have KC := Lib.hid kc
      go_wp2_with (first | (go_at_call 44; refine (failed _ _ _).mono ?_; rintro e w' ⟨rfl, rfl⟩) | (go_at_call 40; refine (fault _ _ _).mono ?_; rintro e w' ⟨rfl, rfl⟩))
      exact bodyPost_ret (v := .agg #[.int .i64 8, .int .i64 (-4)]) (by simp [results, Try.results54, go_sem, *]) rfl ⟨ret_fault (by unfold runFault; rw [if_neg (by simp [HF.out, Z.out]), if_pos (.inl KC.out)]), (by (repeat (first | with_reducible refine Bel.setCell ?_ (by simp) _ | with_reducible refine Bel.alloc ?_ _)); exact HB.out)⟩
    | false =>
      have KC := Lib.hid kc
      by_cases r : m.round = 1000000
      · have R := Lib.hid r
        have br : (m.round == 1000000) = true := by simp [r]
        clear r
        go_wp2_with (first | (go_at_call 44; refine (failed _ _ _).mono ?_; rintro e w' ⟨rfl, rfl⟩) | (go_at_call 40; refine (fault _ _ _).mono ?_; rintro e w' ⟨rfl, rfl⟩))
        exact bodyPost_ret (v := .agg #[.int .i64 8, .int .i64 (-4)]) (by simp [results, Try.results54, go_sem, *]) rfl ⟨ret_fault (by unfold runFault; rw [if_neg (by simp [HF.out, Z.out]), if_pos (.inr R.out)]), (by (repeat (first | with_reducible refine Bel.setCell ?_ (by simp) _ | with_reducible refine Bel.alloc ?_ _)); exact HB.out)⟩
      · have R := Lib.hid r
        have br : (m.round == 1000000) = false := by simp [r]
        clear r
        go_wp2_with (first | (go_at_call 44; refine (failed _ _ _).mono ?_; rintro e w' ⟨rfl, rfl⟩) | (go_at_call 42; refine (none_ _).mono ?_; rintro e w' ⟨rfl, rfl⟩))
        exact bodyPost_ret (v := .agg #[.int .i64 0, .int .i64 0]) (by simp [results, Try.results54, go_sem, *]) rfl ⟨ret_fault (by unfold runFault; rw [if_neg (by simp [HF.out, Z.out]), if_neg (by rintro (h | h); rw [KC.out] at h; cases h; exact R.out h)]), (by (repeat (first | with_reducible refine Bel.setCell ?_ (by simp) _ | with_reducible refine Bel.alloc ?_ _)); exact HB.out)⟩
  · have bz : (fc != 0) = true := by simpa using z
    have Z := Lib.hid z
    clear z
    go_wp2_with (go_at_call 44; refine (failed _ _ _).mono ?_; rintro e w' ⟨rfl, rfl⟩)
    exact bodyPost_ret (v := .agg #[.int .i64 fc, .int .i64 fi]) (by simp [results, Try.results54, go_sem, *]) rfl ⟨ret_fault (by unfold runFault; rw [if_pos (by simpa [HF.out] using Z.out), HF.out]), (by (repeat (first | with_reducible refine Bel.setCell ?_ (by simp) _ | with_reducible refine Bel.alloc ?_ _)); exact HB.out)⟩

def Mtg.zero : Mtg := ⟨⟨#[]⟩, [], 0, 0, 0, false⟩
def propOf (m : Mtg) (f t : Int) : Mtg × Int × Int := if (runFault m).1 ≠ 0 then (Mtg.zero, runFault m) else if possB f t = false then (Mtg.zero, 3, -5) else (m.proposed f t, 0, 0)
/-- a meeting and a fault are returned -/
def MFPost (r : Mtg × Int × Int) (w : World) (e : Ending) (w' : World) : Prop :=
  ∃ A n c, e = .returned (.tuple #[.agg (mval r.1 A n c), .agg #[.int .i64 r.2.1, .int .i64 r.2.2]]) ∧ Rd w' 4 A n c (r.1.guests.flatMap Guest.cells) ∧ Bel w w' ∧ ∀ q, blk A = some q → w.heap.size ≤ q
theorem MFPost.err {r : Mtg × Int × Int} {w w' : World} {c i : Int} (hr : r = (Mtg.zero, c, i)) (hb : Bel w w') : MFPost r w (.returned (.tuple #[.agg zmeet, .agg #[.int .i64 c, .int .i64 i]])) w' := by
  subst hr
  exact ⟨none, 0, 0, rfl, Rd.nil, hb, fun q hq => by cases hq⟩
theorem run_ok {m : Mtg} (h : (runFault m).1 = 0) : (mtgFault m).1 = 0 ∧ m.can = false ∧ m.round ≠ 1000000 ∧ runFault m = (0, 0) := by
  unfold runFault at h ⊢
  by_cases h1 : (mtgFault m).1 = 0
  · rw [if_neg (by simp [h1])] at h ⊢
    by_cases h2 : m.can = true ∨ m.round = 1000000
    · rw [if_pos h2] at h; cases h
    · rw [if_neg h2]
      refine ⟨h1, ?_, fun h => h2 (.inr h), rfl⟩
      cases hc : m.can with
      | false => rfl
      | true => exact absurd (.inl hc) h2
  · rw [if_pos h1] at h; exact absurd h h1
theorem running' (m : Mtg) (A : Option Addr) (n c : Nat) (fc fi : Int) (w : World) (h : Rd w 4 A n c (m.guests.flatMap Guest.cells)) (hf : runFault m = (fc, fi)) :
    Calls Try.prog 54 #[.agg (mval m A n c)] w fun e w' => e = .returned (.agg #[.int .i64 fc, .int .i64 fi]) ∧ Bel w w' := by
  have := running m A n c w h
  rw [hf] at this
  exact this

set_option maxHeartbeats 1000000 in
theorem proposeX (m : Mtg) (f t : Int) (A : Option Addr) (n c : Nat) (w : World) (h : Rd w 4 A n c (m.guests.flatMap Guest.cells)) :
    Calls Try.prog 28 #[.agg (mval m A n c), .agg #[.int .i64 f, .int .i64 t]] w (MFPost (propOf m f t) w) := by
  have H := Lib.hid h
  have HL := Lib.hid (h.count (fun _ => rfl) (by decide))
  clear h
  obtain ⟨fc, fi, hF⟩ : ∃ fc fi, runFault m = (fc, fi) := ⟨_, _, rfl⟩
  have HF := Lib.hid hF
  clear hF
  go_enter Try.func28, Try.ntmps28
  go_wp2_with fail
  refine (running' m A n c fc fi _ (H.out.bel (((((Bel.refl _).alloc _).alloc _).alloc _).alloc _)) HF.out).mono ?_
  rintro e w1 ⟨rfl, hb⟩
  have hM := (show Blk ((((w.alloc (.cells (mval m A n c) 40)).alloc (.cells #[.int .i64 f, .int .i64 t] 38)).alloc (.cells zmeet 40)).alloc (.cells #[.int .i64 0, .int .i64 0] 27)) w.heap.size 40 (mval m A n c) from (((Blk.new _ _ _).alloc _).alloc _).alloc _).bel hb
  have hP := (show Blk ((((w.alloc (.cells (mval m A n c) 40)).alloc (.cells #[.int .i64 f, .int .i64 t] 38)).alloc (.cells zmeet 40)).alloc (.cells #[.int .i64 0, .int .i64 0] 27)) (w.heap.size + 1) 38 #[.int .i64 f, .int .i64 t] from ((Blk.new' _ _ (by simp)).alloc _).alloc _).bel hb
  have hR := (show Blk ((((w.alloc (.cells (mval m A n c) 40)).alloc (.cells #[.int .i64 f, .int .i64 t] 38)).alloc (.cells zmeet 40)).alloc (.cells #[.int .i64 0, .int .i64 0] 27)) (w.heap.size + 1 + 1) 40 zmeet from (Blk.new' _ _ (by simp)).alloc _).bel hb
  have hE := (show Blk ((((w.alloc (.cells (mval m A n c) 40)).alloc (.cells #[.int .i64 f, .int .i64 t] 38)).alloc (.cells zmeet 40)).alloc (.cells #[.int .i64 0, .int .i64 0] 27)) (w.heap.size + 1 + 1 + 1) 27 #[.int .i64 0, .int .i64 0] from Blk.new' _ _ (by simp)).bel hb
  have hcm := hM.cell
  have hcp := hP.cell
  have hcr := hR.cell
  have hce := hE.cell
  have hfr := hR.frz
  have hfe := hE.frz
  have hl3 : w.heap.size + 1 + 1 + 1 < w1.heap.size := hE.lt
  have hl2 : w.heap.size + 1 + 1 < w1.heap.size := by omega
  have hl1 : w.heap.size + 1 < w1.heap.size := by omega
  have hl0 : w.heap.size < w1.heap.size := by omega
  have hl0a : w.heap.size < w1.heap.size + 1 := by omega
  have hl0b : w.heap.size < w1.heap.size + 1 + 1 := by omega
  have hl0c : w.heap.size < w1.heap.size + 1 + 1 + 1 := by omega
  have HB := Lib.hid (show Bel w w1 from (((((Bel.refl w).alloc _).alloc _).alloc _).alloc _).trans hb)
  have HM := Lib.hid hM
  have HP := Lib.hid hP
  have HR := Lib.hid hR
  have HE := Lib.hid hE
  clear hM hP hR hE hb
  by_cases z : fc = 0
  · have bz : (fc != 0) = false := by simp [z]
    have hrun := run_ok (m := m) (by rw [HF.out]; exact z)
    have hok := mtg_ok (m := m) (fi := (mtgFault m).2) (by rw [← hrun.1])
    have HPR := Lib.hid (show propOf m f t = if possB f t = false then (Mtg.zero, 3, -5) else (m.proposed f t, 0, 0) by unfold propOf; rw [if_neg (by simp [hrun.2.2.2])])
    have hr0 := hok.2.2.1
    have hr1 := hok.2.2.2
    have hn30 : n ≤ 30 := by have := hok.2.1; rw [HL.out] at this; exact this
    clear z hrun hok
    cases p1 : possB f t with
    | false =>
      have P1 := Lib.hid p1
      go_wp2_with (first | (go_at_call 44; refine (failed _ _ _).mono ?_; rintro e w' ⟨rfl, rfl⟩) | (go_at_call 47; refine (possible _ _ _).mono ?_; rintro e w' ⟨rfl, rfl⟩) | (go_at_call 40; refine (fault _ _ _).mono ?_; rintro e w' ⟨rfl, rfl⟩))
      refine bodyPost_ret (v := .tuple #[.agg zmeet, .agg #[.int .i64 3, .int .i64 (-5)]]) (by simp only [results, Try.results28]; go_simp) rfl (MFPost.err (by rw [HPR.out, if_pos P1.out]) ?_)
      (repeat (first | with_reducible refine Bel.setCell ?_ (by simp <;> omega) _ | with_reducible refine Bel.alloc ?_ _ | with_reducible refine Bel.drew ?_)); exact HB.out
    | true =>
      have P1 := Lib.hid p1
      go_wp2_with (first | (go_at_call 44; refine (failed _ _ _).mono ?_; rintro e w' ⟨rfl, rfl⟩) | (go_at_call 47; refine (possible _ _ _).mono ?_; rintro e w' ⟨rfl, rfl⟩))
      refine (propose m f t A n c _ (H.out.bel ?_) (by omega) ⟨hr0, hr1⟩).mono ?_
      · (repeat (first | with_reducible refine Bel.setCell ?_ (by simp <;> omega) _ | with_reducible refine Bel.alloc ?_ _ | with_reducible refine Bel.drew ?_)); exact HB.out
      rintro e w2 ⟨A2, n2, c2, rfl, hrd, hb2, hq2⟩
      have bR := ((((HR.out.alloc _).alloc _).alloc _).bel hb2)
      have bE := ((((HE.out.alloc _).alloc _).alloc _).bel hb2)
      have gcr := bR.cell
      have gfr := bR.frz
      have gce := bE.cell
      have gfe := bE.frz
      have gl3 : w.heap.size + 1 + 1 + 1 < w2.heap.size := bE.lt
      have gl2 : w.heap.size + 1 + 1 < w2.heap.size := by omega
      have gl1 : w.heap.size + 1 < w2.heap.size := by omega
      have gl0 : w.heap.size < w2.heap.size := by omega
      have HRD := Lib.hid hrd
      have HQ2 := Lib.hid (show ∀ q, blk A2 = some q → w1.heap.size ≤ q from fun q hq => by have := hq2 q hq; simp at this; omega)
      have hl3' := hl3
      have HB2 := Lib.hid (show Bel w w2 from Bel.trans (by (repeat (first | with_reducible refine Bel.setCell ?_ (by simp <;> omega) _ | with_reducible refine Bel.alloc ?_ _ | with_reducible refine Bel.drew ?_)); exact HB.out) hb2)
      have GR := Lib.hid bR
      clear bR bE hrd hb2 hq2 hcm hcp hcr hce hfr hfe hl3 hl2 hl1 hl0 hl0a hl0b hl0c
      go_wp2_with (go_at_call 42; refine (none_ _).mono ?_; rintro e w' ⟨rfl, rfl⟩)
      refine bodyPost_ret (v := .tuple #[.agg (mval (m.proposed f t) A2 n2 c2), .agg #[.int .i64 0, .int .i64 0]]) (by simp only [results, Try.results28]; go_simp) rfl ?_
      rw [HPR.out, if_neg (by simp [P1.out])]
      refine ⟨A2, n2, c2, rfl, ?_, ?_, fun q hq => by have := HQ2.out q hq; omega⟩
      · refine (HRD.out.frm (S := fun q => q = w.heap.size + 1 + 1 ∨ q = w.heap.size + 1 + 1 + 1) ?_ ?_)
        · (repeat (first | with_reducible refine Frm.setCell ?_ (by simp) _ | with_reducible refine Frm.alloc ?_ _ | with_reducible refine Frm.drew ?_)); exact Frm.refl _ _
        · intro q hq hS
          have := HQ2.out q hq
          omega
      · (repeat (first | with_reducible refine Bel.setCell ?_ (by simp <;> omega) _ | with_reducible refine Bel.alloc ?_ _ | with_reducible refine Bel.drew ?_)); exact HB2.out
  · have bz : (fc != 0) = true := by simpa using z
    have Z := Lib.hid z
    clear z
    go_wp2_with (go_at_call 44; refine (failed _ _ _).mono ?_; rintro e w' ⟨rfl, rfl⟩)
    go_region
    go_wp2
    refine bodyPost_ret (v := .tuple #[.agg zmeet, .agg #[.int .i64 fc, .int .i64 fi]]) (by simp only [results, Try.results28]; go_simp) rfl (MFPost.err (by unfold propOf; rw [if_pos (by simpa [HF.out] using Z.out), HF.out]) ?_)
    (repeat (first | with_reducible refine Bel.setCell ?_ (by simp <;> omega) _ | with_reducible refine Bel.alloc ?_ _ | with_reducible refine Bel.drew ?_)); exact HB.out
end Go.Proofs.Ytgmjhnijnpfkgaa
