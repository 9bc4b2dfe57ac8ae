/- the reference's MeetingFault. -/
import Derived.Test.YtgmjhnijnpfkgaaMeetRef
namespace Go.Proofs.Ytgmjhnijnpfkgaa
open Go.RowKit

set_option maxHeartbeats 2000000 in
set_option maxRecDepth 100000 in
theorem meetingFault (m : Mtg) (A : Option Addr) (n c : Nat) (w : World) (h : Rd w 4 A n c (m.guests.flatMap Guest.cells)) :
    Calls Try.prog 21 #[.agg (mval m A n c)] w fun e w' => e = .returned (.agg #[.int .i64 (mtgFault m).1, .int .i64 (mtgFault m).2]) ∧ Bel w w' := by
  have hn := h.le
  have hm := h.cap
  have HL := Lib.hid (h.count (fun _ => rfl) (by decide))
  have H := Lib.hid h
  clear h
  cases k1 : namedB m.org with
  | false =>
    have K1 := Lib.hid k1
    have kn := named_in _ _ k1
    go_enter Try.func21, Try.ntmps21
    go_wp2_with (first | (go_at_call 26; refine (in_ _ _ _ _).mono ?_; rintro e w' ⟨rfl, rfl⟩) | (go_at_call 27; refine (proposable _ _ _).mono ?_; rintro e w' ⟨rfl, rfl⟩) | (go_at_call 25; refine (at_ _ _ _).mono ?_; rintro e w' ⟨rfl, rfl⟩))
    exact bodyPost_ret (v := .agg #[.int .i64 10, .int .i64 (-2)]) (by simp [results, Try.results21, go_sem]) rfl ⟨ret_fault (by unfold mtgFault; rw [if_pos K1.out]), (by (repeat (first | with_reducible refine Bel.setCell ?_ (by simp) _ | with_reducible refine Bel.alloc ?_ _)); exact Bel.refl _)⟩
  | true =>
    have K1 := Lib.hid k1
    have kn := named_in _ _ k1
    have e1 : ¬ namedB m.org = false := by simp [k1]
    have E1 := Lib.hid e1
    clear e1
    by_cases k2 : n < 1
    · have k2' : decide ((1 : Int) ≤ (n : Int) ∧ (n : Int) ≤ 30) = false := by simp; omega
      go_enter Try.func21, Try.ntmps21
      go_wp2_with (first | (go_at_call 26; refine (in_ _ _ _ _).mono ?_; rintro e w' ⟨rfl, rfl⟩) | (go_at_call 27; refine (proposable _ _ _).mono ?_; rintro e w' ⟨rfl, rfl⟩) | (go_at_call 25; refine (at_ _ _ _).mono ?_; rintro e w' ⟨rfl, rfl⟩))
      exact bodyPost_ret (v := .agg #[.int .i64 2, .int .i64 (-1)]) (by simp [results, Try.results21, go_sem]) rfl ⟨ret_fault (by unfold mtgFault; rw [if_neg E1.out, if_pos (by rw [HL.out]; omega)]), (by (repeat (first | with_reducible refine Bel.setCell ?_ (by simp) _ | with_reducible refine Bel.alloc ?_ _)); exact Bel.refl _)⟩
    by_cases k3 : 30 < n
    · have k3' : decide ((1 : Int) ≤ (n : Int) ∧ (n : Int) ≤ 30) = false := by simp; omega
      go_enter Try.func21, Try.ntmps21
      go_wp2_with (first | (go_at_call 26; refine (in_ _ _ _ _).mono ?_; rintro e w' ⟨rfl, rfl⟩) | (go_at_call 27; refine (proposable _ _ _).mono ?_; rintro e w' ⟨rfl, rfl⟩) | (go_at_call 25; refine (at_ _ _ _).mono ?_; rintro e w' ⟨rfl, rfl⟩))
      exact bodyPost_ret (v := .agg #[.int .i64 2, .int .i64 (-1)]) (by simp [results, Try.results21, go_sem]) rfl ⟨ret_fault (by unfold mtgFault; rw [if_neg E1.out, if_pos (by rw [HL.out]; omega)]), (by (repeat (first | with_reducible refine Bel.setCell ?_ (by simp) _ | with_reducible refine Bel.alloc ?_ _)); exact Bel.refl _)⟩
    have k3' : decide ((1 : Int) ≤ (n : Int) ∧ (n : Int) ≤ 30) = true := by simp; omega
    by_cases k4 : ¬ (0 ≤ m.round ∧ m.round ≤ 1000000)
    · have k5' : decide (0 ≤ m.round ∧ m.round ≤ 1000000) = false := by simpa using k4
      have K4 := Lib.hid k4
      clear k4
      go_enter Try.func21, Try.ntmps21
      go_wp2_with (first | (go_at_call 26; refine (in_ _ _ _ _).mono ?_; rintro e w' ⟨rfl, rfl⟩) | (go_at_call 27; refine (proposable _ _ _).mono ?_; rintro e w' ⟨rfl, rfl⟩) | (go_at_call 25; refine (at_ _ _ _).mono ?_; rintro e w' ⟨rfl, rfl⟩))
      exact bodyPost_ret (v := .agg #[.int .i64 3, .int .i64 (-3)]) (by simp [results, Try.results21, go_sem]) rfl ⟨ret_fault (by unfold mtgFault; rw [if_neg E1.out, if_neg (by rw [HL.out]; omega), if_pos (by have := K4.out; omega)]), (by (repeat (first | with_reducible refine Bel.setCell ?_ (by simp) _ | with_reducible refine Bel.alloc ?_ _)); exact Bel.refl _)⟩
    have k5' : decide (0 ≤ m.round ∧ m.round ≤ 1000000) = true := by simpa using k4
    have K4 := Lib.hid (show 0 ≤ m.round ∧ m.round ≤ 1000000 by omega)
    clear k4
    have E2 := Lib.hid (show ¬ (m.guests.length < 1 ∨ 30 < m.guests.length) by rw [HL.out]; omega)
    have E3 := Lib.hid (show ¬ (m.round < 0 ∨ 1000000 < m.round) by have := K4.out; omega)
    by_cases r0 : m.round = 0
    · have R0 := Lib.hid r0
      have br : (m.round == 0) = true := by simp [r0]
      have br' : decide (0 < m.round) = false := by simp [r0]
      clear r0
      by_cases o1 : m.pf = 0
      · have O1 := Lib.hid o1
        have bo1 : (m.pf != 0) = false := by simp [o1]
        clear o1
        by_cases o2 : m.pt = 0
        · have O2 := Lib.hid o2
          have bo2 : (m.pt != 0) = false := by simp [o2]
          clear o2
          have E4 := Lib.hid (show ¬ ((0 < m.round ∧ possB m.pf m.pt = false) ∨ (m.round = 0 ∧ ¬ (m.pf = 0 ∧ m.pt = 0))) by rintro (⟨h, _⟩ | ⟨_, h⟩); rw [R0.out] at h; exact absurd h (by decide); exact h ⟨O1.out, O2.out⟩)
          have E5 := Lib.hid (show mtgFault m = gfFrom m.org m.round m.guests 0 m.guests by unfold mtgFault; rw [if_neg E1.out, if_neg E2.out, if_neg E3.out, if_neg E4.out])
          clear E1 E2 E3 E4
          go_enter Try.func21, Try.ntmps21
          go_wp2_with (first | (go_at_call 26; refine (in_ _ _ _ _).mono ?_; rintro e w' ⟨rfl, rfl⟩) | (go_at_call 27; refine (proposable _ _ _).mono ?_; rintro e w' ⟨rfl, rfl⟩) | (go_at_call 25; refine (at_ _ _ _).mono ?_; rintro e w' ⟨rfl, rfl⟩))
          generalize hW : (World.alloc _ _) = W
          have hM : Blk W w.heap.size 40 (mval m A n c) := by rw [← hW]; exact (Blk.new _ _ _).alloc _
          have hF : Blk W (w.heap.size + 1) 27 #[.int .i64 0, .int .i64 0] := by rw [← hW]; exact Blk.new' _ _ (by simp)
          have hbW : Bel w W := by rw [← hW]; (repeat (first | with_reducible refine Bel.alloc ?_ _)); exact Bel.refl _
          have HM := Lib.hid hM
          have HF := Lib.hid hF
          have HBW := Lib.hid hbW
          clear hW hM hF hbW
          go_loopw [3] (ValRel W m n) (fun i _ => n - (intOf i).toNat)
          case atStart => exact ⟨0, Nat.zero_le _, rfl, Bel.refl _, rfl⟩
          case round =>
            obtain ⟨k, hk, rfl, hb, hf⟩ := hrel
            have hcm := (HM.out.bel hb).cell
            have hcf := (HF.out.bel hb).cell
            have hff := (HF.out.bel hb).frz
            have hl1 : w.heap.size + 1 < wr.heap.size := (HF.out.bel hb).lt
            have hl0 : w.heap.size < wr.heap.size := by omega
            have HB := Lib.hid hb
            have HFF := Lib.hid hf
            clear hb hf
            by_cases hlt : k < n
            · obtain ⟨g, hu⟩ : ∃ g, m.guests[k]? = some g := ⟨_, List.getElem?_eq_getElem (by have := HL.out; omega)⟩
              have HU := Lib.hid hu
              clear hu
              obtain ⟨b, off, g', hA, hlb, hu', hc⟩ := (H.out.bel (HBW.out.trans HB.out)).elem (fun _ => rfl) (by decide) hlt
              have hgg : g' = g := by have := HU.out; rw [hu'] at this; injection this
              subst hgg hA
              have hc0 : wr.cell? ⟨b, off + k * 4, none⟩ = some (.string g'.addr) := hc 0 _ rfl
              have hc1 : wr.cell? ⟨b, off + k * 4 + 1, none⟩ = some (.int .i64 g'.ans) := hc 1 _ rfl
              have hc2 : wr.cell? ⟨b, off + k * 4 + 2, none⟩ = some (.int .i64 g'.of_) := hc 2 _ rfl
              have hc3 : wr.cell? ⟨b, off + k * 4 + 3, none⟩ = some (.int .i64 g'.ot) := hc 3 _ rfl
              clear hc hu'
              have hkc : k ≤ c := by omega
              go_wp2
              go_still_tail 7, (by kernel_rfl)
              change wpList _ _ _ _ _ wr.drew
              go_wp2_with fail
              refine (guestFault g' m.round _).mono ?_
              rintro e w1 ⟨rfl, hb1'⟩
              have hb1 : Bel wr w1 := Bel.trans (Bel.refl wr).drew hb1'
              have hcm1 := (HM.out.bel (HB.out.trans hb1)).cell
              have hcf1 := (HF.out.bel (HB.out.trans hb1)).cell
              have hff1 := (HF.out.bel (HB.out.trans hb1)).frz
              have hl11 : w.heap.size + 1 < w1.heap.size := (HF.out.bel (HB.out.trans hb1)).lt
              have hl10 : w.heap.size < w1.heap.size := by omega
              have gc0 := (hb1.cell (off + k * 4) hlb).trans hc0
              have HB1 := Lib.hid hb1
              have HBX := Lib.hid ((HBW.out.trans HB.out).trans hb1)
              clear hb1 hb1' hc0 hc1 hc2 hc3 hcm hcf hff hl1 hl0
              have GE := Lib.hid (guestBad_eq m.org m.round (m.guests.take k) g')
              by_cases z : guestBad1 m.round g' = 0
              · have Z := Lib.hid z
                have bz : (guestBad1 m.round g' != 0) = false := by simp [z]
                clear z
                cases k9 : (g'.addr.toList == m.org.toList) with
                | true =>
                  have GB := Lib.hid (show guestBad m.org m.round (m.guests.take k) g' = 7 by rw [GE.out, if_neg (by simpa using Z.out), if_pos (by simp [k9])])
                  go_wp2
                  go_quiet (fail)
                  generalize hwd : w1.drewN _ = wd
                  have hcfd : ∀ o : Nat, wd.cell? ⟨w.heap.size + 1, o, none⟩ = (#[Value.int .i64 0, Value.int .i64 0] : Array Value)[o]? := by rw [← hwd]; exact hcf1
                  have hffd : ∀ o, wd.frozen? ⟨w.heap.size + 1, o, none⟩ = false := by rw [← hwd]; exact hff1
                  have hl1d : w.heap.size + 1 < wd.heap.size := by rw [← hwd]; exact hl11
                  have HBD := Lib.hid (show Bel w wd from by rw [← hwd]; exact HBX.out.drewN _)
                  clear hwd
                  go_wp2_with (go_at_call 25; refine (at_ _ _ _).mono ?_; rintro e w' ⟨rfl, rfl⟩)
                  refine bodyPost_ret (v := .agg #[.int .i64 7, .int .i64 k]) (by simp only [results, Try.results21]; go_simp) rfl ⟨ret_fault (by rw [E5.out, HFF.out, drop_at HU.out, gfFrom, GB.out]; rfl), ?_⟩
                  (repeat (first | with_reducible refine Bel.setCell ?_ (by simp <;> omega) _ | with_reducible refine Bel.alloc ?_ _ | with_reducible refine Bel.drewN ?_ _ | with_reducible refine Bel.drew ?_)); exact HBD.out
                | false =>
                  cases k10 : decide (0 ≤ gidx (fun x => x.addr.toList == g'.addr.toList) 0 (m.guests.take k)) with
                  | true =>
                    have GB := Lib.hid (show guestBad m.org m.round (m.guests.take k) g' = 7 by rw [GE.out, if_neg (by simpa using Z.out), if_pos (by simp [k10])])
                    have k10' : 0 ≤ gidx (fun x => x.addr.toList == g'.addr.toList) 0 (m.guests.take k) := by simpa using k10
                    go_wp2
                    go_quiet ((go_at_call 24; exact Calls.quiet_of_same ((guestAt _ _ _ (m.guests.take k) g'.addr _ ((H.out.gtake (Nat.le_of_lt hlt)).bel (HBX.out.drewN _))).mono fun _ _ h => ⟨h.1, h.2.symm⟩)))
                    generalize hwd : w1.drewN _ = wd
                    have hcfd : ∀ o : Nat, wd.cell? ⟨w.heap.size + 1, o, none⟩ = (#[Value.int .i64 0, Value.int .i64 0] : Array Value)[o]? := by rw [← hwd]; exact hcf1
                    have hffd : ∀ o, wd.frozen? ⟨w.heap.size + 1, o, none⟩ = false := by rw [← hwd]; exact hff1
                    have hl1d : w.heap.size + 1 < wd.heap.size := by rw [← hwd]; exact hl11
                    have HBD := Lib.hid (show Bel w wd from by rw [← hwd]; exact HBX.out.drewN _)
                    clear hwd
                    go_wp2_with (go_at_call 25; refine (at_ _ _ _).mono ?_; rintro e w' ⟨rfl, rfl⟩)
                    refine bodyPost_ret (v := .agg #[.int .i64 7, .int .i64 k]) (by simp only [results, Try.results21]; go_simp) rfl ⟨ret_fault (by rw [E5.out, HFF.out, drop_at HU.out, gfFrom, GB.out]; rfl), ?_⟩
                    (repeat (first | with_reducible refine Bel.setCell ?_ (by simp <;> omega) _ | with_reducible refine Bel.alloc ?_ _ | with_reducible refine Bel.drewN ?_ _ | with_reducible refine Bel.drew ?_)); exact HBD.out
                  | false =>
                    have GB := Lib.hid (show guestBad m.org m.round (m.guests.take k) g' = 0 by rw [GE.out, if_neg (by simpa using Z.out), if_neg (by simp [k9, k10])])
                    have k10' : gidx (fun x => x.addr.toList == g'.addr.toList) 0 (m.guests.take k) < 0 := by simpa using k10
                    go_wp2
                    go_quiet ((go_at_call 24; exact Calls.quiet_of_same ((guestAt _ _ _ (m.guests.take k) g'.addr _ ((H.out.gtake (Nat.le_of_lt hlt)).bel (HBX.out.drewN _))).mono fun _ _ h => ⟨h.1, h.2.symm⟩)))
                    go_wp2
                    go_roundw
                    case rel => exact ⟨k + 1, hlt, by go_num, (HB.out.trans HB1.out).drewN _, by rw [HFF.out, drop_at HU.out, gfFrom, if_pos GB.out]⟩
                    case measure => simp [intOf]; omega
              · have Z := Lib.hid z
                have bz : (guestBad1 m.round g' != 0) = true := by simpa using z
                have GB := Lib.hid (show guestBad m.org m.round (m.guests.take k) g' = guestBad1 m.round g' by rw [GE.out, if_pos z])
                clear z
                go_wp2_with (go_at_call 25; refine (at_ _ _ _).mono ?_; rintro e w' ⟨rfl, rfl⟩)
                refine bodyPost_ret (v := .agg #[.int .i64 (guestBad1 m.round g'), .int .i64 k]) (by simp only [results, Try.results21]; go_simp) rfl ⟨ret_fault (by rw [E5.out, HFF.out, drop_at HU.out, gfFrom, GB.out, if_neg Z.out]), ?_⟩
                (repeat (first | with_reducible refine Bel.setCell ?_ (by simp <;> omega) _ | with_reducible refine Bel.alloc ?_ _ | with_reducible refine Bel.drewN ?_ _ | with_reducible refine Bel.drew ?_)); exact HBX.out
            · go_wp2
              refine bodyPost_ret (v := .agg #[.int .i64 0, .int .i64 0]) (by simp [results, Try.results21, go_sem, hcf]) rfl ⟨ret_fault (by rw [E5.out, HFF.out, List.drop_of_length_le (by have := HL.out; omega)]; rfl), ?_⟩
              (repeat (first | with_reducible refine Bel.setCell ?_ (by simp) _ | with_reducible refine Bel.alloc ?_ _)); exact HBW.out.trans HB.out          
        · have O2 := Lib.hid o2
          have bo2 : (m.pt != 0) = true := by simp [o2]
          clear o2
          go_enter Try.func21, Try.ntmps21
          go_wp2_with (first | (go_at_call 26; refine (in_ _ _ _ _).mono ?_; rintro e w' ⟨rfl, rfl⟩) | (go_at_call 27; refine (proposable _ _ _).mono ?_; rintro e w' ⟨rfl, rfl⟩) | (go_at_call 25; refine (at_ _ _ _).mono ?_; rintro e w' ⟨rfl, rfl⟩))
          exact bodyPost_ret (v := .agg #[.int .i64 5, .int .i64 (-3)]) (by simp [results, Try.results21, go_sem]) rfl ⟨ret_fault (by unfold mtgFault; rw [if_neg E1.out, if_neg E2.out, if_neg E3.out, if_pos (.inr ⟨R0.out, fun h => O2.out h.2⟩)]), (by (repeat (first | with_reducible refine Bel.setCell ?_ (by simp) _ | with_reducible refine Bel.alloc ?_ _)); exact Bel.refl _)⟩
      · have O1 := Lib.hid o1
        have bo1 : (m.pf != 0) = true := by simp [o1]
        clear o1
        go_enter Try.func21, Try.ntmps21
        go_wp2_with (first | (go_at_call 26; refine (in_ _ _ _ _).mono ?_; rintro e w' ⟨rfl, rfl⟩) | (go_at_call 27; refine (proposable _ _ _).mono ?_; rintro e w' ⟨rfl, rfl⟩) | (go_at_call 25; refine (at_ _ _ _).mono ?_; rintro e w' ⟨rfl, rfl⟩))
        exact bodyPost_ret (v := .agg #[.int .i64 5, .int .i64 (-3)]) (by simp [results, Try.results21, go_sem]) rfl ⟨ret_fault (by unfold mtgFault; rw [if_neg E1.out, if_neg E2.out, if_neg E3.out, if_pos (.inr ⟨R0.out, fun h => O1.out h.1⟩)]), (by (repeat (first | with_reducible refine Bel.setCell ?_ (by simp) _ | with_reducible refine Bel.alloc ?_ _)); exact Bel.refl _)⟩
    · have R0 := Lib.hid r0
      have br : (m.round == 0) = false := by simp [r0]
      have hr0 : 0 < m.round := by have := K4.out; omega
      have br' : decide (0 < m.round) = true := by simpa using hr0
      have HR0 := Lib.hid hr0
      clear r0
      cases p1 : possB m.pf m.pt with
      | false =>
        have P1 := Lib.hid p1
        go_enter Try.func21, Try.ntmps21
        go_wp2_with (first | (go_at_call 26; refine (in_ _ _ _ _).mono ?_; rintro e w' ⟨rfl, rfl⟩) | (go_at_call 27; refine (proposable _ _ _).mono ?_; rintro e w' ⟨rfl, rfl⟩) | (go_at_call 25; refine (at_ _ _ _).mono ?_; rintro e w' ⟨rfl, rfl⟩))
        exact bodyPost_ret (v := .agg #[.int .i64 5, .int .i64 (-3)]) (by simp [results, Try.results21, go_sem]) rfl ⟨ret_fault (by unfold mtgFault; rw [if_neg E1.out, if_neg E2.out, if_neg E3.out, if_pos (.inl ⟨HR0.out, P1.out⟩)]), (by (repeat (first | with_reducible refine Bel.setCell ?_ (by simp) _ | with_reducible refine Bel.alloc ?_ _)); exact Bel.refl _)⟩
      | true =>
        have P1 := Lib.hid p1
        have E4 := Lib.hid (show ¬ ((0 < m.round ∧ possB m.pf m.pt = false) ∨ (m.round = 0 ∧ ¬ (m.pf = 0 ∧ m.pt = 0))) by rintro (⟨_, h⟩ | ⟨h, _⟩); rw [P1.out] at h; cases h; exact R0.out h)
        have E5 := Lib.hid (show mtgFault m = gfFrom m.org m.round m.guests 0 m.guests by unfold mtgFault; rw [if_neg E1.out, if_neg E2.out, if_neg E3.out, if_neg E4.out])
        clear E1 E2 E3 E4
        go_enter Try.func21, Try.ntmps21
        go_wp2_with (first | (go_at_call 26; refine (in_ _ _ _ _).mono ?_; rintro e w' ⟨rfl, rfl⟩) | (go_at_call 27; refine (proposable _ _ _).mono ?_; rintro e w' ⟨rfl, rfl⟩) | (go_at_call 25; refine (at_ _ _ _).mono ?_; rintro e w' ⟨rfl, rfl⟩))
        generalize hW : (World.alloc _ _) = W
        have hM : Blk W w.heap.size 40 (mval m A n c) := by rw [← hW]; exact ((Blk.new _ _ _).alloc _).alloc _
        have hF : Blk W (w.heap.size + 1) 27 #[.int .i64 0, .int .i64 0] := by rw [← hW]; exact (Blk.new' _ _ (by simp)).alloc _
        have hbW : Bel w W := by rw [← hW]; (repeat (first | with_reducible refine Bel.alloc ?_ _)); exact Bel.refl _
        have HM := Lib.hid hM
        have HF := Lib.hid hF
        have HBW := Lib.hid hbW
        clear hW hM hF hbW
        go_loopw [3] (ValRel W m n) (fun i _ => n - (intOf i).toNat)
        case atStart => exact ⟨0, Nat.zero_le _, rfl, Bel.refl _, rfl⟩
        case round =>
          obtain ⟨k, hk, rfl, hb, hf⟩ := hrel
          have hcm := (HM.out.bel hb).cell
          have hcf := (HF.out.bel hb).cell
          have hff := (HF.out.bel hb).frz
          have hl1 : w.heap.size + 1 < wr.heap.size := (HF.out.bel hb).lt
          have hl0 : w.heap.size < wr.heap.size := by omega
          have HB := Lib.hid hb
          have HFF := Lib.hid hf
          clear hb hf
          by_cases hlt : k < n
          · obtain ⟨g, hu⟩ : ∃ g, m.guests[k]? = some g := ⟨_, List.getElem?_eq_getElem (by have := HL.out; omega)⟩
            have HU := Lib.hid hu
            clear hu
            obtain ⟨b, off, g', hA, hlb, hu', hc⟩ := (H.out.bel (HBW.out.trans HB.out)).elem (fun _ => rfl) (by decide) hlt
            have hgg : g' = g := by have := HU.out; rw [hu'] at this; injection this
            subst hgg hA
            have hc0 : wr.cell? ⟨b, off + k * 4, none⟩ = some (.string g'.addr) := hc 0 _ rfl
            have hc1 : wr.cell? ⟨b, off + k * 4 + 1, none⟩ = some (.int .i64 g'.ans) := hc 1 _ rfl
            have hc2 : wr.cell? ⟨b, off + k * 4 + 2, none⟩ = some (.int .i64 g'.of_) := hc 2 _ rfl
            have hc3 : wr.cell? ⟨b, off + k * 4 + 3, none⟩ = some (.int .i64 g'.ot) := hc 3 _ rfl
            clear hc hu'
            have hkc : k ≤ c := by omega
            go_wp2
            go_still_tail 7, (by kernel_rfl)
            change wpList _ _ _ _ _ wr.drew
            go_wp2_with fail
            refine (guestFault g' m.round _).mono ?_
            rintro e w1 ⟨rfl, hb1'⟩
            have hb1 : Bel wr w1 := Bel.trans (Bel.refl wr).drew hb1'
            have hcm1 := (HM.out.bel (HB.out.trans hb1)).cell
            have hcf1 := (HF.out.bel (HB.out.trans hb1)).cell
            have hff1 := (HF.out.bel (HB.out.trans hb1)).frz
            have hl11 : w.heap.size + 1 < w1.heap.size := (HF.out.bel (HB.out.trans hb1)).lt
            have hl10 : w.heap.size < w1.heap.size := by omega
            have gc0 := (hb1.cell (off + k * 4) hlb).trans hc0
            have HB1 := Lib.hid hb1
            have HBX := Lib.hid ((HBW.out.trans HB.out).trans hb1)
            clear hb1 hb1' hc0 hc1 hc2 hc3 hcm hcf hff hl1 hl0
            have GE := Lib.hid (guestBad_eq m.org m.round (m.guests.take k) g')
            by_cases z : guestBad1 m.round g' = 0
            · have Z := Lib.hid z
              have bz : (guestBad1 m.round g' != 0) = false := by simp [z]
              clear z
              cases k9 : (g'.addr.toList == m.org.toList) with
              | true =>
                have GB := Lib.hid (show guestBad m.org m.round (m.guests.take k) g' = 7 by rw [GE.out, if_neg (by simpa using Z.out), if_pos (by simp [k9])])
                go_wp2
                go_quiet (fail)
                generalize hwd : w1.drewN _ = wd
                have hcfd : ∀ o : Nat, wd.cell? ⟨w.heap.size + 1, o, none⟩ = (#[Value.int .i64 0, Value.int .i64 0] : Array Value)[o]? := by rw [← hwd]; exact hcf1
                have hffd : ∀ o, wd.frozen? ⟨w.heap.size + 1, o, none⟩ = false := by rw [← hwd]; exact hff1
                have hl1d : w.heap.size + 1 < wd.heap.size := by rw [← hwd]; exact hl11
                have HBD := Lib.hid (show Bel w wd from by rw [← hwd]; exact HBX.out.drewN _)
                clear hwd
                go_wp2_with (go_at_call 25; refine (at_ _ _ _).mono ?_; rintro e w' ⟨rfl, rfl⟩)
                refine bodyPost_ret (v := .agg #[.int .i64 7, .int .i64 k]) (by simp only [results, Try.results21]; go_simp) rfl ⟨ret_fault (by rw [E5.out, HFF.out, drop_at HU.out, gfFrom, GB.out]; rfl), ?_⟩
                (repeat (first | with_reducible refine Bel.setCell ?_ (by simp <;> omega) _ | with_reducible refine Bel.alloc ?_ _ | with_reducible refine Bel.drewN ?_ _ | with_reducible refine Bel.drew ?_)); exact HBD.out
              | false =>
                cases k10 : decide (0 ≤ gidx (fun x => x.addr.toList == g'.addr.toList) 0 (m.guests.take k)) with
                | true =>
                  have GB := Lib.hid (show guestBad m.org m.round (m.guests.take k) g' = 7 by rw [GE.out, if_neg (by simpa using Z.out), if_pos (by simp [k10])])
                  have k10' : 0 ≤ gidx (fun x => x.addr.toList == g'.addr.toList) 0 (m.guests.take k) := by simpa using k10
                  go_wp2
                  go_quiet ((go_at_call 24; exact Calls.quiet_of_same ((guestAt _ _ _ (m.guests.take k) g'.addr _ ((H.out.gtake (Nat.le_of_lt hlt)).bel (HBX.out.drewN _))).mono fun _ _ h => ⟨h.1, h.2.symm⟩)))
                  generalize hwd : w1.drewN _ = wd
                  have hcfd : ∀ o : Nat, wd.cell? ⟨w.heap.size + 1, o, none⟩ = (#[Value.int .i64 0, Value.int .i64 0] : Array Value)[o]? := by rw [← hwd]; exact hcf1
                  have hffd : ∀ o, wd.frozen? ⟨w.heap.size + 1, o, none⟩ = false := by rw [← hwd]; exact hff1
                  have hl1d : w.heap.size + 1 < wd.heap.size := by rw [← hwd]; exact hl11
                  have HBD := Lib.hid (show Bel w wd from by rw [← hwd]; exact HBX.out.drewN _)
                  clear hwd
                  go_wp2_with (go_at_call 25; refine (at_ _ _ _).mono ?_; rintro e w' ⟨rfl, rfl⟩)
                  refine bodyPost_ret (v := .agg #[.int .i64 7, .int .i64 k]) (by simp only [results, Try.results21]; go_simp) rfl ⟨ret_fault (by rw [E5.out, HFF.out, drop_at HU.out, gfFrom, GB.out]; rfl), ?_⟩
                  (repeat (first | with_reducible refine Bel.setCell ?_ (by simp <;> omega) _ | with_reducible refine Bel.alloc ?_ _ | with_reducible refine Bel.drewN ?_ _ | with_reducible refine Bel.drew ?_)); exact HBD.out
                | false =>
                  have GB := Lib.hid (show guestBad m.org m.round (m.guests.take k) g' = 0 by rw [GE.out, if_neg (by simpa using Z.out), if_neg (by simp [k9, k10])])
                  have k10' : gidx (fun x => x.addr.toList == g'.addr.toList) 0 (m.guests.take k) < 0 := by simpa using k10
                  go_wp2
                  go_quiet ((go_at_call 24; exact Calls.quiet_of_same ((guestAt _ _ _ (m.guests.take k) g'.addr _ ((H.out.gtake (Nat.le_of_lt hlt)).bel (HBX.out.drewN _))).mono fun _ _ h => ⟨h.1, h.2.symm⟩)))
                  go_wp2
                  go_roundw
                  case rel => exact ⟨k + 1, hlt, by go_num, (HB.out.trans HB1.out).drewN _, by rw [HFF.out, drop_at HU.out, gfFrom, if_pos GB.out]⟩
                  case measure => simp [intOf]; omega
            · have Z := Lib.hid z
              have bz : (guestBad1 m.round g' != 0) = true := by simpa using z
              have GB := Lib.hid (show guestBad m.org m.round (m.guests.take k) g' = guestBad1 m.round g' by rw [GE.out, if_pos z])
              clear z
              go_wp2_with (go_at_call 25; refine (at_ _ _ _).mono ?_; rintro e w' ⟨rfl, rfl⟩)
              refine bodyPost_ret (v := .agg #[.int .i64 (guestBad1 m.round g'), .int .i64 k]) (by simp only [results, Try.results21]; go_simp) rfl ⟨ret_fault (by rw [E5.out, HFF.out, drop_at HU.out, gfFrom, GB.out, if_neg Z.out]), ?_⟩
              (repeat (first | with_reducible refine Bel.setCell ?_ (by simp <;> omega) _ | with_reducible refine Bel.alloc ?_ _ | with_reducible refine Bel.drewN ?_ _ | with_reducible refine Bel.drew ?_)); exact HBX.out
          · go_wp2
            refine bodyPost_ret (v := .agg #[.int .i64 0, .int .i64 0]) (by simp [results, Try.results21, go_sem, hcf]) rfl ⟨ret_fault (by rw [E5.out, HFF.out, List.drop_of_length_le (by have := HL.out; omega)]; rfl), ?_⟩
            (repeat (first | with_reducible refine Bel.setCell ?_ (by simp) _ | with_reducible refine Bel.alloc ?_ _)); exact HBW.out.trans HB.out
end Go.Proofs.Ytgmjhnijnpfkgaa
