/- meeting.Validate. -/
import Derived.Test.YtgmjhnijnpfkgaaGuest
namespace Go.Proofs.Ytgmjhnijnpfkgaa
open Go.RowKit

def gfFrom (org : ByteArray) (round : Int) (all : List Guest) : Nat → List Guest → Int × Int
  | _, [] => (0, 0)
  | k, g :: l => if guestBad org round (all.take k) g = 0 then gfFrom org round all (k + 1) l else (guestBad org round (all.take k) g, (k : Int))
/-- a meeting's fault -/
def mtgFault (m : Mtg) : Int × Int :=
  if namedB m.org = false then (10, -2) else if m.guests.length < 1 ∨ 30 < m.guests.length then (2, -1) else if m.round < 0 ∨ 1000000 < m.round then (3, -3)
  else if (0 < m.round ∧ possB m.pf m.pt = false) ∨ (m.round = 0 ∧ ¬ (m.pf = 0 ∧ m.pt = 0)) then (5, -3)
  else gfFrom m.org m.round m.guests 0 m.guests

def ValRel (W : World) (m : Mtg) (n : Nat) (i : Value) (wr : World) : Prop := ∃ k : Nat, k ≤ n ∧ i = .int .i64 k ∧ Bel W wr ∧ gfFrom m.org m.round m.guests 0 m.guests = gfFrom m.org m.round m.guests k (m.guests.drop k)

theorem ret_fault {a b : Int} {r : Int × Int} (h : r = (a, b)) : Ending.returned (.agg #[.int .i64 a, .int .i64 b]) = .returned (.agg #[.int .i64 r.1, .int .i64 r.2]) := by rw [h]

set_option maxHeartbeats 1000000 in
theorem validate (m : Mtg) (A : Option Addr) (n c : Nat) (w : World) (h : Rd w 4 A n c (m.guests.flatMap Guest.cells)) :
    Calls Try.prog 30 #[.agg (mval m A n c)] w fun e w' => e = .returned (.agg #[.int .i64 (mtgFault m).1, .int .i64 (mtgFault m).2]) ∧ Bel w w' := by
  have hn := h.le
  have hm := h.cap
  have HL := Lib.hid (h.count (fun _ => rfl) (by decide))
  have H := Lib.hid h
  clear h
  cases k1 : namedB m.org with
  | false =>
    have K1 := Lib.hid k1
    go_enter Try.func30, Try.ntmps30
    go_wp2_with (first | (go_at_call 56; refine (named _ _).mono ?_; rintro e w' ⟨rfl, rfl⟩) | (go_at_call 47; refine (possible _ _ _).mono ?_; rintro e w' ⟨rfl, rfl⟩) | (go_at_call 40; refine (fault _ _ _).mono ?_; rintro e w' ⟨rfl, rfl⟩))
    exact bodyPost_ret (v := .agg #[.int .i64 10, .int .i64 (-2)]) (by simp [results, Try.results30, go_sem]) rfl ⟨ret_fault (by unfold mtgFault; rw [if_pos K1.out]), (by (repeat (first | with_reducible refine Bel.setCell ?_ (by simp) _ | with_reducible refine Bel.alloc ?_ _)); exact Bel.refl _)⟩
  | true =>
    have K1 := Lib.hid k1
    have e1 : ¬ namedB m.org = false := by simp [k1]
    have E1 := Lib.hid e1
    clear e1
    by_cases k2 : n < 1
    · have k2' : decide ((n : Int) < 1) = true := by simp; omega
      go_enter Try.func30, Try.ntmps30
      go_wp2_with (first | (go_at_call 56; refine (named _ _).mono ?_; rintro e w' ⟨rfl, rfl⟩) | (go_at_call 47; refine (possible _ _ _).mono ?_; rintro e w' ⟨rfl, rfl⟩) | (go_at_call 40; refine (fault _ _ _).mono ?_; rintro e w' ⟨rfl, rfl⟩))
      exact bodyPost_ret (v := .agg #[.int .i64 2, .int .i64 (-1)]) (by simp [results, Try.results30, go_sem]) rfl ⟨ret_fault (by unfold mtgFault; rw [if_neg E1.out, if_pos (by rw [HL.out]; omega)]), (by (repeat (first | with_reducible refine Bel.setCell ?_ (by simp) _ | with_reducible refine Bel.alloc ?_ _)); exact Bel.refl _)⟩
    have k2' : decide ((n : Int) < 1) = false := by simp; omega
    by_cases k3 : 30 < n
    · have k3' : decide ((30 : Int) < (n : Int)) = true := by simp; omega
      go_enter Try.func30, Try.ntmps30
      go_wp2_with (first | (go_at_call 56; refine (named _ _).mono ?_; rintro e w' ⟨rfl, rfl⟩) | (go_at_call 47; refine (possible _ _ _).mono ?_; rintro e w' ⟨rfl, rfl⟩) | (go_at_call 40; refine (fault _ _ _).mono ?_; rintro e w' ⟨rfl, rfl⟩))
      exact bodyPost_ret (v := .agg #[.int .i64 2, .int .i64 (-1)]) (by simp [results, Try.results30, go_sem]) rfl ⟨ret_fault (by unfold mtgFault; rw [if_neg E1.out, if_pos (by rw [HL.out]; omega)]), (by (repeat (first | with_reducible refine Bel.setCell ?_ (by simp) _ | with_reducible refine Bel.alloc ?_ _)); exact Bel.refl _)⟩
    have k3' : decide ((30 : Int) < (n : Int)) = false := by simp; omega
    by_cases k4 : m.round < 0
    · have k4' : decide (m.round < 0) = true := by simpa using k4
      go_enter Try.func30, Try.ntmps30
      go_wp2_with (first | (go_at_call 56; refine (named _ _).mono ?_; rintro e w' ⟨rfl, rfl⟩) | (go_at_call 47; refine (possible _ _ _).mono ?_; rintro e w' ⟨rfl, rfl⟩) | (go_at_call 40; refine (fault _ _ _).mono ?_; rintro e w' ⟨rfl, rfl⟩))
      exact bodyPost_ret (v := .agg #[.int .i64 3, .int .i64 (-3)]) (by simp [results, Try.results30, go_sem]) rfl ⟨ret_fault (by unfold mtgFault; rw [if_neg E1.out, if_neg (by rw [HL.out]; omega), if_pos (by omega)]), (by (repeat (first | with_reducible refine Bel.setCell ?_ (by simp) _ | with_reducible refine Bel.alloc ?_ _)); exact Bel.refl _)⟩
    have k4' : decide (m.round < 0) = false := by simpa using k4
    by_cases k5 : 1000000 < m.round
    · have k5' : decide (1000000 < m.round) = true := by simpa using k5
      go_enter Try.func30, Try.ntmps30
      go_wp2_with (first | (go_at_call 56; refine (named _ _).mono ?_; rintro e w' ⟨rfl, rfl⟩) | (go_at_call 47; refine (possible _ _ _).mono ?_; rintro e w' ⟨rfl, rfl⟩) | (go_at_call 40; refine (fault _ _ _).mono ?_; rintro e w' ⟨rfl, rfl⟩))
      exact bodyPost_ret (v := .agg #[.int .i64 3, .int .i64 (-3)]) (by simp [results, Try.results30, go_sem]) rfl ⟨ret_fault (by unfold mtgFault; rw [if_neg E1.out, if_neg (by rw [HL.out]; omega), if_pos (by omega)]), (by (repeat (first | with_reducible refine Bel.setCell ?_ (by simp) _ | with_reducible refine Bel.alloc ?_ _)); exact Bel.refl _)⟩
    have k5' : decide (1000000 < m.round) = false := by simpa using k5
    have E2 := Lib.hid (show ¬ (m.guests.length < 1 ∨ 30 < m.guests.length) by rw [HL.out]; omega)
    have E3 := Lib.hid (show ¬ (m.round < 0 ∨ 1000000 < m.round) by omega)
    by_cases r0 : m.round = 0
    · have R0 := Lib.hid r0
      have br : (m.round == 0) = true := by simp [r0]
      have br' : decide (0 < m.round) = false := by simp [r0]
      clear r0 k4 k5 k4' k5'
      have k4' : decide (m.round < 0) = false := by simp [R0.out]
      have k5' : decide (1000000 < m.round) = false := by simp [R0.out]
      by_cases o1 : m.pf = 0
      · have O1 := Lib.hid o1
        have bo1 : (m.pf == 0) = true := by simp [o1]
        clear o1
        by_cases o2 : m.pt = 0
        · have O2 := Lib.hid o2
          have bo2 : (m.pt == 0) = true := by simp [o2]
          clear o2
          have E4 := Lib.hid (show ¬ ((0 < m.round ∧ possB m.pf m.pt = false) ∨ (m.round = 0 ∧ ¬ (m.pf = 0 ∧ m.pt = 0))) by rintro (⟨h, _⟩ | ⟨_, h⟩); rw [R0.out] at h; exact absurd h (by decide); exact h ⟨O1.out, O2.out⟩)
          have E5 := Lib.hid (show mtgFault m = gfFrom m.org m.round m.guests 0 m.guests by unfold mtgFault; rw [if_neg E1.out, if_neg E2.out, if_neg E3.out, if_neg E4.out])
          clear E1 E2 E3 E4
          go_enter Try.func30, Try.ntmps30
          go_wp2_with (first | (go_at_call 56; refine (named _ _).mono ?_; rintro e w' ⟨rfl, rfl⟩) | (go_at_call 47; refine (possible _ _ _).mono ?_; rintro e w' ⟨rfl, rfl⟩) | (go_at_call 40; refine (fault _ _ _).mono ?_; rintro e w' ⟨rfl, rfl⟩))
          generalize hW : (World.alloc _ _) = W
          have hM : Blk W w.heap.size 40 (mval m A n c) := by rw [← hW]; exact (Blk.new _ _ _).alloc _
          have hF : Blk W (w.heap.size + 1) 27 #[.int .i64 0, .int .i64 0] := by rw [← hW]; exact Blk.new' _ _ (by simp)
          have hbW : Bel w W := by rw [← hW]; (repeat (first | with_reducible refine Bel.alloc ?_ _)); exact Bel.refl _
          have HM := Lib.hid hM
          have HF := Lib.hid hF
          have HBW := Lib.hid hbW
          clear hW hM hF hbW
          go_loopw [58] (ValRel W m n) (fun i _ => n - (intOf i).toNat)
          case atStart => exact ⟨0, Nat.zero_le _, rfl, Bel.refl _, rfl⟩
          case round =>
            obtain ⟨k, hk, rfl, hb, hf⟩ := hrel
            have hcm := (HM.out.bel hb).cell
            have hcf := (HF.out.bel hb).cell
            have hff := (HF.out.bel hb).frz
            have hl1 : w.heap.size + 1 < wr.heap.size := (HF.out.bel hb).lt
            have hl0 : w.heap.size < wr.heap.size := by omega
            have HB := Lib.hid hb
            have HFF := Lib.hid hf
            clear hb hf
            by_cases hlt : k < n
            · obtain ⟨g, hu⟩ : ∃ g, m.guests[k]? = some g := ⟨_, List.getElem?_eq_getElem (by have := HL.out; omega)⟩
              have HU := Lib.hid hu
              clear hu
              go_wp2_with fail
              refine (guest m A n c k g _ (H.out.bel (HBW.out.trans HB.out)) HU.out hlt).mono ?_
              rintro e w1 ⟨rfl, hb1⟩
              have hcm1 := (HM.out.bel (HB.out.trans hb1)).cell
              have hcf1 := (HF.out.bel (HB.out.trans hb1)).cell
              have hff1 := (HF.out.bel (HB.out.trans hb1)).frz
              have hl11 : w.heap.size + 1 < w1.heap.size := (HF.out.bel (HB.out.trans hb1)).lt
              have HB1 := Lib.hid hb1
              clear hb1
              by_cases z : guestBad m.org m.round (m.guests.take k) g = 0
              · have Z := Lib.hid z
                have bz : (guestBad m.org m.round (m.guests.take k) g != 0) = false := by simp [z]
                clear z
                go_wp2
                go_roundw
                case rel => exact ⟨k + 1, hlt, by go_num, HB.out.trans HB1.out, by rw [HFF.out, drop_at HU.out, gfFrom, if_pos Z.out]⟩
                case measure => simp [intOf]; omega
              · have Z := Lib.hid z
                have bz : (guestBad m.org m.round (m.guests.take k) g != 0) = true := by simpa using z
                clear z
                go_wp2_with (go_at_call 40; refine (fault _ _ _).mono ?_; rintro e w' ⟨rfl, rfl⟩)
                refine bodyPost_ret (v := .agg #[.int .i64 (guestBad m.org m.round (m.guests.take k) g), .int .i64 k]) (by simp [results, Try.results30, go_sem, hcf1, hl11]) rfl ⟨ret_fault (by rw [E5.out, HFF.out, drop_at HU.out, gfFrom, if_neg Z.out]), ?_⟩
                (repeat (first | with_reducible refine Bel.setCell ?_ (by simp) _ | with_reducible refine Bel.alloc ?_ _)); exact (HBW.out.trans HB.out).trans HB1.out
            · go_wp2_with (go_at_call 42; refine (none_ _).mono ?_; rintro e w' ⟨rfl, rfl⟩)
              refine bodyPost_ret (v := .agg #[.int .i64 0, .int .i64 0]) (by simp [results, Try.results30, go_sem, hcf, hl1]) rfl ⟨ret_fault (by rw [E5.out, HFF.out, List.drop_of_length_le (by have := HL.out; omega)]; rfl), ?_⟩
              (repeat (first | with_reducible refine Bel.setCell ?_ (by simp) _ | with_reducible refine Bel.alloc ?_ _)); exact HBW.out.trans HB.out          
        · have O2 := Lib.hid o2
          have bo2 : (m.pt == 0) = false := by simp [o2]
          clear o2
          go_enter Try.func30, Try.ntmps30
          go_wp2_with (first | (go_at_call 56; refine (named _ _).mono ?_; rintro e w' ⟨rfl, rfl⟩) | (go_at_call 47; refine (possible _ _ _).mono ?_; rintro e w' ⟨rfl, rfl⟩) | (go_at_call 40; refine (fault _ _ _).mono ?_; rintro e w' ⟨rfl, rfl⟩))
          exact bodyPost_ret (v := .agg #[.int .i64 5, .int .i64 (-3)]) (by simp [results, Try.results30, go_sem]) rfl ⟨ret_fault (by unfold mtgFault; rw [if_neg E1.out, if_neg E2.out, if_neg E3.out, if_pos (.inr ⟨R0.out, fun h => O2.out h.2⟩)]), (by (repeat (first | with_reducible refine Bel.setCell ?_ (by simp) _ | with_reducible refine Bel.alloc ?_ _)); exact Bel.refl _)⟩
      · have O1 := Lib.hid o1
        have bo1 : (m.pf == 0) = false := by simp [o1]
        clear o1
        go_enter Try.func30, Try.ntmps30
        go_wp2_with (first | (go_at_call 56; refine (named _ _).mono ?_; rintro e w' ⟨rfl, rfl⟩) | (go_at_call 47; refine (possible _ _ _).mono ?_; rintro e w' ⟨rfl, rfl⟩) | (go_at_call 40; refine (fault _ _ _).mono ?_; rintro e w' ⟨rfl, rfl⟩))
        exact bodyPost_ret (v := .agg #[.int .i64 5, .int .i64 (-3)]) (by simp [results, Try.results30, go_sem]) rfl ⟨ret_fault (by unfold mtgFault; rw [if_neg E1.out, if_neg E2.out, if_neg E3.out, if_pos (.inr ⟨R0.out, fun h => O1.out h.1⟩)]), (by (repeat (first | with_reducible refine Bel.setCell ?_ (by simp) _ | with_reducible refine Bel.alloc ?_ _)); exact Bel.refl _)⟩
    · have R0 := Lib.hid r0
      have br : (m.round == 0) = false := by simp [r0]
      have hr0 : 0 < m.round := by omega
      have br' : decide (0 < m.round) = true := by simpa using hr0
      have HR0 := Lib.hid hr0
      clear r0
      cases p1 : possB m.pf m.pt with
      | false =>
        have P1 := Lib.hid p1
        go_enter Try.func30, Try.ntmps30
        go_wp2_with (first | (go_at_call 56; refine (named _ _).mono ?_; rintro e w' ⟨rfl, rfl⟩) | (go_at_call 47; refine (possible _ _ _).mono ?_; rintro e w' ⟨rfl, rfl⟩) | (go_at_call 40; refine (fault _ _ _).mono ?_; rintro e w' ⟨rfl, rfl⟩))
        exact bodyPost_ret (v := .agg #[.int .i64 5, .int .i64 (-3)]) (by simp [results, Try.results30, go_sem]) rfl ⟨ret_fault (by unfold mtgFault; rw [if_neg E1.out, if_neg E2.out, if_neg E3.out, if_pos (.inl ⟨HR0.out, P1.out⟩)]), (by (repeat (first | with_reducible refine Bel.setCell ?_ (by simp) _ | with_reducible refine Bel.alloc ?_ _)); exact Bel.refl _)⟩
      | true =>
        have P1 := Lib.hid p1
        have E4 := Lib.hid (show ¬ ((0 < m.round ∧ possB m.pf m.pt = false) ∨ (m.round = 0 ∧ ¬ (m.pf = 0 ∧ m.pt = 0))) by rintro (⟨_, h⟩ | ⟨h, _⟩); rw [P1.out] at h; cases h; exact R0.out h)
        have E5 := Lib.hid (show mtgFault m = gfFrom m.org m.round m.guests 0 m.guests by unfold mtgFault; rw [if_neg E1.out, if_neg E2.out, if_neg E3.out, if_neg E4.out])
        clear E1 E2 E3 E4
        go_enter Try.func30, Try.ntmps30
        go_wp2_with (first | (go_at_call 56; refine (named _ _).mono ?_; rintro e w' ⟨rfl, rfl⟩) | (go_at_call 47; refine (possible _ _ _).mono ?_; rintro e w' ⟨rfl, rfl⟩) | (go_at_call 40; refine (fault _ _ _).mono ?_; rintro e w' ⟨rfl, rfl⟩))
        generalize hW : (World.alloc _ _) = W
        have hM : Blk W w.heap.size 40 (mval m A n c) := by rw [← hW]; exact ((Blk.new _ _ _).alloc _).alloc _
        have hF : Blk W (w.heap.size + 1) 27 #[.int .i64 0, .int .i64 0] := by rw [← hW]; exact (Blk.new' _ _ (by simp)).alloc _
        have hbW : Bel w W := by rw [← hW]; (repeat (first | with_reducible refine Bel.alloc ?_ _)); exact Bel.refl _
        have HM := Lib.hid hM
        have HF := Lib.hid hF
        have HBW := Lib.hid hbW
        clear hW hM hF hbW
        go_loopw [58] (ValRel W m n) (fun i _ => n - (intOf i).toNat)
        case atStart => exact ⟨0, Nat.zero_le _, rfl, Bel.refl _, rfl⟩
        case round =>
          obtain ⟨k, hk, rfl, hb, hf⟩ := hrel
          have hcm := (HM.out.bel hb).cell
          have hcf := (HF.out.bel hb).cell
          have hff := (HF.out.bel hb).frz
          have hl1 : w.heap.size + 1 < wr.heap.size := (HF.out.bel hb).lt
          have hl0 : w.heap.size < wr.heap.size := by omega
          have HB := Lib.hid hb
          have HFF := Lib.hid hf
          clear hb hf
          by_cases hlt : k < n
          · obtain ⟨g, hu⟩ : ∃ g, m.guests[k]? = some g := ⟨_, List.getElem?_eq_getElem (by have := HL.out; omega)⟩
            have HU := Lib.hid hu
            clear hu
            go_wp2_with fail
            refine (guest m A n c k g _ (H.out.bel (HBW.out.trans HB.out)) HU.out hlt).mono ?_
            rintro e w1 ⟨rfl, hb1⟩
            have hcm1 := (HM.out.bel (HB.out.trans hb1)).cell
            have hcf1 := (HF.out.bel (HB.out.trans hb1)).cell
            have hff1 := (HF.out.bel (HB.out.trans hb1)).frz
            have hl11 : w.heap.size + 1 < w1.heap.size := (HF.out.bel (HB.out.trans hb1)).lt
            have HB1 := Lib.hid hb1
            clear hb1
            by_cases z : guestBad m.org m.round (m.guests.take k) g = 0
            · have Z := Lib.hid z
              have bz : (guestBad m.org m.round (m.guests.take k) g != 0) = false := by simp [z]
              clear z
              go_wp2
              go_roundw
              case rel => exact ⟨k + 1, hlt, by go_num, HB.out.trans HB1.out, by rw [HFF.out, drop_at HU.out, gfFrom, if_pos Z.out]⟩
              case measure => simp [intOf]; omega
            · have Z := Lib.hid z
              have bz : (guestBad m.org m.round (m.guests.take k) g != 0) = true := by simpa using z
              clear z
              go_wp2_with (go_at_call 40; refine (fault _ _ _).mono ?_; rintro e w' ⟨rfl, rfl⟩)
              refine bodyPost_ret (v := .agg #[.int .i64 (guestBad m.org m.round (m.guests.take k) g), .int .i64 k]) (by simp [results, Try.results30, go_sem, hcf1, hl11]) rfl ⟨ret_fault (by rw [E5.out, HFF.out, drop_at HU.out, gfFrom, if_neg Z.out]), ?_⟩
              (repeat (first | with_reducible refine Bel.setCell ?_ (by simp) _ | with_reducible refine Bel.alloc ?_ _)); exact (HBW.out.trans HB.out).trans HB1.out
          · go_wp2_with (go_at_call 42; refine (none_ _).mono ?_; rintro e w' ⟨rfl, rfl⟩)
            refine bodyPost_ret (v := .agg #[.int .i64 0, .int .i64 0]) (by simp [results, Try.results30, go_sem, hcf, hl1]) rfl ⟨ret_fault (by rw [E5.out, HFF.out, List.drop_of_length_le (by have := HL.out; omega)]; rfl), ?_⟩
            (repeat (first | with_reducible refine Bel.setCell ?_ (by simp) _ | with_reducible refine Bel.alloc ?_ _)); exact HBW.out.trans HB.out
end Go.Proofs.Ytgmjhnijnpfkgaa
