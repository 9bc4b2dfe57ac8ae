/- meeting.guest, meeting.Validate. -/
import Derived.Test.YtgmjhnijnpfkgaaMeet
namespace Go.Proofs.Ytgmjhnijnpfkgaa
open Go.RowKit

/-- the closure that compares addresses: its pointer leads to the guest g -/
theorem guest1_tells (q : Nat) (g : Guest) (w : World) (hq : Blk w q 48 #[.string g.addr, .int .i64 g.ans, .int .i64 g.of_, .int .i64 g.ot]) :
    Tells 71 #[.pointer (some ⟨q, 0, none⟩)] (fun x => x.addr.toList == g.addr.toList) w := by
  refine ⟨fun args w => by kernel_rfl, fun x wr hb => ?_⟩
  have hc := (hq.bel hb).cell
  have hl : q < wr.heap.size := (hq.bel hb).lt
  clear hq
  have HB := Lib.hid hb
  clear hb
  go_enter Try.func71, Try.ntmps71
  go_wp2
  go_ret
  exact ⟨rfl, (Bel.refl _).alloc _⟩

/-- the code of a guest's fault -/
def guestBad (org : ByteArray) (round : Int) (before : List Guest) (g : Guest) : Int :=
  if namedB g.addr = false then 10 else if g.ans < 0 ∨ 3 < g.ans then 3
  else if (round = 0 ∧ g.ans ≠ 0) ∨ (g.ans = 3 ∧ possB g.of_ g.ot = false) ∨ (g.ans ≠ 3 ∧ ¬ (g.of_ = 0 ∧ g.ot = 0)) then 5
  else if (g.addr.toList == org.toList) || decide (0 ≤ gidx (fun x => x.addr.toList == g.addr.toList) 0 before) then 7 else 0

structure Mtg where
  org : ByteArray
  guests : List Guest
  round : Int
  pf : Int
  pt : Int
  can : Bool
/-- a meeting's cells, its guests at a slice -/
abbrev mval (m : Mtg) (A : Option Addr) (n c : Nat) : Array Value := #[.string m.org, .slice A n c, .int .i64 m.round, .int .i64 m.pf, .int .i64 m.pt, .bool m.can]

theorem Rd.gtake {w : World} {A : Option Addr} {n c k : Nat} {l : List Guest} (h : Rd w 4 A n c (l.flatMap Guest.cells)) (hk : k ≤ n) : Rd w 4 A k c ((l.take k).flatMap Guest.cells) := by
  have hl := h.count (fun _ => rfl) (by decide)
  have e : (l.take k).flatMap Guest.cells = (l.flatMap Guest.cells).take (k * 4) := by
    clear h
    induction l generalizing k n with
    | nil => simp
    | cons g l ih =>
      cases k with
      | zero => simp
      | succ k =>
        simp only [List.take_succ_cons, List.flatMap_cons]
        rw [ih (n := l.length) (k := k) (by simp at hl; omega) rfl]
        have : (k + 1) * 4 = (Guest.cells g).length + k * 4 := by simp [Guest.cells]; omega
        rw [this, List.take_length_add_append]
  rw [e]
  refine ⟨by rw [List.length_take, h.1]; omega, Nat.le_trans hk h.le, h.2.2.1, fun u hu => h.2.2.2.1 u (List.mem_of_mem_take hu), fun h0 => ?_⟩
  obtain ⟨b, off, e, hlt, hc⟩ := h.place (by omega)
  refine ⟨b, off, e, hlt, fun j u hu => hc j u ?_⟩
  rw [List.getElem?_take] at hu
  split at hu
  · exact hu
  · cases hu

set_option maxHeartbeats 1000000 in
theorem guest (m : Mtg) (A : Option Addr) (n c i : Nat) (g : Guest) (w : World) (h : Rd w 4 A n c (m.guests.flatMap Guest.cells)) (hi : m.guests[i]? = some g) (hin : i < n) :
    Calls Try.prog 57 #[.agg (mval m A n c), .int .i64 i] w fun e w' => e = .returned (.int .i64 (guestBad m.org m.round (m.guests.take i) g)) ∧ Bel w w' := by
  have hn := h.le
  have hm := h.cap
  have H := Lib.hid h
  have HI := Lib.hid hi
  obtain ⟨b, off, g', rfl, hlb, hu, hc⟩ := h.elem (fun _ => rfl) (by decide) hin
  rw [hi] at hu
  injection hu with hu
  subst hu
  have hc0 : w.cell? ⟨b, off + i * 4, none⟩ = some (.string g.addr) := hc 0 _ rfl
  have hc1 : w.cell? ⟨b, off + i * 4 + 1, none⟩ = some (.int .i64 g.ans) := hc 1 _ rfl
  have hc2 : w.cell? ⟨b, off + i * 4 + 2, none⟩ = some (.int .i64 g.of_) := hc 2 _ rfl
  have hc3 : w.cell? ⟨b, off + i * 4 + 3, none⟩ = some (.int .i64 g.ot) := hc 3 _ rfl
  clear hc h hi
  cases k1 : namedB g.addr with
  | false =>
    have K1 := Lib.hid k1
    go_enter Try.func57, Try.ntmps57
    go_wp2_with (go_at_call 56; refine (named _ _).mono ?_; rintro e w' ⟨rfl, rfl⟩)
    go_ret
    exact ⟨ret_int (by simp [guestBad, K1.out]), ((Bel.refl _).alloc _).alloc _⟩
  | true =>
    have K1 := Lib.hid k1
    by_cases k2 : g.ans < 0
    · go_enter Try.func57, Try.ntmps57
      go_wp2_with (go_at_call 56; refine (named _ _).mono ?_; rintro e w' ⟨rfl, rfl⟩)
      go_ret
      exact ⟨ret_int (by simp [guestBad, K1.out, k2]), ((Bel.refl _).alloc _).alloc _⟩
    have k2' : decide (g.ans < 0) = false := by simpa using k2
    by_cases k3 : 3 < g.ans
    · go_enter Try.func57, Try.ntmps57
      go_wp2_with (go_at_call 56; refine (named _ _).mono ?_; rintro e w' ⟨rfl, rfl⟩)
      go_ret
      exact ⟨ret_int (by simp [guestBad, K1.out, k3]), ((Bel.refl _).alloc _).alloc _⟩
    have k3' : decide (3 < g.ans) = false := by simpa using k3
    by_cases a3 : g.ans = 3
    · have A3 := Lib.hid a3
      have b3 : (g.ans == 3) = true := by simp [a3]
      clear a3
      by_cases r0 : m.round = 0
      · have R0 := Lib.hid r0
        have br : (m.round == 0) = true := by simp [r0]
        clear r0
        have b0 : (g.ans != 0) = true := by simp [A3.out]
        go_enter Try.func57, Try.ntmps57
        go_wp2_with (first | (go_at_call 56; refine (named _ _).mono ?_; rintro e w' ⟨rfl, rfl⟩) | (go_at_call 47; refine (possible _ _ _).mono ?_; rintro e w' ⟨rfl, rfl⟩))
        go_ret
        exact ⟨ret_int (by rw [guestBad, if_neg (by simp [K1.out]), if_neg (by omega), if_pos (by exact .inl ⟨R0.out, by rw [A3.out]; decide⟩)]), (by (repeat (first | with_reducible refine Bel.alloc ?_ _)); exact Bel.refl _)⟩
      · have R0 := Lib.hid r0
        have br : (m.round == 0) = false := by simp [r0]
        clear r0
        cases p1 : possB g.of_ g.ot with
        | false =>
          have P1 := Lib.hid p1
          go_enter Try.func57, Try.ntmps57
          go_wp2_with (first | (go_at_call 56; refine (named _ _).mono ?_; rintro e w' ⟨rfl, rfl⟩) | (go_at_call 47; refine (possible _ _ _).mono ?_; rintro e w' ⟨rfl, rfl⟩))
          go_ret
          exact ⟨ret_int (by rw [guestBad, if_neg (by simp [K1.out]), if_neg (by omega), if_pos (by exact .inr (.inl ⟨A3.out, P1.out⟩))]), (by (repeat (first | with_reducible refine Bel.alloc ?_ _)); exact Bel.refl _)⟩
        | true =>
          have P1 := Lib.hid p1
          cases k9 : (g.addr.toList == m.org.toList) with
          | true =>
            have K9 := Lib.hid k9
            go_enter Try.func57, Try.ntmps57
            go_wp2_with (first | (go_at_call 56; refine (named _ _).mono ?_; rintro e w' ⟨rfl, rfl⟩) | (go_at_call 47; refine (possible _ _ _).mono ?_; rintro e w' ⟨rfl, rfl⟩))
            go_ret
            exact ⟨ret_int (by rw [guestBad, if_neg (by simp [K1.out]), if_neg (by omega), if_neg (by rintro (⟨h, h'⟩ | ⟨h, h'⟩ | ⟨h, h'⟩); exact R0.out h; rw [P1.out] at h'; cases h'; exact h A3.out), if_pos (by simp [K9.out])]), (by (repeat (first | with_reducible refine Bel.alloc ?_ _)); exact Bel.refl _)⟩
          | false =>
            have K9 := Lib.hid k9
            cases k10 : decide (0 ≤ gidx (fun x => x.addr.toList == g.addr.toList) 0 (m.guests.take i)) with
            | true =>
              have K10 := Lib.hid k10
              have k10' : 0 ≤ gidx (fun x => x.addr.toList == g.addr.toList) 0 (m.guests.take i) := by simpa using k10
              go_enter Try.func57, Try.ntmps57
              go_wp2_with (first | (go_at_call 56; refine (named _ _).mono ?_; rintro e w' ⟨rfl, rfl⟩) | (go_at_call 47; refine (possible _ _ _).mono ?_; rintro e w' ⟨rfl, rfl⟩))
              refine (contFunc 71 _ (fun x => x.addr.toList == g.addr.toList) _ _ _ (m.guests.take i) _ ((H.out.gtake (Nat.le_of_lt hin)).bel (w' := _) ?_) (guest1_tells _ g _ ?_)).mono ?_
              · (repeat (first | with_reducible refine Bel.alloc ?_ _)); exact Bel.refl _
              · exact (Blk.new' _ _ (by simp)).alloc _
              rintro e w' ⟨rfl, hb⟩
              have HB := Lib.hid hb
              clear hb
              go_wp2
              go_ret
              exact ⟨ret_int (by rw [guestBad, if_neg (by simp [K1.out]), if_neg (by omega), if_neg (by rintro (⟨h, h'⟩ | ⟨h, h'⟩ | ⟨h, h'⟩); exact R0.out h; rw [P1.out] at h'; cases h'; exact h A3.out), if_pos (by simp [K10.out])]), Bel.trans (by (repeat (first | with_reducible refine Bel.alloc ?_ _)); exact Bel.refl _) HB.out⟩
            | false =>
              have K10 := Lib.hid k10
              have k10' : gidx (fun x => x.addr.toList == g.addr.toList) 0 (m.guests.take i) < 0 := by simpa using k10
              go_enter Try.func57, Try.ntmps57
              go_wp2_with (first | (go_at_call 56; refine (named _ _).mono ?_; rintro e w' ⟨rfl, rfl⟩) | (go_at_call 47; refine (possible _ _ _).mono ?_; rintro e w' ⟨rfl, rfl⟩))
              refine (contFunc 71 _ (fun x => x.addr.toList == g.addr.toList) _ _ _ (m.guests.take i) _ ((H.out.gtake (Nat.le_of_lt hin)).bel (w' := _) ?_) (guest1_tells _ g _ ?_)).mono ?_
              · (repeat (first | with_reducible refine Bel.alloc ?_ _)); exact Bel.refl _
              · exact (Blk.new' _ _ (by simp)).alloc _
              rintro e w' ⟨rfl, hb⟩
              have HB := Lib.hid hb
              clear hb
              go_wp2
              go_ret
              exact ⟨ret_int (by rw [guestBad, if_neg (by simp [K1.out]), if_neg (by omega), if_neg (by rintro (⟨h, h'⟩ | ⟨h, h'⟩ | ⟨h, h'⟩); exact R0.out h; rw [P1.out] at h'; cases h'; exact h A3.out), if_neg (by simp [K9.out, K10.out])]), Bel.trans (by (repeat (first | with_reducible refine Bel.alloc ?_ _)); exact Bel.refl _) HB.out⟩
    · have A3 := Lib.hid a3
      have b3 : (g.ans == 3) = false := by simp [a3]
      clear a3
      by_cases r0 : m.round = 0
      · have R0 := Lib.hid r0
        have br : (m.round == 0) = true := by simp [r0]
        clear r0
        by_cases a0 : g.ans = 0
        · have A0 := Lib.hid a0
          have b0 : (g.ans != 0) = false := by simp [a0]
          have b0e : (g.ans == 0) = true := by simp [a0]
          clear a0
          by_cases o1 : g.of_ = 0
          · have O1 := Lib.hid o1
            have bo1 : (g.of_ == 0) = true := by simp [o1]
            clear o1
            by_cases o2 : g.ot = 0
            · have O2 := Lib.hid o2
              have bo2 : (g.ot == 0) = true := by simp [o2]
              clear o2
              cases k9 : (g.addr.toList == m.org.toList) with
              | true =>
                have K9 := Lib.hid k9
                go_enter Try.func57, Try.ntmps57
                go_wp2_with (first | (go_at_call 56; refine (named _ _).mono ?_; rintro e w' ⟨rfl, rfl⟩) | (go_at_call 47; refine (possible _ _ _).mono ?_; rintro e w' ⟨rfl, rfl⟩))
                go_ret
                exact ⟨ret_int (by rw [guestBad, if_neg (by simp [K1.out]), if_neg (by omega), if_neg (by rintro (⟨h, h'⟩ | ⟨h, h'⟩ | ⟨h, h'⟩); exact h' A0.out; exact A3.out h; exact h' ⟨O1.out, O2.out⟩), if_pos (by simp [K9.out])]), (by (repeat (first | with_reducible refine Bel.alloc ?_ _)); exact Bel.refl _)⟩
              | false =>
                have K9 := Lib.hid k9
                cases k10 : decide (0 ≤ gidx (fun x => x.addr.toList == g.addr.toList) 0 (m.guests.take i)) with
                | true =>
                  have K10 := Lib.hid k10
                  have k10' : 0 ≤ gidx (fun x => x.addr.toList == g.addr.toList) 0 (m.guests.take i) := by simpa using k10
                  go_enter Try.func57, Try.ntmps57
                  go_wp2_with (first | (go_at_call 56; refine (named _ _).mono ?_; rintro e w' ⟨rfl, rfl⟩) | (go_at_call 47; refine (possible _ _ _).mono ?_; rintro e w' ⟨rfl, rfl⟩))
                  refine (contFunc 71 _ (fun x => x.addr.toList == g.addr.toList) _ _ _ (m.guests.take i) _ ((H.out.gtake (Nat.le_of_lt hin)).bel (w' := _) ?_) (guest1_tells _ g _ ?_)).mono ?_
                  · (repeat (first | with_reducible refine Bel.alloc ?_ _)); exact Bel.refl _
                  · exact Blk.new' _ _ (by simp)
                  rintro e w' ⟨rfl, hb⟩
                  have HB := Lib.hid hb
                  clear hb
                  go_wp2
                  go_ret
                  exact ⟨ret_int (by rw [guestBad, if_neg (by simp [K1.out]), if_neg (by omega), if_neg (by rintro (⟨h, h'⟩ | ⟨h, h'⟩ | ⟨h, h'⟩); exact h' A0.out; exact A3.out h; exact h' ⟨O1.out, O2.out⟩), if_pos (by simp [K10.out])]), Bel.trans (by (repeat (first | with_reducible refine Bel.alloc ?_ _)); exact Bel.refl _) HB.out⟩
                | false =>
                  have K10 := Lib.hid k10
                  have k10' : gidx (fun x => x.addr.toList == g.addr.toList) 0 (m.guests.take i) < 0 := by simpa using k10
                  go_enter Try.func57, Try.ntmps57
                  go_wp2_with (first | (go_at_call 56; refine (named _ _).mono ?_; rintro e w' ⟨rfl, rfl⟩) | (go_at_call 47; refine (possible _ _ _).mono ?_; rintro e w' ⟨rfl, rfl⟩))
                  refine (contFunc 71 _ (fun x => x.addr.toList == g.addr.toList) _ _ _ (m.guests.take i) _ ((H.out.gtake (Nat.le_of_lt hin)).bel (w' := _) ?_) (guest1_tells _ g _ ?_)).mono ?_
                  · (repeat (first | with_reducible refine Bel.alloc ?_ _)); exact Bel.refl _
                  · exact Blk.new' _ _ (by simp)
                  rintro e w' ⟨rfl, hb⟩
                  have HB := Lib.hid hb
                  clear hb
                  go_wp2
                  go_ret
                  exact ⟨ret_int (by rw [guestBad, if_neg (by simp [K1.out]), if_neg (by omega), if_neg (by rintro (⟨h, h'⟩ | ⟨h, h'⟩ | ⟨h, h'⟩); exact h' A0.out; exact A3.out h; exact h' ⟨O1.out, O2.out⟩), if_neg (by simp [K9.out, K10.out])]), Bel.trans (by (repeat (first | with_reducible refine Bel.alloc ?_ _)); exact Bel.refl _) HB.out⟩
            · have O2 := Lib.hid o2
              have bo2 : (g.ot == 0) = false := by simp [o2]
              clear o2
              go_enter Try.func57, Try.ntmps57
              go_wp2_with (first | (go_at_call 56; refine (named _ _).mono ?_; rintro e w' ⟨rfl, rfl⟩) | (go_at_call 47; refine (possible _ _ _).mono ?_; rintro e w' ⟨rfl, rfl⟩))
              go_ret
              exact ⟨ret_int (by rw [guestBad, if_neg (by simp [K1.out]), if_neg (by omega), if_pos (by exact .inr (.inr ⟨A3.out, fun h => O2.out h.2⟩))]), (by (repeat (first | with_reducible refine Bel.alloc ?_ _)); exact Bel.refl _)⟩
          · have O1 := Lib.hid o1
            have bo1 : (g.of_ == 0) = false := by simp [o1]
            clear o1
            go_enter Try.func57, Try.ntmps57
            go_wp2_with (first | (go_at_call 56; refine (named _ _).mono ?_; rintro e w' ⟨rfl, rfl⟩) | (go_at_call 47; refine (possible _ _ _).mono ?_; rintro e w' ⟨rfl, rfl⟩))
            go_ret
            exact ⟨ret_int (by rw [guestBad, if_neg (by simp [K1.out]), if_neg (by omega), if_pos (by exact .inr (.inr ⟨A3.out, fun h => O1.out h.1⟩))]), (by (repeat (first | with_reducible refine Bel.alloc ?_ _)); exact Bel.refl _)⟩
        · have A0 := Lib.hid a0
          have b0 : (g.ans != 0) = true := by simp [a0]
          have b0e : (g.ans == 0) = false := by simp [a0]
          clear a0
          go_enter Try.func57, Try.ntmps57
          go_wp2_with (first | (go_at_call 56; refine (named _ _).mono ?_; rintro e w' ⟨rfl, rfl⟩) | (go_at_call 47; refine (possible _ _ _).mono ?_; rintro e w' ⟨rfl, rfl⟩))
          go_ret
          exact ⟨ret_int (by rw [guestBad, if_neg (by simp [K1.out]), if_neg (by omega), if_pos (by exact .inl ⟨R0.out, A0.out⟩)]), (by (repeat (first | with_reducible refine Bel.alloc ?_ _)); exact Bel.refl _)⟩
      · have R0 := Lib.hid r0
        have br : (m.round == 0) = false := by simp [r0]
        clear r0
        by_cases o1 : g.of_ = 0
        · have O1 := Lib.hid o1
          have bo1 : (g.of_ == 0) = true := by simp [o1]
          clear o1
          by_cases o2 : g.ot = 0
          · have O2 := Lib.hid o2
            have bo2 : (g.ot == 0) = true := by simp [o2]
            clear o2
            cases k9 : (g.addr.toList == m.org.toList) with
            | true =>
              have K9 := Lib.hid k9
              go_enter Try.func57, Try.ntmps57
              go_wp2_with (first | (go_at_call 56; refine (named _ _).mono ?_; rintro e w' ⟨rfl, rfl⟩) | (go_at_call 47; refine (possible _ _ _).mono ?_; rintro e w' ⟨rfl, rfl⟩))
              go_ret
              exact ⟨ret_int (by rw [guestBad, if_neg (by simp [K1.out]), if_neg (by omega), if_neg (by rintro (⟨h, h'⟩ | ⟨h, h'⟩ | ⟨h, h'⟩); exact R0.out h; exact A3.out h; exact h' ⟨O1.out, O2.out⟩), if_pos (by simp [K9.out])]), (by (repeat (first | with_reducible refine Bel.alloc ?_ _)); exact Bel.refl _)⟩
            | false =>
              have K9 := Lib.hid k9
              cases k10 : decide (0 ≤ gidx (fun x => x.addr.toList == g.addr.toList) 0 (m.guests.take i)) with
              | true =>
                have K10 := Lib.hid k10
                have k10' : 0 ≤ gidx (fun x => x.addr.toList == g.addr.toList) 0 (m.guests.take i) := by simpa using k10
                go_enter Try.func57, Try.ntmps57
                go_wp2_with (first | (go_at_call 56; refine (named _ _).mono ?_; rintro e w' ⟨rfl, rfl⟩) | (go_at_call 47; refine (possible _ _ _).mono ?_; rintro e w' ⟨rfl, rfl⟩))
                refine (contFunc 71 _ (fun x => x.addr.toList == g.addr.toList) _ _ _ (m.guests.take i) _ ((H.out.gtake (Nat.le_of_lt hin)).bel (w' := _) ?_) (guest1_tells _ g _ ?_)).mono ?_
                · (repeat (first | with_reducible refine Bel.alloc ?_ _)); exact Bel.refl _
                · exact Blk.new' _ _ (by simp)
                rintro e w' ⟨rfl, hb⟩
                have HB := Lib.hid hb
                clear hb
                go_wp2
                go_ret
                exact ⟨ret_int (by rw [guestBad, if_neg (by simp [K1.out]), if_neg (by omega), if_neg (by rintro (⟨h, h'⟩ | ⟨h, h'⟩ | ⟨h, h'⟩); exact R0.out h; exact A3.out h; exact h' ⟨O1.out, O2.out⟩), if_pos (by simp [K10.out])]), Bel.trans (by (repeat (first | with_reducible refine Bel.alloc ?_ _)); exact Bel.refl _) HB.out⟩
              | false =>
                have K10 := Lib.hid k10
                have k10' : gidx (fun x => x.addr.toList == g.addr.toList) 0 (m.guests.take i) < 0 := by simpa using k10
                go_enter Try.func57, Try.ntmps57
                go_wp2_with (first | (go_at_call 56; refine (named _ _).mono ?_; rintro e w' ⟨rfl, rfl⟩) | (go_at_call 47; refine (possible _ _ _).mono ?_; rintro e w' ⟨rfl, rfl⟩))
                refine (contFunc 71 _ (fun x => x.addr.toList == g.addr.toList) _ _ _ (m.guests.take i) _ ((H.out.gtake (Nat.le_of_lt hin)).bel (w' := _) ?_) (guest1_tells _ g _ ?_)).mono ?_
                · (repeat (first | with_reducible refine Bel.alloc ?_ _)); exact Bel.refl _
                · exact Blk.new' _ _ (by simp)
                rintro e w' ⟨rfl, hb⟩
                have HB := Lib.hid hb
                clear hb
                go_wp2
                go_ret
                exact ⟨ret_int (by rw [guestBad, if_neg (by simp [K1.out]), if_neg (by omega), if_neg (by rintro (⟨h, h'⟩ | ⟨h, h'⟩ | ⟨h, h'⟩); exact R0.out h; exact A3.out h; exact h' ⟨O1.out, O2.out⟩), if_neg (by simp [K9.out, K10.out])]), Bel.trans (by (repeat (first | with_reducible refine Bel.alloc ?_ _)); exact Bel.refl _) HB.out⟩
          · have O2 := Lib.hid o2
            have bo2 : (g.ot == 0) = false := by simp [o2]
            clear o2
            go_enter Try.func57, Try.ntmps57
            go_wp2_with (first | (go_at_call 56; refine (named _ _).mono ?_; rintro e w' ⟨rfl, rfl⟩) | (go_at_call 47; refine (possible _ _ _).mono ?_; rintro e w' ⟨rfl, rfl⟩))
            go_ret
            exact ⟨ret_int (by rw [guestBad, if_neg (by simp [K1.out]), if_neg (by omega), if_pos (by exact .inr (.inr ⟨A3.out, fun h => O2.out h.2⟩))]), (by (repeat (first | with_reducible refine Bel.alloc ?_ _)); exact Bel.refl _)⟩
        · have O1 := Lib.hid o1
          have bo1 : (g.of_ == 0) = false := by simp [o1]
          clear o1
          go_enter Try.func57, Try.ntmps57
          go_wp2_with (first | (go_at_call 56; refine (named _ _).mono ?_; rintro e w' ⟨rfl, rfl⟩) | (go_at_call 47; refine (possible _ _ _).mono ?_; rintro e w' ⟨rfl, rfl⟩))
          go_ret
          exact ⟨ret_int (by rw [guestBad, if_neg (by simp [K1.out]), if_neg (by omega), if_pos (by exact .inr (.inr ⟨A3.out, fun h => O1.out h.1⟩))]), (by (repeat (first | with_reducible refine Bel.alloc ?_ _)); exact Bel.refl _)⟩
end Go.Proofs.Ytgmjhnijnpfkgaa
