/- the reference: Instant, Proposable, GuestFault, GuestAt. -/
import Derived.Test.YtgmjhnijnpfkgaaValidate
namespace Go.Proofs.Ytgmjhnijnpfkgaa
open Go.RowKit

theorem instant (t : Int) (w : World) : Calls Try.prog 53 #[.int .i64 t] w fun e w' => e = .returned (.bool (timeB t)) ∧ w = w' := by
  go_enter Try.func53, Try.ntmps53
  go_wp2_with (go_at_call 26; refine (in_ _ _ _ _).mono ?_; rintro e w' ⟨rfl, rfl⟩)
  go_ret
  exact ⟨ret_bool (by simp [timeB]), rfl⟩

theorem proposable (f t : Int) (w : World) : Calls Try.prog 27 #[.agg #[.int .i64 f, .int .i64 t]] w fun e w' => e = .returned (.bool (possB f t)) ∧ w.alloc (.cells #[.int .i64 f, .int .i64 t] 38) = w' := by
  cases h1 : timeB f with
  | false =>
    go_enter Try.func27, Try.ntmps27
    go_wp2_with (go_at_call 53; refine (instant _ _).mono ?_; rintro e w' ⟨rfl, rfl⟩)
    go_ret
    exact ⟨ret_bool (by simp [possB, h1]), rfl⟩
  | true =>
    cases h2 : timeB t with
    | false =>
      go_enter Try.func27, Try.ntmps27
      go_wp2_with (go_at_call 53; refine (instant _ _).mono ?_; rintro e w' ⟨rfl, rfl⟩)
      go_ret
      exact ⟨ret_bool (by simp [possB, h2]), rfl⟩
    | true =>
      go_enter Try.func27, Try.ntmps27
      go_wp2_with (go_at_call 53; refine (instant _ _).mono ?_; rintro e w' ⟨rfl, rfl⟩)
      go_ret
      exact ⟨ret_bool (by simp [possB, h1, h2]), rfl⟩

/-- the code of a guest's fault, apart from ErrExists -/
def guestBad1 (round : Int) (g : Guest) : Int :=
  if namedB g.addr = false then 10 else if g.ans < 0 ∨ 3 < g.ans then 3
  else if (round = 0 ∧ g.ans ≠ 0) ∨ (g.ans = 3 ∧ possB g.of_ g.ot = false) ∨ (g.ans ≠ 3 ∧ ¬ (g.of_ = 0 ∧ g.ot = 0)) then 5 else 0
theorem guestBad_eq (org : ByteArray) (round : Int) (before : List Guest) (g : Guest) :
    guestBad org round before g = if guestBad1 round g ≠ 0 then guestBad1 round g else if (g.addr.toList == org.toList) || decide (0 ≤ gidx (fun x => x.addr.toList == g.addr.toList) 0 before) then 7 else 0 := by
  unfold guestBad guestBad1
  split
  · rfl
  split
  · rfl
  split <;> rfl
theorem named_in (s : ByteArray) (b : Bool) (h : namedB s = b) : decide ((1 : Int) ≤ (s.size : Int) ∧ (s.size : Int) ≤ 4000) = b := by
  rw [← h, namedB, Bool.eq_iff_iff]
  simp
  omega

set_option maxHeartbeats 1000000 in
theorem guestFault (g : Guest) (round : Int) (w : World) :
    Calls Try.prog 51 #[.agg #[.string g.addr, .int .i64 g.ans, .int .i64 g.of_, .int .i64 g.ot], .int .i64 round] w fun e w' => e = .returned (.int .i64 (guestBad1 round g)) ∧ Bel w w' := by
  cases k1 : namedB g.addr with
  | false =>
    have K1 := Lib.hid k1
    have kn := named_in _ _ k1
    go_enter Try.func51, Try.ntmps51
    go_wp2_with (first | (go_at_call 26; refine (in_ _ _ _ _).mono ?_; rintro e w' ⟨rfl, rfl⟩) | (go_at_call 27; refine (proposable _ _ _).mono ?_; rintro e w' ⟨rfl, rfl⟩))
    go_ret
    exact ⟨ret_int (by rw [guestBad1, if_pos K1.out]), (by (repeat (first | with_reducible refine Bel.alloc ?_ _)); exact Bel.refl _)⟩
  | true =>
    have K1 := Lib.hid k1
    have kn := named_in _ _ k1
    by_cases k2 : ¬ (0 ≤ g.ans ∧ g.ans ≤ 3)
    · have k2' : decide (0 ≤ g.ans ∧ g.ans ≤ 3) = false := by simpa using k2
      have k2'' : g.ans < 0 ∨ 3 < g.ans := by omega
      clear k2
      go_enter Try.func51, Try.ntmps51
      go_wp2_with (first | (go_at_call 26; refine (in_ _ _ _ _).mono ?_; rintro e w' ⟨rfl, rfl⟩) | (go_at_call 27; refine (proposable _ _ _).mono ?_; rintro e w' ⟨rfl, rfl⟩))
      go_ret
      exact ⟨ret_int (by rw [guestBad1, if_neg (by simp [K1.out]), if_pos (by omega)]), (by (repeat (first | with_reducible refine Bel.alloc ?_ _)); exact Bel.refl _)⟩
    have k2' : decide (0 ≤ g.ans ∧ g.ans ≤ 3) = true := by simpa using k2
    have k21 : 0 ≤ g.ans := by omega
    have k22 : g.ans ≤ 3 := by omega
    clear k2
    by_cases a3 : g.ans = 3
    · have A3 := Lib.hid a3
      have b3 : (g.ans == 3) = true := by simp [a3]
      have b3n : (g.ans != 3) = false := by simp [a3]
      clear a3
      by_cases r0 : round = 0
      · have R0 := Lib.hid r0
        have br : (round == 0) = true := by simp [r0]
        clear r0
        have b0 : (g.ans != 0) = true := by simp [A3.out]
        go_enter Try.func51, Try.ntmps51
        go_wp2_with (first | (go_at_call 26; refine (in_ _ _ _ _).mono ?_; rintro e w' ⟨rfl, rfl⟩) | (go_at_call 27; refine (proposable _ _ _).mono ?_; rintro e w' ⟨rfl, rfl⟩))
        go_ret
        exact ⟨ret_int (by rw [guestBad1, if_neg (by simp [K1.out]), if_neg (by omega), if_pos (by exact .inl ⟨R0.out, by rw [A3.out]; decide⟩)]), (by (repeat (first | with_reducible refine Bel.alloc ?_ _)); exact Bel.refl _)⟩
      · have R0 := Lib.hid r0
        have br : (round == 0) = false := by simp [r0]
        clear r0
        cases p1 : possB g.of_ g.ot with
        | false =>
          have P1 := Lib.hid p1
          go_enter Try.func51, Try.ntmps51
          go_wp2_with (first | (go_at_call 26; refine (in_ _ _ _ _).mono ?_; rintro e w' ⟨rfl, rfl⟩) | (go_at_call 27; refine (proposable _ _ _).mono ?_; rintro e w' ⟨rfl, rfl⟩))
          go_ret
          exact ⟨ret_int (by rw [guestBad1, if_neg (by simp [K1.out]), if_neg (by omega), if_pos (by exact .inr (.inl ⟨A3.out, P1.out⟩))]), (by (repeat (first | with_reducible refine Bel.alloc ?_ _)); exact Bel.refl _)⟩
        | true =>
          have P1 := Lib.hid p1
          go_enter Try.func51, Try.ntmps51
          go_wp2_with (first | (go_at_call 26; refine (in_ _ _ _ _).mono ?_; rintro e w' ⟨rfl, rfl⟩) | (go_at_call 27; refine (proposable _ _ _).mono ?_; rintro e w' ⟨rfl, rfl⟩))
          go_ret
          exact ⟨ret_int (by rw [guestBad1, if_neg (by simp [K1.out]), if_neg (by omega), if_neg (by rintro (⟨h, h'⟩ | ⟨h, h'⟩ | ⟨h, h'⟩); exact R0.out h; rw [P1.out] at h'; cases h'; exact h A3.out)]), (by (repeat (first | with_reducible refine Bel.alloc ?_ _)); exact Bel.refl _)⟩
    · have A3 := Lib.hid a3
      have b3 : (g.ans == 3) = false := by simp [a3]
      have b3n : (g.ans != 3) = true := by simp [a3]
      clear a3
      by_cases r0 : round = 0
      · have R0 := Lib.hid r0
        have br : (round == 0) = true := by simp [r0]
        clear r0
        by_cases a0 : g.ans = 0
        · have A0 := Lib.hid a0
          have b0 : (g.ans != 0) = false := by simp [a0]
          clear a0
          by_cases o1 : g.of_ = 0
          · have O1 := Lib.hid o1
            have bo1 : (g.of_ != 0) = false := by simp [o1]
            clear o1
            by_cases o2 : g.ot = 0
            · have O2 := Lib.hid o2
              have bo2 : (g.ot != 0) = false := by simp [o2]
              clear o2
              go_enter Try.func51, Try.ntmps51
              go_wp2_with (first | (go_at_call 26; refine (in_ _ _ _ _).mono ?_; rintro e w' ⟨rfl, rfl⟩) | (go_at_call 27; refine (proposable _ _ _).mono ?_; rintro e w' ⟨rfl, rfl⟩))
              go_ret
              exact ⟨ret_int (by rw [guestBad1, if_neg (by simp [K1.out]), if_neg (by omega), if_neg (by rintro (⟨h, h'⟩ | ⟨h, h'⟩ | ⟨h, h'⟩); exact h' A0.out; exact A3.out h; exact h' ⟨O1.out, O2.out⟩)]), (by (repeat (first | with_reducible refine Bel.alloc ?_ _)); exact Bel.refl _)⟩
            · have O2 := Lib.hid o2
              have bo2 : (g.ot != 0) = true := by simp [o2]
              clear o2
              go_enter Try.func51, Try.ntmps51
              go_wp2_with (first | (go_at_call 26; refine (in_ _ _ _ _).mono ?_; rintro e w' ⟨rfl, rfl⟩) | (go_at_call 27; refine (proposable _ _ _).mono ?_; rintro e w' ⟨rfl, rfl⟩))
              go_ret
              exact ⟨ret_int (by rw [guestBad1, if_neg (by simp [K1.out]), if_neg (by omega), if_pos (by exact .inr (.inr ⟨A3.out, fun h => O2.out h.2⟩))]), (by (repeat (first | with_reducible refine Bel.alloc ?_ _)); exact Bel.refl _)⟩
          · have O1 := Lib.hid o1
            have bo1 : (g.of_ != 0) = true := by simp [o1]
            clear o1
            go_enter Try.func51, Try.ntmps51
            go_wp2_with (first | (go_at_call 26; refine (in_ _ _ _ _).mono ?_; rintro e w' ⟨rfl, rfl⟩) | (go_at_call 27; refine (proposable _ _ _).mono ?_; rintro e w' ⟨rfl, rfl⟩))
            go_ret
            exact ⟨ret_int (by rw [guestBad1, if_neg (by simp [K1.out]), if_neg (by omega), if_pos (by exact .inr (.inr ⟨A3.out, fun h => O1.out h.1⟩))]), (by (repeat (first | with_reducible refine Bel.alloc ?_ _)); exact Bel.refl _)⟩
        · have A0 := Lib.hid a0
          have b0 : (g.ans != 0) = true := by simp [a0]
          clear a0
          go_enter Try.func51, Try.ntmps51
          go_wp2_with (first | (go_at_call 26; refine (in_ _ _ _ _).mono ?_; rintro e w' ⟨rfl, rfl⟩) | (go_at_call 27; refine (proposable _ _ _).mono ?_; rintro e w' ⟨rfl, rfl⟩))
          go_ret
          exact ⟨ret_int (by rw [guestBad1, if_neg (by simp [K1.out]), if_neg (by omega), if_pos (by exact .inl ⟨R0.out, A0.out⟩)]), (by (repeat (first | with_reducible refine Bel.alloc ?_ _)); exact Bel.refl _)⟩
      · have R0 := Lib.hid r0
        have br : (round == 0) = false := by simp [r0]
        clear r0
        by_cases o1 : g.of_ = 0
        · have O1 := Lib.hid o1
          have bo1 : (g.of_ != 0) = false := by simp [o1]
          clear o1
          by_cases o2 : g.ot = 0
          · have O2 := Lib.hid o2
            have bo2 : (g.ot != 0) = false := by simp [o2]
            clear o2
            go_enter Try.func51, Try.ntmps51
            go_wp2_with (first | (go_at_call 26; refine (in_ _ _ _ _).mono ?_; rintro e w' ⟨rfl, rfl⟩) | (go_at_call 27; refine (proposable _ _ _).mono ?_; rintro e w' ⟨rfl, rfl⟩))
            go_ret
            exact ⟨ret_int (by rw [guestBad1, if_neg (by simp [K1.out]), if_neg (by omega), if_neg (by rintro (⟨h, h'⟩ | ⟨h, h'⟩ | ⟨h, h'⟩); exact R0.out h; exact A3.out h; exact h' ⟨O1.out, O2.out⟩)]), (by (repeat (first | with_reducible refine Bel.alloc ?_ _)); exact Bel.refl _)⟩
          · have O2 := Lib.hid o2
            have bo2 : (g.ot != 0) = true := by simp [o2]
            clear o2
            go_enter Try.func51, Try.ntmps51
            go_wp2_with (first | (go_at_call 26; refine (in_ _ _ _ _).mono ?_; rintro e w' ⟨rfl, rfl⟩) | (go_at_call 27; refine (proposable _ _ _).mono ?_; rintro e w' ⟨rfl, rfl⟩))
            go_ret
            exact ⟨ret_int (by rw [guestBad1, if_neg (by simp [K1.out]), if_neg (by omega), if_pos (by exact .inr (.inr ⟨A3.out, fun h => O2.out h.2⟩))]), (by (repeat (first | with_reducible refine Bel.alloc ?_ _)); exact Bel.refl _)⟩
        · have O1 := Lib.hid o1
          have bo1 : (g.of_ != 0) = true := by simp [o1]
          clear o1
          go_enter Try.func51, Try.ntmps51
          go_wp2_with (first | (go_at_call 26; refine (in_ _ _ _ _).mono ?_; rintro e w' ⟨rfl, rfl⟩) | (go_at_call 27; refine (proposable _ _ _).mono ?_; rintro e w' ⟨rfl, rfl⟩))
          go_ret
          exact ⟨ret_int (by rw [guestBad1, if_neg (by simp [K1.out]), if_neg (by omega), if_pos (by exact .inr (.inr ⟨A3.out, fun h => O1.out h.1⟩))]), (by (repeat (first | with_reducible refine Bel.alloc ?_ _)); exact Bel.refl _)⟩

def GatRel (l : List Guest) (s : ByteArray) (n : Nat) (i : Value) : Prop := ∃ k : Nat, k ≤ n ∧ i = .int .i64 k ∧ gidx (fun x => x.addr.toList == s.toList) 0 l = gidx (fun x => x.addr.toList == s.toList) k (l.drop k)
set_option maxHeartbeats 400000 in
theorem guestAt (A : Option Addr) (n c : Nat) (l : List Guest) (s : ByteArray) (w : World) (h : Rd w 4 A n c (l.flatMap Guest.cells)) :
    Calls Try.prog 24 #[.slice A n c, .string s] w fun e w' => e = .returned (.int .i64 (gidx (fun x => x.addr.toList == s.toList) 0 l)) ∧ w = w' := by
  have hn := h.le
  have hm := h.cap
  have HL := Lib.hid (h.count (fun _ => rfl) (by decide))
  have H := Lib.hid h
  clear h
  go_enter Try.func24, Try.ntmps24
  go_wp2
  go_loop [5] (GatRel l s n) (fun i => n - (intOf i).toNat)
  case atStart => exact ⟨0, Nat.zero_le _, rfl, rfl⟩
  case round =>
    obtain ⟨k, hk, rfl, hf⟩ := hrel
    have HF := Lib.hid hf
    clear hf
    by_cases hlt : k < n
    · obtain ⟨b, off, g, rfl, hlb, hu, hc⟩ := H.out.elem (fun _ => rfl) (by decide) hlt
      have hc0 : w.cell? ⟨b, off + k * 4, none⟩ = some (.string g.addr) := hc 0 _ rfl
      have HU := Lib.hid hu
      clear hc hu
      go_wp2
      · go_ret
        exact ⟨ret_int (by rw [HF.out, drop_at HU.out, gidx, if_pos (by assumption)]), rfl⟩
      · go_round
        case rel => exact ⟨k + 1, hlt, by go_num, by rw [HF.out, drop_at HU.out, gidx, if_neg (by simp [*])]⟩
        case measure => simp [intOf]; omega
    · go_wp2
      go_ret
      refine ⟨ret_int ?_, rfl⟩
      rw [HF.out, List.drop_of_length_le (by have := HL.out; omega)]
      rfl
end Go.Proofs.Ytgmjhnijnpfkgaa
