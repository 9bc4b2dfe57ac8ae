/- For every meeting, answer and period, MeetingAnswerMatchesSpec returns true and leaves its arguments alone. -/
import Derived.Test.YtgmjhnijnpfkgaaAgreed
import Derived.Test.YtgmjhnijnpfkgaaMeetFault
import Derived.Test.YtgmjhnijnpfkgaaMeetRef2
namespace Go.Proofs.Ytgmjhnijnpfkgaa
open Go.RowKit

theorem answer' (m : Mtg) (who : ByteArray) (ans f t : Int) (m1 : Mtg) (c1 i1 : Int) (A : Option Addr) (n c : Nat) (w : World) (h : Rd w 4 A n c (m.guests.flatMap Guest.cells)) (hf : answerOf m who ans f t = (m1, c1, i1)) :
    Calls Try.prog 19 #[.agg (mval m A n c), .string who, .int .i64 ans, .agg #[.int .i64 f, .int .i64 t]] w (MFPost (m1, c1, i1) w) := by
  rw [← hf]; exact answer m who ans f t A n c w h
theorem agreedX' (m : Mtg) (b : Bool) (c1 i1 : Int) (A : Option Addr) (n c : Nat) (w : World) (h : Rd w 4 A n c (m.guests.flatMap Guest.cells)) (hf : agRes m = (b, c1, i1)) :
    Calls Try.prog 20 #[.agg (mval m A n c)] w (AgPost (b, c1, i1) w) := by
  rw [← hf]; exact agreedX m A n c w h
theorem meetingFault' (m : Mtg) (A : Option Addr) (n c : Nat) (fc fi : Int) (w : World) (h : Rd w 4 A n c (m.guests.flatMap Guest.cells)) (hf : mtgFault m = (fc, fi)) :
    Calls Try.prog 21 #[.agg (mval m A n c)] w fun e w' => e = .returned (.agg #[.int .i64 fc, .int .i64 fi]) ∧ Bel w w' := by
  have := meetingFault m A n c w h
  rw [hf] at this
  exact this

set_option maxHeartbeats 2000000 in
set_option maxRecDepth 100000 in
theorem ansA (m : Mtg) (who : ByteArray) (ans f t : Int) (fc fi : Int) (A : Option Addr) (n c : Nat) (w : World) (h : Rd w 4 A n c (m.guests.flatMap Guest.cells)) (h1 : answerOf m who ans f t = (Mtg.zero, fc, fi)) (h2 : agRes m = (false, fc, fi)) (h3 : mtgFault m = (fc, fi)) (hz : fc ≠ 0) :
    Calls Try.prog 6 #[.agg (mval m A n c), .string who, .int .i64 ans, .agg #[.int .i64 f, .int .i64 t]] w fun e w' => e = .returned (.bool true) ∧ Bel w w' := by
  have bz : (fc == 0) = false := by simpa using hz
  have bz' : (fc != 0) = true := by simpa using hz
  clear hz
  have H := Lib.hid h
  have HH1 := Lib.hid h1
  have HH2 := Lib.hid h2
  have HH3 := Lib.hid h3
  clear h h1 h2 h3
  go_enter Try.func6, Try.ntmps6
  go_wp2_with fail
  refine (answer' m who ans f t Mtg.zero fc fi A n c _ (H.out.bel (((Bel.refl _).alloc _).alloc _)) HH1.out).mono ?_
  rintro e w1 ⟨A1, n1, d1, rfl, hrd1, hb1, hq1⟩
  clear hq1
  have M1 := Lib.hid ((show Blk ((w.alloc (.cells (mval m A n c) 40)).alloc (.cells #[.int .i64 f, .int .i64 t] 38)) w.heap.size 40 (mval m A n c) from (Blk.new _ _ _).alloc _).bel hb1)
  have P1 := Lib.hid ((show Blk ((w.alloc (.cells (mval m A n c) 40)).alloc (.cells #[.int .i64 f, .int .i64 t] 38)) (w.heap.size + 1) 38 #[.int .i64 f, .int .i64 t] from Blk.new' _ _ (by simp)).bel hb1)
  have R1 := Lib.hid hrd1
  have B1 := Lib.hid (show Bel w w1 from (((Bel.refl w).alloc _).alloc _).trans hb1)
  have hcm := M1.out.cell
  have hl1 : w.heap.size + 1 < w1.heap.size := P1.out.lt
  have hl0 : w.heap.size < w1.heap.size := by omega
  have hl0a : w.heap.size < w1.heap.size + 1 := by omega
  clear hrd1 hb1
  go_wp2_with fail
  generalize hW1 : (World.alloc (World.alloc w1 _) _) = W1
  have a1 := Lib.hid (show Blk W1 w1.heap.size 40 (mval Mtg.zero A1 n1 d1) from by rw [← hW1]; exact (Blk.new _ _ _).alloc _)
  have f1 := Lib.hid (show Blk W1 (w1.heap.size + 1) 27 #[.int .i64 fc, .int .i64 fi] from by rw [← hW1]; exact Blk.new' _ _ (by simp))
  have X1 := Lib.hid (show Bel w1 W1 from by rw [← hW1]; exact ((Bel.refl _).alloc _).alloc _)
  clear hW1 hcm hl1 hl0 hl0a
  refine (agreedX' m false fc fi A n c _ (H.out.bel (B1.out.trans X1.out)) HH2.out).mono ?_
  rintro e w2 ⟨rfl, hb2⟩
  have Y2 := Lib.hid (X1.out.trans hb2)
  have R12 := Lib.hid (R1.out.bel Y2.out)
  have M2 := Lib.hid (M1.out.bel Y2.out)
  have P2 := Lib.hid (P1.out.bel Y2.out)
  have a2 := Lib.hid (a1.out.bel hb2)
  have f2 := Lib.hid (f1.out.bel hb2)
  have hcm := M2.out.cell
  have hl0 : w.heap.size < w2.heap.size := M2.out.lt
  clear hb2
  go_wp2_with fail
  generalize hW2 : (World.alloc w2 _) = W2
  have g2 := Lib.hid (show Blk W2 w2.heap.size 27 #[.int .i64 fc, .int .i64 fi] from by rw [← hW2]; exact Blk.new _ _ _)
  have X2 := Lib.hid (show Bel w2 W2 from by rw [← hW2]; exact (Bel.refl _).alloc _)
  clear hW2 hcm hl0
  refine (meetingFault' m A n c fc fi _ (H.out.bel ((B1.out.trans Y2.out).trans X2.out)) HH3.out).mono ?_
  rintro e w3 ⟨rfl, hb3⟩
  have hbv := X2.out.trans hb3
  have M4 := Lib.hid (M2.out.bel hbv)
  have P4 := Lib.hid (P2.out.bel hbv)
  have a4 := Lib.hid (a2.out.bel hbv)
  have f4 := Lib.hid (f2.out.bel hbv)
  have g4 := Lib.hid (g2.out.bel hb3)
  have R14 := Lib.hid (R12.out.bel hbv)
  have R04 := Lib.hid (H.out.bel ((B1.out.trans Y2.out).trans hbv))
  have B4 := Lib.hid ((B1.out.trans Y2.out).trans hbv)
  have lm : w.heap.size < w3.heap.size := M4.out.lt
  have lp : w.heap.size + 1 < w3.heap.size := P4.out.lt
  have la : w1.heap.size < w3.heap.size := a4.out.lt
  have lf : w1.heap.size + 1 < w3.heap.size := f4.out.lt
  have lg : w2.heap.size < w3.heap.size := g4.out.lt
  have o1 : w.heap.size + 1 < w1.heap.size := P1.out.lt
  have o2 : w1.heap.size + 1 < w2.heap.size := f2.out.lt
  have cm := M4.out.cell
  have cp := P4.out.cell
  have ca := a4.out.cell
  have cf := f4.out.cell
  have cg := g4.out.cell
  clear hbv hb3
  clear M1 P1 R1 B1 a1 f1 X1 Y2 R12 M2 P2 a2 f2 g2 X2
  go_wp2_with fail
  refine (sameMeeting Mtg.zero A1 none n1 0 d1 0 _ (R14.out.bel ?_) Rd.nil).mono ?_
  · (repeat (first | with_reducible refine Bel.setCell ?_ (by simp <;> omega) _ | with_reducible refine Bel.alloc ?_ _ | with_reducible refine Bel.drewN ?_ _ | with_reducible refine Bel.drew ?_)); exact Bel.refl _
  rintro e w5 ⟨rfl, hb5⟩
  have B5 := Lib.hid (show Bel w w5 from Bel.trans (by (repeat (first | with_reducible refine Bel.setCell ?_ (by simp <;> omega) _ | with_reducible refine Bel.alloc ?_ _ | with_reducible refine Bel.drewN ?_ _ | with_reducible refine Bel.drew ?_)); exact B4.out) hb5)
  clear hb5
  go_wp2_with fail
  refine (agreedL _).mono ?_
  rintro e w6 ⟨rfl, hb6⟩
  have B6 := Lib.hid (B5.out.trans hb6)
  clear hb6
  go_wp2_with fail
  go_ret
  exact ⟨rfl, B6.out⟩

def AllRel (l : List Guest) (b0 : Bool) (n : Nat) (a i : Value) : Prop := ∃ (k : Nat) (b : Bool), k ≤ n ∧ i = .int .i64 k ∧ a = .bool b ∧ (b0 && l.all (fun g => g.ans == 1)) = (b && (l.drop k).all (fun g => g.ans == 1))
theorem all_gidx : ∀ (l : List Guest) (k : Nat), l.all (fun g => g.ans == 1) = !decide (0 ≤ gidx (fun x => x.ans != 1) k l)
  | [], _ => by simp [gidx]
  | g :: l, k => by
    rw [List.all_cons, all_gidx l (k + 1)]
    by_cases h : g.ans = 1
    · have e : gidx (fun x => x.ans != 1) k (g :: l) = gidx (fun x => x.ans != 1) (k + 1) l := by rw [gidx, if_neg (by simp [h])]
      rw [e]
      simp [h]
    · have e : gidx (fun x => x.ans != 1) k (g :: l) = (k : Int) := by rw [gidx, if_pos (by simpa using h)]
      rw [e]
      simp [h]
theorem agreed_all (m : Mtg) : agreedOf m = ((decide (0 < m.round) && !m.can) && m.guests.all (fun g => g.ans == 1)) := by
  rw [all_gidx m.guests 0]
  unfold agreedOf
  cases m.can <;> cases decide (0 < m.round) <;> simp
theorem mtg_zero {m : Mtg} (h : (mtgFault m).1 = 0) : mtgFault m = (0, 0) := by
  have key : ∀ (l : List Guest) (k : Nat), (gfFrom m.org m.round m.guests k l).1 = 0 → gfFrom m.org m.round m.guests k l = (0, 0) := by
    intro l
    induction l with
    | nil => intro k _; rfl
    | cons g l ih =>
      intro k h
      rw [gfFrom] at h ⊢
      split
      · rename_i hx; rw [if_pos hx] at h; exact ih _ h
      · rename_i hx; rw [if_neg hx] at h; exact absurd h hx
  unfold mtgFault at h ⊢
  split
  · rename_i hx; rw [if_pos hx] at h; cases h
  rename_i hx; rw [if_neg hx] at h
  split
  · rename_i hx; rw [if_pos hx] at h; cases h
  rename_i hx; rw [if_neg hx] at h
  split
  · rename_i hx; rw [if_pos hx] at h; cases h
  rename_i hx; rw [if_neg hx] at h
  split
  · rename_i hx; rw [if_pos hx] at h; cases h
  rename_i hx; rw [if_neg hx] at h
  exact key _ _ h

theorem guestAt' (A : Option Addr) (n c : Nat) (l : List Guest) (s : ByteArray) (r : Int) (w : World) (h : Rd w 4 A n c (l.flatMap Guest.cells)) (hr : gidx (fun x => x.addr.toList == s.toList) 0 l = r) :
    Calls Try.prog 24 #[.slice A n c, .string s] w fun e w' => e = .returned (.int .i64 r) ∧ w = w' := by
  subst hr
  exact guestAt A n c l s w h

set_option maxHeartbeats 2000000 in
set_option maxRecDepth 100000 in
theorem ansB1 (m : Mtg) (who : ByteArray) (ans f t : Int) (A : Option Addr) (n c : Nat) (w : World) (h : Rd w 4 A n c (m.guests.flatMap Guest.cells)) (h1 : answerOf m who ans f t = (Mtg.zero, 8, -4)) (h2 : agRes m = (agreedOf m, 0, 0)) (h3 : mtgFault m = (0, 0)) (hkc : m.can = true) (hkr : decide (0 < m.round) = true) (hkz : (m.round == 0) = false) (GP : Int) (hgp : gpos m who = GP) :
    Calls Try.prog 6 #[.agg (mval m A n c), .string who, .int .i64 ans, .agg #[.int .i64 f, .int .i64 t]] w fun e w' => e = .returned (.bool true) ∧ Bel w w' := by
  have KC := Lib.hid hkc
  have KR := Lib.hid hkr
  have KZ := Lib.hid hkz
  have HGP := Lib.hid hgp
  clear hkc hkr hkz hgp
  have H := Lib.hid h
  have HH1 := Lib.hid h1
  have HH2 := Lib.hid h2
  have HH3 := Lib.hid h3
  clear h h1 h2 h3
  go_enter Try.func6, Try.ntmps6
  go_wp2_with fail
  refine (answer' m who ans f t Mtg.zero 8 (-4) A n c _ (H.out.bel (((Bel.refl _).alloc _).alloc _)) HH1.out).mono ?_
  rintro e w1 ⟨A1, n1, d1, rfl, hrd1, hb1, hq1⟩
  clear hq1
  have M1 := Lib.hid ((show Blk ((w.alloc (.cells (mval m A n c) 40)).alloc (.cells #[.int .i64 f, .int .i64 t] 38)) w.heap.size 40 (mval m A n c) from (Blk.new _ _ _).alloc _).bel hb1)
  have P1 := Lib.hid ((show Blk ((w.alloc (.cells (mval m A n c) 40)).alloc (.cells #[.int .i64 f, .int .i64 t] 38)) (w.heap.size + 1) 38 #[.int .i64 f, .int .i64 t] from Blk.new' _ _ (by simp)).bel hb1)
  have R1 := Lib.hid hrd1
  have B1 := Lib.hid (show Bel w w1 from (((Bel.refl w).alloc _).alloc _).trans hb1)
  have hcm := M1.out.cell
  have hl1 : w.heap.size + 1 < w1.heap.size := P1.out.lt
  have hl0 : w.heap.size < w1.heap.size := by omega
  have hl0a : w.heap.size < w1.heap.size + 1 := by omega
  clear hrd1 hb1
  go_wp2_with fail
  generalize hW1 : (World.alloc (World.alloc w1 _) _) = W1
  have a1 := Lib.hid (show Blk W1 w1.heap.size 40 (mval Mtg.zero A1 n1 d1) from by rw [← hW1]; exact (Blk.new _ _ _).alloc _)
  have f1 := Lib.hid (show Blk W1 (w1.heap.size + 1) 27 #[.int .i64 8, .int .i64 (-4)] from by rw [← hW1]; exact Blk.new' _ _ (by simp))
  have X1 := Lib.hid (show Bel w1 W1 from by rw [← hW1]; exact ((Bel.refl _).alloc _).alloc _)
  clear hW1 hcm hl1 hl0 hl0a
  refine (agreedX' m (agreedOf m) 0 0 A n c _ (H.out.bel (B1.out.trans X1.out)) HH2.out).mono ?_
  rintro e w2 ⟨rfl, hb2⟩
  have Y2 := Lib.hid (X1.out.trans hb2)
  have R12 := Lib.hid (R1.out.bel Y2.out)
  have M2 := Lib.hid (M1.out.bel Y2.out)
  have P2 := Lib.hid (P1.out.bel Y2.out)
  have a2 := Lib.hid (a1.out.bel hb2)
  have f2 := Lib.hid (f1.out.bel hb2)
  have hcm := M2.out.cell
  have hl0 : w.heap.size < w2.heap.size := M2.out.lt
  clear hb2
  go_wp2_with fail
  generalize hW2 : (World.alloc w2 _) = W2
  have g2 := Lib.hid (show Blk W2 w2.heap.size 27 #[.int .i64 0, .int .i64 0] from by rw [← hW2]; exact Blk.new _ _ _)
  have X2 := Lib.hid (show Bel w2 W2 from by rw [← hW2]; exact (Bel.refl _).alloc _)
  clear hW2 hcm hl0
  refine (meetingFault' m A n c 0 0 _ (H.out.bel ((B1.out.trans Y2.out).trans X2.out)) HH3.out).mono ?_
  rintro e w3 ⟨rfl, hb3⟩
  have hbv := X2.out.trans hb3
  have M4 := Lib.hid (M2.out.bel hbv)
  have P4 := Lib.hid (P2.out.bel hbv)
  have a4 := Lib.hid (a2.out.bel hbv)
  have f4 := Lib.hid (f2.out.bel hbv)
  have g4 := Lib.hid (g2.out.bel hb3)
  have R14 := Lib.hid (R12.out.bel hbv)
  have R04 := Lib.hid (H.out.bel ((B1.out.trans Y2.out).trans hbv))
  have B4 := Lib.hid ((B1.out.trans Y2.out).trans hbv)
  have lm : w.heap.size < w3.heap.size := M4.out.lt
  have lp : w.heap.size + 1 < w3.heap.size := P4.out.lt
  have la : w1.heap.size < w3.heap.size := a4.out.lt
  have lf : w1.heap.size + 1 < w3.heap.size := f4.out.lt
  have lg : w2.heap.size < w3.heap.size := g4.out.lt
  have o1 : w.heap.size + 1 < w1.heap.size := P1.out.lt
  have o2 : w1.heap.size + 1 < w2.heap.size := f2.out.lt
  have cm := M4.out.cell
  have cp := P4.out.cell
  have ca := a4.out.cell
  have cf := f4.out.cell
  have cg := g4.out.cell
  clear hbv hb3
  clear M1 P1 R1 B1 a1 f1 X1 Y2 R12 M2 P2 a2 f2 g2 X2
  have kc := KC.out
  have kr := KR.out
  have kz := KZ.out
  have hn := H.out.le
  have hm := H.out.cap
  have HL := Lib.hid (H.out.count (fun _ => rfl) (by decide))
  obtain ⟨b, off, hAe⟩ : ∃ b off, (0 < n → A = some ⟨b, off, none⟩) := by
    rcases Nat.eq_zero_or_pos n with h0 | h0
    · exact ⟨0, 0, fun h => by omega⟩
    · obtain ⟨b, off, e, _⟩ := H.out.place (by omega)
      exact ⟨b, off, fun _ => e⟩
  have HAE := Lib.hid hAe
  clear hAe
  go_wp2
  go_loop [14, 15] (AllRel m.guests false n) (fun _ i => n - (intOf i).toNat)
  case atStart => exact ⟨0, _, Nat.zero_le _, rfl, rfl, rfl⟩
  case round =>
    obtain ⟨k, bb, hk, rfl, rfl, hrl⟩ := hrel
    have HRL := Lib.hid hrl
    clear hrl
    by_cases hlt : k < n
    · obtain ⟨b1, off1, g, hA1, hlb, hu, hc⟩ := R04.out.elem (fun _ => rfl) (by decide) hlt
      have hAA := HAE.out (by omega)
      subst hAA
      injection hA1 with hA1
      injection hA1 with hA1 hA2
      subst hA1 hA2
      have c1' : w3.cell? ⟨b, off + k * 4 + 1, none⟩ = some (.int .i64 g.ans) := hc 1 _ rfl
      have HU := Lib.hid hu
      clear hc hu
      cases bb with
      | false =>
        go_wp2
        go_round
        case rel => exact ⟨k + 1, false, hlt, by go_num, rfl, by rw [HRL.out]; simp⟩
        case measure => simp [intOf]; omega
      | true =>
        go_wp2
        go_round
        case rel => exact ⟨k + 1, g.ans == 1, hlt, by go_num, rfl, by rw [HRL.out, drop_at HU.out]; simp⟩
        case measure => simp [intOf]; omega
    · have hbb : bb = agreedOf m := by
        have h' := HRL.out
        rw [List.drop_of_length_le (by have := HL.out; omega)] at h'
        rw [agreed_all, KR.out, KC.out]
        simpa using h'.symm
      subst hbb
      clear HRL
      go_wp2_with fail
      refine (guestAt' A n c m.guests who GP _ (R04.out.bel ((Bel.refl _).alloc _)) HGP.out).mono ?_
      rintro e w' ⟨rfl, rfl⟩
      go_wp2_with (first | (go_at_call 25; refine (at_ _ _ _).mono ?_; rintro e w' ⟨rfl, rfl⟩) | (go_at_call 26; refine (in_ _ _ _ _).mono ?_; rintro e w' ⟨rfl, rfl⟩) | (go_at_call 27; refine (proposable _ _ _).mono ?_; rintro e w' ⟨rfl, rfl⟩))
      refine (sameMeeting Mtg.zero A1 none n1 0 d1 0 _ (R14.out.bel ?_) Rd.nil).mono ?_
      · (repeat (first | with_reducible refine Bel.setCell ?_ (by simp <;> omega) _ | with_reducible refine Bel.alloc ?_ _ | with_reducible refine Bel.drewN ?_ _ | with_reducible refine Bel.drew ?_)); exact Bel.refl _
      rintro e w5 ⟨rfl, hb5⟩
      have B5 := Lib.hid (show Bel w w5 from Bel.trans (by (repeat (first | with_reducible refine Bel.setCell ?_ (by simp <;> omega) _ | with_reducible refine Bel.alloc ?_ _ | with_reducible refine Bel.drewN ?_ _ | with_reducible refine Bel.drew ?_)); exact B4.out) hb5)
      clear hb5
      go_wp2_with fail
      refine (agreedL _).mono ?_
      rintro e w6 ⟨rfl, hb6⟩
      have B6 := Lib.hid (B5.out.trans hb6)
      clear hb6
      go_wp2_with fail
      go_ret
      exact ⟨rfl, B6.out⟩
set_option maxHeartbeats 2000000 in
set_option maxRecDepth 100000 in
theorem ansB2 (m : Mtg) (who : ByteArray) (ans f t : Int) (A : Option Addr) (n c : Nat) (w : World) (h : Rd w 4 A n c (m.guests.flatMap Guest.cells)) (h1 : answerOf m who ans f t = (Mtg.zero, 8, -4)) (h2 : agRes m = (agreedOf m, 0, 0)) (h3 : mtgFault m = (0, 0)) (hkc : m.can = true) (hkr : decide (0 < m.round) = false) (hkz : (m.round == 0) = true) (GP : Int) (hgp : gpos m who = GP) :
    Calls Try.prog 6 #[.agg (mval m A n c), .string who, .int .i64 ans, .agg #[.int .i64 f, .int .i64 t]] w fun e w' => e = .returned (.bool true) ∧ Bel w w' := by
  have KC := Lib.hid hkc
  have KR := Lib.hid hkr
  have KZ := Lib.hid hkz
  have HGP := Lib.hid hgp
  clear hkc hkr hkz hgp
  have H := Lib.hid h
  have HH1 := Lib.hid h1
  have HH2 := Lib.hid h2
  have HH3 := Lib.hid h3
  clear h h1 h2 h3
  go_enter Try.func6, Try.ntmps6
  go_wp2_with fail
  refine (answer' m who ans f t Mtg.zero 8 (-4) A n c _ (H.out.bel (((Bel.refl _).alloc _).alloc _)) HH1.out).mono ?_
  rintro e w1 ⟨A1, n1, d1, rfl, hrd1, hb1, hq1⟩
  clear hq1
  have M1 := Lib.hid ((show Blk ((w.alloc (.cells (mval m A n c) 40)).alloc (.cells #[.int .i64 f, .int .i64 t] 38)) w.heap.size 40 (mval m A n c) from (Blk.new _ _ _).alloc _).bel hb1)
  have P1 := Lib.hid ((show Blk ((w.alloc (.cells (mval m A n c) 40)).alloc (.cells #[.int .i64 f, .int .i64 t] 38)) (w.heap.size + 1) 38 #[.int .i64 f, .int .i64 t] from Blk.new' _ _ (by simp)).bel hb1)
  have R1 := Lib.hid hrd1
  have B1 := Lib.hid (show Bel w w1 from (((Bel.refl w).alloc _).alloc _).trans hb1)
  have hcm := M1.out.cell
  have hl1 : w.heap.size + 1 < w1.heap.size := P1.out.lt
  have hl0 : w.heap.size < w1.heap.size := by omega
  have hl0a : w.heap.size < w1.heap.size + 1 := by omega
  clear hrd1 hb1
  go_wp2_with fail
  generalize hW1 : (World.alloc (World.alloc w1 _) _) = W1
  have a1 := Lib.hid (show Blk W1 w1.heap.size 40 (mval Mtg.zero A1 n1 d1) from by rw [← hW1]; exact (Blk.new _ _ _).alloc _)
  have f1 := Lib.hid (show Blk W1 (w1.heap.size + 1) 27 #[.int .i64 8, .int .i64 (-4)] from by rw [← hW1]; exact Blk.new' _ _ (by simp))
  have X1 := Lib.hid (show Bel w1 W1 from by rw [← hW1]; exact ((Bel.refl _).alloc _).alloc _)
  clear hW1 hcm hl1 hl0 hl0a
  refine (agreedX' m (agreedOf m) 0 0 A n c _ (H.out.bel (B1.out.trans X1.out)) HH2.out).mono ?_
  rintro e w2 ⟨rfl, hb2⟩
  have Y2 := Lib.hid (X1.out.trans hb2)
  have R12 := Lib.hid (R1.out.bel Y2.out)
  have M2 := Lib.hid (M1.out.bel Y2.out)
  have P2 := Lib.hid (P1.out.bel Y2.out)
  have a2 := Lib.hid (a1.out.bel hb2)
  have f2 := Lib.hid (f1.out.bel hb2)
  have hcm := M2.out.cell
  have hl0 : w.heap.size < w2.heap.size := M2.out.lt
  clear hb2
  go_wp2_with fail
  generalize hW2 : (World.alloc w2 _) = W2
  have g2 := Lib.hid (show Blk W2 w2.heap.size 27 #[.int .i64 0, .int .i64 0] from by rw [← hW2]; exact Blk.new _ _ _)
  have X2 := Lib.hid (show Bel w2 W2 from by rw [← hW2]; exact (Bel.refl _).alloc _)
  clear hW2 hcm hl0
  refine (meetingFault' m A n c 0 0 _ (H.out.bel ((B1.out.trans Y2.out).trans X2.out)) HH3.out).mono ?_
  rintro e w3 ⟨rfl, hb3⟩
  have hbv := X2.out.trans hb3
  have M4 := Lib.hid (M2.out.bel hbv)
  have P4 := Lib.hid (P2.out.bel hbv)
  have a4 := Lib.hid (a2.out.bel hbv)
  have f4 := Lib.hid (f2.out.bel hbv)
  have g4 := Lib.hid (g2.out.bel hb3)
  have R14 := Lib.hid (R12.out.bel hbv)
  have R04 := Lib.hid (H.out.bel ((B1.out.trans Y2.out).trans hbv))
  have B4 := Lib.hid ((B1.out.trans Y2.out).trans hbv)
  have lm : w.heap.size < w3.heap.size := M4.out.lt
  have lp : w.heap.size + 1 < w3.heap.size := P4.out.lt
  have la : w1.heap.size < w3.heap.size := a4.out.lt
  have lf : w1.heap.size + 1 < w3.heap.size := f4.out.lt
  have lg : w2.heap.size < w3.heap.size := g4.out.lt
  have o1 : w.heap.size + 1 < w1.heap.size := P1.out.lt
  have o2 : w1.heap.size + 1 < w2.heap.size := f2.out.lt
  have cm := M4.out.cell
  have cp := P4.out.cell
  have ca := a4.out.cell
  have cf := f4.out.cell
  have cg := g4.out.cell
  clear hbv hb3
  clear M1 P1 R1 B1 a1 f1 X1 Y2 R12 M2 P2 a2 f2 g2 X2
  have kc := KC.out
  have kr := KR.out
  have kz := KZ.out
  have hn := H.out.le
  have hm := H.out.cap
  have HL := Lib.hid (H.out.count (fun _ => rfl) (by decide))
  obtain ⟨b, off, hAe⟩ : ∃ b off, (0 < n → A = some ⟨b, off, none⟩) := by
    rcases Nat.eq_zero_or_pos n with h0 | h0
    · exact ⟨0, 0, fun h => by omega⟩
    · obtain ⟨b, off, e, _⟩ := H.out.place (by omega)
      exact ⟨b, off, fun _ => e⟩
  have HAE := Lib.hid hAe
  clear hAe
  go_wp2
  go_loop [14, 15] (AllRel m.guests false n) (fun _ i => n - (intOf i).toNat)
  case atStart => exact ⟨0, _, Nat.zero_le _, rfl, rfl, rfl⟩
  case round =>
    obtain ⟨k, bb, hk, rfl, rfl, hrl⟩ := hrel
    have HRL := Lib.hid hrl
    clear hrl
    by_cases hlt : k < n
    · obtain ⟨b1, off1, g, hA1, hlb, hu, hc⟩ := R04.out.elem (fun _ => rfl) (by decide) hlt
      have hAA := HAE.out (by omega)
      subst hAA
      injection hA1 with hA1
      injection hA1 with hA1 hA2
      subst hA1 hA2
      have c1' : w3.cell? ⟨b, off + k * 4 + 1, none⟩ = some (.int .i64 g.ans) := hc 1 _ rfl
      have HU := Lib.hid hu
      clear hc hu
      cases bb with
      | false =>
        go_wp2
        go_round
        case rel => exact ⟨k + 1, false, hlt, by go_num, rfl, by rw [HRL.out]; simp⟩
        case measure => simp [intOf]; omega
      | true =>
        go_wp2
        go_round
        case rel => exact ⟨k + 1, g.ans == 1, hlt, by go_num, rfl, by rw [HRL.out, drop_at HU.out]; simp⟩
        case measure => simp [intOf]; omega
    · have hbb : bb = agreedOf m := by
        have h' := HRL.out
        rw [List.drop_of_length_le (by have := HL.out; omega)] at h'
        rw [agreed_all, KR.out, KC.out]
        simpa using h'.symm
      subst hbb
      clear HRL
      go_wp2_with fail
      refine (guestAt' A n c m.guests who GP _ (R04.out.bel ((Bel.refl _).alloc _)) HGP.out).mono ?_
      rintro e w' ⟨rfl, rfl⟩
      go_wp2_with (first | (go_at_call 25; refine (at_ _ _ _).mono ?_; rintro e w' ⟨rfl, rfl⟩) | (go_at_call 26; refine (in_ _ _ _ _).mono ?_; rintro e w' ⟨rfl, rfl⟩) | (go_at_call 27; refine (proposable _ _ _).mono ?_; rintro e w' ⟨rfl, rfl⟩))
      refine (sameMeeting Mtg.zero A1 none n1 0 d1 0 _ (R14.out.bel ?_) Rd.nil).mono ?_
      · (repeat (first | with_reducible refine Bel.setCell ?_ (by simp <;> omega) _ | with_reducible refine Bel.alloc ?_ _ | with_reducible refine Bel.drewN ?_ _ | with_reducible refine Bel.drew ?_)); exact Bel.refl _
      rintro e w5 ⟨rfl, hb5⟩
      have B5 := Lib.hid (show Bel w w5 from Bel.trans (by (repeat (first | with_reducible refine Bel.setCell ?_ (by simp <;> omega) _ | with_reducible refine Bel.alloc ?_ _ | with_reducible refine Bel.drewN ?_ _ | with_reducible refine Bel.drew ?_)); exact B4.out) hb5)
      clear hb5
      go_wp2_with fail
      refine (agreedL _).mono ?_
      rintro e w6 ⟨rfl, hb6⟩
      have B6 := Lib.hid (B5.out.trans hb6)
      clear hb6
      go_wp2_with fail
      go_ret
      exact ⟨rfl, B6.out⟩
set_option maxHeartbeats 2000000 in
set_option maxRecDepth 100000 in
theorem ansB3 (m : Mtg) (who : ByteArray) (ans f t : Int) (A : Option Addr) (n c : Nat) (w : World) (h : Rd w 4 A n c (m.guests.flatMap Guest.cells)) (h1 : answerOf m who ans f t = (Mtg.zero, 8, -4)) (h2 : agRes m = (agreedOf m, 0, 0)) (h3 : mtgFault m = (0, 0)) (hkc : m.can = false) (hkr : decide (0 < m.round) = false) (hkz : (m.round == 0) = true) (GP : Int) (hgp : gpos m who = GP) :
    Calls Try.prog 6 #[.agg (mval m A n c), .string who, .int .i64 ans, .agg #[.int .i64 f, .int .i64 t]] w fun e w' => e = .returned (.bool true) ∧ Bel w w' := by
  have KC := Lib.hid hkc
  have KR := Lib.hid hkr
  have KZ := Lib.hid hkz
  have HGP := Lib.hid hgp
  clear hkc hkr hkz hgp
  have H := Lib.hid h
  have HH1 := Lib.hid h1
  have HH2 := Lib.hid h2
  have HH3 := Lib.hid h3
  clear h h1 h2 h3
  go_enter Try.func6, Try.ntmps6
  go_wp2_with fail
  refine (answer' m who ans f t Mtg.zero 8 (-4) A n c _ (H.out.bel (((Bel.refl _).alloc _).alloc _)) HH1.out).mono ?_
  rintro e w1 ⟨A1, n1, d1, rfl, hrd1, hb1, hq1⟩
  clear hq1
  have M1 := Lib.hid ((show Blk ((w.alloc (.cells (mval m A n c) 40)).alloc (.cells #[.int .i64 f, .int .i64 t] 38)) w.heap.size 40 (mval m A n c) from (Blk.new _ _ _).alloc _).bel hb1)
  have P1 := Lib.hid ((show Blk ((w.alloc (.cells (mval m A n c) 40)).alloc (.cells #[.int .i64 f, .int .i64 t] 38)) (w.heap.size + 1) 38 #[.int .i64 f, .int .i64 t] from Blk.new' _ _ (by simp)).bel hb1)
  have R1 := Lib.hid hrd1
  have B1 := Lib.hid (show Bel w w1 from (((Bel.refl w).alloc _).alloc _).trans hb1)
  have hcm := M1.out.cell
  have hl1 : w.heap.size + 1 < w1.heap.size := P1.out.lt
  have hl0 : w.heap.size < w1.heap.size := by omega
  have hl0a : w.heap.size < w1.heap.size + 1 := by omega
  clear hrd1 hb1
  go_wp2_with fail
  generalize hW1 : (World.alloc (World.alloc w1 _) _) = W1
  have a1 := Lib.hid (show Blk W1 w1.heap.size 40 (mval Mtg.zero A1 n1 d1) from by rw [← hW1]; exact (Blk.new _ _ _).alloc _)
  have f1 := Lib.hid (show Blk W1 (w1.heap.size + 1) 27 #[.int .i64 8, .int .i64 (-4)] from by rw [← hW1]; exact Blk.new' _ _ (by simp))
  have X1 := Lib.hid (show Bel w1 W1 from by rw [← hW1]; exact ((Bel.refl _).alloc _).alloc _)
  clear hW1 hcm hl1 hl0 hl0a
  refine (agreedX' m (agreedOf m) 0 0 A n c _ (H.out.bel (B1.out.trans X1.out)) HH2.out).mono ?_
  rintro e w2 ⟨rfl, hb2⟩
  have Y2 := Lib.hid (X1.out.trans hb2)
  have R12 := Lib.hid (R1.out.bel Y2.out)
  have M2 := Lib.hid (M1.out.bel Y2.out)
  have P2 := Lib.hid (P1.out.bel Y2.out)
  have a2 := Lib.hid (a1.out.bel hb2)
  have f2 := Lib.hid (f1.out.bel hb2)
  have hcm := M2.out.cell
  have hl0 : w.heap.size < w2.heap.size := M2.out.lt
  clear hb2
  go_wp2_with fail
  generalize hW2 : (World.alloc w2 _) = W2
  have g2 := Lib.hid (show Blk W2 w2.heap.size 27 #[.int .i64 0, .int .i64 0] from by rw [← hW2]; exact Blk.new _ _ _)
  have X2 := Lib.hid (show Bel w2 W2 from by rw [← hW2]; exact (Bel.refl _).alloc _)
  clear hW2 hcm hl0
  refine (meetingFault' m A n c 0 0 _ (H.out.bel ((B1.out.trans Y2.out).trans X2.out)) HH3.out).mono ?_
  rintro e w3 ⟨rfl, hb3⟩
  have hbv := X2.out.trans hb3
  have M4 := Lib.hid (M2.out.bel hbv)
  have P4 := Lib.hid (P2.out.bel hbv)
  have a4 := Lib.hid (a2.out.bel hbv)
  have f4 := Lib.hid (f2.out.bel hbv)
  have g4 := Lib.hid (g2.out.bel hb3)
  have R14 := Lib.hid (R12.out.bel hbv)
  have R04 := Lib.hid (H.out.bel ((B1.out.trans Y2.out).trans hbv))
  have B4 := Lib.hid ((B1.out.trans Y2.out).trans hbv)
  have lm : w.heap.size < w3.heap.size := M4.out.lt
  have lp : w.heap.size + 1 < w3.heap.size := P4.out.lt
  have la : w1.heap.size < w3.heap.size := a4.out.lt
  have lf : w1.heap.size + 1 < w3.heap.size := f4.out.lt
  have lg : w2.heap.size < w3.heap.size := g4.out.lt
  have o1 : w.heap.size + 1 < w1.heap.size := P1.out.lt
  have o2 : w1.heap.size + 1 < w2.heap.size := f2.out.lt
  have cm := M4.out.cell
  have cp := P4.out.cell
  have ca := a4.out.cell
  have cf := f4.out.cell
  have cg := g4.out.cell
  clear hbv hb3
  clear M1 P1 R1 B1 a1 f1 X1 Y2 R12 M2 P2 a2 f2 g2 X2
  have kc := KC.out
  have kr := KR.out
  have kz := KZ.out
  have hn := H.out.le
  have hm := H.out.cap
  have HL := Lib.hid (H.out.count (fun _ => rfl) (by decide))
  obtain ⟨b, off, hAe⟩ : ∃ b off, (0 < n → A = some ⟨b, off, none⟩) := by
    rcases Nat.eq_zero_or_pos n with h0 | h0
    · exact ⟨0, 0, fun h => by omega⟩
    · obtain ⟨b, off, e, _⟩ := H.out.place (by omega)
      exact ⟨b, off, fun _ => e⟩
  have HAE := Lib.hid hAe
  clear hAe
  go_wp2
  go_loop [14, 15] (AllRel m.guests false n) (fun _ i => n - (intOf i).toNat)
  case atStart => exact ⟨0, _, Nat.zero_le _, rfl, rfl, rfl⟩
  case round =>
    obtain ⟨k, bb, hk, rfl, rfl, hrl⟩ := hrel
    have HRL := Lib.hid hrl
    clear hrl
    by_cases hlt : k < n
    · obtain ⟨b1, off1, g, hA1, hlb, hu, hc⟩ := R04.out.elem (fun _ => rfl) (by decide) hlt
      have hAA := HAE.out (by omega)
      subst hAA
      injection hA1 with hA1
      injection hA1 with hA1 hA2
      subst hA1 hA2
      have c1' : w3.cell? ⟨b, off + k * 4 + 1, none⟩ = some (.int .i64 g.ans) := hc 1 _ rfl
      have HU := Lib.hid hu
      clear hc hu
      cases bb with
      | false =>
        go_wp2
        go_round
        case rel => exact ⟨k + 1, false, hlt, by go_num, rfl, by rw [HRL.out]; simp⟩
        case measure => simp [intOf]; omega
      | true =>
        go_wp2
        go_round
        case rel => exact ⟨k + 1, g.ans == 1, hlt, by go_num, rfl, by rw [HRL.out, drop_at HU.out]; simp⟩
        case measure => simp [intOf]; omega
    · have hbb : bb = agreedOf m := by
        have h' := HRL.out
        rw [List.drop_of_length_le (by have := HL.out; omega)] at h'
        rw [agreed_all, KR.out, KC.out]
        simpa using h'.symm
      subst hbb
      clear HRL
      go_wp2_with fail
      refine (guestAt' A n c m.guests who GP _ (R04.out.bel ((Bel.refl _).alloc _)) HGP.out).mono ?_
      rintro e w' ⟨rfl, rfl⟩
      go_wp2_with (first | (go_at_call 25; refine (at_ _ _ _).mono ?_; rintro e w' ⟨rfl, rfl⟩) | (go_at_call 26; refine (in_ _ _ _ _).mono ?_; rintro e w' ⟨rfl, rfl⟩) | (go_at_call 27; refine (proposable _ _ _).mono ?_; rintro e w' ⟨rfl, rfl⟩))
      refine (sameMeeting Mtg.zero A1 none n1 0 d1 0 _ (R14.out.bel ?_) Rd.nil).mono ?_
      · (repeat (first | with_reducible refine Bel.setCell ?_ (by simp <;> omega) _ | with_reducible refine Bel.alloc ?_ _ | with_reducible refine Bel.drewN ?_ _ | with_reducible refine Bel.drew ?_)); exact Bel.refl _
      rintro e w5 ⟨rfl, hb5⟩
      have B5 := Lib.hid (show Bel w w5 from Bel.trans (by (repeat (first | with_reducible refine Bel.setCell ?_ (by simp <;> omega) _ | with_reducible refine Bel.alloc ?_ _ | with_reducible refine Bel.drewN ?_ _ | with_reducible refine Bel.drew ?_)); exact B4.out) hb5)
      clear hb5
      go_wp2_with fail
      refine (agreedL _).mono ?_
      rintro e w6 ⟨rfl, hb6⟩
      have B6 := Lib.hid (B5.out.trans hb6)
      clear hb6
      go_wp2_with fail
      go_ret
      exact ⟨rfl, B6.out⟩
set_option maxHeartbeats 2000000 in
set_option maxRecDepth 100000 in
theorem ansB4 (m : Mtg) (who : ByteArray) (ans f t : Int) (A : Option Addr) (n c : Nat) (w : World) (h : Rd w 4 A n c (m.guests.flatMap Guest.cells)) (h1 : answerOf m who ans f t = (Mtg.zero, 6, -5)) (h2 : agRes m = (agreedOf m, 0, 0)) (h3 : mtgFault m = (0, 0)) (hkc : m.can = false) (hkr : decide (0 < m.round) = true) (hkz : (m.round == 0) = false) (GP : Int) (hgp : gpos m who = GP) (hneg : GP < 0) :
    Calls Try.prog 6 #[.agg (mval m A n c), .string who, .int .i64 ans, .agg #[.int .i64 f, .int .i64 t]] w fun e w' => e = .returned (.bool true) ∧ Bel w w' := by
  have KC := Lib.hid hkc
  have KR := Lib.hid hkr
  have KZ := Lib.hid hkz
  have HGP := Lib.hid hgp
  clear hkc hkr hkz hgp
  have H := Lib.hid h
  have HH1 := Lib.hid h1
  have HH2 := Lib.hid h2
  have HH3 := Lib.hid h3
  clear h h1 h2 h3
  go_enter Try.func6, Try.ntmps6
  go_wp2_with fail
  refine (answer' m who ans f t Mtg.zero 6 (-5) A n c _ (H.out.bel (((Bel.refl _).alloc _).alloc _)) HH1.out).mono ?_
  rintro e w1 ⟨A1, n1, d1, rfl, hrd1, hb1, hq1⟩
  clear hq1
  have M1 := Lib.hid ((show Blk ((w.alloc (.cells (mval m A n c) 40)).alloc (.cells #[.int .i64 f, .int .i64 t] 38)) w.heap.size 40 (mval m A n c) from (Blk.new _ _ _).alloc _).bel hb1)
  have P1 := Lib.hid ((show Blk ((w.alloc (.cells (mval m A n c) 40)).alloc (.cells #[.int .i64 f, .int .i64 t] 38)) (w.heap.size + 1) 38 #[.int .i64 f, .int .i64 t] from Blk.new' _ _ (by simp)).bel hb1)
  have R1 := Lib.hid hrd1
  have B1 := Lib.hid (show Bel w w1 from (((Bel.refl w).alloc _).alloc _).trans hb1)
  have hcm := M1.out.cell
  have hl1 : w.heap.size + 1 < w1.heap.size := P1.out.lt
  have hl0 : w.heap.size < w1.heap.size := by omega
  have hl0a : w.heap.size < w1.heap.size + 1 := by omega
  clear hrd1 hb1
  go_wp2_with fail
  generalize hW1 : (World.alloc (World.alloc w1 _) _) = W1
  have a1 := Lib.hid (show Blk W1 w1.heap.size 40 (mval Mtg.zero A1 n1 d1) from by rw [← hW1]; exact (Blk.new _ _ _).alloc _)
  have f1 := Lib.hid (show Blk W1 (w1.heap.size + 1) 27 #[.int .i64 6, .int .i64 (-5)] from by rw [← hW1]; exact Blk.new' _ _ (by simp))
  have X1 := Lib.hid (show Bel w1 W1 from by rw [← hW1]; exact ((Bel.refl _).alloc _).alloc _)
  clear hW1 hcm hl1 hl0 hl0a
  refine (agreedX' m (agreedOf m) 0 0 A n c _ (H.out.bel (B1.out.trans X1.out)) HH2.out).mono ?_
  rintro e w2 ⟨rfl, hb2⟩
  have Y2 := Lib.hid (X1.out.trans hb2)
  have R12 := Lib.hid (R1.out.bel Y2.out)
  have M2 := Lib.hid (M1.out.bel Y2.out)
  have P2 := Lib.hid (P1.out.bel Y2.out)
  have a2 := Lib.hid (a1.out.bel hb2)
  have f2 := Lib.hid (f1.out.bel hb2)
  have hcm := M2.out.cell
  have hl0 : w.heap.size < w2.heap.size := M2.out.lt
  clear hb2
  go_wp2_with fail
  generalize hW2 : (World.alloc w2 _) = W2
  have g2 := Lib.hid (show Blk W2 w2.heap.size 27 #[.int .i64 0, .int .i64 0] from by rw [← hW2]; exact Blk.new _ _ _)
  have X2 := Lib.hid (show Bel w2 W2 from by rw [← hW2]; exact (Bel.refl _).alloc _)
  clear hW2 hcm hl0
  refine (meetingFault' m A n c 0 0 _ (H.out.bel ((B1.out.trans Y2.out).trans X2.out)) HH3.out).mono ?_
  rintro e w3 ⟨rfl, hb3⟩
  have hbv := X2.out.trans hb3
  have M4 := Lib.hid (M2.out.bel hbv)
  have P4 := Lib.hid (P2.out.bel hbv)
  have a4 := Lib.hid (a2.out.bel hbv)
  have f4 := Lib.hid (f2.out.bel hbv)
  have g4 := Lib.hid (g2.out.bel hb3)
  have R14 := Lib.hid (R12.out.bel hbv)
  have R04 := Lib.hid (H.out.bel ((B1.out.trans Y2.out).trans hbv))
  have B4 := Lib.hid ((B1.out.trans Y2.out).trans hbv)
  have lm : w.heap.size < w3.heap.size := M4.out.lt
  have lp : w.heap.size + 1 < w3.heap.size := P4.out.lt
  have la : w1.heap.size < w3.heap.size := a4.out.lt
  have lf : w1.heap.size + 1 < w3.heap.size := f4.out.lt
  have lg : w2.heap.size < w3.heap.size := g4.out.lt
  have o1 : w.heap.size + 1 < w1.heap.size := P1.out.lt
  have o2 : w1.heap.size + 1 < w2.heap.size := f2.out.lt
  have cm := M4.out.cell
  have cp := P4.out.cell
  have ca := a4.out.cell
  have cf := f4.out.cell
  have cg := g4.out.cell
  clear hbv hb3
  clear M1 P1 R1 B1 a1 f1 X1 Y2 R12 M2 P2 a2 f2 g2 X2
  have kc := KC.out
  have kr := KR.out
  have kz := KZ.out
  have hg0 : decide (GP < 0) = true := by simpa using hneg
  have hn := H.out.le
  have hm := H.out.cap
  have HL := Lib.hid (H.out.count (fun _ => rfl) (by decide))
  obtain ⟨b, off, hAe⟩ : ∃ b off, (0 < n → A = some ⟨b, off, none⟩) := by
    rcases Nat.eq_zero_or_pos n with h0 | h0
    · exact ⟨0, 0, fun h => by omega⟩
    · obtain ⟨b, off, e, _⟩ := H.out.place (by omega)
      exact ⟨b, off, fun _ => e⟩
  have HAE := Lib.hid hAe
  clear hAe
  go_wp2
  go_loop [14, 15] (AllRel m.guests true n) (fun _ i => n - (intOf i).toNat)
  case atStart => exact ⟨0, _, Nat.zero_le _, rfl, rfl, rfl⟩
  case round =>
    obtain ⟨k, bb, hk, rfl, rfl, hrl⟩ := hrel
    have HRL := Lib.hid hrl
    clear hrl
    by_cases hlt : k < n
    · obtain ⟨b1, off1, g, hA1, hlb, hu, hc⟩ := R04.out.elem (fun _ => rfl) (by decide) hlt
      have hAA := HAE.out (by omega)
      subst hAA
      injection hA1 with hA1
      injection hA1 with hA1 hA2
      subst hA1 hA2
      have c1' : w3.cell? ⟨b, off + k * 4 + 1, none⟩ = some (.int .i64 g.ans) := hc 1 _ rfl
      have HU := Lib.hid hu
      clear hc hu
      cases bb with
      | false =>
        go_wp2
        go_round
        case rel => exact ⟨k + 1, false, hlt, by go_num, rfl, by rw [HRL.out]; simp⟩
        case measure => simp [intOf]; omega
      | true =>
        go_wp2
        go_round
        case rel => exact ⟨k + 1, g.ans == 1, hlt, by go_num, rfl, by rw [HRL.out, drop_at HU.out]; simp⟩
        case measure => simp [intOf]; omega
    · have hbb : bb = agreedOf m := by
        have h' := HRL.out
        rw [List.drop_of_length_le (by have := HL.out; omega)] at h'
        rw [agreed_all, KR.out, KC.out]
        simpa using h'.symm
      subst hbb
      clear HRL
      go_wp2_with fail
      refine (guestAt' A n c m.guests who GP _ (R04.out.bel ((Bel.refl _).alloc _)) HGP.out).mono ?_
      rintro e w' ⟨rfl, rfl⟩
      go_wp2_with (first | (go_at_call 25; refine (at_ _ _ _).mono ?_; rintro e w' ⟨rfl, rfl⟩) | (go_at_call 26; refine (in_ _ _ _ _).mono ?_; rintro e w' ⟨rfl, rfl⟩) | (go_at_call 27; refine (proposable _ _ _).mono ?_; rintro e w' ⟨rfl, rfl⟩))
      refine (sameMeeting Mtg.zero A1 none n1 0 d1 0 _ (R14.out.bel ?_) Rd.nil).mono ?_
      · (repeat (first | with_reducible refine Bel.setCell ?_ (by simp <;> omega) _ | with_reducible refine Bel.alloc ?_ _ | with_reducible refine Bel.drewN ?_ _ | with_reducible refine Bel.drew ?_)); exact Bel.refl _
      rintro e w5 ⟨rfl, hb5⟩
      have B5 := Lib.hid (show Bel w w5 from Bel.trans (by (repeat (first | with_reducible refine Bel.setCell ?_ (by simp <;> omega) _ | with_reducible refine Bel.alloc ?_ _ | with_reducible refine Bel.drewN ?_ _ | with_reducible refine Bel.drew ?_)); exact B4.out) hb5)
      clear hb5
      go_wp2_with fail
      refine (agreedL _).mono ?_
      rintro e w6 ⟨rfl, hb6⟩
      have B6 := Lib.hid (B5.out.trans hb6)
      clear hb6
      go_wp2_with fail
      go_ret
      exact ⟨rfl, B6.out⟩
set_option maxHeartbeats 2000000 in
set_option maxRecDepth 100000 in
theorem ansB5 (m : Mtg) (who : ByteArray) (ans f t : Int) (A : Option Addr) (n c : Nat) (w : World) (h : Rd w 4 A n c (m.guests.flatMap Guest.cells)) (h1 : answerOf m who ans f t = (Mtg.zero, 3, -6)) (h2 : agRes m = (agreedOf m, 0, 0)) (h3 : mtgFault m = (0, 0)) (hkc : m.can = false) (hkr : decide (0 < m.round) = true) (hkz : (m.round == 0) = false) (GP : Int) (hgp : gpos m who = GP) (hpos : 0 ≤ GP) (hin : ¬ (1 ≤ ans ∧ ans ≤ 3)) :
    Calls Try.prog 6 #[.agg (mval m A n c), .string who, .int .i64 ans, .agg #[.int .i64 f, .int .i64 t]] w fun e w' => e = .returned (.bool true) ∧ Bel w w' := by
  have KC := Lib.hid hkc
  have KR := Lib.hid hkr
  have KZ := Lib.hid hkz
  have HGP := Lib.hid hgp
  clear hkc hkr hkz hgp
  have HIN := Lib.hid hin
  clear hin
  have H := Lib.hid h
  have HH1 := Lib.hid h1
  have HH2 := Lib.hid h2
  have HH3 := Lib.hid h3
  clear h h1 h2 h3
  go_enter Try.func6, Try.ntmps6
  go_wp2_with fail
  refine (answer' m who ans f t Mtg.zero 3 (-6) A n c _ (H.out.bel (((Bel.refl _).alloc _).alloc _)) HH1.out).mono ?_
  rintro e w1 ⟨A1, n1, d1, rfl, hrd1, hb1, hq1⟩
  clear hq1
  have M1 := Lib.hid ((show Blk ((w.alloc (.cells (mval m A n c) 40)).alloc (.cells #[.int .i64 f, .int .i64 t] 38)) w.heap.size 40 (mval m A n c) from (Blk.new _ _ _).alloc _).bel hb1)
  have P1 := Lib.hid ((show Blk ((w.alloc (.cells (mval m A n c) 40)).alloc (.cells #[.int .i64 f, .int .i64 t] 38)) (w.heap.size + 1) 38 #[.int .i64 f, .int .i64 t] from Blk.new' _ _ (by simp)).bel hb1)
  have R1 := Lib.hid hrd1
  have B1 := Lib.hid (show Bel w w1 from (((Bel.refl w).alloc _).alloc _).trans hb1)
  have hcm := M1.out.cell
  have hl1 : w.heap.size + 1 < w1.heap.size := P1.out.lt
  have hl0 : w.heap.size < w1.heap.size := by omega
  have hl0a : w.heap.size < w1.heap.size + 1 := by omega
  clear hrd1 hb1
  go_wp2_with fail
  generalize hW1 : (World.alloc (World.alloc w1 _) _) = W1
  have a1 := Lib.hid (show Blk W1 w1.heap.size 40 (mval Mtg.zero A1 n1 d1) from by rw [← hW1]; exact (Blk.new _ _ _).alloc _)
  have f1 := Lib.hid (show Blk W1 (w1.heap.size + 1) 27 #[.int .i64 3, .int .i64 (-6)] from by rw [← hW1]; exact Blk.new' _ _ (by simp))
  have X1 := Lib.hid (show Bel w1 W1 from by rw [← hW1]; exact ((Bel.refl _).alloc _).alloc _)
  clear hW1 hcm hl1 hl0 hl0a
  refine (agreedX' m (agreedOf m) 0 0 A n c _ (H.out.bel (B1.out.trans X1.out)) HH2.out).mono ?_
  rintro e w2 ⟨rfl, hb2⟩
  have Y2 := Lib.hid (X1.out.trans hb2)
  have R12 := Lib.hid (R1.out.bel Y2.out)
  have M2 := Lib.hid (M1.out.bel Y2.out)
  have P2 := Lib.hid (P1.out.bel Y2.out)
  have a2 := Lib.hid (a1.out.bel hb2)
  have f2 := Lib.hid (f1.out.bel hb2)
  have hcm := M2.out.cell
  have hl0 : w.heap.size < w2.heap.size := M2.out.lt
  clear hb2
  go_wp2_with fail
  generalize hW2 : (World.alloc w2 _) = W2
  have g2 := Lib.hid (show Blk W2 w2.heap.size 27 #[.int .i64 0, .int .i64 0] from by rw [← hW2]; exact Blk.new _ _ _)
  have X2 := Lib.hid (show Bel w2 W2 from by rw [← hW2]; exact (Bel.refl _).alloc _)
  clear hW2 hcm hl0
  refine (meetingFault' m A n c 0 0 _ (H.out.bel ((B1.out.trans Y2.out).trans X2.out)) HH3.out).mono ?_
  rintro e w3 ⟨rfl, hb3⟩
  have hbv := X2.out.trans hb3
  have M4 := Lib.hid (M2.out.bel hbv)
  have P4 := Lib.hid (P2.out.bel hbv)
  have a4 := Lib.hid (a2.out.bel hbv)
  have f4 := Lib.hid (f2.out.bel hbv)
  have g4 := Lib.hid (g2.out.bel hb3)
  have R14 := Lib.hid (R12.out.bel hbv)
  have R04 := Lib.hid (H.out.bel ((B1.out.trans Y2.out).trans hbv))
  have B4 := Lib.hid ((B1.out.trans Y2.out).trans hbv)
  have lm : w.heap.size < w3.heap.size := M4.out.lt
  have lp : w.heap.size + 1 < w3.heap.size := P4.out.lt
  have la : w1.heap.size < w3.heap.size := a4.out.lt
  have lf : w1.heap.size + 1 < w3.heap.size := f4.out.lt
  have lg : w2.heap.size < w3.heap.size := g4.out.lt
  have o1 : w.heap.size + 1 < w1.heap.size := P1.out.lt
  have o2 : w1.heap.size + 1 < w2.heap.size := f2.out.lt
  have cm := M4.out.cell
  have cp := P4.out.cell
  have ca := a4.out.cell
  have cf := f4.out.cell
  have cg := g4.out.cell
  clear hbv hb3
  clear M1 P1 R1 B1 a1 f1 X1 Y2 R12 M2 P2 a2 f2 g2 X2
  have kc := KC.out
  have kr := KR.out
  have kz := KZ.out
  have hg0 : decide (GP < 0) = false := by simpa using hpos
  have hin' : decide (1 ≤ ans ∧ ans ≤ 3) = false := by simpa using HIN.out
  have hin'' : ans < 1 ∨ 3 < ans := by have := HIN.out; omega
  have hn := H.out.le
  have hm := H.out.cap
  have HL := Lib.hid (H.out.count (fun _ => rfl) (by decide))
  obtain ⟨b, off, hAe⟩ : ∃ b off, (0 < n → A = some ⟨b, off, none⟩) := by
    rcases Nat.eq_zero_or_pos n with h0 | h0
    · exact ⟨0, 0, fun h => by omega⟩
    · obtain ⟨b, off, e, _⟩ := H.out.place (by omega)
      exact ⟨b, off, fun _ => e⟩
  have HAE := Lib.hid hAe
  clear hAe
  go_wp2
  go_loop [14, 15] (AllRel m.guests true n) (fun _ i => n - (intOf i).toNat)
  case atStart => exact ⟨0, _, Nat.zero_le _, rfl, rfl, rfl⟩
  case round =>
    obtain ⟨k, bb, hk, rfl, rfl, hrl⟩ := hrel
    have HRL := Lib.hid hrl
    clear hrl
    by_cases hlt : k < n
    · obtain ⟨b1, off1, g, hA1, hlb, hu, hc⟩ := R04.out.elem (fun _ => rfl) (by decide) hlt
      have hAA := HAE.out (by omega)
      subst hAA
      injection hA1 with hA1
      injection hA1 with hA1 hA2
      subst hA1 hA2
      have c1' : w3.cell? ⟨b, off + k * 4 + 1, none⟩ = some (.int .i64 g.ans) := hc 1 _ rfl
      have HU := Lib.hid hu
      clear hc hu
      cases bb with
      | false =>
        go_wp2
        go_round
        case rel => exact ⟨k + 1, false, hlt, by go_num, rfl, by rw [HRL.out]; simp⟩
        case measure => simp [intOf]; omega
      | true =>
        go_wp2
        go_round
        case rel => exact ⟨k + 1, g.ans == 1, hlt, by go_num, rfl, by rw [HRL.out, drop_at HU.out]; simp⟩
        case measure => simp [intOf]; omega
    · have hbb : bb = agreedOf m := by
        have h' := HRL.out
        rw [List.drop_of_length_le (by have := HL.out; omega)] at h'
        rw [agreed_all, KR.out, KC.out]
        simpa using h'.symm
      subst hbb
      clear HRL
      go_wp2_with fail
      refine (guestAt' A n c m.guests who GP _ (R04.out.bel ((Bel.refl _).alloc _)) HGP.out).mono ?_
      rintro e w' ⟨rfl, rfl⟩
      go_wp2_with (first | (go_at_call 25; refine (at_ _ _ _).mono ?_; rintro e w' ⟨rfl, rfl⟩) | (go_at_call 26; refine (in_ _ _ _ _).mono ?_; rintro e w' ⟨rfl, rfl⟩) | (go_at_call 27; refine (proposable _ _ _).mono ?_; rintro e w' ⟨rfl, rfl⟩))
      refine (sameMeeting Mtg.zero A1 none n1 0 d1 0 _ (R14.out.bel ?_) Rd.nil).mono ?_
      · (repeat (first | with_reducible refine Bel.setCell ?_ (by simp <;> omega) _ | with_reducible refine Bel.alloc ?_ _ | with_reducible refine Bel.drewN ?_ _ | with_reducible refine Bel.drew ?_)); exact Bel.refl _
      rintro e w5 ⟨rfl, hb5⟩
      have B5 := Lib.hid (show Bel w w5 from Bel.trans (by (repeat (first | with_reducible refine Bel.setCell ?_ (by simp <;> omega) _ | with_reducible refine Bel.alloc ?_ _ | with_reducible refine Bel.drewN ?_ _ | with_reducible refine Bel.drew ?_)); exact B4.out) hb5)
      clear hb5
      go_wp2_with fail
      refine (agreedL _).mono ?_
      rintro e w6 ⟨rfl, hb6⟩
      have B6 := Lib.hid (B5.out.trans hb6)
      clear hb6
      go_wp2_with fail
      go_ret
      exact ⟨rfl, B6.out⟩
set_option maxHeartbeats 2000000 in
set_option maxRecDepth 100000 in
theorem ansB6 (m : Mtg) (who : ByteArray) (ans f t : Int) (A : Option Addr) (n c : Nat) (w : World) (h : Rd w 4 A n c (m.guests.flatMap Guest.cells)) (h1 : answerOf m who ans f t = (Mtg.zero, 3, -7)) (h2 : agRes m = (agreedOf m, 0, 0)) (h3 : mtgFault m = (0, 0)) (hkc : m.can = false) (hkr : decide (0 < m.round) = true) (hkz : (m.round == 0) = false) (GP : Int) (hgp : gpos m who = GP) (hpos : 0 ≤ GP) (h3a : ans = 3) (hps : possB f t = false) :
    Calls Try.prog 6 #[.agg (mval m A n c), .string who, .int .i64 ans, .agg #[.int .i64 f, .int .i64 t]] w fun e w' => e = .returned (.bool true) ∧ Bel w w' := by
  have KC := Lib.hid hkc
  have KR := Lib.hid hkr
  have KZ := Lib.hid hkz
  have HGP := Lib.hid hgp
  clear hkc hkr hkz hgp
  have A3 := Lib.hid h3a
  clear h3a
  have H := Lib.hid h
  have HH1 := Lib.hid h1
  have HH2 := Lib.hid h2
  have HH3 := Lib.hid h3
  clear h h1 h2 h3
  go_enter Try.func6, Try.ntmps6
  go_wp2_with fail
  refine (answer' m who ans f t Mtg.zero 3 (-7) A n c _ (H.out.bel (((Bel.refl _).alloc _).alloc _)) HH1.out).mono ?_
  rintro e w1 ⟨A1, n1, d1, rfl, hrd1, hb1, hq1⟩
  clear hq1
  have M1 := Lib.hid ((show Blk ((w.alloc (.cells (mval m A n c) 40)).alloc (.cells #[.int .i64 f, .int .i64 t] 38)) w.heap.size 40 (mval m A n c) from (Blk.new _ _ _).alloc _).bel hb1)
  have P1 := Lib.hid ((show Blk ((w.alloc (.cells (mval m A n c) 40)).alloc (.cells #[.int .i64 f, .int .i64 t] 38)) (w.heap.size + 1) 38 #[.int .i64 f, .int .i64 t] from Blk.new' _ _ (by simp)).bel hb1)
  have R1 := Lib.hid hrd1
  have B1 := Lib.hid (show Bel w w1 from (((Bel.refl w).alloc _).alloc _).trans hb1)
  have hcm := M1.out.cell
  have hl1 : w.heap.size + 1 < w1.heap.size := P1.out.lt
  have hl0 : w.heap.size < w1.heap.size := by omega
  have hl0a : w.heap.size < w1.heap.size + 1 := by omega
  clear hrd1 hb1
  go_wp2_with fail
  generalize hW1 : (World.alloc (World.alloc w1 _) _) = W1
  have a1 := Lib.hid (show Blk W1 w1.heap.size 40 (mval Mtg.zero A1 n1 d1) from by rw [← hW1]; exact (Blk.new _ _ _).alloc _)
  have f1 := Lib.hid (show Blk W1 (w1.heap.size + 1) 27 #[.int .i64 3, .int .i64 (-7)] from by rw [← hW1]; exact Blk.new' _ _ (by simp))
  have X1 := Lib.hid (show Bel w1 W1 from by rw [← hW1]; exact ((Bel.refl _).alloc _).alloc _)
  clear hW1 hcm hl1 hl0 hl0a
  refine (agreedX' m (agreedOf m) 0 0 A n c _ (H.out.bel (B1.out.trans X1.out)) HH2.out).mono ?_
  rintro e w2 ⟨rfl, hb2⟩
  have Y2 := Lib.hid (X1.out.trans hb2)
  have R12 := Lib.hid (R1.out.bel Y2.out)
  have M2 := Lib.hid (M1.out.bel Y2.out)
  have P2 := Lib.hid (P1.out.bel Y2.out)
  have a2 := Lib.hid (a1.out.bel hb2)
  have f2 := Lib.hid (f1.out.bel hb2)
  have hcm := M2.out.cell
  have hl0 : w.heap.size < w2.heap.size := M2.out.lt
  clear hb2
  go_wp2_with fail
  generalize hW2 : (World.alloc w2 _) = W2
  have g2 := Lib.hid (show Blk W2 w2.heap.size 27 #[.int .i64 0, .int .i64 0] from by rw [← hW2]; exact Blk.new _ _ _)
  have X2 := Lib.hid (show Bel w2 W2 from by rw [← hW2]; exact (Bel.refl _).alloc _)
  clear hW2 hcm hl0
  refine (meetingFault' m A n c 0 0 _ (H.out.bel ((B1.out.trans Y2.out).trans X2.out)) HH3.out).mono ?_
  rintro e w3 ⟨rfl, hb3⟩
  have hbv := X2.out.trans hb3
  have M4 := Lib.hid (M2.out.bel hbv)
  have P4 := Lib.hid (P2.out.bel hbv)
  have a4 := Lib.hid (a2.out.bel hbv)
  have f4 := Lib.hid (f2.out.bel hbv)
  have g4 := Lib.hid (g2.out.bel hb3)
  have R14 := Lib.hid (R12.out.bel hbv)
  have R04 := Lib.hid (H.out.bel ((B1.out.trans Y2.out).trans hbv))
  have B4 := Lib.hid ((B1.out.trans Y2.out).trans hbv)
  have lm : w.heap.size < w3.heap.size := M4.out.lt
  have lp : w.heap.size + 1 < w3.heap.size := P4.out.lt
  have la : w1.heap.size < w3.heap.size := a4.out.lt
  have lf : w1.heap.size + 1 < w3.heap.size := f4.out.lt
  have lg : w2.heap.size < w3.heap.size := g4.out.lt
  have o1 : w.heap.size + 1 < w1.heap.size := P1.out.lt
  have o2 : w1.heap.size + 1 < w2.heap.size := f2.out.lt
  have cm := M4.out.cell
  have cp := P4.out.cell
  have ca := a4.out.cell
  have cf := f4.out.cell
  have cg := g4.out.cell
  clear hbv hb3
  clear M1 P1 R1 B1 a1 f1 X1 Y2 R12 M2 P2 a2 f2 g2 X2
  have kc := KC.out
  have kr := KR.out
  have kz := KZ.out
  have hg0 : decide (GP < 0) = false := by simpa using hpos
  have b3 : (ans == 3) = true := by simp [A3.out]
  have hin' : decide (1 ≤ ans ∧ ans ≤ 3) = true := by simp [A3.out]
  have la1 : w1.heap.size < w3.heap.size + 1 := by omega
  have la2 : w1.heap.size < w3.heap.size + 1 + 1 := by omega
  have lm1 : w.heap.size < w3.heap.size + 1 := by omega
  have lm2 : w.heap.size < w3.heap.size + 1 + 1 := by omega
  have hn := H.out.le
  have hm := H.out.cap
  have HL := Lib.hid (H.out.count (fun _ => rfl) (by decide))
  obtain ⟨b, off, hAe⟩ : ∃ b off, (0 < n → A = some ⟨b, off, none⟩) := by
    rcases Nat.eq_zero_or_pos n with h0 | h0
    · exact ⟨0, 0, fun h => by omega⟩
    · obtain ⟨b, off, e, _⟩ := H.out.place (by omega)
      exact ⟨b, off, fun _ => e⟩
  have HAE := Lib.hid hAe
  clear hAe
  go_wp2
  go_loop [14, 15] (AllRel m.guests true n) (fun _ i => n - (intOf i).toNat)
  case atStart => exact ⟨0, _, Nat.zero_le _, rfl, rfl, rfl⟩
  case round =>
    obtain ⟨k, bb, hk, rfl, rfl, hrl⟩ := hrel
    have HRL := Lib.hid hrl
    clear hrl
    by_cases hlt : k < n
    · obtain ⟨b1, off1, g, hA1, hlb, hu, hc⟩ := R04.out.elem (fun _ => rfl) (by decide) hlt
      have hAA := HAE.out (by omega)
      subst hAA
      injection hA1 with hA1
      injection hA1 with hA1 hA2
      subst hA1 hA2
      have c1' : w3.cell? ⟨b, off + k * 4 + 1, none⟩ = some (.int .i64 g.ans) := hc 1 _ rfl
      have HU := Lib.hid hu
      clear hc hu
      cases bb with
      | false =>
        go_wp2
        go_round
        case rel => exact ⟨k + 1, false, hlt, by go_num, rfl, by rw [HRL.out]; simp⟩
        case measure => simp [intOf]; omega
      | true =>
        go_wp2
        go_round
        case rel => exact ⟨k + 1, g.ans == 1, hlt, by go_num, rfl, by rw [HRL.out, drop_at HU.out]; simp⟩
        case measure => simp [intOf]; omega
    · have hbb : bb = agreedOf m := by
        have h' := HRL.out
        rw [List.drop_of_length_le (by have := HL.out; omega)] at h'
        rw [agreed_all, KR.out, KC.out]
        simpa using h'.symm
      subst hbb
      clear HRL
      go_wp2_with fail
      refine (guestAt' A n c m.guests who GP _ (R04.out.bel ((Bel.refl _).alloc _)) HGP.out).mono ?_
      rintro e w' ⟨rfl, rfl⟩
      go_wp2_with (first | (go_at_call 25; refine (at_ _ _ _).mono ?_; rintro e w' ⟨rfl, rfl⟩) | (go_at_call 26; refine (in_ _ _ _ _).mono ?_; rintro e w' ⟨rfl, rfl⟩) | (go_at_call 27; refine (proposable _ _ _).mono ?_; rintro e w' ⟨rfl, rfl⟩))
      refine (sameMeeting Mtg.zero A1 none n1 0 d1 0 _ (R14.out.bel ?_) Rd.nil).mono ?_
      · (repeat (first | with_reducible refine Bel.setCell ?_ (by simp <;> omega) _ | with_reducible refine Bel.alloc ?_ _ | with_reducible refine Bel.drewN ?_ _ | with_reducible refine Bel.drew ?_)); exact Bel.refl _
      rintro e w5 ⟨rfl, hb5⟩
      have B5 := Lib.hid (show Bel w w5 from Bel.trans (by (repeat (first | with_reducible refine Bel.setCell ?_ (by simp <;> omega) _ | with_reducible refine Bel.alloc ?_ _ | with_reducible refine Bel.drewN ?_ _ | with_reducible refine Bel.drew ?_)); exact B4.out) hb5)
      clear hb5
      go_wp2_with fail
      refine (agreedL _).mono ?_
      rintro e w6 ⟨rfl, hb6⟩
      have B6 := Lib.hid (B5.out.trans hb6)
      clear hb6
      go_wp2_with fail
      go_ret
      exact ⟨rfl, B6.out⟩
end Go.Proofs.Ytgmjhnijnpfkgaa
