/- MeetingAnswerMatchesSpec where the answer is noted. -/
import Derived.Test.YtgmjhnijnpfkgaaLawMeet4
namespace Go.Proofs.Ytgmjhnijnpfkgaa
open Go.RowKit

theorem sameMeeting' (m : Mtg) (A B : Option Addr) (n n' c d : Nat) (vs vs' : Array Value) (w : World) (hv : vs = mval m A n c) (hv' : vs' = mval m B n' d) (h : Rd w 4 A n c (m.guests.flatMap Guest.cells)) (h' : Rd w 4 B n' d (m.guests.flatMap Guest.cells)) :
    Calls Try.prog 22 #[.agg vs, .agg vs'] w fun e w' => e = .returned (.bool true) ∧ Bel w w' := by
  subst hv hv'
  exact sameMeeting m A B n n' c d w h h'
theorem set_id {xs : List Value} {j : Nat} {v : Value} (h : xs[j]? = some v) : xs.set j v = xs := by
  apply List.ext_getElem?
  intro i
  rw [List.getElem?_set]
  split
  · rename_i e
    subst e
    split
    · exact h.symm
    · rename_i hn; rw [List.getElem?_eq_none (by omega)] at h; cases h
  · rfl
theorem answered_flat4 {m : Mtg} {k : Nat} {g : Guest} {who : ByteArray} {ans f t : Int} (hu : m.guests[k]? = some g) (hw : who = g.addr) :
    ((m.answered k ans f t).guests).flatMap Guest.cells = (((((m.guests.flatMap Guest.cells).set (k * 4) (.string who)).set (k * 4 + 1) (.int .i64 ans)).set (k * 4 + 2) (.int .i64 (if ans = 3 then f else 0))).set (k * 4 + 3) (.int .i64 (if ans = 3 then t else 0))) := by
  rw [answered_flat hu, set_id (xs := m.guests.flatMap Guest.cells) (j := k * 4)]
  rw [hw]
  exact flat_get Guest.cells 4 (fun _ => rfl) m.guests k 0 g hu (by decide)
theorem set_twice4 (xs : List Value) (k : Nat) (s a d e : Value) : ((((((xs.set k s).set (k + 1) a).set (k + 2) (.int .i64 0)).set (k + 3) (.int .i64 0)).set (k + 2) d).set (k + 3) e) = (((xs.set k s).set (k + 1) a).set (k + 2) d).set (k + 3) e := set_twice _ _ _ _ _ _ _

set_option maxHeartbeats 2000000 in
set_option maxRecDepth 100000 in
theorem ansC1 (m : Mtg) (who : ByteArray) (ans f t : Int) (kg : Nat) (A : Option Addr) (n c : Nat) (w : World) (h : Rd w 4 A n c (m.guests.flatMap Guest.cells)) (h1 : answerOf m who ans f t = ((m.answered kg ans f t), 0, 0)) (h2 : agRes m = (agreedOf m, 0, 0)) (h3 : mtgFault m = (0, 0)) (hkc : m.can = false) (hkr : decide (0 < m.round) = true) (hkz : (m.round == 0) = false) (GP : Int) (hgp : gpos m who = GP) (g : Guest) (hk0 : GP = (kg : Int)) (hug : m.guests[kg]? = some g) (hwho : who = g.addr) (hn30 : n ≤ 30) (h3a : ans ≠ 3) (ha1 : 1 ≤ ans ∧ ans ≤ 3) :
    Calls Try.prog 6 #[.agg (mval m A n c), .string who, .int .i64 ans, .agg #[.int .i64 f, .int .i64 t]] w fun e w' => e = .returned (.bool true) ∧ Bel w w' := by
  have KC := Lib.hid hkc
  have KR := Lib.hid hkr
  have KZ := Lib.hid hkz
  have HGP := Lib.hid hgp
  clear hkc hkr hkz hgp
  have HUU := Lib.hid hug
  have HWH := Lib.hid hwho
  have hkn : kg < n := by
    rw [← h.count (fun _ => rfl) (by decide)]
    rcases Nat.lt_or_ge kg m.guests.length with h' | h'
    · exact h'
    · rw [List.getElem?_eq_none h'] at hug; cases hug
  subst hk0
  have A3 := Lib.hid h3a
  clear hug hwho h3a
  have HA1 := Lib.hid ha1
  clear ha1
  have H := Lib.hid h
  have HH1 := Lib.hid h1
  have HH2 := Lib.hid h2
  have HH3 := Lib.hid h3
  clear h h1 h2 h3
  go_enter Try.func6, Try.ntmps6
  go_wp2_with fail
  refine (answer' m who ans f t (m.answered kg ans f t) 0 0 A n c _ (H.out.bel (((Bel.refl _).alloc _).alloc _)) HH1.out).mono ?_
  rintro e w1 ⟨A1, n1, d1, rfl, hrd1, hb1, hq1⟩
  clear hq1
  have M1 := Lib.hid ((show Blk ((w.alloc (.cells (mval m A n c) 40)).alloc (.cells #[.int .i64 f, .int .i64 t] 38)) w.heap.size 40 (mval m A n c) from (Blk.new _ _ _).alloc _).bel hb1)
  have P1 := Lib.hid ((show Blk ((w.alloc (.cells (mval m A n c) 40)).alloc (.cells #[.int .i64 f, .int .i64 t] 38)) (w.heap.size + 1) 38 #[.int .i64 f, .int .i64 t] from Blk.new' _ _ (by simp)).bel hb1)
  have R1 := Lib.hid hrd1
  have B1 := Lib.hid (show Bel w w1 from (((Bel.refl w).alloc _).alloc _).trans hb1)
  have hcm := M1.out.cell
  have hl1 : w.heap.size + 1 < w1.heap.size := P1.out.lt
  have hl0 : w.heap.size < w1.heap.size := by omega
  have hl0a : w.heap.size < w1.heap.size + 1 := by omega
  clear hrd1 hb1
  go_wp2_with fail
  generalize hW1 : (World.alloc (World.alloc w1 _) _) = W1
  have a1 := Lib.hid (show Blk W1 w1.heap.size 40 (mval (m.answered kg ans f t) A1 n1 d1) from by rw [← hW1]; exact (Blk.new _ _ _).alloc _)
  have f1 := Lib.hid (show Blk W1 (w1.heap.size + 1) 27 #[.int .i64 0, .int .i64 0] from by rw [← hW1]; exact Blk.new' _ _ (by simp))
  have X1 := Lib.hid (show Bel w1 W1 from by rw [← hW1]; exact ((Bel.refl _).alloc _).alloc _)
  clear hW1 hcm hl1 hl0 hl0a
  refine (agreedX' m (agreedOf m) 0 0 A n c _ (H.out.bel (B1.out.trans X1.out)) HH2.out).mono ?_
  rintro e w2 ⟨rfl, hb2⟩
  have Y2 := Lib.hid (X1.out.trans hb2)
  have R12 := Lib.hid (R1.out.bel Y2.out)
  have M2 := Lib.hid (M1.out.bel Y2.out)
  have P2 := Lib.hid (P1.out.bel Y2.out)
  have a2 := Lib.hid (a1.out.bel hb2)
  have f2 := Lib.hid (f1.out.bel hb2)
  have hcm := M2.out.cell
  have hl0 : w.heap.size < w2.heap.size := M2.out.lt
  clear hb2
  go_wp2_with fail
  generalize hW2 : (World.alloc w2 _) = W2
  have g2 := Lib.hid (show Blk W2 w2.heap.size 27 #[.int .i64 0, .int .i64 0] from by rw [← hW2]; exact Blk.new _ _ _)
  have X2 := Lib.hid (show Bel w2 W2 from by rw [← hW2]; exact (Bel.refl _).alloc _)
  clear hW2 hcm hl0
  refine (meetingFault' m A n c 0 0 _ (H.out.bel ((B1.out.trans Y2.out).trans X2.out)) HH3.out).mono ?_
  rintro e w3 ⟨rfl, hb3⟩
  have hbv := X2.out.trans hb3
  have M4 := Lib.hid (M2.out.bel hbv)
  have P4 := Lib.hid (P2.out.bel hbv)
  have a4 := Lib.hid (a2.out.bel hbv)
  have f4 := Lib.hid (f2.out.bel hbv)
  have g4 := Lib.hid (g2.out.bel hb3)
  have R14 := Lib.hid (R12.out.bel hbv)
  have R04 := Lib.hid (H.out.bel ((B1.out.trans Y2.out).trans hbv))
  have B4 := Lib.hid ((B1.out.trans Y2.out).trans hbv)
  have lm : w.heap.size < w3.heap.size := M4.out.lt
  have lp : w.heap.size + 1 < w3.heap.size := P4.out.lt
  have la : w1.heap.size < w3.heap.size := a4.out.lt
  have lf : w1.heap.size + 1 < w3.heap.size := f4.out.lt
  have lg : w2.heap.size < w3.heap.size := g4.out.lt
  have o1 : w.heap.size + 1 < w1.heap.size := P1.out.lt
  have o2 : w1.heap.size + 1 < w2.heap.size := f2.out.lt
  have cm := M4.out.cell
  have cp := P4.out.cell
  have ca := a4.out.cell
  have cf := f4.out.cell
  have cg := g4.out.cell
  clear hbv hb3
  clear M1 P1 R1 B1 a1 f1 X1 Y2 R12 M2 P2 a2 f2 g2 X2
  have kc := KC.out
  have kr := KR.out
  have kz := KZ.out
  have b3 : (ans == 3) = false := by simpa using A3.out
  have hin' : decide (1 ≤ ans ∧ ans ≤ 3) = true := by simpa using HA1.out
  have la1 : w1.heap.size < w3.heap.size + 1 := by omega
  have la2 : w1.heap.size < w3.heap.size + 1 + 1 := by omega
  have lm1 : w.heap.size < w3.heap.size + 1 := by omega
  have lm2 : w.heap.size < w3.heap.size + 1 + 1 := by omega
  have lm3 : w.heap.size < w3.heap.size + 1 + 1 + 1 := by omega
  have hn := H.out.le
  have hm := H.out.cap
  have HL := Lib.hid (H.out.count (fun _ => rfl) (by decide))
  obtain ⟨b, off, hAe⟩ : ∃ b off, (0 < n → A = some ⟨b, off, none⟩) := by
    rcases Nat.eq_zero_or_pos n with h0 | h0
    · exact ⟨0, 0, fun h => by omega⟩
    · obtain ⟨b, off, e, _⟩ := H.out.place (by omega)
      exact ⟨b, off, fun _ => e⟩
  have HAE := Lib.hid hAe
  clear hAe
  go_wp2
  go_loop [14, 15] (AllRel m.guests true n) (fun _ i => n - (intOf i).toNat)
  case atStart => exact ⟨0, _, Nat.zero_le _, rfl, rfl, rfl⟩
  case round =>
    obtain ⟨k, bb, hk, rfl, rfl, hrl⟩ := hrel
    have HRL := Lib.hid hrl
    clear hrl
    by_cases hlt : k < n
    · obtain ⟨b1, off1, g, hA1, hlb, hu, hc⟩ := R04.out.elem (fun _ => rfl) (by decide) hlt
      have hAA := HAE.out (by omega)
      subst hAA
      injection hA1 with hA1
      injection hA1 with hA1 hA2
      subst hA1 hA2
      have c1' : w3.cell? ⟨b, off + k * 4 + 1, none⟩ = some (.int .i64 g.ans) := hc 1 _ rfl
      have HU := Lib.hid hu
      clear hc hu
      cases bb with
      | false =>
        go_wp2
        go_round
        case rel => exact ⟨k + 1, false, hlt, by go_num, rfl, by rw [HRL.out]; simp⟩
        case measure => simp [intOf]; omega
      | true =>
        go_wp2
        go_round
        case rel => exact ⟨k + 1, g.ans == 1, hlt, by go_num, rfl, by rw [HRL.out, drop_at HU.out]; simp⟩
        case measure => simp [intOf]; omega
    · have hbb : bb = agreedOf m := by
        have h' := HRL.out
        rw [List.drop_of_length_le (by have := HL.out; omega)] at h'
        rw [agreed_all, KR.out, KC.out]
        simpa using h'.symm
      subst hbb
      clear HRL
      go_wp2_with fail
      refine (guestAt' A n c m.guests who (kg : Int) _ (R04.out.bel ((Bel.refl _).alloc _)) HGP.out).mono ?_
      rintro e w' ⟨rfl, rfl⟩
      go_wp2_with (first
        | (go_at_call 25; refine (at_ _ _ _).mono ?_; rintro e w' ⟨rfl, rfl⟩)
        | (go_at_call 26; refine (in_ _ _ _ _).mono ?_; rintro e w' ⟨rfl, rfl⟩)
        | (go_at_call 27; refine (proposable _ _ _).mono ?_; rintro e w' ⟨rfl, rfl⟩)
        | (at_builtin
           refine wpList_apd (base := w3.heap.size + 1 + 1) (.tmp 131) (.tmp 133) rfl rfl rfl rfl guestsT (Own.new' 4 0 #[] (by simp) (by omega) rfl (Nat.zero_le _) (by simp)) (R04.out.bel ((((Bel.refl w3).alloc _).alloc _).alloc _)) (by unfold maxLen; omega) (by omega) (by simp <;> omega) ?_
           intro A5 c5 w5 hown1 hfr1 hb1
           simp only [Nat.zero_add, List.nil_append] at hown1
           have hbw5 : Bel w3 w5 := ((((Bel.refl w3).alloc _).alloc _).alloc _).frm_own (Own.new' (base := w3.heap.size + 1 + 1) 4 0 #[] (by simp) (by omega) rfl (Nat.zero_le _) (by simp)) (by omega) hfr1
           have bW := (show Blk (((_ : World).alloc (.cells #[.string m.org, .slice A n c, .int .i64 m.round, .int .i64 m.pf, .int .i64 m.pt, .bool false] 40)).alloc _) (w3.heap.size + 1) 40 #[.string m.org, .slice A n c, .int .i64 m.round, .int .i64 m.pf, .int .i64 m.pt, .bool false] from (Blk.new' _ _ (by simp)).alloc _).frm hfr1 (by simp [blk] <;> omega)
           obtain ⟨q, hq⟩ : ∃ q, A5 = some ⟨q, 0, none⟩ := by
             rcases hown1.form with ⟨_, h0, _⟩ | ⟨q, _, h, _⟩
             · omega
             · exact ⟨q, h⟩
           subst hq
           have hqb := (hown1.lt (g := q) rfl).1
           have hql := (hown1.lt (g := q) rfl).2
           have fq := hown1.frz
           have hc5 := hown1.rd.le
           have hc5' := hown1.rd.cap
           have hfl := flat_get Guest.cells 4 (fun _ => rfl) m.guests kg
           have q0 : w5.cell? ⟨q, kg * 4, none⟩ = some (.string g.addr) := hown1.cell (show _ = some _ from hfl 0 g HUU.out (by decide))
           have q1 : w5.cell? ⟨q, kg * 4 + 1, none⟩ = some (.int .i64 g.ans) := hown1.cell (by rw [hfl 1 g HUU.out (by decide)]; rfl)
           have q2 : w5.cell? ⟨q, kg * 4 + 2, none⟩ = some (.int .i64 g.of_) := hown1.cell (by rw [hfl 2 g HUU.out (by decide)]; rfl)
           have q3 : w5.cell? ⟨q, kg * 4 + 3, none⟩ = some (.int .i64 g.ot) := hown1.cell (by rw [hfl 3 g HUU.out (by decide)]; rfl)
           have cw := bW.cell
           have fw := bW.frz
           have cp5 := (P4.out.bel hbw5).cell
           have ca5 := (a4.out.bel hbw5).cell
           have cf5 := (f4.out.bel hbw5).cell
           have lw5 : w3.heap.size + 1 < w5.heap.size := bW.lt
           have lq : ¬ q = w3.heap.size + 1 := by omega
           have lq' : ¬ w3.heap.size + 1 = q := by omega
           have lqa : ¬ q = w1.heap.size := by omega
           have lqa' : ¬ w1.heap.size = q := by omega
           have lqf : ¬ q = w1.heap.size + 1 := by omega
           have lqf' : ¬ w1.heap.size + 1 = q := by omega
           have lqp : ¬ q = w.heap.size + 1 := by omega
           have lqp' : ¬ w.heap.size + 1 = q := by omega
           have HO5 := Lib.hid hown1
           have HB5 := Lib.hid hbw5
           have BW5 := Lib.hid bW
           clear hown1 hfr1 hb1 hbw5 bW hfl))
      refine (sameMeeting' (m.answered kg ans f t) A1 (some ⟨q, 0, none⟩) n1 n d1 c5 _ _ _ rfl (by simp [mval, Mtg.answered, KC.out]) (R14.out.bel ?_) ?_).mono ?_
      · (repeat (first | with_reducible refine Bel.setCell ?_ (by simp <;> omega) _ | with_reducible refine Bel.alloc ?_ _ | with_reducible refine Bel.drewN ?_ _ | with_reducible refine Bel.drew ?_)); exact HB5.out
      · rw [answered_flat4 HUU.out HWH.out]
        rw [if_neg A3.out, if_neg A3.out]
        rw [show kg * 4 + 3 = kg * 4 + 2 + 1 from rfl]
        apply Own.rd (base := w3.heap.size + 1 + 1) (e := 48)
        (repeat (first | with_reducible refine Own.alloc ?_ _ | with_reducible refine Own.drew ?_ | with_reducible refine Own.set_ ?_ ?_ | with_reducible refine Own.far ?_ (by simp <;> omega)))
        exact HO5.out
        all_goals rfl
      rintro e w7 ⟨rfl, hb7⟩
      have B7 := Lib.hid (show Bel w w7 from Bel.trans (Bel.trans B4.out (show Bel w3 _ from (by (repeat (first | with_reducible refine Bel.setCell ?_ (by simp <;> omega) _ | with_reducible refine Bel.alloc ?_ _ | with_reducible refine Bel.drewN ?_ _ | with_reducible refine Bel.drew ?_)); exact HB5.out))) hb7)
      clear hb7
      go_wp2_with fail
      refine (agreedL _).mono ?_
      rintro e w8 ⟨rfl, hb8⟩
      have B8 := Lib.hid (B7.out.trans hb8)
      clear hb8
      go_wp2_with fail
      go_ret
      exact ⟨rfl, B8.out⟩
set_option maxHeartbeats 2000000 in
set_option maxRecDepth 100000 in
theorem ansC3 (m : Mtg) (who : ByteArray) (ans f t : Int) (kg : Nat) (A : Option Addr) (n c : Nat) (w : World) (h : Rd w 4 A n c (m.guests.flatMap Guest.cells)) (h1 : answerOf m who ans f t = ((m.answered kg ans f t), 0, 0)) (h2 : agRes m = (agreedOf m, 0, 0)) (h3 : mtgFault m = (0, 0)) (hkc : m.can = false) (hkr : decide (0 < m.round) = true) (hkz : (m.round == 0) = false) (GP : Int) (hgp : gpos m who = GP) (g : Guest) (hk0 : GP = (kg : Int)) (hug : m.guests[kg]? = some g) (hwho : who = g.addr) (hn30 : n ≤ 30) (h3a : ans = 3) (hps : possB f t = true) :
    Calls Try.prog 6 #[.agg (mval m A n c), .string who, .int .i64 ans, .agg #[.int .i64 f, .int .i64 t]] w fun e w' => e = .returned (.bool true) ∧ Bel w w' := by
  have KC := Lib.hid hkc
  have KR := Lib.hid hkr
  have KZ := Lib.hid hkz
  have HGP := Lib.hid hgp
  clear hkc hkr hkz hgp
  have HUU := Lib.hid hug
  have HWH := Lib.hid hwho
  have hkn : kg < n := by
    rw [← h.count (fun _ => rfl) (by decide)]
    rcases Nat.lt_or_ge kg m.guests.length with h' | h'
    · exact h'
    · rw [List.getElem?_eq_none h'] at hug; cases hug
  subst hk0
  have A3 := Lib.hid h3a
  clear hug hwho h3a
  have H := Lib.hid h
  have HH1 := Lib.hid h1
  have HH2 := Lib.hid h2
  have HH3 := Lib.hid h3
  clear h h1 h2 h3
  go_enter Try.func6, Try.ntmps6
  go_wp2_with fail
  refine (answer' m who ans f t (m.answered kg ans f t) 0 0 A n c _ (H.out.bel (((Bel.refl _).alloc _).alloc _)) HH1.out).mono ?_
  rintro e w1 ⟨A1, n1, d1, rfl, hrd1, hb1, hq1⟩
  clear hq1
  have M1 := Lib.hid ((show Blk ((w.alloc (.cells (mval m A n c) 40)).alloc (.cells #[.int .i64 f, .int .i64 t] 38)) w.heap.size 40 (mval m A n c) from (Blk.new _ _ _).alloc _).bel hb1)
  have P1 := Lib.hid ((show Blk ((w.alloc (.cells (mval m A n c) 40)).alloc (.cells #[.int .i64 f, .int .i64 t] 38)) (w.heap.size + 1) 38 #[.int .i64 f, .int .i64 t] from Blk.new' _ _ (by simp)).bel hb1)
  have R1 := Lib.hid hrd1
  have B1 := Lib.hid (show Bel w w1 from (((Bel.refl w).alloc _).alloc _).trans hb1)
  have hcm := M1.out.cell
  have hl1 : w.heap.size + 1 < w1.heap.size := P1.out.lt
  have hl0 : w.heap.size < w1.heap.size := by omega
  have hl0a : w.heap.size < w1.heap.size + 1 := by omega
  clear hrd1 hb1
  go_wp2_with fail
  generalize hW1 : (World.alloc (World.alloc w1 _) _) = W1
  have a1 := Lib.hid (show Blk W1 w1.heap.size 40 (mval (m.answered kg ans f t) A1 n1 d1) from by rw [← hW1]; exact (Blk.new _ _ _).alloc _)
  have f1 := Lib.hid (show Blk W1 (w1.heap.size + 1) 27 #[.int .i64 0, .int .i64 0] from by rw [← hW1]; exact Blk.new' _ _ (by simp))
  have X1 := Lib.hid (show Bel w1 W1 from by rw [← hW1]; exact ((Bel.refl _).alloc _).alloc _)
  clear hW1 hcm hl1 hl0 hl0a
  refine (agreedX' m (agreedOf m) 0 0 A n c _ (H.out.bel (B1.out.trans X1.out)) HH2.out).mono ?_
  rintro e w2 ⟨rfl, hb2⟩
  have Y2 := Lib.hid (X1.out.trans hb2)
  have R12 := Lib.hid (R1.out.bel Y2.out)
  have M2 := Lib.hid (M1.out.bel Y2.out)
  have P2 := Lib.hid (P1.out.bel Y2.out)
  have a2 := Lib.hid (a1.out.bel hb2)
  have f2 := Lib.hid (f1.out.bel hb2)
  have hcm := M2.out.cell
  have hl0 : w.heap.size < w2.heap.size := M2.out.lt
  clear hb2
  go_wp2_with fail
  generalize hW2 : (World.alloc w2 _) = W2
  have g2 := Lib.hid (show Blk W2 w2.heap.size 27 #[.int .i64 0, .int .i64 0] from by rw [← hW2]; exact Blk.new _ _ _)
  have X2 := Lib.hid (show Bel w2 W2 from by rw [← hW2]; exact (Bel.refl _).alloc _)
  clear hW2 hcm hl0
  refine (meetingFault' m A n c 0 0 _ (H.out.bel ((B1.out.trans Y2.out).trans X2.out)) HH3.out).mono ?_
  rintro e w3 ⟨rfl, hb3⟩
  have hbv := X2.out.trans hb3
  have M4 := Lib.hid (M2.out.bel hbv)
  have P4 := Lib.hid (P2.out.bel hbv)
  have a4 := Lib.hid (a2.out.bel hbv)
  have f4 := Lib.hid (f2.out.bel hbv)
  have g4 := Lib.hid (g2.out.bel hb3)
  have R14 := Lib.hid (R12.out.bel hbv)
  have R04 := Lib.hid (H.out.bel ((B1.out.trans Y2.out).trans hbv))
  have B4 := Lib.hid ((B1.out.trans Y2.out).trans hbv)
  have lm : w.heap.size < w3.heap.size := M4.out.lt
  have lp : w.heap.size + 1 < w3.heap.size := P4.out.lt
  have la : w1.heap.size < w3.heap.size := a4.out.lt
  have lf : w1.heap.size + 1 < w3.heap.size := f4.out.lt
  have lg : w2.heap.size < w3.heap.size := g4.out.lt
  have o1 : w.heap.size + 1 < w1.heap.size := P1.out.lt
  have o2 : w1.heap.size + 1 < w2.heap.size := f2.out.lt
  have cm := M4.out.cell
  have cp := P4.out.cell
  have ca := a4.out.cell
  have cf := f4.out.cell
  have cg := g4.out.cell
  clear hbv hb3
  clear M1 P1 R1 B1 a1 f1 X1 Y2 R12 M2 P2 a2 f2 g2 X2
  have kc := KC.out
  have kr := KR.out
  have kz := KZ.out
  have b3 : (ans == 3) = true := by simp [A3.out]
  have hin' : decide (1 ≤ ans ∧ ans ≤ 3) = true := by simp [A3.out]
  have la1 : w1.heap.size < w3.heap.size + 1 := by omega
  have la2 : w1.heap.size < w3.heap.size + 1 + 1 := by omega
  have lm1 : w.heap.size < w3.heap.size + 1 := by omega
  have lm2 : w.heap.size < w3.heap.size + 1 + 1 := by omega
  have lm3 : w.heap.size < w3.heap.size + 1 + 1 + 1 := by omega
  have hn := H.out.le
  have hm := H.out.cap
  have HL := Lib.hid (H.out.count (fun _ => rfl) (by decide))
  obtain ⟨b, off, hAe⟩ : ∃ b off, (0 < n → A = some ⟨b, off, none⟩) := by
    rcases Nat.eq_zero_or_pos n with h0 | h0
    · exact ⟨0, 0, fun h => by omega⟩
    · obtain ⟨b, off, e, _⟩ := H.out.place (by omega)
      exact ⟨b, off, fun _ => e⟩
  have HAE := Lib.hid hAe
  clear hAe
  go_wp2
  go_loop [14, 15] (AllRel m.guests true n) (fun _ i => n - (intOf i).toNat)
  case atStart => exact ⟨0, _, Nat.zero_le _, rfl, rfl, rfl⟩
  case round =>
    obtain ⟨k, bb, hk, rfl, rfl, hrl⟩ := hrel
    have HRL := Lib.hid hrl
    clear hrl
    by_cases hlt : k < n
    · obtain ⟨b1, off1, g, hA1, hlb, hu, hc⟩ := R04.out.elem (fun _ => rfl) (by decide) hlt
      have hAA := HAE.out (by omega)
      subst hAA
      injection hA1 with hA1
      injection hA1 with hA1 hA2
      subst hA1 hA2
      have c1' : w3.cell? ⟨b, off + k * 4 + 1, none⟩ = some (.int .i64 g.ans) := hc 1 _ rfl
      have HU := Lib.hid hu
      clear hc hu
      cases bb with
      | false =>
        go_wp2
        go_round
        case rel => exact ⟨k + 1, false, hlt, by go_num, rfl, by rw [HRL.out]; simp⟩
        case measure => simp [intOf]; omega
      | true =>
        go_wp2
        go_round
        case rel => exact ⟨k + 1, g.ans == 1, hlt, by go_num, rfl, by rw [HRL.out, drop_at HU.out]; simp⟩
        case measure => simp [intOf]; omega
    · have hbb : bb = agreedOf m := by
        have h' := HRL.out
        rw [List.drop_of_length_le (by have := HL.out; omega)] at h'
        rw [agreed_all, KR.out, KC.out]
        simpa using h'.symm
      subst hbb
      clear HRL
      go_wp2_with fail
      refine (guestAt' A n c m.guests who (kg : Int) _ (R04.out.bel ((Bel.refl _).alloc _)) HGP.out).mono ?_
      rintro e w' ⟨rfl, rfl⟩
      go_wp2_with (first
        | (go_at_call 25; refine (at_ _ _ _).mono ?_; rintro e w' ⟨rfl, rfl⟩)
        | (go_at_call 26; refine (in_ _ _ _ _).mono ?_; rintro e w' ⟨rfl, rfl⟩)
        | (go_at_call 27; refine (proposable _ _ _).mono ?_; rintro e w' ⟨rfl, rfl⟩)
        | (at_builtin
           refine wpList_apd (base := w3.heap.size + 1 + 1 + 1) (.tmp 131) (.tmp 133) rfl rfl rfl rfl guestsT (Own.new' 4 0 #[] (by simp) (by omega) rfl (Nat.zero_le _) (by simp)) (R04.out.bel (((((Bel.refl w3).alloc _).alloc _).alloc _).alloc _)) (by unfold maxLen; omega) (by omega) (by simp <;> omega) ?_
           intro A5 c5 w5 hown1 hfr1 hb1
           simp only [Nat.zero_add, List.nil_append] at hown1
           have hbw5 : Bel w3 w5 := (((((Bel.refl w3).alloc _).alloc _).alloc _).alloc _).frm_own (Own.new' (base := w3.heap.size + 1 + 1 + 1) 4 0 #[] (by simp) (by omega) rfl (Nat.zero_le _) (by simp)) (by omega) hfr1
           have bW := (show Blk (((_ : World).alloc (.cells #[.string m.org, .slice A n c, .int .i64 m.round, .int .i64 m.pf, .int .i64 m.pt, .bool false] 40)).alloc _) (w3.heap.size + 1 + 1) 40 #[.string m.org, .slice A n c, .int .i64 m.round, .int .i64 m.pf, .int .i64 m.pt, .bool false] from (Blk.new' _ _ (by simp)).alloc _).frm hfr1 (by simp [blk] <;> omega)
           obtain ⟨q, hq⟩ : ∃ q, A5 = some ⟨q, 0, none⟩ := by
             rcases hown1.form with ⟨_, h0, _⟩ | ⟨q, _, h, _⟩
             · omega
             · exact ⟨q, h⟩
           subst hq
           have hqb := (hown1.lt (g := q) rfl).1
           have hql := (hown1.lt (g := q) rfl).2
           have fq := hown1.frz
           have hc5 := hown1.rd.le
           have hc5' := hown1.rd.cap
           have hfl := flat_get Guest.cells 4 (fun _ => rfl) m.guests kg
           have q0 : w5.cell? ⟨q, kg * 4, none⟩ = some (.string g.addr) := hown1.cell (show _ = some _ from hfl 0 g HUU.out (by decide))
           have q1 : w5.cell? ⟨q, kg * 4 + 1, none⟩ = some (.int .i64 g.ans) := hown1.cell (by rw [hfl 1 g HUU.out (by decide)]; rfl)
           have q2 : w5.cell? ⟨q, kg * 4 + 2, none⟩ = some (.int .i64 g.of_) := hown1.cell (by rw [hfl 2 g HUU.out (by decide)]; rfl)
           have q3 : w5.cell? ⟨q, kg * 4 + 3, none⟩ = some (.int .i64 g.ot) := hown1.cell (by rw [hfl 3 g HUU.out (by decide)]; rfl)
           have cw := bW.cell
           have fw := bW.frz
           have cp5 := (P4.out.bel hbw5).cell
           have ca5 := (a4.out.bel hbw5).cell
           have cf5 := (f4.out.bel hbw5).cell
           have lw5 : w3.heap.size + 1 + 1 < w5.heap.size := bW.lt
           have lq : ¬ q = w3.heap.size + 1 + 1 := by omega
           have lq' : ¬ w3.heap.size + 1 + 1 = q := by omega
           have lqa : ¬ q = w1.heap.size := by omega
           have lqa' : ¬ w1.heap.size = q := by omega
           have lqf : ¬ q = w1.heap.size + 1 := by omega
           have lqf' : ¬ w1.heap.size + 1 = q := by omega
           have lqp : ¬ q = w.heap.size + 1 := by omega
           have lqp' : ¬ w.heap.size + 1 = q := by omega
           have HO5 := Lib.hid hown1
           have HB5 := Lib.hid hbw5
           have BW5 := Lib.hid bW
           clear hown1 hfr1 hb1 hbw5 bW hfl))
      refine (sameMeeting' (m.answered kg ans f t) A1 (some ⟨q, 0, none⟩) n1 n d1 c5 _ _ _ rfl (by simp [mval, Mtg.answered, KC.out]) (R14.out.bel ?_) ?_).mono ?_
      · (repeat (first | with_reducible refine Bel.setCell ?_ (by simp <;> omega) _ | with_reducible refine Bel.alloc ?_ _ | with_reducible refine Bel.drewN ?_ _ | with_reducible refine Bel.drew ?_)); exact HB5.out
      · rw [answered_flat4 HUU.out HWH.out]
        rw [if_pos A3.out, if_pos A3.out, ← set_twice4]
        rw [show kg * 4 + 3 = kg * 4 + 2 + 1 from rfl]
        apply Own.rd (base := w3.heap.size + 1 + 1 + 1) (e := 48)
        (repeat (first | with_reducible refine Own.alloc ?_ _ | with_reducible refine Own.drew ?_ | with_reducible refine Own.set_ ?_ ?_ | with_reducible refine Own.far ?_ (by simp <;> omega)))
        exact HO5.out
        all_goals rfl
      rintro e w7 ⟨rfl, hb7⟩
      have B7 := Lib.hid (show Bel w w7 from Bel.trans (Bel.trans B4.out (show Bel w3 _ from (by (repeat (first | with_reducible refine Bel.setCell ?_ (by simp <;> omega) _ | with_reducible refine Bel.alloc ?_ _ | with_reducible refine Bel.drewN ?_ _ | with_reducible refine Bel.drew ?_)); exact HB5.out))) hb7)
      clear hb7
      go_wp2_with fail
      refine (agreedL _).mono ?_
      rintro e w8 ⟨rfl, hb8⟩
      have B8 := Lib.hid (B7.out.trans hb8)
      clear hb8
      go_wp2_with fail
      go_ret
      exact ⟨rfl, B8.out⟩
end Go.Proofs.Ytgmjhnijnpfkgaa
