/- meeting.Answer. -/
import Derived.Test.YtgmjhnijnpfkgaaMeetOps2
namespace Go.Proofs.Ytgmjhnijnpfkgaa
open Go.RowKit

theorem answer1_tells (q : Nat) (who : ByteArray) (w : World) (hq : Blk w q 9 #[.string who]) :
    Tells 46 #[.pointer (some ⟨q, 0, none⟩)] (fun x => x.addr.toList == who.toList) w := by
  refine ⟨fun args w => by kernel_rfl, fun x wr hb => ?_⟩
  have hc := (hq.bel hb).cell
  have hl : q < wr.heap.size := (hq.bel hb).lt
  clear hq
  have HB := Lib.hid hb
  clear hb
  go_enter Try.func46, Try.ntmps46
  go_wp2
  go_ret
  exact ⟨rfl, (Bel.refl _).alloc _⟩
theorem gidx_lo (p : Guest → Bool) : ∀ (l : List Guest) (k : Nat), gidx p k l = -1 ∨ ∃ (j : Nat) (g : Guest), gidx p k l = ((k + j : Nat) : Int) ∧ l[j]? = some g ∧ p g = true
  | [], _ => .inl rfl
  | g :: l, k => by
    unfold gidx
    by_cases h : p g = true
    · rw [if_pos h]; exact .inr ⟨0, g, rfl, rfl, h⟩
    · rw [if_neg h]
      rcases gidx_lo p l (k + 1) with h1 | ⟨j, g', h1, h2, h3⟩
      · exact .inl h1
      · exact .inr ⟨j + 1, g', by rw [h1]; congr 1; omega, by simpa using h2, h3⟩
theorem idxFunc' (F : FuncId) (cap : Array Value) (p : Guest → Bool) (A : Option Addr) (n c : Nat) (l : List Guest) (r : Int) (w : World) (h : Rd w 4 A n c (l.flatMap Guest.cells)) (hp : Tells F cap p w) (hr : gidx p 0 l = r) :
    Calls Try.prog 45 #[.slice A n c, .func (.func F) #[] cap] w fun e w' => e = .returned (.int .i64 r) ∧ Bel w w' := by
  subst hr
  exact idxFunc F cap p A n c l w h hp

/-- the position of a guest -/
def gpos (m : Mtg) (who : ByteArray) : Int := gidx (fun x => x.addr.toList == who.toList) 0 m.guests
def Mtg.answered (m : Mtg) (k : Nat) (ans f t : Int) : Mtg := ⟨m.org, m.guests.take k ++ (match m.guests[k]? with | some g => [⟨g.addr, ans, if ans = 3 then f else 0, if ans = 3 then t else 0⟩] | none => []) ++ m.guests.drop (k + 1), m.round, m.pf, m.pt, m.can⟩
def answerOf (m : Mtg) (who : ByteArray) (ans f t : Int) : Mtg × Int × Int :=
  if (mtgFault m).1 ≠ 0 then (Mtg.zero, mtgFault m) else if m.can = true ∨ m.round = 0 then (Mtg.zero, 8, -4) else if gpos m who < 0 then (Mtg.zero, 6, -5)
  else if ans < 1 ∨ 3 < ans then (Mtg.zero, 3, -6) else if ans = 3 ∧ possB f t = false then (Mtg.zero, 3, -7) else (m.answered (gpos m who).toNat ans f t, 0, 0)

theorem Own.far {w : World} {base e k n c q : Nat} {xs : List Value} {u : Value} {p : Addr} (h : Own w base e k (some ⟨q, 0, none⟩) n c xs) (hp : ¬ q = p.block) : Own (w.setCell p u) base e k (some ⟨q, 0, none⟩) n c xs :=
  h.keep fun g hg => Below.heap_setCell w p u g (by have : q = g := by simpa [blk] using hg
                                                    omega)
theorem Own.drew {w : World} {base e k n c : Nat} {A : Option Addr} {xs : List Value} (h : Own w base e k A n c xs) : Own w.drew base e k A n c xs := h.bel (Bel.refl _).drew
theorem answered_flat {m : Mtg} {k : Nat} {g : Guest} {ans f t : Int} (hu : m.guests[k]? = some g) :
    ((m.answered k ans f t).guests).flatMap Guest.cells = ((((m.guests.flatMap Guest.cells).set (k * 4 + 1) (.int .i64 ans)).set (k * 4 + 2) (.int .i64 (if ans = 3 then f else 0))).set (k * 4 + 3) (.int .i64 (if ans = 3 then t else 0))) := by
  rw [guest_set (h := ⟨g.addr, ans, if ans = 3 then f else 0, if ans = 3 then t else 0⟩) m.guests hu rfl]
  unfold Mtg.answered
  simp [hu]
theorem set_twice (xs : List Value) (k : Nat) (a b c d e : Value) : (((((xs.set (k + 1) a).set (k + 2) b).set (k + 3) c).set (k + 2) d).set (k + 3) e) = ((xs.set (k + 1) a).set (k + 2) d).set (k + 3) e := by
  generalize xs.set (k + 1) a = ys
  rw [List.set_comm c d (by omega : k + 3 ≠ k + 2), List.set_set, List.set_set]

set_option maxHeartbeats 2000000 in
theorem answer (m : Mtg) (who : ByteArray) (ans f t : Int) (A : Option Addr) (n c : Nat) (w : World) (h : Rd w 4 A n c (m.guests.flatMap Guest.cells)) :
    Calls Try.prog 19 #[.agg (mval m A n c), .string who, .int .i64 ans, .agg #[.int .i64 f, .int .i64 t]] w (MFPost (answerOf m who ans f t) w) := by
  have H := Lib.hid h
  have HL := Lib.hid (h.count (fun _ => rfl) (by decide))
  clear h
  obtain ⟨fc, fi, hF⟩ : ∃ fc fi, mtgFault m = (fc, fi) := ⟨_, _, rfl⟩
  have HF := Lib.hid hF
  clear hF
  go_enter Try.func19, Try.ntmps19
  go_wp2_with fail
  refine (validate' m A n c fc fi _ (H.out.bel ((((((Bel.refl _).alloc _).alloc _).alloc _).alloc _).alloc _)) HF.out).mono ?_
  rintro e w1 ⟨rfl, hb⟩
  have hM := (show Blk (((((w.alloc (.cells (mval m A n c) 40)).alloc (.cells #[.string who] 9)).alloc (.cells #[.int .i64 f, .int .i64 t] 38)).alloc (.cells zmeet 40)).alloc (.cells #[.int .i64 0, .int .i64 0] 27)) w.heap.size 40 (mval m A n c) from ((((Blk.new _ _ _).alloc _).alloc _).alloc _).alloc _).bel hb
  have hS := (show Blk (((((w.alloc (.cells (mval m A n c) 40)).alloc (.cells #[.string who] 9)).alloc (.cells #[.int .i64 f, .int .i64 t] 38)).alloc (.cells zmeet 40)).alloc (.cells #[.int .i64 0, .int .i64 0] 27)) (w.heap.size + 1) 9 #[.string who] from (((Blk.new' _ _ (by simp)).alloc _).alloc _).alloc _).bel hb
  have hP := (show Blk (((((w.alloc (.cells (mval m A n c) 40)).alloc (.cells #[.string who] 9)).alloc (.cells #[.int .i64 f, .int .i64 t] 38)).alloc (.cells zmeet 40)).alloc (.cells #[.int .i64 0, .int .i64 0] 27)) (w.heap.size + 1 + 1) 38 #[.int .i64 f, .int .i64 t] from ((Blk.new' _ _ (by simp)).alloc _).alloc _).bel hb
  have hR := (show Blk (((((w.alloc (.cells (mval m A n c) 40)).alloc (.cells #[.string who] 9)).alloc (.cells #[.int .i64 f, .int .i64 t] 38)).alloc (.cells zmeet 40)).alloc (.cells #[.int .i64 0, .int .i64 0] 27)) (w.heap.size + 1 + 1 + 1) 40 zmeet from (Blk.new' _ _ (by simp)).alloc _).bel hb
  have hE := (show Blk (((((w.alloc (.cells (mval m A n c) 40)).alloc (.cells #[.string who] 9)).alloc (.cells #[.int .i64 f, .int .i64 t] 38)).alloc (.cells zmeet 40)).alloc (.cells #[.int .i64 0, .int .i64 0] 27)) (w.heap.size + 1 + 1 + 1 + 1) 27 #[.int .i64 0, .int .i64 0] from Blk.new' _ _ (by simp)).bel hb
  have hcm := hM.cell
  have hcr := hR.cell
  have hce := hE.cell
  have hfr := hR.frz
  have hfe := hE.frz
  have hl4 : w.heap.size + 1 + 1 + 1 + 1 < w1.heap.size := hE.lt
  have hl3 : w.heap.size + 1 + 1 + 1 < w1.heap.size := by omega
  have hl2 : w.heap.size + 1 + 1 < w1.heap.size := by omega
  have hl1 : w.heap.size + 1 < w1.heap.size := by omega
  have hl0 : w.heap.size < w1.heap.size := by omega
  have hl0a : w.heap.size < w1.heap.size + 1 := by omega
  have hl0b : w.heap.size < w1.heap.size + 1 + 1 := by omega
  have HB := Lib.hid (show Bel w w1 from ((((((Bel.refl w).alloc _).alloc _).alloc _).alloc _).alloc _).trans hb)
  have HM := Lib.hid hM
  have HS := Lib.hid hS
  have HP := Lib.hid hP
  have HR := Lib.hid hR
  have HE := Lib.hid hE
  clear hM hS hP hR hE hb
  by_cases z : fc = 0
  · have bz : (fc != 0) = false := by simp [z]
    have hok := mtg_ok (m := m) (fi := fi) (by rw [HF.out, z])
    have hn30 : n ≤ 30 := by have := hok.2.1; rw [HL.out] at this; exact this
    have HAN := Lib.hid (show answerOf m who ans f t = if m.can = true ∨ m.round = 0 then (Mtg.zero, 8, -4) else if gpos m who < 0 then (Mtg.zero, 6, -5) else if ans < 1 ∨ 3 < ans then (Mtg.zero, 3, -6) else if ans = 3 ∧ possB f t = false then (Mtg.zero, 3, -7) else (m.answered (gpos m who).toNat ans f t, 0, 0) by unfold answerOf; rw [if_neg (by rw [HF.out]; simpa using z)])
    have Z := Lib.hid z
    clear z hok
    obtain ⟨r, hr⟩ : ∃ r, gidx (fun x => x.addr.toList == who.toList) 0 m.guests = r := ⟨_, rfl⟩
    have HGR := Lib.hid hr
    clear hr
    go_wp2_with (go_at_call 44; refine (failed _ _ _).mono ?_; rintro e w' ⟨rfl, rfl⟩)
    refine (idxFunc' 46 _ (fun x => x.addr.toList == who.toList) _ _ _ m.guests r _ (H.out.bel ?_) (answer1_tells _ who _ ((HS.out.alloc _).alloc _)) HGR.out).mono ?_
    · (repeat (first | with_reducible refine Bel.setCell ?_ (by simp <;> omega) _ | with_reducible refine Bel.alloc ?_ _ | with_reducible refine Bel.drew ?_)); exact HB.out
    rintro e w2 ⟨rfl, hb2⟩
    have bM := ((HM.out.alloc _).alloc _).bel hb2
    have bP := ((HP.out.alloc _).alloc _).bel hb2
    have bR := ((HR.out.alloc _).alloc _).bel hb2
    have bE := ((HE.out.alloc _).alloc _).bel hb2
    have HB2 := Lib.hid (show Bel w w2 from Bel.trans (by (repeat (first | with_reducible refine Bel.setCell ?_ (by simp <;> omega) _ | with_reducible refine Bel.alloc ?_ _ | with_reducible refine Bel.drew ?_)); exact HB.out) hb2)
    clear hb2 hcm hcr hce hfr hfe hl4 hl3 hl2 hl1 hl0 hl0a hl0b HB HM HS HP HR HE
    have hcm := bM.cell
    have hcp := bP.cell
    have hcr := bR.cell
    have hfr := bR.frz
    have hce := bE.cell
    have hfe := bE.frz
    have hl4 : w.heap.size + 1 + 1 + 1 + 1 < w2.heap.size := bE.lt
    have hl3 : w.heap.size + 1 + 1 + 1 < w2.heap.size := by omega
    have hl2 : w.heap.size + 1 + 1 < w2.heap.size := by omega
    have hl1 : w.heap.size + 1 < w2.heap.size := by omega
    have hl0 : w.heap.size < w2.heap.size := by omega
    have hl0a : w.heap.size < w2.heap.size + 1 := by omega
    have hl0b : w.heap.size < w2.heap.size + 1 + 1 := by omega
    have HM := Lib.hid bM
    have HP := Lib.hid bP
    have HR := Lib.hid bR
    have HE := Lib.hid bE
    clear bM bP bR bE
    cases kc : m.can with
    | true =>
      have KC := Lib.hid kc
      go_wp2_with (first | (go_at_call 40; refine (fault _ _ _).mono ?_; rintro e w' ⟨rfl, rfl⟩) | (go_at_call 47; refine (possible _ _ _).mono ?_; rintro e w' ⟨rfl, rfl⟩))
      refine bodyPost_ret (v := .tuple #[.agg zmeet, .agg #[.int .i64 8, .int .i64 (-4)]]) (by simp only [results, Try.results19]; go_simp) rfl (MFPost.err (by rw [HAN.out]; rw [if_pos (.inl KC.out)]) ?_)
      (repeat (first | with_reducible refine Bel.setCell ?_ (by simp <;> omega) _ | with_reducible refine Bel.alloc ?_ _ | with_reducible refine Bel.drew ?_)); exact HB2.out
    | false =>
      have KC := Lib.hid kc
      by_cases r0 : m.round = 0
      · have R0 := Lib.hid r0
        have br : (m.round == 0) = true := by simp [r0]
        clear r0
        go_wp2_with (first | (go_at_call 40; refine (fault _ _ _).mono ?_; rintro e w' ⟨rfl, rfl⟩) | (go_at_call 47; refine (possible _ _ _).mono ?_; rintro e w' ⟨rfl, rfl⟩))
        refine bodyPost_ret (v := .tuple #[.agg zmeet, .agg #[.int .i64 8, .int .i64 (-4)]]) (by simp only [results, Try.results19]; go_simp) rfl (MFPost.err (by rw [HAN.out]; rw [if_pos (.inr R0.out)]) ?_)
        (repeat (first | with_reducible refine Bel.setCell ?_ (by simp <;> omega) _ | with_reducible refine Bel.alloc ?_ _ | with_reducible refine Bel.drew ?_)); exact HB2.out
      have br : (m.round == 0) = false := by simp [r0]
      have E1 := Lib.hid (show ¬ (m.can = true ∨ m.round = 0) by rintro (h | h); rw [KC.out] at h; cases h; exact r0 h)
      clear r0
      rcases gidx_lo (fun x => x.addr.toList == who.toList) m.guests 0 with h1 | ⟨k, g, h1, h2, _⟩
      · have hneg : r = -1 := HGR.out.symm.trans h1
        have HN := Lib.hid (show gpos m who < 0 by unfold gpos; rw [h1]; decide)
        clear h1
        subst hneg
        go_wp2_with (first | (go_at_call 40; refine (fault _ _ _).mono ?_; rintro e w' ⟨rfl, rfl⟩) | (go_at_call 47; refine (possible _ _ _).mono ?_; rintro e w' ⟨rfl, rfl⟩))
        refine bodyPost_ret (v := .tuple #[.agg zmeet, .agg #[.int .i64 6, .int .i64 (-5)]]) (by simp only [results, Try.results19]; go_simp) rfl (MFPost.err (by rw [HAN.out]; rw [if_neg E1.out, if_pos HN.out]) ?_)
        (repeat (first | with_reducible refine Bel.setCell ?_ (by simp <;> omega) _ | with_reducible refine Bel.alloc ?_ _ | with_reducible refine Bel.drew ?_)); exact HB2.out
      have hpos : r = (k : Int) := HGR.out.symm.trans (by rw [h1]; congr 1; omega)
      have HK := Lib.hid (show gpos m who = (k : Int) by unfold gpos; rw [h1]; congr 1; omega)
      have HN := Lib.hid (show 0 ≤ gpos m who by rw [HK.out]; omega)
      have HU := Lib.hid h2
      have hkn : k < n := by
        rw [← HL.out]
        rcases Nat.lt_or_ge k m.guests.length with h' | h'
        · exact h'
        · have := HU.out; rw [List.getElem?_eq_none h'] at this; cases this
      clear h1 h2
      subst hpos
      by_cases a1 : ans < 1
      · have ba : decide (ans < 1) = true := by simpa using a1
        go_wp2_with (first | (go_at_call 40; refine (fault _ _ _).mono ?_; rintro e w' ⟨rfl, rfl⟩) | (go_at_call 47; refine (possible _ _ _).mono ?_; rintro e w' ⟨rfl, rfl⟩))
        refine bodyPost_ret (v := .tuple #[.agg zmeet, .agg #[.int .i64 3, .int .i64 (-6)]]) (by simp only [results, Try.results19]; go_simp) rfl (MFPost.err (by rw [HAN.out]; rw [if_neg E1.out, if_neg (Int.not_lt.2 HN.out), if_pos (by omega)]) ?_)
        (repeat (first | with_reducible refine Bel.setCell ?_ (by simp <;> omega) _ | with_reducible refine Bel.alloc ?_ _ | with_reducible refine Bel.drew ?_)); exact HB2.out
      have ba : decide (ans < 1) = false := by simpa using a1
      by_cases a2 : 3 < ans
      · have ba2 : decide (3 < ans) = true := by simpa using a2
        go_wp2_with (first | (go_at_call 40; refine (fault _ _ _).mono ?_; rintro e w' ⟨rfl, rfl⟩) | (go_at_call 47; refine (possible _ _ _).mono ?_; rintro e w' ⟨rfl, rfl⟩))
        refine bodyPost_ret (v := .tuple #[.agg zmeet, .agg #[.int .i64 3, .int .i64 (-6)]]) (by simp only [results, Try.results19]; go_simp) rfl (MFPost.err (by rw [HAN.out]; rw [if_neg E1.out, if_neg (Int.not_lt.2 HN.out), if_pos (by omega)]) ?_)
        (repeat (first | with_reducible refine Bel.setCell ?_ (by simp <;> omega) _ | with_reducible refine Bel.alloc ?_ _ | with_reducible refine Bel.drew ?_)); exact HB2.out
      have ba2 : decide (3 < ans) = false := by simpa using a2
      have E2 := Lib.hid (show 1 ≤ ans ∧ ans ≤ 3 by omega)
      by_cases a3 : ans = 3
      · have A3 := Lib.hid a3
        have b3 : (ans == 3) = true := by simp [a3]
        clear a3 a1 a2
        cases p1 : possB f t with
        | false =>
          have P1 := Lib.hid p1
          go_wp2_with (first | (go_at_call 40; refine (fault _ _ _).mono ?_; rintro e w' ⟨rfl, rfl⟩) | (go_at_call 47; refine (possible _ _ _).mono ?_; rintro e w' ⟨rfl, rfl⟩))
          refine bodyPost_ret (v := .tuple #[.agg zmeet, .agg #[.int .i64 3, .int .i64 (-7)]]) (by simp only [results, Try.results19]; go_simp) rfl (MFPost.err (by rw [HAN.out]; rw [if_neg E1.out, if_neg (Int.not_lt.2 HN.out), if_neg (by have := E2.out; omega), if_pos ⟨A3.out, P1.out⟩]) ?_)
          (repeat (first | with_reducible refine Bel.setCell ?_ (by simp <;> omega) _ | with_reducible refine Bel.alloc ?_ _ | with_reducible refine Bel.drew ?_)); exact HB2.out
        | true =>
          have P1 := Lib.hid p1
          go_wp2_with (go_at_call 47; refine (possible _ _ _).mono ?_; rintro e w' ⟨rfl, rfl⟩)
          refine (clone A n c _ _ (H.out.bel ?_) (by omega)).mono ?_
          · (repeat (first | with_reducible refine Bel.setCell ?_ (by simp <;> omega) _ | with_reducible refine Bel.alloc ?_ _ | with_reducible refine Bel.drew ?_)); exact HB2.out
          rintro e w3 ⟨A3', c3, rfl, hown, hb3⟩
          have HB3 := Lib.hid (show Bel w w3 from Bel.trans (by (repeat (first | with_reducible refine Bel.setCell ?_ (by simp <;> omega) _ | with_reducible refine Bel.alloc ?_ _ | with_reducible refine Bel.drew ?_)); exact HB2.out) hb3)
          have bM := (HM.out.alloc _).bel hb3
          have bP := (HP.out.alloc _).bel hb3
          have bR := (HR.out.alloc _).bel hb3
          have bE := (HE.out.alloc _).bel hb3
          have hge3 : w.heap.size + 5 ≤ w2.heap.size := by omega
          have HO := Lib.hid (hown.base_ (b' := w.heap.size + 5) fun q hq => by have := (hown.lt hq).1; (try simp at this); omega)
          clear hb3 hown hcm hcp hcr hce hfr hfe hl4 hl3 hl2 hl1 hl0 hl0a hl0b HM HP HR HE hge3
          have hcm := bM.cell
          have hfm := bM.frz
          have hcp := bP.cell
          have hcr := bR.cell
          have hfr := bR.frz
          have hce := bE.cell
          have hfe := bE.frz
          have hl4 : w.heap.size + 1 + 1 + 1 + 1 < w3.heap.size := bE.lt
          have hl3 : w.heap.size + 1 + 1 + 1 < w3.heap.size := by omega
          have hl2 : w.heap.size + 1 + 1 < w3.heap.size := by omega
          have hl1 : w.heap.size + 1 < w3.heap.size := by omega
          have hl0 : w.heap.size < w3.heap.size := by omega
          clear bM bP bR bE
          obtain ⟨q, hq⟩ : ∃ q, A3' = some ⟨q, 0, none⟩ := by
            rcases HO.out.form with ⟨_, h0, _⟩ | ⟨q, _, h, _⟩
            · omega
            · exact ⟨q, h⟩
          subst hq
          have hq5 := (HO.out.lt (g := q) rfl).1
          have hql := (HO.out.lt (g := q) rfl).2
          have hfq := HO.out.frz
          have hnc := HO.out.rd.le
          have hcc := HO.out.rd.cap
          have hfl := flat_get Guest.cells 4 (fun _ => rfl) m.guests k
          have c1' : w3.cell? ⟨q, k * 4 + 1, none⟩ = some (.int .i64 g.ans) := HO.out.cell (by rw [hfl 1 g HU.out (by decide)]; rfl)
          have c2' : w3.cell? ⟨q, k * 4 + 2, none⟩ = some (.int .i64 g.of_) := HO.out.cell (by rw [hfl 2 g HU.out (by decide)]; rfl)
          have c3' : w3.cell? ⟨q, k * 4 + 3, none⟩ = some (.int .i64 g.ot) := HO.out.cell (by rw [hfl 3 g HU.out (by decide)]; rfl)
          have hqw : ¬ q = w.heap.size := by omega
          have hqw' : ¬ w.heap.size = q := by omega
          clear hfl
          go_wp2
          go_region
          go_wp2
          go_region_with (go_at_call 42; refine (none_ _).mono ?_; rintro e w' ⟨rfl, rfl⟩)
          all_goals
            go_wp2
            refine bodyPost_ret (v := .tuple #[.agg (mval (m.answered k ans f t) (some ⟨q, 0, none⟩) n c3), .agg #[.int .i64 0, .int .i64 0]]) (by simp only [results, Try.results19]; go_simp; exact ⟨rfl, rfl, rfl, rfl, KC.out⟩) rfl ?_
            rw [show answerOf m who ans f t = (m.answered k ans f t, 0, 0) by rw [HAN.out]; rw [if_neg E1.out, if_neg (Int.not_lt.2 HN.out), if_neg (by have := E2.out; omega), if_neg (by rintro ⟨h, h'⟩; rw [P1.out] at h'; cases h'), HK.out, Int.toNat_natCast]]
            refine ⟨_, n, c3, rfl, ?_, ?_, fun q' hq' => by simp [blk] at hq'; omega⟩
            · show Rd _ 4 _ n c3 (((m.answered k ans f t).guests).flatMap Guest.cells)
              rw [answered_flat HU.out, if_pos A3.out, if_pos A3.out, ← set_twice _ _ _ (.int .i64 0) (.int .i64 0)]
              rw [show k * 4 + 3 = k * 4 + 2 + 1 from rfl]
              apply Own.rd (base := w.heap.size + 5) (e := 48)
              (repeat (first | with_reducible refine Own.alloc ?_ _ | with_reducible refine Own.drew ?_ | with_reducible refine Own.set_ ?_ ?_ | with_reducible refine Own.far ?_ (by simp <;> omega)))
              exact HO.out
              all_goals rfl
            · (repeat (first | with_reducible refine Bel.setCell ?_ (by simp <;> omega) _ | with_reducible refine Bel.alloc ?_ _ | with_reducible refine Bel.drew ?_)); exact HB3.out
      · have A3 := Lib.hid a3
        have b3 : (ans == 3) = false := by simp [a3]
        clear a3
        go_wp2_with (go_at_call 47; refine (possible _ _ _).mono ?_; rintro e w' ⟨rfl, rfl⟩)
        refine (clone A n c _ _ (H.out.bel ?_) (by omega)).mono ?_
        · (repeat (first | with_reducible refine Bel.setCell ?_ (by simp <;> omega) _ | with_reducible refine Bel.alloc ?_ _ | with_reducible refine Bel.drew ?_)); exact HB2.out
        rintro e w3 ⟨A3', c3, rfl, hown, hb3⟩
        have HB3 := Lib.hid (show Bel w w3 from Bel.trans (by (repeat (first | with_reducible refine Bel.setCell ?_ (by simp <;> omega) _ | with_reducible refine Bel.alloc ?_ _ | with_reducible refine Bel.drew ?_)); exact HB2.out) hb3)
        have bM := (HM.out).bel hb3
        have bP := (HP.out).bel hb3
        have bR := (HR.out).bel hb3
        have bE := (HE.out).bel hb3
        have hge3 : w.heap.size + 5 ≤ w2.heap.size := by omega
        have HO := Lib.hid (hown.base_ (b' := w.heap.size + 5) fun q hq => by have := (hown.lt hq).1; (try simp at this); omega)
        clear hb3 hown hcm hcp hcr hce hfr hfe hl4 hl3 hl2 hl1 hl0 hl0a hl0b HM HP HR HE hge3
        have hcm := bM.cell
        have hfm := bM.frz
        have hcp := bP.cell
        have hcr := bR.cell
        have hfr := bR.frz
        have hce := bE.cell
        have hfe := bE.frz
        have hl4 : w.heap.size + 1 + 1 + 1 + 1 < w3.heap.size := bE.lt
        have hl3 : w.heap.size + 1 + 1 + 1 < w3.heap.size := by omega
        have hl2 : w.heap.size + 1 + 1 < w3.heap.size := by omega
        have hl1 : w.heap.size + 1 < w3.heap.size := by omega
        have hl0 : w.heap.size < w3.heap.size := by omega
        clear bM bP bR bE
        obtain ⟨q, hq⟩ : ∃ q, A3' = some ⟨q, 0, none⟩ := by
          rcases HO.out.form with ⟨_, h0, _⟩ | ⟨q, _, h, _⟩
          · omega
          · exact ⟨q, h⟩
        subst hq
        have hq5 := (HO.out.lt (g := q) rfl).1
        have hql := (HO.out.lt (g := q) rfl).2
        have hfq := HO.out.frz
        have hnc := HO.out.rd.le
        have hcc := HO.out.rd.cap
        have hfl := flat_get Guest.cells 4 (fun _ => rfl) m.guests k
        have c1' : w3.cell? ⟨q, k * 4 + 1, none⟩ = some (.int .i64 g.ans) := HO.out.cell (by rw [hfl 1 g HU.out (by decide)]; rfl)
        have c2' : w3.cell? ⟨q, k * 4 + 2, none⟩ = some (.int .i64 g.of_) := HO.out.cell (by rw [hfl 2 g HU.out (by decide)]; rfl)
        have c3' : w3.cell? ⟨q, k * 4 + 3, none⟩ = some (.int .i64 g.ot) := HO.out.cell (by rw [hfl 3 g HU.out (by decide)]; rfl)
        have hqw : ¬ q = w.heap.size := by omega
        have hqw' : ¬ w.heap.size = q := by omega
        clear hfl
        go_wp2
        go_region
        go_wp2
        go_region_with (go_at_call 42; refine (none_ _).mono ?_; rintro e w' ⟨rfl, rfl⟩)
        all_goals
          go_wp2
          refine bodyPost_ret (v := .tuple #[.agg (mval (m.answered k ans f t) (some ⟨q, 0, none⟩) n c3), .agg #[.int .i64 0, .int .i64 0]]) (by simp only [results, Try.results19]; go_simp; exact ⟨rfl, rfl, rfl, rfl, KC.out⟩) rfl ?_
          rw [show answerOf m who ans f t = (m.answered k ans f t, 0, 0) by rw [HAN.out]; rw [if_neg E1.out, if_neg (Int.not_lt.2 HN.out), if_neg (by have := E2.out; omega), if_neg (by rintro ⟨h, h'⟩; exact A3.out h), HK.out, Int.toNat_natCast]]
          refine ⟨_, n, c3, rfl, ?_, ?_, fun q' hq' => by simp [blk] at hq'; omega⟩
          · show Rd _ 4 _ n c3 (((m.answered k ans f t).guests).flatMap Guest.cells)
            rw [answered_flat HU.out, if_neg A3.out, if_neg A3.out]
            rw [show k * 4 + 3 = k * 4 + 2 + 1 from rfl]
            apply Own.rd (base := w.heap.size + 5) (e := 48)
            (repeat (first | with_reducible refine Own.alloc ?_ _ | with_reducible refine Own.drew ?_ | with_reducible refine Own.set_ ?_ ?_ | with_reducible refine Own.far ?_ (by simp <;> omega)))
            exact HO.out
            all_goals rfl
          · (repeat (first | with_reducible refine Bel.setCell ?_ (by simp <;> omega) _ | with_reducible refine Bel.alloc ?_ _ | with_reducible refine Bel.drew ?_)); exact HB3.out
  · have bz : (fc != 0) = true := by simpa using z
    have Z := Lib.hid z
    clear z
    go_wp2_with (go_at_call 44; refine (failed _ _ _).mono ?_; rintro e w' ⟨rfl, rfl⟩)
    go_region
    go_wp2
    refine bodyPost_ret (v := .tuple #[.agg zmeet, .agg #[.int .i64 fc, .int .i64 fi]]) (by simp only [results, Try.results19]; go_simp) rfl (MFPost.err (by unfold answerOf; rw [if_pos (by simpa [HF.out] using Z.out), HF.out]) ?_)
    (repeat (first | with_reducible refine Bel.setCell ?_ (by simp <;> omega) _ | with_reducible refine Bel.alloc ?_ _ | with_reducible refine Bel.drew ?_)); exact HB.out
end Go.Proofs.Ytgmjhnijnpfkgaa
