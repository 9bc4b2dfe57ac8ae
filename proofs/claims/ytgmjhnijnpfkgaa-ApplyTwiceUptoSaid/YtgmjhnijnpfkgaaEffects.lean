/- apply.Effects. -/
import Derived.Test.YtgmjhnijnpfkgaaApply
namespace Go.Proofs.Ytgmjhnijnpfkgaa
open Go.RowKit

def EffRel1 (w2 : World) (l : List Act) (n : Nat) (i : Value) (wr : World) : Prop := ∃ k : Nat, k ≤ n ∧ i = .int .i64 k ∧ Bel w2 wr ∧ faultFrom 0 l = faultFrom k (l.drop k)
def EffRel2 (w3 : World) (g : Nat) (l : List Act) (n : Nat) (i : Value) (wr : World) : Prop :=
  ∃ (k : Nat) (R : Nat → Sl) (x : Eff), k ≤ n ∧ i = .int .i64 k ∧ Frm (fun q => q = g ∨ g + 1 ≤ q) w3 wr ∧ Rows4 wr (g + 1) g R x k ∧ l.foldl Eff.step Eff.zero = (l.drop k).foldl Eff.step x

theorem faultFrom_bad {k : Nat} {a : Act} {l : List Act} (h : a.bad ≠ 0) : faultFrom k (a :: l) = (a.bad, (k : Int)) := by rw [faultFrom, if_neg h]
theorem eff_bad {l : List Act} {k : Nat} {a : Act} {m : Int} (hl : l.length ≤ 300) (hf : faultFrom 0 l = faultFrom k (l.drop k)) (hu : l[k]? = some a) (hb : a.bad = m) (hm : m ≠ 0) : effOf l = (Eff.zero, m, (k : Int)) := by
  unfold effOf
  rw [if_neg (by omega), hf, drop_at hu, faultFrom_bad (by omega), if_neg (by simpa [hb] using hm), hb]

theorem eff_good {l : List Act} {j g : Nat} {R : Nat → Sl} {x : Eff} {w w3 wr w' : World} (hl : l.length ≤ 300) (hf : faultFrom 0 l = (0, 0)) (hj : l.length ≤ j) (hfo : l.foldl Eff.step Eff.zero = (l.drop j).foldl Eff.step x) (hgw : w.heap.size + 1 < g)
    (h4 : Rows4 wr (g + 1) g R x j) (hb : Bel w w3) (hfr : Frm (fun q => q = g ∨ g + 1 ≤ q) w3 wr) (hfin : Frm (fun q => q = w.heap.size ∨ q = w.heap.size + 1) wr w') :
    EffPost (effOf l) w (.returned (.tuple #[.agg (effVal R x.f), .agg #[.int .i64 0, .int .i64 0]])) w' := by
  have e : effOf l = (x, 0, 0) := by
    unfold effOf
    rw [if_neg (by omega), if_pos (by rw [hf]), hfo, List.drop_of_length_le hj]
    rfl
  rw [e]
  refine ⟨R, rfl, fun i hi => ((h4.own i hi).frm hfin fun q hq hS => ?_).rd, ?_⟩
  · have := ((h4.own i hi).lt hq).1
    omega
  · refine (((hb.frm (fun q => w.heap.size ≤ q)).trans hfr ?_).trans hfin ?_).bel (fun _ h => h)
    · intro q hq _; omega
    · intro q hq _; omega

set_option maxHeartbeats 1000000 in
set_option maxRecDepth 4000 in
theorem effects (A : Option Addr) (n c : Nat) (l : List Act) (w : World) (h : Rd w 3 A n c (l.flatMap Act.cells)) :
    Calls Try.prog 14 #[.slice A n c] w (EffPost (effOf l) w) := by
  have hn := h.le
  have hm := h.cap
  have hll := h.count (fun _ => rfl) (by decide)
  have H := Lib.hid h
  have HL := Lib.hid hll
  clear h hll
  by_cases hbig : n ≤ 300
  · have hbd : decide ((300 : Int) < (n : Int)) = false := by simp; omega
    go_enter Try.func14, Try.ntmps14
    go_wp2
    generalize hw2 : (World.alloc (World.alloc w _) _) = w2
    have hz2 : w2.heap.size = w.heap.size + 2 := by rw [← hw2]; simp
    have hb2 : Bel w w2 := by rw [← hw2]; exact ((Bel.refl w).alloc _).alloc _
    have HE2 := Lib.hid (show Blk w2 w.heap.size 25 #[.slice none 0 0, .slice none 0 0, .slice none 0 0, .slice none 0 0, .int .i64 0] from by rw [← hw2]; exact (Blk.new _ _ _).alloc _)
    have HF2 := Lib.hid (show Blk w2 (w.heap.size + 1) 27 #[.int .i64 0, .int .i64 0] from by rw [← hw2]; exact (show w.heap.size + 1 = (w.alloc _).heap.size by simp) ▸ Blk.new _ _ _)
    have HZ2 := Lib.hid hz2
    have HB2 := Lib.hid hb2
    clear hw2 hz2 hb2
    go_loopw [16] (EffRel1 w2 l n) (fun i _ => n - (intOf i).toNat)
    case atStart => exact ⟨0, Nat.zero_le _, rfl, Bel.refl _, rfl⟩
    case round =>
      obtain ⟨k, hk, rfl, hb, hf⟩ := hrel
      have HB := Lib.hid hb
      have HF := Lib.hid hf
      clear hb hf
      have hs1 : w.heap.size + 1 < wr.heap.size := (HF2.out.bel HB.out).lt
      have hs0 : w.heap.size < wr.heap.size := by omega
      have hr0 := (HE2.out.bel HB.out).cell
      have hf0 := (HE2.out.bel HB.out).frz
      have hr1 := (HF2.out.bel HB.out).cell
      have hf1 := (HF2.out.bel HB.out).frz
      by_cases hlt : k < n
      · obtain ⟨b, off, a, rfl, hlb, hu, hc⟩ := (H.out.bel (HB2.out.trans HB.out)).elem (fun _ => rfl) (by decide) hlt
        have hc0 : wr.cell? ⟨b, off + k * 3, none⟩ = some (.int .i64 a.kind) := hc 0 _ rfl
        have hc1 : wr.cell? ⟨b, off + k * 3 + 1, none⟩ = some (.string a.text) := hc 1 _ rfl
        have hc2 : wr.cell? ⟨b, off + k * 3 + 2, none⟩ = some (.int .i64 a.n) := hc 2 _ rfl
        have HU := Lib.hid hu
        clear hc hu
        have HBB := Lib.hid (HB2.out.trans HB.out)
        by_cases g1 : (4000 : Int) < (a.text.size : Int)
        · go_wp2_with (go_at_call 40; refine (fault _ _ _).mono ?_; rintro e w' ⟨rfl, rfl⟩)
          refine bodyPost_ret (v := .tuple #[.agg #[.slice none 0 0, .slice none 0 0, .slice none 0 0, .slice none 0 0, .int .i64 0], .agg #[.int .i64 1, .int .i64 k]]) (by simp [results, Try.results14, go_sem, hr0, hr1, hs0, hs1]) rfl (EffPost.err (eff_bad (by have := HL.out; omega) HF.out HU.out (by unfold Act.bad; rw [if_pos (by omega)]) (by decide)) ?_)
          (repeat (first | with_reducible refine Bel.setCell ?_ (by simp) _ | with_reducible refine Bel.alloc ?_ _)); exact HBB.out
        by_cases g2 : a.kind < 1
        · go_wp2_with (go_at_call 40; refine (fault _ _ _).mono ?_; rintro e w' ⟨rfl, rfl⟩)
          refine bodyPost_ret (v := .tuple #[.agg #[.slice none 0 0, .slice none 0 0, .slice none 0 0, .slice none 0 0, .int .i64 0], .agg #[.int .i64 4, .int .i64 k]]) (by simp [results, Try.results14, go_sem, hr0, hr1, hs0, hs1]) rfl (EffPost.err (eff_bad (by have := HL.out; omega) HF.out HU.out (by unfold Act.bad; rw [if_neg (by omega), if_pos (by omega)]) (by decide)) ?_)
          (repeat (first | with_reducible refine Bel.setCell ?_ (by simp) _ | with_reducible refine Bel.alloc ?_ _)); exact HBB.out
        have g2' : decide (a.kind < 1) = false := by simpa using g2
        by_cases g3 : 7 < a.kind
        · go_wp2_with (go_at_call 40; refine (fault _ _ _).mono ?_; rintro e w' ⟨rfl, rfl⟩)
          refine bodyPost_ret (v := .tuple #[.agg #[.slice none 0 0, .slice none 0 0, .slice none 0 0, .slice none 0 0, .int .i64 0], .agg #[.int .i64 4, .int .i64 k]]) (by simp [results, Try.results14, go_sem, hr0, hr1, hs0, hs1]) rfl (EffPost.err (eff_bad (by have := HL.out; omega) HF.out HU.out (by unfold Act.bad; rw [if_neg (by omega), if_pos (by omega)]) (by decide)) ?_)
          (repeat (first | with_reducible refine Bel.setCell ?_ (by simp) _ | with_reducible refine Bel.alloc ?_ _)); exact HBB.out
        by_cases g4 : a.kind = 6
        · have g4' : (a.kind == 6) = true := by simpa using g4
          have G4 := Lib.hid g4
          clear g4
          by_cases g5 : a.n < 0
          · go_wp2_with (go_at_call 40; refine (fault _ _ _).mono ?_; rintro e w' ⟨rfl, rfl⟩)
            refine bodyPost_ret (v := .tuple #[.agg #[.slice none 0 0, .slice none 0 0, .slice none 0 0, .slice none 0 0, .int .i64 0], .agg #[.int .i64 3, .int .i64 k]]) (by simp [results, Try.results14, go_sem, hr0, hr1, hs0, hs1]) rfl (EffPost.err (eff_bad (by have := HL.out; omega) HF.out HU.out (by unfold Act.bad; rw [if_neg (by omega), if_neg (by omega), if_pos ⟨G4.out, by omega⟩]) (by decide)) ?_)
            (repeat (first | with_reducible refine Bel.setCell ?_ (by simp) _ | with_reducible refine Bel.alloc ?_ _)); exact HBB.out
          have g5' : decide (a.n < 0) = false := by simpa using g5
          by_cases g6 : 63 < a.n
          · go_wp2_with (go_at_call 40; refine (fault _ _ _).mono ?_; rintro e w' ⟨rfl, rfl⟩)
            refine bodyPost_ret (v := .tuple #[.agg #[.slice none 0 0, .slice none 0 0, .slice none 0 0, .slice none 0 0, .int .i64 0], .agg #[.int .i64 3, .int .i64 k]]) (by simp [results, Try.results14, go_sem, hr0, hr1, hs0, hs1]) rfl (EffPost.err (eff_bad (by have := HL.out; omega) HF.out HU.out (by unfold Act.bad; rw [if_neg (by omega), if_neg (by omega), if_pos ⟨G4.out, by omega⟩]) (by decide)) ?_)
            (repeat (first | with_reducible refine Bel.setCell ?_ (by simp) _ | with_reducible refine Bel.alloc ?_ _)); exact HBB.out
          go_wp2
          go_roundw
          case rel => exact ⟨k + 1, hlt, by go_num, HB.out.alloc _, by rw [HF.out, drop_at HU.out, faultFrom, if_pos (by unfold Act.bad; rw [if_neg (by omega), if_neg (by omega), if_neg (by omega)])]⟩
          case measure => simp [intOf]; omega
        · have g4' : (a.kind == 6) = false := by simpa using g4
          go_wp2
          go_roundw
          case rel => exact ⟨k + 1, hlt, by go_num, HB.out.alloc _, by rw [HF.out, drop_at HU.out, faultFrom, if_pos (by unfold Act.bad; rw [if_neg (by omega), if_neg (by omega), if_neg (by omega)])]⟩
          case measure => simp [intOf]; omega
      · have hkn : k = n := by omega
        subst hkn
        have HFN := Lib.hid (show faultFrom 0 l = (0, 0) by rw [HF.out, List.drop_of_length_le (by have := HL.out; omega)]; rfl)
        have HBB := Lib.hid (HB2.out.trans HB.out)
        have HBE := Lib.hid (HE2.out.bel HB.out)
        have HBF := Lib.hid (HF2.out.bel HB.out)
        clear HF HB HE2 HF2 HB2 hr0 hf0 hr1 hf1
        go_wp2_with fail
        obtain ⟨g, hg⟩ : ∃ g, g = wr.heap.size := ⟨_, rfl⟩
        rw [← hg]
        generalize hw3 : (World.alloc wr _) = w3
        have HG3 := Lib.hid (show Rows4 w3 (g + 1) g (fun _ => Sl.nil) Eff.zero 0 from by
          subst hg; rw [← hw3]
          exact ⟨Blk.new _ _ _, fun _ _ => Own.nil, fun _ _ _ _ _ q hq => by simp [blk] at hq, fun _ _ => Nat.le_refl _, by omega⟩)
        have hb3 : Bel w w3 := by rw [← hw3]; exact HBB.out.alloc _
        have hE3 : Blk w3 w.heap.size 25 #[.slice none 0 0, .slice none 0 0, .slice none 0 0, .slice none 0 0, .int .i64 0] := by rw [← hw3]; exact HBE.out.alloc _
        have hF3 : Blk w3 (w.heap.size + 1) 27 #[.int .i64 0, .int .i64 0] := by rw [← hw3]; exact HBF.out.alloc _
        have hz3 : w3.heap.size = g + 1 := by rw [← hw3, hg]; simp
        have hgw : w.heap.size + 1 < g := by rw [hg]; exact hs1
        have HB3 := Lib.hid hb3
        have HE3 := Lib.hid hE3
        have HF3 := Lib.hid hF3
        have HZ3 := Lib.hid hz3
        clear hb3 hE3 hF3 hz3 hw3 hg HBB HBE HBF hs1 hs0
        go_loopw [61] (EffRel2 w3 g l k) (fun i _ => k - (intOf i).toNat)
        case atStart => exact ⟨0, _, _, Nat.zero_le _, rfl, Frm.refl _ _, HG3.out, rfl⟩
        case round =>
          obtain ⟨j, R, x, hj, rfl, hfr, h4, hfo⟩ := hrel
          have HFR := Lib.hid hfr
          have HR4 := Lib.hid h4
          have HFO := Lib.hid hfo
          have hsz : g + 1 ≤ wr.heap.size := by have := hfr.size; have := HZ3.out; omega
          have hcg := h4.blk.cell
          have hfg := h4.blk.frz
          have hsg : g < wr.heap.size := by omega
          clear hfr h4 hfo
          by_cases hlt : j < k
          · obtain ⟨b, off, a, rfl, hlb, hu, hc⟩ := H.out.elem (fun _ => rfl) (by decide) hlt
            have hbb : wr.heap[b]? = w.heap[b]? := (HFR.out.block b (by have := HZ3.out; omega) (by omega)).trans (HB3.out.block b hlb)
            have hcw : ∀ o, wr.cell? ⟨b, o, none⟩ = w.cell? ⟨b, o, none⟩ := fun o => World.cell?_of_block (w := w) (a := ⟨b, o, none⟩) hbb
            have hc0 : wr.cell? ⟨b, off + j * 3, none⟩ = some (.int .i64 a.kind) := (hcw _).trans (hc 0 _ rfl)
            have hc1 : wr.cell? ⟨b, off + j * 3 + 1, none⟩ = some (.string a.text) := (hcw _).trans (hc 1 _ rfl)
            have hc2 : wr.cell? ⟨b, off + j * 3 + 2, none⟩ = some (.int .i64 a.n) := (hcw _).trans (hc 2 _ rfl)
            have HU := Lib.hid hu
            clear hc hu hcw hbb
            have hbr : b < wr.heap.size := by omega
            by_cases k1 : a.kind = 1
            · have K1 := Lib.hid k1
              have k1' : (a.kind == 1) = true := by simpa using k1
              clear k1
              go_wp2_with (go_at_call 41; refine (once g 0 (g + 1) _ _ _ _ (x.X 0) inbox _ (HR4.out.frm ((Bel.refl _).alloc _)).blk rfl ((HR4.out.frm ((Bel.refl _).alloc _)).own 0 (by decide)) (fun hq => by have := ((HR4.out.own 0 (by decide)).lt hq).1; omega) (by simp; omega) (by have := HR4.out.cnt 0 (by decide); omega)).mono ?_; intro e w' hp; have he := hp.1; subst he; have HP := Lib.hid hp; clear hp)
              go_roundw
              case rel =>
                obtain ⟨⟨R', h4⟩, hfr⟩ := (HR4.out.frm ((Bel.refl _).alloc _)).once (by decide) HP.out
                exact ⟨j + 1, R', _, hlt, by go_num, (HFR.out.alloc _).trans hfr (fun _ hq _ => hq), h4, by rw [HFO.out, drop_at HU.out, List.foldl_cons]; congr 1; unfold Eff.step; rw [if_pos K1.out]⟩
              case measure => simp [intOf]; omega
            have k1' : (a.kind == 1) = false := by simpa using k1
            have K1 := Lib.hid k1
            clear k1
            by_cases k2 : a.kind = 2
            · have K2 := Lib.hid k2
              have k2' : (a.kind == 2) = true := by simpa using k2
              clear k2
              go_wp2_with (go_at_call 41; refine (once g 0 (g + 1) _ _ _ _ (x.X 0) a.text _ (HR4.out.frm ((Bel.refl _).alloc _)).blk rfl ((HR4.out.frm ((Bel.refl _).alloc _)).own 0 (by decide)) (fun hq => by have := ((HR4.out.own 0 (by decide)).lt hq).1; omega) (by simp; omega) (by have := HR4.out.cnt 0 (by decide); omega)).mono ?_; intro e w' hp; have he := hp.1; subst he; have HP := Lib.hid hp; clear hp)
              go_roundw
              case rel =>
                obtain ⟨⟨R', h4⟩, hfr⟩ := (HR4.out.frm ((Bel.refl _).alloc _)).once (by decide) HP.out
                exact ⟨j + 1, R', _, hlt, by go_num, (HFR.out.alloc _).trans hfr (fun _ hq _ => hq), h4, by rw [HFO.out, drop_at HU.out, List.foldl_cons]; congr 1; unfold Eff.step; rw [if_neg K1.out, if_pos K2.out]⟩
              case measure => simp [intOf]; omega
            have k2' : (a.kind == 2) = false := by simpa using k2
            have K2 := Lib.hid k2
            clear k2
            by_cases k4 : a.kind = 4
            · have K4 := Lib.hid k4
              have k4' : (a.kind == 4) = true := by simpa using k4
              clear k4
              go_wp2_with (go_at_call 41; refine (once g 1 (g + 1) _ _ _ _ (x.X 1) a.text _ (HR4.out.frm ((Bel.refl _).alloc _)).blk rfl ((HR4.out.frm ((Bel.refl _).alloc _)).own 1 (by decide)) (fun hq => by have := ((HR4.out.own 1 (by decide)).lt hq).1; omega) (by simp; omega) (by have := HR4.out.cnt 1 (by decide); omega)).mono ?_; intro e w' hp; have he := hp.1; subst he; have HP := Lib.hid hp; clear hp)
              go_roundw
              case rel =>
                obtain ⟨⟨R', h4⟩, hfr⟩ := (HR4.out.frm ((Bel.refl _).alloc _)).once (by decide) HP.out
                exact ⟨j + 1, R', _, hlt, by go_num, (HFR.out.alloc _).trans hfr (fun _ hq _ => hq), h4, by rw [HFO.out, drop_at HU.out, List.foldl_cons]; congr 1; unfold Eff.step; rw [if_neg K1.out, if_neg K2.out, if_pos K4.out]⟩
              case measure => simp [intOf]; omega
            have k4' : (a.kind == 4) = false := by simpa using k4
            have K4 := Lib.hid k4
            clear k4
            by_cases k5 : a.kind = 5
            · have K5 := Lib.hid k5
              have k5' : (a.kind == 5) = true := by simpa using k5
              clear k5
              go_wp2_with (go_at_call 41; refine (once g 2 (g + 1) _ _ _ _ (x.X 2) a.text _ (HR4.out.frm ((Bel.refl _).alloc _)).blk rfl ((HR4.out.frm ((Bel.refl _).alloc _)).own 2 (by decide)) (fun hq => by have := ((HR4.out.own 2 (by decide)).lt hq).1; omega) (by simp; omega) (by have := HR4.out.cnt 2 (by decide); omega)).mono ?_; intro e w' hp; have he := hp.1; subst he; have HP := Lib.hid hp; clear hp)
              go_roundw
              case rel =>
                obtain ⟨⟨R', h4⟩, hfr⟩ := (HR4.out.frm ((Bel.refl _).alloc _)).once (by decide) HP.out
                exact ⟨j + 1, R', _, hlt, by go_num, (HFR.out.alloc _).trans hfr (fun _ hq _ => hq), h4, by rw [HFO.out, drop_at HU.out, List.foldl_cons]; congr 1; unfold Eff.step; rw [if_neg K1.out, if_neg K2.out, if_neg K4.out, if_pos K5.out]⟩
              case measure => simp [intOf]; omega
            have k5' : (a.kind == 5) = false := by simpa using k5
            have K5 := Lib.hid k5
            clear k5
            by_cases k7 : a.kind = 7
            · have K7 := Lib.hid k7
              have k7' : (a.kind == 7) = true := by simpa using k7
              clear k7
              go_wp2_with (go_at_call 41; refine (once g 3 (g + 1) _ _ _ _ (x.X 3) a.text _ (HR4.out.frm ((Bel.refl _).alloc _)).blk rfl ((HR4.out.frm ((Bel.refl _).alloc _)).own 3 (by decide)) (fun hq => by have := ((HR4.out.own 3 (by decide)).lt hq).1; omega) (by simp; omega) (by have := HR4.out.cnt 3 (by decide); omega)).mono ?_; intro e w' hp; have he := hp.1; subst he; have HP := Lib.hid hp; clear hp)
              go_roundw
              case rel =>
                obtain ⟨⟨R', h4⟩, hfr⟩ := (HR4.out.frm ((Bel.refl _).alloc _)).once (by decide) HP.out
                exact ⟨j + 1, R', _, hlt, by go_num, (HFR.out.alloc _).trans hfr (fun _ hq _ => hq), h4, by rw [HFO.out, drop_at HU.out, List.foldl_cons]; congr 1; unfold Eff.step; rw [if_neg K1.out, if_neg K2.out, if_neg K4.out, if_neg K5.out, if_pos K7.out]⟩
              case measure => simp [intOf]; omega
            have k7' : (a.kind == 7) = false := by simpa using k7
            have K7 := Lib.hid k7
            clear k7
            by_cases k6 : a.kind = 6
            · have K6 := Lib.hid k6
              have k6' : (a.kind == 6) = true := by simpa using k6
              clear k6
              go_wp2
              go_roundw
              case rel =>
                refine ⟨j + 1, R, ⟨x.X, bits .or .i64 x.f a.n⟩, hlt, by go_num, ?_, ((HR4.out.flag _).frm ((Bel.refl _).alloc _)).more (by omega), by rw [HFO.out, drop_at HU.out, List.foldl_cons]; congr 1; unfold Eff.step; rw [if_neg K1.out, if_neg K2.out, if_neg K4.out, if_neg K5.out, if_neg K7.out, if_pos K6.out]⟩
                exact (HFR.out.setCell (p := ⟨g, 4, none⟩) (.inl (.inl rfl)) _).alloc _
              case measure => simp [intOf]; omega
            have k6' : (a.kind == 6) = false := by simpa using k6
            have K6 := Lib.hid k6
            clear k6
            go_wp2
            go_roundw
            case rel => exact ⟨j + 1, R, x, hlt, by go_num, HFR.out.alloc _, (HR4.out.frm ((Bel.refl _).alloc _)).more (by omega), by rw [HFO.out, drop_at HU.out, List.foldl_cons]; congr 1; unfold Eff.step; rw [if_neg K1.out, if_neg K2.out, if_neg K4.out, if_neg K5.out, if_neg K7.out, if_neg K6.out]⟩
            case measure => simp [intOf]; omega
          · have hc0 : ∀ o, wr.cell? ⟨w.heap.size, o, none⟩ = _ := (HE3.out.frm HFR.out (by omega)).cell
            have hf0 : ∀ o, wr.frozen? ⟨w.heap.size, o, none⟩ = false := (HE3.out.frm HFR.out (by omega)).frz
            have hc1 : ∀ o, wr.cell? ⟨w.heap.size + 1, o, none⟩ = _ := (HF3.out.frm HFR.out (by omega)).cell
            have hf1 : ∀ o, wr.frozen? ⟨w.heap.size + 1, o, none⟩ = false := (HF3.out.frm HFR.out (by omega)).frz
            have hs0 : w.heap.size < wr.heap.size := by omega
            have hs1 : w.heap.size + 1 < wr.heap.size := by omega
            go_wp2
            go_region_with (go_at_call 42; refine (none_ _).mono ?_; rintro e w' ⟨rfl, rfl⟩)
            all_goals
              go_wp2
              refine bodyPost_ret (v := .tuple #[.agg (effVal R x.f), .agg #[.int .i64 0, .int .i64 0]]) (by simp [results, Try.results14, go_sem, hc0, hc1, hs0, hs1]) rfl ?_
              refine eff_good (by have := HL.out; omega) HFN.out (by have := HL.out; omega) HFO.out hgw HR4.out HB3.out HFR.out ?_
              (repeat (first | with_reducible refine Frm.setCell ?_ (by simp) _ | with_reducible refine Frm.alloc ?_ _ | with_reducible refine Frm.drew ?_)); exact Frm.refl _ _
  · have hbd : decide ((300 : Int) < (n : Int)) = true := by simp; omega
    go_enter Try.func14, Try.ntmps14
    go_wp2_with (go_at_call 40; refine (fault _ _ _).mono ?_; rintro e w' ⟨rfl, rfl⟩)
    refine bodyPost_ret (v := .tuple #[.agg #[.slice none 0 0, .slice none 0 0, .slice none 0 0, .slice none 0 0, .int .i64 0], .agg #[.int .i64 2, .int .i64 (-1)]]) (by simp [results, Try.results14, go_sem]) rfl (EffPost.err (by unfold effOf; rw [if_pos (by have := HL.out; omega)]) ?_)
    (repeat (first | with_reducible refine Bel.setCell ?_ (by simp) _ | with_reducible refine Bel.alloc ?_ _)); exact Bel.refl _

end Go.Proofs.Ytgmjhnijnpfkgaa
