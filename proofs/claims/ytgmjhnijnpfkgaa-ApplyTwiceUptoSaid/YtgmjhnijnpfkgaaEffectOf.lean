/- the reference's EffectOf. -/
import Derived.Test.YtgmjhnijnpfkgaaEffRef
namespace Go.Proofs.Ytgmjhnijnpfkgaa
open Go.RowKit

theorem Rd.frm {w w' : World} {k n c : Nat} {A : Option Addr} {xs : List Value} {S : Nat → Prop} (h : Rd w k A n c xs) (hf : Frm S w w') (hs : ∀ q, blk A = some q → ¬ S q) : Rd w' k A n c xs := by
  refine ⟨h.1, h.2.1, h.2.2.1, h.2.2.2.1, fun hn => ?_⟩
  obtain ⟨b, off, e, hlt, hc⟩ := h.2.2.2.2 hn
  exact ⟨b, off, e, Nat.lt_of_lt_of_le hlt hf.size, fun j u hu => (World.cell?_of_block (w := w) (a := ⟨b, off + j, none⟩) (hf.block b hlt (hs b (by rw [e]; rfl)))).trans (hc j u hu)⟩

structure EO (w : World) (g : Nat) (R : Nat → Sl) (x : Eff) (m : Nat) : Prop where
  blk : Blk w g 25 (effVal R x.f)
  rd : RdE w R x
  cnt : ∀ i, i < 4 → (R i).2.1 ≤ m
  far : ∀ i, i < 4 → ∀ q, Go.Proofs.Ytgmjhnijnpfkgaa.blk (R i).1 = some q → g < q
  lo : 0 ≤ x.f
  hi : x.f ≤ 63
section
variable {w w1 : World} {g m i : Nat} {R : Nat → Sl} {x : Eff}
theorem EO.bel (h : EO w g R x m) (hb : Bel w w1) : EO w1 g R x m := ⟨h.blk.bel hb, fun i hi => (h.rd i hi).bel hb, h.cnt, h.far, h.lo, h.hi⟩
theorem EO.more {m' : Nat} (h : EO w g R x m) (hm : m ≤ m') : EO w g R x m' := ⟨h.blk, h.rd, fun i hi => Nat.le_trans (h.cnt i hi) hm, h.far, h.lo, h.hi⟩
theorem EO.flag (h : EO w g R x m) (f : Int) (h0 : 0 ≤ f) (h1 : f ≤ 63) : EO (w.setCell ⟨g, 4, none⟩ (.int .i64 f)) g R ⟨x.X, f⟩ m :=
  ⟨h.blk.set_ 4 (.int .i64 f), fun i hi => (h.rd i hi).keep (by simp [World.setCell]) fun b off e => Below.heap_setCell w _ _ b (by
    have := h.far i hi b (by rw [e]; rfl)
    show b ≠ g
    omega), h.cnt, h.far, h0, h1⟩
theorem EO.put {A' : Option Addr} {n' c' : Nat} {L : List ByteArray} (h : EO w g R x m) (hi : i < 4) (hb : Bel w w1) (hrd : Rd w1 1 A' n' c' (strs L)) (hA : A' = (R i).1 ∨ ∀ q, Go.Proofs.Ytgmjhnijnpfkgaa.blk A' = some q → w.heap.size ≤ q) (hn : n' ≤ m + 1) :
    EO (w1.setCell ⟨g, i, none⟩ (.slice A' n' c')) g (upd R i (A', n', c')) ⟨upd x.X i L, x.f⟩ (m + 1) := by
  have hg := h.blk.lt
  have hfar : ∀ q, Go.Proofs.Ytgmjhnijnpfkgaa.blk A' = some q → g < q := by
    intro q hq
    rcases hA with e | e
    · subst e; exact h.far i hi q hq
    · have := e q hq; omega
  have hkeep : ∀ {B : Option Addr} {n c : Nat} {xs : List Value}, Rd w1 1 B n c xs → (∀ q, Go.Proofs.Ytgmjhnijnpfkgaa.blk B = some q → g < q) → Rd (w1.setCell ⟨g, i, none⟩ (.slice A' n' c')) 1 B n c xs := by
    intro B n c xs hB hq
    refine hB.keep (by simp [World.setCell]) fun b off e => Below.heap_setCell w1 _ _ b ?_
    have := hq b (by rw [e]; rfl)
    show b ≠ g
    omega
  refine ⟨?_, ?_, ?_, ?_, h.lo, h.hi⟩
  · have e : (effVal R x.f).setIfInBounds i (.slice A' n' c') = effVal (upd R i (A', n', c')) x.f := by
      have : i = 0 ∨ i = 1 ∨ i = 2 ∨ i = 3 := by omega
      rcases this with rfl | rfl | rfl | rfl <;> simp [effVal, upd, Sl.val]
    rw [← e]
    exact (h.blk.bel hb).set_ i _
  · intro j hj
    by_cases hji : j = i
    · subst hji
      simp only [upd_same]
      exact hkeep hrd hfar
    · simp only [upd_other _ _ hji]
      exact hkeep ((h.rd j hj).bel hb) (h.far j hj)
  · intro j hj
    by_cases hji : j = i
    · subst hji; rw [upd_same]; exact hn
    · rw [upd_other _ _ hji]; exact Nat.le_succ_of_le (h.cnt j hj)
  · intro j hj
    by_cases hji : j = i
    · subst hji; rw [upd_same]; exact hfar
    · rw [upd_other _ _ hji]; exact h.far j hj
end

def orTo : Nat → Int → Int → Int
  | 0, f, _ => f
  | j + 1, f, n => if n / 2 ^ j % 2 = 1 ∧ orTo j f n / 2 ^ j % 2 = 0 then orTo j f n + 2 ^ j else orTo j f n
theorem orTo_all : ∀ f : Fin 64, ∀ n : Fin 64, orTo 6 (f.val : Int) (n.val : Int) = ((f.val ||| n.val : Nat) : Int) := by decide +kernel
theorem orTo_range : ∀ f : Fin 64, ∀ n : Fin 64, ∀ j : Fin 7, 0 ≤ orTo j.val (f.val : Int) (n.val : Int) ∧ orTo j.val (f.val : Int) (n.val : Int) ≤ 63 := by decide +kernel
theorem orTo_bd {f n : Int} (h0 : 0 ≤ f) (h1 : f ≤ 63) (h2 : 0 ≤ n) (h3 : n ≤ 63) {j : Nat} (hj : j ≤ 6) : 0 ≤ orTo j f n ∧ orTo j f n ≤ 63 := by
  have := orTo_range ⟨f.toNat, by omega⟩ ⟨n.toNat, by omega⟩ ⟨j, by omega⟩
  simpa [Int.toNat_of_nonneg h0, Int.toNat_of_nonneg h2] using this
theorem ofInt_i64 (a : Nat) (ha : a < 9223372036854775808) : (BitVec.ofInt 64 (a : Int)).toNat = a := by
  rw [BitVec.ofInt_natCast, BitVec.toNat_ofNat]; exact Nat.mod_eq_of_lt (by omega)
theorem bits_or_nat (a b : Nat) (ha : a < 64) (hb : b < 64) : bits .or .i64 (a : Int) (b : Int) = ((a ||| b : Nat) : Int) := by
  have hx : a ||| b < 2 ^ 6 := Nat.or_lt_two_pow (by omega) (by omega)
  show IntKind.i64.wrap ((BitVec.ofInt 64 (a : Int) ||| BitVec.ofInt 64 (b : Int)).toNat : Int) = _
  rw [BitVec.toNat_or, ofInt_i64 a (by omega), ofInt_i64 b (by omega), IntKind.wrap_i64]
  omega
theorem orTo_bits {f n : Int} (h0 : 0 ≤ f) (h1 : f ≤ 63) (h2 : 0 ≤ n) (h3 : n ≤ 63) : orTo 6 f n = bits .or .i64 f n := by
  obtain ⟨a, rfl⟩ := Int.eq_ofNat_of_zero_le h0
  obtain ⟨b, rfl⟩ := Int.eq_ofNat_of_zero_le h2
  rw [bits_or_nat a b (by omega) (by omega)]
  exact orTo_all ⟨a, by omega⟩ ⟨b, by omega⟩

def FlagRel (w3 : World) (g ga : Nat) (R : Nat → Sl) (x : Eff) (a : Act) (k : Nat) (i : Value) (wr : World) : Prop :=
  ∃ j : Nat, j ≤ 6 ∧ i = .int .i64 (2 ^ j) ∧ Frm (fun q => q = g ∨ g + 1 ≤ q) w3 wr ∧ EO wr g R ⟨x.X, orTo j x.f a.n⟩ k ∧ Blk wr ga 35 #[.int .i64 a.kind, .string a.text, .int .i64 a.n]

theorem orTo_yes {j : Nat} {F n f : Int} (hf : orTo j F n = f) (h1 : n / 2 ^ j % 2 = 1) (h2 : f / 2 ^ j % 2 = 0) : orTo (j + 1) F n = f + 2 ^ j := by rw [orTo, hf, if_pos ⟨h1, h2⟩]
theorem orTo_no {j : Nat} {F n f : Int} (hf : orTo j F n = f) (h : ¬ (n / 2 ^ j % 2 = 1 ∧ f / 2 ^ j % 2 = 0)) : orTo (j + 1) F n = f := by rw [orTo, hf, if_neg h]
theorem flag_yes {w3 wr : World} {g ga j k : Nat} {R : Nat → Sl} {x : Eff} {a : Act} {f p f' : Int} (hj : j + 1 ≤ 6) (hf : orTo j x.f a.n = f) (hp : (2 : Int) ^ (j + 1) = p) (h1 : a.n / 2 ^ j % 2 = 1) (h2 : f / 2 ^ j % 2 = 0) (hf' : f' = f + 2 ^ j) (hx : 0 ≤ x.f ∧ x.f ≤ 63 ∧ 0 ≤ a.n ∧ a.n ≤ 63) (hg : g < ga)
    (hfr : Frm (fun q => q = g ∨ g + 1 ≤ q) w3 wr) (h4 : EO wr g R ⟨x.X, f⟩ k) (hb : Blk wr ga 35 #[.int .i64 a.kind, .string a.text, .int .i64 a.n]) : FlagRel w3 g ga R x a k (.int .i64 p) (wr.setCell ⟨g, 4, none⟩ (.int .i64 f')) := by
  have e := orTo_yes hf h1 h2
  rw [← hf'] at e
  have hr := orTo_bd hx.1 hx.2.1 hx.2.2.1 hx.2.2.2 hj
  rw [e] at hr
  exact ⟨j + 1, hj, by rw [hp], hfr.setCell (.inl (.inl rfl)) _, by rw [e]; exact h4.flag f' hr.1 hr.2, hb.far (by show ga ≠ g; omega) _⟩
theorem flag_no {w3 wr : World} {g ga j k : Nat} {R : Nat → Sl} {x : Eff} {a : Act} {f p : Int} (hj : j + 1 ≤ 6) (hf : orTo j x.f a.n = f) (hp : (2 : Int) ^ (j + 1) = p) (h : ¬ (a.n / 2 ^ j % 2 = 1 ∧ f / 2 ^ j % 2 = 0))
    (hfr : Frm (fun q => q = g ∨ g + 1 ≤ q) w3 wr) (h4 : EO wr g R ⟨x.X, f⟩ k) (hb : Blk wr ga 35 #[.int .i64 a.kind, .string a.text, .int .i64 a.n]) : FlagRel w3 g ga R x a k (.int .i64 p) wr :=
  ⟨j + 1, hj, by rw [hp], hfr, by rw [orTo_no hf h]; exact h4, hb⟩

def EORel (w3 : World) (g : Nat) (l : List Act) (n : Nat) (i : Value) (wr : World) : Prop :=
  ∃ (k : Nat) (R : Nat → Sl) (x : Eff), k ≤ n ∧ i = .int .i64 k ∧ Frm (fun q => q = g ∨ g + 1 ≤ q) w3 wr ∧ EO wr g R x k ∧ faultFrom 0 l = faultFrom k (l.drop k) ∧ l.foldl Eff.step Eff.zero = (l.drop k).foldl Eff.step x
theorem eo_good {l : List Act} {j g : Nat} {R : Nat → Sl} {x : Eff} {w w3 wr w' : World} (hl : l.length ≤ 300) (hf : faultFrom 0 l = faultFrom j (l.drop j)) (hj : l.length ≤ j) (hfo : l.foldl Eff.step Eff.zero = (l.drop j).foldl Eff.step x) (hgw : w.heap.size + 1 < g)
    (h4 : EO wr g R x j) (hb : Bel w w3) (hfr : Frm (fun q => q = g ∨ g + 1 ≤ q) w3 wr) (hfin : Frm (fun q => q = w.heap.size ∨ q = w.heap.size + 1) wr w') :
    EffPost (effOf l) w (.returned (.tuple #[.agg (effVal R x.f), .agg #[.int .i64 0, .int .i64 0]])) w' := by
  have e : effOf l = (x, 0, 0) := by
    unfold effOf
    rw [if_neg (by omega), if_pos (by rw [hf, List.drop_of_length_le hj]; rfl), hfo, List.drop_of_length_le hj]
    rfl
  rw [e]
  refine ⟨R, rfl, fun i hi => (h4.rd i hi).frm hfin fun q hq hS => ?_, ?_⟩
  · have := h4.far i hi q hq
    omega
  · refine (((hb.frm (fun q => w.heap.size ≤ q)).trans hfr ?_).trans hfin ?_).bel (fun _ h => h)
    · intro q hq _; omega
    · intro q hq _; omega

set_option maxHeartbeats 1000000 in
set_option maxRecDepth 4000 in
theorem effectOf (A : Option Addr) (n c : Nat) (l : List Act) (w : World) (h : Rd w 3 A n c (l.flatMap Act.cells)) :
    Calls Try.prog 15 #[.slice A n c] w (EffPost (effOf l) w) := by
  have hn := h.le
  have hm := h.cap
  have hll := h.count (fun _ => rfl) (by decide)
  have H := Lib.hid h
  have HL := Lib.hid hll
  clear h hll
  by_cases hbig : n ≤ 300
  · have hbd : decide ((300 : Int) < (n : Int)) = false := by simp; omega
    go_enter Try.func15, Try.ntmps15
    go_wp2
    obtain ⟨g, hg⟩ : ∃ g, g = w.heap.size + 1 + 1 := ⟨_, rfl⟩
    rw [← hg]
    generalize hw3 : (World.alloc (World.alloc (World.alloc w _) _) _) = w3
    have HG3 := Lib.hid (show EO w3 g (fun _ => Sl.nil) Eff.zero 0 from by
      subst hg; rw [← hw3]
      exact ⟨(show w.heap.size + 1 + 1 = ((w.alloc _).alloc _).heap.size by simp) ▸ Blk.new _ _ _, fun _ _ => Rd.nil, fun _ _ => Nat.le_refl _, fun _ _ q hq => by simp [blk] at hq, by decide, by decide⟩)
    have hb3 : Bel w w3 := by rw [← hw3]; exact (((Bel.refl w).alloc _).alloc _).alloc _
    have hE3 : Blk w3 w.heap.size 25 #[.slice none 0 0, .slice none 0 0, .slice none 0 0, .slice none 0 0, .int .i64 0] := by rw [← hw3]; exact ((Blk.new _ _ _).alloc _).alloc _
    have hF3 : Blk w3 (w.heap.size + 1) 27 #[.int .i64 0, .int .i64 0] := by rw [← hw3]; exact ((show w.heap.size + 1 = (w.alloc _).heap.size by simp) ▸ Blk.new _ _ _ : Blk ((w.alloc _).alloc _) _ _ _).alloc _
    have hz3 : w3.heap.size = g + 1 := by rw [← hw3, hg]; simp
    have hgw : w.heap.size + 1 < g := by omega
    have HB3 := Lib.hid hb3
    have HE3 := Lib.hid hE3
    have HF3 := Lib.hid hF3
    have HZ3 := Lib.hid hz3
    clear hb3 hE3 hF3 hz3 hw3 hg
    go_loopw [5] (EORel w3 g l n) (fun i _ => n - (intOf i).toNat)
    case atStart => exact ⟨0, _, _, Nat.zero_le _, rfl, Frm.refl _ _, HG3.out, rfl, rfl⟩
    case round =>
      obtain ⟨k, R, x, hk, rfl, hfr, h4, hff, hfo⟩ := hrel
      have HFR := Lib.hid hfr
      have HR4 := Lib.hid h4
      have HFO := Lib.hid hfo
      have HF := Lib.hid hff
      have hsz : g + 1 ≤ wr.heap.size := by have := hfr.size; have := HZ3.out; omega
      have hsg : g < wr.heap.size := by omega
      have hs0 : w.heap.size < wr.heap.size := by omega
      have hs1 : w.heap.size + 1 < wr.heap.size := by omega
      have hcg := h4.blk.cell
      have hfg := h4.blk.frz
      have hxl := h4.lo
      have hxh := h4.hi
      have hr0 := (HE3.out.frm HFR.out (by omega)).cell
      have hf0 := (HE3.out.frm HFR.out (by omega)).frz
      have hr1 := (HF3.out.frm HFR.out (by omega)).cell
      have hf1 := (HF3.out.frm HFR.out (by omega)).frz
      have HBB := Lib.hid (show Bel w wr from ((HB3.out.frm (fun q => w.heap.size ≤ q)).trans HFR.out (by intro q hq _; omega)).bel (fun _ h => h))
      clear hfr h4 hfo hff
      by_cases hlt : k < n
      · obtain ⟨b, off, a, rfl, hlb, hu, hc⟩ := (H.out.bel HBB.out).elem (fun _ => rfl) (by decide) hlt
        have hc0 : wr.cell? ⟨b, off + k * 3, none⟩ = some (.int .i64 a.kind) := hc 0 _ rfl
        have hc1 : wr.cell? ⟨b, off + k * 3 + 1, none⟩ = some (.string a.text) := hc 1 _ rfl
        have hc2 : wr.cell? ⟨b, off + k * 3 + 2, none⟩ = some (.int .i64 a.n) := hc 2 _ rfl
        have HU := Lib.hid hu
        clear hc hu
        by_cases g1 : (4000 : Int) < (a.text.size : Int)
        · go_wp2_with (first | (go_at_call 25; refine (at_ _ _ _).mono ?_; rintro e w' ⟨rfl, rfl⟩) | (go_at_call 26; refine (in_ _ _ _ _).mono ?_; rintro e w' ⟨rfl, rfl⟩))
          refine bodyPost_ret (v := .tuple #[.agg #[.slice none 0 0, .slice none 0 0, .slice none 0 0, .slice none 0 0, .int .i64 0], .agg #[.int .i64 1, .int .i64 k]]) (by simp [results, Try.results15, go_sem, hr0, hr1, hs0, hs1]) rfl (EffPost.err (eff_bad (by have := HL.out; omega) HF.out HU.out (by unfold Act.bad; rw [if_pos (by omega)]) (by decide)) ?_)
          (repeat (first | with_reducible refine Bel.setCell ?_ (by simp) _ | with_reducible refine Bel.alloc ?_ _)); exact HBB.out
        by_cases g2 : ¬ (1 ≤ a.kind ∧ a.kind ≤ 7)
        · have g2' : decide (1 ≤ a.kind ∧ a.kind ≤ 7) = false := by simpa using g2
          have g2'' : a.kind < 1 ∨ 7 < a.kind := by omega
          clear g2
          go_wp2_with (first | (go_at_call 25; refine (at_ _ _ _).mono ?_; rintro e w' ⟨rfl, rfl⟩) | (go_at_call 26; refine (in_ _ _ _ _).mono ?_; rintro e w' ⟨rfl, rfl⟩))
          refine bodyPost_ret (v := .tuple #[.agg #[.slice none 0 0, .slice none 0 0, .slice none 0 0, .slice none 0 0, .int .i64 0], .agg #[.int .i64 4, .int .i64 k]]) (by simp [results, Try.results15, go_sem, hr0, hr1, hs0, hs1]) rfl (EffPost.err (eff_bad (by have := HL.out; omega) HF.out HU.out (by unfold Act.bad; rw [if_neg (by omega), if_pos (by omega)]) (by decide)) ?_)
          (repeat (first | with_reducible refine Bel.setCell ?_ (by simp) _ | with_reducible refine Bel.alloc ?_ _)); exact HBB.out
        have g2' : decide (1 ≤ a.kind ∧ a.kind ≤ 7) = true := by simpa using g2
        have g21 : 1 ≤ a.kind := by omega
        have g22 : a.kind ≤ 7 := by omega
        clear g2
        by_cases k1 : a.kind = 1
        · have K1 := Lib.hid k1
          have k1' : (a.kind == 1) = true := by simpa using k1
          have k6' : (a.kind == 6) = false := by simp [k1]
          have k2' : (a.kind == 2) = false := by simp [k1]
          have k4' : (a.kind == 4) = false := by simp [k1]
          have k5' : (a.kind == 5) = false := by simp [k1]
          have k7' : (a.kind == 7) = false := by simp [k1]
          clear k1
          go_wp2_with (first
            | (go_at_call 26; refine (in_ _ _ _ _).mono ?_; rintro e w' ⟨rfl, rfl⟩)
            | (go_at_call 43
               refine (addedRef (R 0).1 _ _ (x.X 0) inbox _ ((HR4.out.bel ((Bel.refl _).alloc _)).rd 0 (by decide)) (by have := HR4.out.cnt 0 (by decide); omega)).mono ?_
               rintro e w1 ⟨A1, n1, c1, rfl, hrd, hb, hA⟩
               have hg1 := ((HR4.out.bel ((Bel.refl _).alloc _)).blk.bel hb)
               have hcg1 := hg1.cell
               have hfg1 := hg1.frz
               have ha1 := (Blk.new wr 35 #[.int .i64 a.kind, .string a.text, .int .i64 a.n]).bel hb
               have hca1 := ha1.cell
               have hgs1 : g < w1.heap.size := hg1.lt
               have HB1 := Lib.hid hb
               have HRD := Lib.hid hrd
               have HA1 := Lib.hid hA
               clear hg1 ha1 hb hrd hA))
          refine wp_loop_rounds 1 ?_
          rw [rounds_succ]
          go_wp2
          go_roundw
          case rel =>
            refine ⟨k + 1, _, _, hlt, by go_num, ?_, HR4.out.put (i := 0) (by decide) (((Bel.refl _).alloc _).trans HB1.out) HRD.out (HA1.out.imp_right fun h q hq => by have := h q hq; simp at this; omega) ?_, ?_, ?_⟩
            · exact ((HFR.out.alloc _).trans (HB1.out.frm (fun _ => False)) (fun _ h _ => h.elim)).setCell (.inl (.inl rfl)) _
            · have h1 := HRD.out.scount
              have h2 := (HR4.out.rd 0 (by decide)).scount
              have h3 := added_len (x.X 0) inbox
              have h4 := HR4.out.cnt 0 (by decide)
              omega
            · rw [HF.out, drop_at HU.out, faultFrom, if_pos (by unfold Act.bad; rw [if_neg (by omega), if_neg (by omega), if_neg (by have := K1.out; omega)])]
            · rw [HFO.out, drop_at HU.out, List.foldl_cons]; congr 1; unfold Eff.step; rw [if_pos K1.out]
          case measure => simp [intOf]; omega
        have k1' : (a.kind == 1) = false := by simpa using k1
        have K1 := Lib.hid k1
        clear k1
        by_cases k2 : a.kind = 2
        · have K2 := Lib.hid k2
          have k2' : (a.kind == 2) = true := by simpa using k2
          have k6' : (a.kind == 6) = false := by simp [k2]
          have k4' : (a.kind == 4) = false := by simp [k2]
          have k5' : (a.kind == 5) = false := by simp [k2]
          have k7' : (a.kind == 7) = false := by simp [k2]
          clear k2
          go_wp2_with (first
            | (go_at_call 26; refine (in_ _ _ _ _).mono ?_; rintro e w' ⟨rfl, rfl⟩)
            | (go_at_call 43
               refine (addedRef (R 0).1 _ _ (x.X 0) a.text _ ((HR4.out.bel ((Bel.refl _).alloc _)).rd 0 (by decide)) (by have := HR4.out.cnt 0 (by decide); omega)).mono ?_
               rintro e w1 ⟨A1, n1, c1, rfl, hrd, hb, hA⟩
               have hg1 := ((HR4.out.bel ((Bel.refl _).alloc _)).blk.bel hb)
               have hcg1 := hg1.cell
               have hfg1 := hg1.frz
               have ha1 := (Blk.new wr 35 #[.int .i64 a.kind, .string a.text, .int .i64 a.n]).bel hb
               have hca1 := ha1.cell
               have hgs1 : g < w1.heap.size := hg1.lt
               have HB1 := Lib.hid hb
               have HRD := Lib.hid hrd
               have HA1 := Lib.hid hA
               clear hg1 ha1 hb hrd hA))
          refine wp_loop_rounds 1 ?_
          rw [rounds_succ]
          go_wp2
          go_roundw
          case rel =>
            refine ⟨k + 1, _, _, hlt, by go_num, ?_, HR4.out.put (i := 0) (by decide) (((Bel.refl _).alloc _).trans HB1.out) HRD.out (HA1.out.imp_right fun h q hq => by have := h q hq; simp at this; omega) ?_, ?_, ?_⟩
            · exact ((HFR.out.alloc _).trans (HB1.out.frm (fun _ => False)) (fun _ h _ => h.elim)).setCell (.inl (.inl rfl)) _
            · have h1 := HRD.out.scount
              have h2 := (HR4.out.rd 0 (by decide)).scount
              have h3 := added_len (x.X 0) a.text
              have h4 := HR4.out.cnt 0 (by decide)
              omega
            · rw [HF.out, drop_at HU.out, faultFrom, if_pos (by unfold Act.bad; rw [if_neg (by omega), if_neg (by omega), if_neg (by have := K2.out; omega)])]
            · rw [HFO.out, drop_at HU.out, List.foldl_cons]; congr 1; unfold Eff.step; rw [if_neg K1.out, if_pos K2.out]
          case measure => simp [intOf]; omega
        have k2' : (a.kind == 2) = false := by simpa using k2
        have K2 := Lib.hid k2
        clear k2
        by_cases k4 : a.kind = 4
        · have K4 := Lib.hid k4
          have k4' : (a.kind == 4) = true := by simpa using k4
          have k6' : (a.kind == 6) = false := by simp [k4]
          have k5' : (a.kind == 5) = false := by simp [k4]
          have k7' : (a.kind == 7) = false := by simp [k4]
          clear k4
          go_wp2_with (first
            | (go_at_call 26; refine (in_ _ _ _ _).mono ?_; rintro e w' ⟨rfl, rfl⟩)
            | (go_at_call 43
               refine (addedRef (R 1).1 _ _ (x.X 1) a.text _ ((HR4.out.bel ((Bel.refl _).alloc _)).rd 1 (by decide)) (by have := HR4.out.cnt 1 (by decide); omega)).mono ?_
               rintro e w1 ⟨A1, n1, c1, rfl, hrd, hb, hA⟩
               have hg1 := ((HR4.out.bel ((Bel.refl _).alloc _)).blk.bel hb)
               have hcg1 := hg1.cell
               have hfg1 := hg1.frz
               have ha1 := (Blk.new wr 35 #[.int .i64 a.kind, .string a.text, .int .i64 a.n]).bel hb
               have hca1 := ha1.cell
               have hgs1 : g < w1.heap.size := hg1.lt
               have HB1 := Lib.hid hb
               have HRD := Lib.hid hrd
               have HA1 := Lib.hid hA
               clear hg1 ha1 hb hrd hA))
          refine wp_loop_rounds 1 ?_
          rw [rounds_succ]
          go_wp2
          go_roundw
          case rel =>
            refine ⟨k + 1, _, _, hlt, by go_num, ?_, HR4.out.put (i := 1) (by decide) (((Bel.refl _).alloc _).trans HB1.out) HRD.out (HA1.out.imp_right fun h q hq => by have := h q hq; simp at this; omega) ?_, ?_, ?_⟩
            · exact ((HFR.out.alloc _).trans (HB1.out.frm (fun _ => False)) (fun _ h _ => h.elim)).setCell (.inl (.inl rfl)) _
            · have h1 := HRD.out.scount
              have h2 := (HR4.out.rd 1 (by decide)).scount
              have h3 := added_len (x.X 1) a.text
              have h4 := HR4.out.cnt 1 (by decide)
              omega
            · rw [HF.out, drop_at HU.out, faultFrom, if_pos (by unfold Act.bad; rw [if_neg (by omega), if_neg (by omega), if_neg (by have := K4.out; omega)])]
            · rw [HFO.out, drop_at HU.out, List.foldl_cons]; congr 1; unfold Eff.step; rw [if_neg K1.out, if_neg K2.out, if_pos K4.out]
          case measure => simp [intOf]; omega
        have k4' : (a.kind == 4) = false := by simpa using k4
        have K4 := Lib.hid k4
        clear k4
        by_cases k5 : a.kind = 5
        · have K5 := Lib.hid k5
          have k5' : (a.kind == 5) = true := by simpa using k5
          have k6' : (a.kind == 6) = false := by simp [k5]
          have k7' : (a.kind == 7) = false := by simp [k5]
          clear k5
          go_wp2_with (first
            | (go_at_call 26; refine (in_ _ _ _ _).mono ?_; rintro e w' ⟨rfl, rfl⟩)
            | (go_at_call 43
               refine (addedRef (R 2).1 _ _ (x.X 2) a.text _ ((HR4.out.bel ((Bel.refl _).alloc _)).rd 2 (by decide)) (by have := HR4.out.cnt 2 (by decide); omega)).mono ?_
               rintro e w1 ⟨A1, n1, c1, rfl, hrd, hb, hA⟩
               have hg1 := ((HR4.out.bel ((Bel.refl _).alloc _)).blk.bel hb)
               have hcg1 := hg1.cell
               have hfg1 := hg1.frz
               have ha1 := (Blk.new wr 35 #[.int .i64 a.kind, .string a.text, .int .i64 a.n]).bel hb
               have hca1 := ha1.cell
               have hgs1 : g < w1.heap.size := hg1.lt
               have HB1 := Lib.hid hb
               have HRD := Lib.hid hrd
               have HA1 := Lib.hid hA
               clear hg1 ha1 hb hrd hA))
          refine wp_loop_rounds 1 ?_
          rw [rounds_succ]
          go_wp2
          go_roundw
          case rel =>
            refine ⟨k + 1, _, _, hlt, by go_num, ?_, HR4.out.put (i := 2) (by decide) (((Bel.refl _).alloc _).trans HB1.out) HRD.out (HA1.out.imp_right fun h q hq => by have := h q hq; simp at this; omega) ?_, ?_, ?_⟩
            · exact ((HFR.out.alloc _).trans (HB1.out.frm (fun _ => False)) (fun _ h _ => h.elim)).setCell (.inl (.inl rfl)) _
            · have h1 := HRD.out.scount
              have h2 := (HR4.out.rd 2 (by decide)).scount
              have h3 := added_len (x.X 2) a.text
              have h4 := HR4.out.cnt 2 (by decide)
              omega
            · rw [HF.out, drop_at HU.out, faultFrom, if_pos (by unfold Act.bad; rw [if_neg (by omega), if_neg (by omega), if_neg (by have := K5.out; omega)])]
            · rw [HFO.out, drop_at HU.out, List.foldl_cons]; congr 1; unfold Eff.step; rw [if_neg K1.out, if_neg K2.out, if_neg K4.out, if_pos K5.out]
          case measure => simp [intOf]; omega
        have k5' : (a.kind == 5) = false := by simpa using k5
        have K5 := Lib.hid k5
        clear k5
        by_cases k7 : a.kind = 7
        · have K7 := Lib.hid k7
          have k7' : (a.kind == 7) = true := by simpa using k7
          have k6' : (a.kind == 6) = false := by simp [k7]
          clear k7
          go_wp2_with (first
            | (go_at_call 26; refine (in_ _ _ _ _).mono ?_; rintro e w' ⟨rfl, rfl⟩)
            | (go_at_call 43
               refine (addedRef (R 3).1 _ _ (x.X 3) a.text _ ((HR4.out.bel ((Bel.refl _).alloc _)).rd 3 (by decide)) (by have := HR4.out.cnt 3 (by decide); omega)).mono ?_
               rintro e w1 ⟨A1, n1, c1, rfl, hrd, hb, hA⟩
               have hg1 := ((HR4.out.bel ((Bel.refl _).alloc _)).blk.bel hb)
               have hcg1 := hg1.cell
               have hfg1 := hg1.frz
               have ha1 := (Blk.new wr 35 #[.int .i64 a.kind, .string a.text, .int .i64 a.n]).bel hb
               have hca1 := ha1.cell
               have hgs1 : g < w1.heap.size := hg1.lt
               have HB1 := Lib.hid hb
               have HRD := Lib.hid hrd
               have HA1 := Lib.hid hA
               clear hg1 ha1 hb hrd hA))
          refine wp_loop_rounds 1 ?_
          rw [rounds_succ]
          go_wp2
          go_roundw
          case rel =>
            refine ⟨k + 1, _, _, hlt, by go_num, ?_, HR4.out.put (i := 3) (by decide) (((Bel.refl _).alloc _).trans HB1.out) HRD.out (HA1.out.imp_right fun h q hq => by have := h q hq; simp at this; omega) ?_, ?_, ?_⟩
            · exact ((HFR.out.alloc _).trans (HB1.out.frm (fun _ => False)) (fun _ h _ => h.elim)).setCell (.inl (.inl rfl)) _
            · have h1 := HRD.out.scount
              have h2 := (HR4.out.rd 3 (by decide)).scount
              have h3 := added_len (x.X 3) a.text
              have h4 := HR4.out.cnt 3 (by decide)
              omega
            · rw [HF.out, drop_at HU.out, faultFrom, if_pos (by unfold Act.bad; rw [if_neg (by omega), if_neg (by omega), if_neg (by have := K7.out; omega)])]
            · rw [HFO.out, drop_at HU.out, List.foldl_cons]; congr 1; unfold Eff.step; rw [if_neg K1.out, if_neg K2.out, if_neg K4.out, if_neg K5.out, if_pos K7.out]
          case measure => simp [intOf]; omega
        have k7' : (a.kind == 7) = false := by simpa using k7
        have K7 := Lib.hid k7
        clear k7
        by_cases k6 : a.kind = 6
        · have K6 := Lib.hid k6
          have k6' : (a.kind == 6) = true := by simpa using k6
          clear k6
          by_cases g3 : ¬ (0 ≤ a.n ∧ a.n ≤ 63)
          · have g3' : decide (0 ≤ a.n ∧ a.n ≤ 63) = false := by simpa using g3
            have g3'' : a.n < 0 ∨ 63 < a.n := by omega
            clear g3
            go_wp2_with (first | (go_at_call 25; refine (at_ _ _ _).mono ?_; rintro e w' ⟨rfl, rfl⟩) | (go_at_call 26; refine (in_ _ _ _ _).mono ?_; rintro e w' ⟨rfl, rfl⟩))
            refine bodyPost_ret (v := .tuple #[.agg #[.slice none 0 0, .slice none 0 0, .slice none 0 0, .slice none 0 0, .int .i64 0], .agg #[.int .i64 3, .int .i64 k]]) (by simp [results, Try.results15, go_sem, hr0, hr1, hs0, hs1]) rfl (EffPost.err (eff_bad (by have := HL.out; omega) HF.out HU.out (by unfold Act.bad; rw [if_neg (by omega), if_neg (by omega), if_pos ⟨K6.out, by omega⟩]) (by decide)) ?_)
            (repeat (first | with_reducible refine Bel.setCell ?_ (by simp) _ | with_reducible refine Bel.alloc ?_ _)); exact HBB.out
          have g3' : decide (0 ≤ a.n ∧ a.n ≤ 63) = true := by simpa using g3
          have g31 : 0 ≤ a.n := by omega
          have g32 : a.n ≤ 63 := by omega
          clear g3
          go_wp2_with (go_at_call 26; refine (in_ _ _ _ _).mono ?_; rintro e w' ⟨rfl, rfl⟩)
          obtain ⟨ga, hga⟩ : ∃ ga, ga = wr.heap.size := ⟨_, rfl⟩
          rw [← hga]
          generalize hw4 : (World.alloc wr _) = w4
          have HW4 := Lib.hid (show FlagRel w3 g ga R x a k (.int .i64 1) w4 from by
            subst hga; rw [← hw4]
            exact ⟨0, by omega, rfl, HFR.out.alloc _, HR4.out.bel ((Bel.refl _).alloc _), Blk.new _ _ _⟩)
          have hgga : g < ga := by omega
          have H1 := Lib.hid hbd
          clear hw4 hga hcg hfg hr0 hf0 hr1 hf1 hc0 hc1 hc2 hs0 hs1 hsz hsg
          go_loopw [7] (FlagRel w3 g ga R x a k) (fun i _ => 64 - (intOf i).toNat)
          case atStart => exact HW4.out
          case round =>
            obtain ⟨j, hj, rfl, hfr, h4, hba⟩ := hrel
            have hcg := h4.blk.cell
            have hfg := h4.blk.frz
            have hca := hba.cell
            have hl4 := h4.lo
            have hh4 := h4.hi
            have FR4 := Lib.hid hfr
            have EO4 := Lib.hid h4
            have BA4 := Lib.hid hba
            clear hfr h4 hba
            simp only at hl4 hh4
            generalize hfx : orTo j x.f a.n = f at *
            have HFX := Lib.hid hfx
            clear hfx
            have hjj : j = 0 ∨ j = 1 ∨ j = 2 ∨ j = 3 ∨ j = 4 ∨ j = 5 ∨ j = 6 := by omega
            rcases hjj with rfl | hjj
            · go_wp2
              · have t1 : a.n % 2 = 1 := by assumption
                have t2 : (f % 2 == 0) = true := by assumption
                go_roundw
                case rel => exact flag_yes (j := 0) (by omega) HFX.out (by decide) (by simpa using t1) (by simpa using t2) (by simp) ⟨hxl, hxh, g31, g32⟩ hgga FR4.out EO4.out BA4.out
                case measure => simp [intOf]
              · have t2 : (f % 2 == 0) = false := by assumption
                go_roundw
                case rel => exact flag_no (j := 0) (by omega) HFX.out (by decide) (fun h => by simp at t2; have := h.2; simp at this; omega) FR4.out EO4.out BA4.out
                case measure => simp [intOf]
              · have t1 : ¬ a.n % 2 = 1 := by assumption
                go_roundw
                case rel => exact flag_no (j := 0) (by omega) HFX.out (by decide) (fun h => by have := h.1; simp at this; omega) FR4.out EO4.out BA4.out
                case measure => simp [intOf]
            rcases hjj with rfl | hjj
            · go_wp2
              · have t1 : a.n / 2 % 2 = 1 := by assumption
                have t2 : (f / 2 % 2 == 0) = true := by assumption
                go_roundw
                case rel => exact flag_yes (j := 1) (by omega) HFX.out (by decide) (by simpa using t1) (by simpa using t2) (by simp) ⟨hxl, hxh, g31, g32⟩ hgga FR4.out EO4.out BA4.out
                case measure => simp [intOf]
              · have t2 : (f / 2 % 2 == 0) = false := by assumption
                go_roundw
                case rel => exact flag_no (j := 1) (by omega) HFX.out (by decide) (fun h => by simp at t2; have := h.2; simp at this; omega) FR4.out EO4.out BA4.out
                case measure => simp [intOf]
              · have t1 : ¬ a.n / 2 % 2 = 1 := by assumption
                go_roundw
                case rel => exact flag_no (j := 1) (by omega) HFX.out (by decide) (fun h => by have := h.1; simp at this; omega) FR4.out EO4.out BA4.out
                case measure => simp [intOf]
            rcases hjj with rfl | hjj
            · go_wp2
              · have t1 : a.n / 4 % 2 = 1 := by assumption
                have t2 : (f / 4 % 2 == 0) = true := by assumption
                go_roundw
                case rel => exact flag_yes (j := 2) (by omega) HFX.out (by decide) (by simpa using t1) (by simpa using t2) (by simp) ⟨hxl, hxh, g31, g32⟩ hgga FR4.out EO4.out BA4.out
                case measure => simp [intOf]
              · have t2 : (f / 4 % 2 == 0) = false := by assumption
                go_roundw
                case rel => exact flag_no (j := 2) (by omega) HFX.out (by decide) (fun h => by simp at t2; have := h.2; simp at this; omega) FR4.out EO4.out BA4.out
                case measure => simp [intOf]
              · have t1 : ¬ a.n / 4 % 2 = 1 := by assumption
                go_roundw
                case rel => exact flag_no (j := 2) (by omega) HFX.out (by decide) (fun h => by have := h.1; simp at this; omega) FR4.out EO4.out BA4.out
                case measure => simp [intOf]
            rcases hjj with rfl | hjj
            · go_wp2
              · have t1 : a.n / 8 % 2 = 1 := by assumption
                have t2 : (f / 8 % 2 == 0) = true := by assumption
                go_roundw
                case rel => exact flag_yes (j := 3) (by omega) HFX.out (by decide) (by simpa using t1) (by simpa using t2) (by simp) ⟨hxl, hxh, g31, g32⟩ hgga FR4.out EO4.out BA4.out
                case measure => simp [intOf]
              · have t2 : (f / 8 % 2 == 0) = false := by assumption
                go_roundw
                case rel => exact flag_no (j := 3) (by omega) HFX.out (by decide) (fun h => by simp at t2; have := h.2; simp at this; omega) FR4.out EO4.out BA4.out
                case measure => simp [intOf]
              · have t1 : ¬ a.n / 8 % 2 = 1 := by assumption
                go_roundw
                case rel => exact flag_no (j := 3) (by omega) HFX.out (by decide) (fun h => by have := h.1; simp at this; omega) FR4.out EO4.out BA4.out
                case measure => simp [intOf]
            rcases hjj with rfl | hjj
            · go_wp2
              · have t1 : a.n / 16 % 2 = 1 := by assumption
                have t2 : (f / 16 % 2 == 0) = true := by assumption
                go_roundw
                case rel => exact flag_yes (j := 4) (by omega) HFX.out (by decide) (by simpa using t1) (by simpa using t2) (by simp) ⟨hxl, hxh, g31, g32⟩ hgga FR4.out EO4.out BA4.out
                case measure => simp [intOf]
              · have t2 : (f / 16 % 2 == 0) = false := by assumption
                go_roundw
                case rel => exact flag_no (j := 4) (by omega) HFX.out (by decide) (fun h => by simp at t2; have := h.2; simp at this; omega) FR4.out EO4.out BA4.out
                case measure => simp [intOf]
              · have t1 : ¬ a.n / 16 % 2 = 1 := by assumption
                go_roundw
                case rel => exact flag_no (j := 4) (by omega) HFX.out (by decide) (fun h => by have := h.1; simp at this; omega) FR4.out EO4.out BA4.out
                case measure => simp [intOf]
            rcases hjj with rfl | hjj
            · go_wp2
              · have t1 : a.n / 32 % 2 = 1 := by assumption
                have t2 : (f / 32 % 2 == 0) = true := by assumption
                go_roundw
                case rel => exact flag_yes (j := 5) (by omega) HFX.out (by decide) (by simpa using t1) (by simpa using t2) (by simp) ⟨hxl, hxh, g31, g32⟩ hgga FR4.out EO4.out BA4.out
                case measure => simp [intOf]
              · have t2 : (f / 32 % 2 == 0) = false := by assumption
                go_roundw
                case rel => exact flag_no (j := 5) (by omega) HFX.out (by decide) (fun h => by simp at t2; have := h.2; simp at this; omega) FR4.out EO4.out BA4.out
                case measure => simp [intOf]
              · have t1 : ¬ a.n / 32 % 2 = 1 := by assumption
                go_roundw
                case rel => exact flag_no (j := 5) (by omega) HFX.out (by decide) (fun h => by have := h.1; simp at this; omega) FR4.out EO4.out BA4.out
                case measure => simp [intOf]
            subst hjj
            go_wp2
            go_roundw
            case rel =>
              refine ⟨k + 1, R, ⟨x.X, f⟩, hlt, by go_num, FR4.out, EO4.out.more (by omega), ?_, ?_⟩
              · rw [HF.out, drop_at HU.out, faultFrom, if_pos (by unfold Act.bad; rw [if_neg (by omega), if_neg (by omega), if_neg (by omega)])]
              · rw [HFO.out, drop_at HU.out, List.foldl_cons]; congr 1; unfold Eff.step; rw [if_neg K1.out, if_neg K2.out, if_neg K4.out, if_neg K5.out, if_neg K7.out, if_pos K6.out, ← orTo_bits hxl hxh g31 g32, HFX.out]
            case measure => simp [intOf]; omega
        have k6' : (a.kind == 6) = false := by simpa using k6
        have K6 := Lib.hid k6
        clear k6
        go_wp2_with (go_at_call 26; refine (in_ _ _ _ _).mono ?_; rintro e w' ⟨rfl, rfl⟩)
        refine wp_loop_rounds 1 ?_
        rw [rounds_succ]
        go_wp2
        go_roundw
        case rel =>
          refine ⟨k + 1, R, x, hlt, by go_num, HFR.out.alloc _, (HR4.out.bel ((Bel.refl _).alloc _)).more (by omega), ?_, ?_⟩
          · rw [HF.out, drop_at HU.out, faultFrom, if_pos (by unfold Act.bad; rw [if_neg (by omega), if_neg (by omega), if_neg (by have := K6.out; omega)])]
          · rw [HFO.out, drop_at HU.out, List.foldl_cons]; congr 1; unfold Eff.step; rw [if_neg K1.out, if_neg K2.out, if_neg K4.out, if_neg K5.out, if_neg K7.out, if_neg K6.out]
        case measure => simp [intOf]; omega
      · go_wp2
        refine bodyPost_ret (v := .tuple #[.agg (effVal R x.f), .agg #[.int .i64 0, .int .i64 0]]) (by simp [results, Try.results15, go_sem, hr0, hr1]) rfl ?_
        refine eo_good (by have := HL.out; omega) HF.out (by have := HL.out; omega) HFO.out hgw HR4.out HB3.out HFR.out ?_
        (repeat (first | with_reducible refine Frm.setCell ?_ (by simp) _ | with_reducible refine Frm.alloc ?_ _ | with_reducible refine Frm.drew ?_)); exact Frm.refl _ _
  · have hbd : decide ((300 : Int) < (n : Int)) = true := by simp; omega
    go_enter Try.func15, Try.ntmps15
    go_wp2_with (go_at_call 25; refine (at_ _ _ _).mono ?_; rintro e w' ⟨rfl, rfl⟩)
    refine bodyPost_ret (v := .tuple #[.agg #[.slice none 0 0, .slice none 0 0, .slice none 0 0, .slice none 0 0, .int .i64 0], .agg #[.int .i64 2, .int .i64 (-1)]]) (by simp [results, Try.results15, go_sem]) rfl (EffPost.err (by unfold effOf; rw [if_pos (by have := HL.out; omega)]) ?_)
    (repeat (first | with_reducible refine Bel.setCell ?_ (by simp) _ | with_reducible refine Bel.alloc ?_ _)); exact Bel.refl _

end Go.Proofs.Ytgmjhnijnpfkgaa
