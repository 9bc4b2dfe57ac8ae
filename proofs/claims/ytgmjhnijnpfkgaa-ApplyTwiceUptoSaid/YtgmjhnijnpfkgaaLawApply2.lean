/- For every list of actions of bulk at most 1048576, ApplyTwice returns true and leaves its argument alone. -/
import Derived.Test.YtgmjhnijnpfkgaaLawApply3
import Derived.Test.YtgmjhnijnpfkgaaEffectOf
import Derived.Test.YtgmjhnijnpfkgaaBulk
import Derived.Test.YtgmjhnijnpfkgaaMore
namespace Go.Proofs.Ytgmjhnijnpfkgaa
open Go.ChangeShapes Go.WideShapes Go.ChangeAt Go.RowKit Go.Deep

/- the plain law: actions that are repeated lead to the same -/
theorem upd_self {α : Type} (X : Nat → α) (i : Nat) : upd X i (X i) = X := by
  funext j
  by_cases h : j = i
  · subst h; exact upd_same _ _ _
  · exact upd_other _ _ h
/-- an action that changes nothing any more -/
def Cov (x : Eff) (a : Act) : Prop :=
  (a.kind = 1 → hasB (x.X 0) inbox = true) ∧ (a.kind = 2 → hasB (x.X 0) a.text = true) ∧ (a.kind = 4 → hasB (x.X 1) a.text = true) ∧ (a.kind = 5 → hasB (x.X 2) a.text = true) ∧ (a.kind = 7 → hasB (x.X 3) a.text = true) ∧
  (a.kind = 6 → bits .or .i64 x.f a.n = x.f)
theorem cov_step {x : Eff} {a : Act} (h : Cov x a) : x.step a = x := by
  obtain ⟨h1, h2, h4, h5, h7, h6⟩ := h
  unfold Eff.step
  split
  · rename_i e; rw [added_pos (h1 e), upd_self]
  split
  · rename_i e; rw [added_pos (h2 e), upd_self]
  split
  · rename_i e; rw [added_pos (h4 e), upd_self]
  split
  · rename_i e; rw [added_pos (h5 e), upd_self]
  split
  · rename_i e; rw [added_pos (h7 e), upd_self]
  split
  · rename_i e; rw [h6 e]
  · rfl
theorem has_upd {X : Nat → List ByteArray} {i j : Nat} {s t : ByteArray} (h : hasB (X j) t = true) : hasB (upd X i (added (X i) s) j) t = true := by
  by_cases e : j = i
  · subst e; rw [upd_same]; exact has_kept h
  · rw [upd_other _ _ e]; exact h
theorem step_X {x : Eff} {a : Act} {j : Nat} {t : ByteArray} (h : hasB (x.X j) t = true) : hasB ((x.step a).X j) t = true := by
  unfold Eff.step
  split
  · exact has_upd h
  split
  · exact has_upd h
  split
  · exact has_upd h
  split
  · exact has_upd h
  split
  · exact has_upd h
  split <;> exact h
/-- flags stay between 0 and 63 -/
def Fl (x : Eff) : Prop := 0 ≤ x.f ∧ x.f ≤ 63
theorem or_nat {f n : Int} (h0 : 0 ≤ f) (h1 : f ≤ 63) (h2 : 0 ≤ n) (h3 : n ≤ 63) : ∃ a b : Nat, f = a ∧ n = b ∧ a < 64 ∧ b < 64 ∧ bits .or .i64 f n = ((a ||| b : Nat) : Int) ∧ a ||| b < 64 := by
  obtain ⟨a, rfl⟩ := Int.eq_ofNat_of_zero_le h0
  obtain ⟨b, rfl⟩ := Int.eq_ofNat_of_zero_le h2
  exact ⟨a, b, rfl, rfl, by omega, by omega, bits_or_nat a b (by omega) (by omega), Nat.or_lt_two_pow (n := 6) (by omega) (by omega)⟩
theorem step_f (x : Eff) (a : Act) : (x.step a).f = if a.kind = 6 then bits .or .i64 x.f a.n else x.f := by
  unfold Eff.step
  by_cases h : a.kind = 6
  · simp [h]
  · simp only [if_neg h]
    split
    · rfl
    split
    · rfl
    split
    · rfl
    split
    · rfl
    split <;> rfl
theorem bad_flag {a : Act} (h : a.bad = 0) (hk : a.kind = 6) : 0 ≤ a.n ∧ a.n ≤ 63 := by
  unfold Act.bad at h
  split at h
  · cases h
  split at h
  · cases h
  split at h
  · cases h
  · rename_i h3
    constructor
    · exact Int.not_lt.1 fun hn => h3 ⟨hk, .inl hn⟩
    · exact Int.not_lt.1 fun hn => h3 ⟨hk, .inr hn⟩
theorem fl_step {x : Eff} {a : Act} (h : Fl x) (ha : a.bad = 0) : Fl (x.step a) := by
  unfold Fl
  rw [step_f]
  split
  · rename_i hk
    obtain ⟨h2, h3⟩ := bad_flag ha hk
    obtain ⟨p, q, _, _, _, _, e, hl⟩ := or_nat h.1 h.2 h2 h3
    rw [e]
    omega
  · exact h
theorem cov_kept {x : Eff} {a b : Act} (h : Cov x a) (hx : Fl x) (ha : a.bad = 0) (hb : b.bad = 0) : Cov (x.step b) a := by
  obtain ⟨h1, h2, h4, h5, h7, h6⟩ := h
  refine ⟨fun e => step_X (h1 e), fun e => step_X (h2 e), fun e => step_X (h4 e), fun e => step_X (h5 e), fun e => step_X (h7 e), fun e => ?_⟩
  rw [step_f]
  split
  · rename_i hk
    obtain ⟨n2, n3⟩ := bad_flag ha e
    obtain ⟨m2, m3⟩ := bad_flag hb hk
    obtain ⟨p, q, hp, hq, hpl, hql, e1, hl⟩ := or_nat hx.1 hx.2 m2 m3
    have h6' := h6 e
    obtain ⟨r, hr⟩ := Int.eq_ofNat_of_zero_le n2
    rw [hp, hr, bits_or_nat p r hpl (by omega)] at h6'
    have h6n : p ||| r = p := by exact_mod_cast h6'
    rw [e1, hr, bits_or_nat _ r hl (by omega)]
    have : (p ||| q) ||| r = p ||| q := by rw [Nat.or_assoc, Nat.or_comm q r, ← Nat.or_assoc, h6n]
    rw [this]
  · exact h6 e
theorem cov_new {x : Eff} {a : Act} (hx : Fl x) (ha : a.bad = 0) : Cov (x.step a) a := by
  refine ⟨fun e => ?_, fun e => ?_, fun e => ?_, fun e => ?_, fun e => ?_, fun e => ?_⟩
  · unfold Eff.step; rw [if_pos e]; simp only [upd_same]; exact has_added _ _
  · unfold Eff.step; rw [if_neg (by omega), if_pos e]; simp only [upd_same]; exact has_added _ _
  · unfold Eff.step; rw [if_neg (by omega), if_neg (by omega), if_pos e]; simp only [upd_same]; exact has_added _ _
  · unfold Eff.step; rw [if_neg (by omega), if_neg (by omega), if_neg (by omega), if_pos e]; simp only [upd_same]; exact has_added _ _
  · unfold Eff.step; rw [if_neg (by omega), if_neg (by omega), if_neg (by omega), if_neg (by omega), if_pos e]; simp only [upd_same]; exact has_added _ _
  · rw [step_f, if_pos e]
    obtain ⟨n2, n3⟩ := bad_flag ha e
    obtain ⟨p, q, hp, hq, hpl, hql, e1, hl⟩ := or_nat hx.1 hx.2 n2 n3
    rw [e1, hq, bits_or_nat _ q hl hql, Nat.or_assoc, Nat.or_self]
theorem fold_cov : ∀ (l : List Act) (x : Eff), Fl x → (∀ a ∈ l, a.bad = 0) → (∀ b : Act, b.bad = 0 → Cov x b → Cov (l.foldl Eff.step x) b) ∧ (∀ a ∈ l, Cov (l.foldl Eff.step x) a)
  | [], x, _, _ => ⟨fun _ _ h => h, by simp⟩
  | a :: l, x, hx, hl => by
    have ha := hl a (by simp)
    obtain ⟨i1, i2⟩ := fold_cov l (x.step a) (fl_step hx ha) (fun b hb => hl b (by simp [hb]))
    refine ⟨fun b hb hc => i1 b hb (cov_kept hc hx hb ha), fun b hb => ?_⟩
    rcases List.mem_cons.1 hb with rfl | hb
    · exact i1 b ha (cov_new hx ha)
    · exact i2 b hb
theorem fold_same : ∀ (l : List Act) (x : Eff), (∀ a ∈ l, Cov x a) → l.foldl Eff.step x = x
  | [], _, _ => rfl
  | a :: l, x, h => by rw [List.foldl_cons, cov_step (h a (by simp))]; exact fold_same l x (fun b hb => h b (by simp [hb]))
theorem faults_none : ∀ (l : List Act) (k : Nat), (faultFrom k l).1 = 0 → ∀ a ∈ l, a.bad = 0
  | a :: l, k, h, b, hb => by
    rw [faultFrom] at h
    by_cases ha : a.bad = 0
    · rw [if_pos ha] at h
      rcases List.mem_cons.1 hb with rfl | hb
      · exact ha
      · exact faults_none l (k + 1) h b hb
    · rw [if_neg ha] at h
      exact absurd h ha
theorem faults_some : ∀ (l m : List Act) (k : Nat), (faultFrom k l).1 ≠ 0 → (faultFrom k (l ++ m)).1 ≠ 0
  | a :: l, m, k, h => by
    rw [List.cons_append]
    rw [faultFrom] at h ⊢
    by_cases ha : a.bad = 0
    · rw [if_pos ha] at h ⊢; exact faults_some l m (k + 1) h
    · rw [if_neg ha]; exact ha
theorem eff_twice_bad {l : List Act} (h : (effOf l).2.1 ≠ 0) : (effOf (l ++ l)).2.1 ≠ 0 := by
  unfold effOf at h ⊢
  split
  · decide
  · rename_i hn
    rw [if_neg (by simp at hn ⊢; omega)] at h
    split
    · rename_i h0
      by_cases h1 : (faultFrom 0 l).1 = 0
      · rw [if_pos h1] at h; exact absurd rfl h
      · exact absurd h0 (faults_some l l 0 h1)
    · assumption
theorem eff_twice {l : List Act} (h : (effOf l).2.1 = 0) (h2 : (effOf (l ++ l)).2.1 = 0) : (effOf (l ++ l)).1 = (effOf l).1 := by
  have hb : ∀ a ∈ l, a.bad = 0 := by
    unfold effOf at h
    split at h
    · cases h
    split at h
    · rename_i h0; exact faults_none l 0 h0
    · exact absurd h (by assumption)
  rw [eff_ok h, eff_ok h2]
  show (l ++ l).foldl Eff.step Eff.zero = l.foldl Eff.step Eff.zero
  rw [List.foldl_append]
  exact fold_same l _ (fold_cov l Eff.zero ⟨by decide, by decide⟩ hb).2

theorem actsT : SlT Try.prog 22 35 3 32 := SlT.mk' (z := .agg #[.int .i64 0, .string ByteArray.empty, .int .i64 0]) Try.underlying22 (by kernel_rfl) rfl (by decide)

set_option maxHeartbeats 400000 in
set_option maxRecDepth 4000 in
theorem applyTwice (A : Option Addr) (n c : Nat) (l : List Act) (w : World) (h : Rd w 3 A n c (l.flatMap Act.cells)) (hsm : n ≤ 1048576) :
    Calls Try.prog 4 #[.slice A n c] w fun e w' => e = .returned (.bool true) ∧ Bel w w' := by
  have H := Lib.hid h
  clear h
  go_enter Try.func4, Try.ntmps4
  go_wp2_with fail
  refine (effects _ _ _ l _ H.out).mono ?_
  rintro e w1 ⟨R, rfl, hR, hb⟩
  have HR := Lib.hid hR
  have HB := Lib.hid hb
  clear hR hb
  have HX := Lib.hid (show ∀ o1 o2 o3, Blk (((w1.alloc (.cells (effVal R (effOf l).1.f) 25)).alloc o2).alloc o3) w1.heap.size 25 (effVal R (effOf l).1.f) ∧ Blk (((w1.alloc o1).alloc (.cells #[.int .i64 (effOf l).2.1, .int .i64 (effOf l).2.2] 27)).alloc o3) (w1.heap.size + 1) 27 #[.int .i64 (effOf l).2.1, .int .i64 (effOf l).2.2] from
    fun o1 o2 o3 => ⟨((Blk.new _ _ _).alloc _).alloc _, (Blk.new' _ _ (by simp)).alloc _⟩)
  go_wp2_with (first
    | (at_builtin
       refine wpList_apd (base := w1.heap.size + 2) (.tmp 13) (.tmp 14) rfl rfl rfl rfl actsT (Own.new' 3 0 #[] (by simp) (by omega) rfl (Nat.zero_le _) (by simp)) (H.out.bel (((HB.out.alloc _).alloc _).alloc _)) (by unfold maxLen; omega) (by omega) (by simp <;> omega) ?_
       intro A1 c1 w2 hown1 hfr1 hb1
       simp only [Nat.zero_add, List.nil_append] at hown1
       have HE1 := Lib.hid ((HX.out (.cells #[] 0) _ _).1.frm hfr1 (by simp [blk] <;> omega))
       have HF1 := Lib.hid ((HX.out _ (.cells #[] 0) _).2.frm hfr1 (by simp [blk] <;> omega))
       have HB2 := Lib.hid (show Bel w1 w2 from ((((Bel.refl w1).alloc _).alloc _).alloc _).frm_own (Own.new' (base := w1.heap.size + 2) 3 0 #[] (by simp) (by omega) rfl (Nat.zero_le _) (by simp)) (by omega) hfr1)
       have hsz2 : w1.heap.size + 3 ≤ w2.heap.size := by have := hfr1.size; simp at this; omega
       have HO1 := Lib.hid hown1
       clear hown1 hfr1 hb1)
    | (at_builtin
       refine wpList_apd (base := w1.heap.size + 2) (.tmp 15) (.tmp 16) rfl rfl rfl rfl actsT HO1.out (H.out.bel (HB.out.trans HB2.out)) (by unfold maxLen; omega) (by omega) (by omega) ?_
       intro A2 c2 w3 hown2 hfr2 hb2
       have HO2 := Lib.hid hown2
       have HB3 := Lib.hid (show Bel w1 w3 from HB2.out.frm_own HO1.out (by omega) hfr2)
       have HE2 := Lib.hid (HE1.out.frm hfr2 (fun h => by have := (HO1.out.lt h.symm).1; omega))
       have HF2 := Lib.hid (HF1.out.frm hfr2 (fun h => by have := (HO1.out.lt h.symm).1; omega))
       clear hown2 hfr2 hb2)
    | fail)
  refine (effects _ _ _ (l ++ l) _ (by rw [List.flatMap_append]; exact HO2.out.rd)).mono ?_
  rintro e w4 ⟨S, rfl, hS, hb4⟩
  have HS := Lib.hid hS
  have HB4 := Lib.hid hb4
  have hce := (HE2.out.bel hb4).cell
  have hcf := (HF2.out.bel hb4).cell
  have hlt : w1.heap.size + 1 < w4.heap.size := (HF2.out.bel hb4).lt
  have hlt' : w1.heap.size < w4.heap.size := by omega
  clear hS hb4 HX
  by_cases hz : (effOf (l ++ l)).2.1 = 0
  · have hz1 : (effOf l).2.1 = 0 := by
      by_cases h : (effOf l).2.1 = 0
      · exact h
      · exact absurd hz (eff_twice_bad h)
    have HT := Lib.hid (eff_twice hz1 hz)
    have hb1 : ((effOf l).2.1 != 0) = false := by simp [hz1]
    have hb2 : ((effOf (l ++ l)).2.1 != 0) = false := by simp [hz]
    clear hz hz1
    go_wp2_with fail
    refine (sameEffect' R S (effOf l).1 (effOf (l ++ l)).1 _ _ _ _ true _ rfl rfl rfl rfl (by rw [HT.out]; exact sameEff_refl _) (fun i hi => (HR.out i hi).bel ((((HB3.out.trans HB4.out)).alloc _).alloc _)) (fun i hi => (HS.out i hi).bel (((Bel.refl _).alloc _).alloc _))).mono ?_
    rintro e w5 ⟨rfl, hb5⟩
    have HB5 := Lib.hid hb5
    clear hb5
    go_wp2_with fail
    refine (applied _).mono ?_
    rintro e w6 ⟨rfl, hb6⟩
    have HB6 := Lib.hid hb6
    clear hb6
    go_wp2_with fail
    go_ret
    exact ⟨rfl, (((((HB.out.trans HB3.out).trans HB4.out).alloc _).alloc _).trans HB5.out).trans HB6.out⟩
  · have hb2 : ((effOf (l ++ l)).2.1 != 0) = true := by simpa using hz
    clear hz
    by_cases hz1 : (effOf l).2.1 = 0
    · have hb1 : ((effOf l).2.1 != 0) = false := by simp [hz1]
      clear hz1
      go_wp2_with fail
      refine (applied _).mono ?_
      rintro e w6 ⟨rfl, hb6⟩
      have HB6 := Lib.hid hb6
      clear hb6
      go_wp2_with fail
      go_ret
      exact ⟨rfl, ((((HB.out.trans HB3.out).trans HB4.out).alloc _).alloc _).trans HB6.out⟩
    · have hb1 : ((effOf l).2.1 != 0) = true := by simpa using hz1
      clear hz1
      go_wp2_with fail
      refine (applied _).mono ?_
      rintro e w6 ⟨rfl, hb6⟩
      have HB6 := Lib.hid hb6
      clear hb6
      go_wp2_with fail
      go_ret
      exact ⟨rfl, ((((HB.out.trans HB3.out).trans HB4.out).alloc _).alloc _).trans HB6.out⟩

set_option maxRecDepth 100000 in
theorem applyTwice_contract (H : Type) (enc : TypeId × Value → H) (W : World) (base : Nat) (args : Array Value) (ds gs : List (DataW H)) (before : List MemPlace)
    (hval : ∀ (j : Nat) t v, Try.f4.params[j]? = some t → args[j]? = some v → Value.okWide Try.prog W .any base t v)
    (hW : DataW.Whole enc Try.prog Try.f4.params.toList Rows.applyTwiceSpec.vars false W args.toList ds gs before) (hk : Rows.uptoSmall H (ds ++ gs) = true) :
    Calls Try.prog 4 args W fun e W' => ∃ v, e = .returned v ∧ Rows.applyTwiceSpec.post enc Try.prog Try.f4 false true false false W args v W' := by
  have hW' := hW
  obtain ⟨p, q, hA, hV, _, _, _⟩ := hW
  obtain ⟨rfl, rfl⟩ := trodVars_none hV
  rw [Try.params4] at hA hval
  obtain ⟨v0, d0, hargs, rfl, h0⟩ := trodAll_one hA
  obtain rfl : args = #[v0] := by cases args; simp_all
  obtain ⟨A, n, c, l, rfl, hrd⟩ := open_acts h0 (okWide_slice Try.underlying22 (hval 0 22 v0 rfl rfl))
  have hbk := bulk_small hk
  simp [Rows.uptoBulkAll] at hbk
  have hsm := bulk_slice Try.underlying22 h0
  refine (applyTwice A n c l W hrd (by omega)).mono fun e W' ⟨he, hb⟩ => ?_
  subst he
  exact ⟨_, rfl, law_post (tb := 4) Try_laid (by kernel_rfl) rfl Try.underlying4 rfl rfl hW' hb⟩

set_option maxRecDepth 100000 in
theorem applyTwice_lifted (os : Os) (started : os.Started) (H : Type) (enc : TypeId × Value → H) (F : Stop.Interp) :
    ReturnsInHanded {} Try.checked os 4 .any ((Rows.OpenSpec.upto Rows.applyTwiceSpec).pre6 enc Try.prog Try.f4 Rows.applyTwiceUptoRow.domain false) (((Rows.OpenSpec.upto Rows.applyTwiceSpec).at F).post enc Try.prog Try.f4 false true false false) := by
  refine returnsInHanded_of_cond (C := Try.checked) (s := Rows.OpenSpec.upto Rows.applyTwiceSpec) (k := Rows.uptoSmall) rfl Try_own started (by kernel_rfl) Try.func4
    (OpenSpec.witness (enc := enc) (C := Try.checked) (s := Rows.OpenSpec.upto Rows.applyTwiceSpec) (k := Rows.uptoSmall) rfl false ⟨#[], #[.slice none 0 0], []⟩ 8 (by kernel_rfl) (by kernel_rfl) (by kernel_rfl)
      (x := ([.nil], [], [])) (by kernel_rfl) rfl (by kernel_rfl)) ?_
  intro W base args ds gs before hval hW _ hk _
  exact applyTwice_contract H enc W base args ds gs before hval hW hk

theorem applyTwice_holds : Rows.ApplyTwiceUptoSaid :=
  OpenClaim.holds_of_cond 4 Try.f4 rfl rfl rfl rfl rfl rfl rfl ⟨rfl, rfl, rfl, rfl, rfl⟩ rfl rfl rfl rfl rfl (by kernel_rfl) Try.func4 (by kernel_rfl)
    (of_decide_eq_true (by kernel_rfl)) (by unfold Func.isWrapper; first | (rw [if_pos (by decide +kernel)]; kernel_rfl) | (rw [if_neg (by decide +kernel)]; exact ⟨rfl, rfl⟩))
    (fun os started H enc _ F => applyTwice_lifted os started H enc F)
end Go.Proofs.Ytgmjhnijnpfkgaa
