/- Values that are handed on: rows are shared, variables lent. -/
import Derived.Test.YtokahibbkdbndaaDMem
namespace Go.Proofs.Ytokahibbkdbndaa
open Go.RowKit
section
variable {P : Program} {Z Y : ZMap} {m : Nat → Option Value} {w0 : WB} {w w' : World} {h hv : Nat → Option B} {sh : Nat → Bool}

/-- memory stays as it is in more places; new ones are the frame's own -/
structure ZUp (w0 : WB) (Z Z' : ZMap) : Prop where
  le : ZLe Z Z'
  own : ∀ b o u, Z' b o = some u → Z b o = some u ∨ w0.own b
theorem ZUp.refl : ZUp w0 Z Z := ⟨ZLe.refl Z, fun _ _ _ h => .inl h⟩
theorem ZUp.trans {Z' Z'' : ZMap} (a : ZUp w0 Z Z') (b : ZUp w0 Z' Z'') : ZUp w0 Z Z'' :=
  ⟨a.le.trans b.le, fun x y u hu => (b.own x y u hu).elim (fun hu => a.own x y u hu) .inr⟩

def flag (sh : Nat → Bool) (fl : List Nat) : Nat → Bool := fun i => if i ∈ fl then true else sh i
theorem flag_nil : flag sh [] = sh := by funext i; simp [flag]
theorem flag_append (a b : List Nat) : flag (flag sh a) b = flag sh (a ++ b) := by funext i; simp only [flag, List.mem_append]; by_cases h1 : i ∈ a <;> by_cases h2 : i ∈ b <;> simp [h1, h2]

theorem repC_empty (Z : ZMap) {A : Option Addr} {c : Nat} (hc : c ≤ maxLen) (hN : A = none → c = 0) : RepC Z (.slice A 0 c) (.sl []) :=
  .sl A 0 c 0 0 0 (fun _ => .nilFunc) [] rfl (Nat.zero_le _) hc (by simp) (by simp) (by simp) (by simp) hN

theorem frzC_sim (R : Rel w0 Z Y m h sh w) (hs : ∀ id b, hv id = some b → h id = some b) {v : Value} {x : V} {y : C × List Nat} (hf : frzC hv x = some y) (r : Rep Z Y m v x) :
    ∃ Z', ZUp w0 Z Z' ∧ Rel w0 Z' Y m h (flag sh y.2) w ∧ RepC Z' v y.1 := by
  unfold frzC at hf
  split at hf
  · injection hf with hf; subst hf
    cases r with | c r =>
    cases r
    exact ⟨Z, ZUp.refl, by rw [flag_nil]; exact R, repC_empty Z (by simp) (fun _ => rfl)⟩
  · injection hf with hf; subst hf
    cases r with | c r =>
    cases r
    exact ⟨Z, ZUp.refl, by rw [flag_nil]; exact R, repC_empty Z (by simp) (fun _ => rfl)⟩
  · injection hf with hf; subst hf
    cases r with | c r =>
    cases r
    exact ⟨Z, ZUp.refl, by rw [flag_nil]; exact R, repC_empty Z (by assumption) (fun h => by cases h)⟩
  · injection hf with hf; subst hf
    cases r with | c r =>
    exact ⟨Z, ZUp.refl, by rw [flag_nil]; exact R, r⟩
  · rename_i id n
    split at hf
    · rename_i es he
      injection hf with hf; subst hf
      obtain ⟨Z', h1, h2, h3, h4⟩ := R.share (hs _ _ he)
      refine ⟨Z', ⟨h1, h2⟩, ?_, h4 v n r⟩
      have : flag sh [id] = fun i => if i = id then true else sh i := by funext i; simp [flag]
      rw [this]
      exact h3
    · cases hf
  · cases hf

theorem frzL_sim : ∀ (xs : List V) {Z : ZMap} {sh : Nat → Bool} {us : List Value} {y : List C × List Nat}, Rel w0 Z Y m h sh w → (∀ id b, hv id = some b → h id = some b) → frzL hv xs = some y → us.length = xs.length → (∀ (i : Nat) u x, us[i]? = some u → xs[i]? = some x → Rep Z Y m u x) →
    ∃ Z', ZUp w0 Z Z' ∧ Rel w0 Z' Y m h (flag sh y.2) w ∧ y.1.length = xs.length ∧ ∀ (i : Nat) u x, us[i]? = some u → y.1[i]? = some x → RepC Z' u x
  | [], Z, sh, us, y, R, hs, hf, hl, hr => by
    injection hf with hf; subst hf
    have : us = [] := List.eq_nil_of_length_eq_zero hl
    subst this
    exact ⟨Z, ZUp.refl, by rw [flag_nil]; exact R, rfl, by simp⟩
  | x :: xs, Z, sh, us, y, R, hs, hf, hl, hr => by
    simp only [frzL] at hf
    cases hx : frzC hv x with
    | none => rw [hx] at hf; cases hf
    | some a =>
      rw [hx] at hf
      simp only [Option.bind_some] at hf
      cases hxs : frzL hv xs with
      | none => rw [hxs] at hf; cases hf
      | some b =>
        rw [hxs] at hf
        injection hf with hf; subst hf
        match us, hl with
        | u :: us, hl =>
          obtain ⟨Z1, u1, R1, r1⟩ := frzC_sim R hs hx (hr 0 u x rfl rfl)
          obtain ⟨Z2, u2, R2, l2, r2⟩ := frzL_sim xs (us := us) R1 hs hxs (by simpa using hl) (fun i u' x' hu hx' => (hr (i + 1) u' x' hu hx').mono u1.le (MLe.refl _))
          refine ⟨Z2, u1.trans u2, by rw [← flag_append]; exact R2, by simp [l2], fun i u' x' hu hx' => ?_⟩
          cases i with
          | zero => simp at hu hx'; subst hu hx'; exact r1.mono u2.le
          | succ i => exact r2 i u' x' (by simpa using hu) (by simpa using hx')

/-- all of memory as it is at a call -/
def lent (w : World) : ZMap := fun b o => w.cell? ⟨b, o, none⟩
def noM : Nat → Option Value := fun _ => none

theorem frzP_sim (R : Rel w0 Z Y m h sh w) (hs : ∀ id b, hv id = some b → h id = some b) {v : Value} {x : V} {y : V × List Nat} (hf : frzP hv x = some y) (r : Rep Z Y m v x) :
    ∃ Z', ZUp w0 Z Z' ∧ Rel w0 Z' Y m h (flag sh y.2) w ∧ Rep Z' (lent w) noM v y.1 := by
  unfold frzP at hf
  split at hf
  · rename_i id off
    split at hf
    · rename_i cs he
      cases hl : frzL hv cs with
      | none => rw [hl] at hf; cases hf
      | some a =>
        rw [hl] at hf
        injection hf with hf; subst hf
        obtain ⟨g, hm, hat⟩ := R.box id cs (hs _ _ he)
        obtain ⟨t, vs, hvs, hrep⟩ := hat.ex
        obtain ⟨Z', u1, R1, l1, r1⟩ := frzL_sim cs (us := vs.toList) R hs hl (by simpa using hrep.agg_size) (fun i u x hu hx => by
          obtain ⟨u', hu', hr', _⟩ := hrep.agg_get hx
          rw [Array.getElem?_toList, hu'] at hu
          injection hu with hu; subst hu; exact hr')
        refine ⟨Z', u1, R1, ?_⟩
        cases r with
        | ptr _ _ g' hm' =>
          rw [hm] at hm'
          injection hm' with hm'; injection hm' with hm'; injection hm' with hm'; injection hm' with hm'
          subst hm'
          have hget : ∀ (j : Nat) (x : C), a.1[j]? = some x → vs[j]? = some ((vs[j]?).getD .nilFunc) := by
            intro j x hx
            have hj : j < vs.size := by have := (List.getElem?_eq_some_iff.1 hx).1; rw [l1] at this; rw [hrep.agg_size]; exact this
            simp [Array.getElem?_eq_getElem hj]
          have := Rep.eptr (Z := Z') (Y := lent w) (m := noM) g 0 off (fun j => (vs[j]?).getD .nilFunc) a.1 (fun j x hx => .inr (by
            simp only [lent, World.cell?, hvs, Nat.zero_add]
            simpa using hget j x hx)) (fun j x hx => r1 j _ x (by rw [Array.getElem?_toList]; exact hget j x hx) hx)
          simpa using this
    · cases hf
  · rename_i cs off
    injection hf with hf; subst hf
    refine ⟨Z, ZUp.refl, by rw [flag_nil]; exact R, ?_⟩
    cases r with
    | eptr b o _ U _ hz hr => exact .eptr b o off U cs (fun j x hx => (hz j x hx).imp id (fun hy => R.yok' hy)) hr
  · rename_i cs
    cases hl : frzL hv cs with
    | none => rw [hl] at hf; cases hf
    | some a =>
      rw [hl] at hf
      injection hf with hf; subst hf
      cases r with
      | agg vs _ hsz h1 hr =>
        have hrep : Rep Z Y m (.agg vs) (.agg cs) := .agg vs cs hsz h1 hr
        obtain ⟨Z', u1, R1, l1, r1⟩ := frzL_sim cs (us := vs.toList) R hs hl (by simpa using hsz) (fun i u x hu hx => hr i u x (by simpa using hu) hx)
        refine ⟨Z', u1, R1, .agg vs _ (by simp [l1, hsz]) h1 (fun i u x hu hx => ?_)⟩
        simp only [List.getElem?_map] at hx
        cases hg : a.1[i]? with
        | none => rw [hg] at hx; cases hx
        | some z =>
          rw [hg] at hx
          injection hx with hx; subst hx
          exact .c (r1 i u z (by simpa using hu) hg)
  · cases hl : frzC hv x with
    | none => rw [hl] at hf; cases hf
    | some a =>
      rw [hl] at hf
      injection hf with hf; subst hf
      obtain ⟨Z', u1, R1, r1⟩ := frzC_sim R hs hl r
      exact ⟨Z', u1, R1, .c r1⟩

theorem frzs_sim (fr : (Nat → Option B) → V → Option (V × List Nat)) (frs : (Nat → Option B) → List V → Option (List V × List Nat)) (e0 : frs hv [] = some ([], [])) (e1 : ∀ x xs, frs hv (x :: xs) = (fr hv x).bind fun a => (frs hv xs).map fun b => (a.1 :: b.1, a.2 ++ b.2))
    (one : ∀ {Z : ZMap} {sh : Nat → Bool} {v : Value} {x : V} {y : V × List Nat}, Rel w0 Z Y m h sh w → fr hv x = some y → Rep Z Y m v x → ∃ Z', ZUp w0 Z Z' ∧ Rel w0 Z' Y m h (flag sh y.2) w ∧ Rep Z' (lent w) noM v y.1) :
    ∀ (xs : List V) {Z : ZMap} {sh : Nat → Bool} {us : List Value} {y : List V × List Nat}, Rel w0 Z Y m h sh w → frs hv xs = some y → us.length = xs.length → (∀ (i : Nat) u x, us[i]? = some u → xs[i]? = some x → Rep Z Y m u x) →
    ∃ Z', ZUp w0 Z Z' ∧ Rel w0 Z' Y m h (flag sh y.2) w ∧ y.1.length = xs.length ∧ ∀ (i : Nat) u x, us[i]? = some u → y.1[i]? = some x → Rep Z' (lent w) noM u x
  | [], Z, sh, us, y, R, hf, hl, hr => by
    rw [e0] at hf
    injection hf with hf; subst hf
    have : us = [] := List.eq_nil_of_length_eq_zero hl
    subst this
    exact ⟨Z, ZUp.refl, by rw [flag_nil]; exact R, rfl, by simp⟩
  | x :: xs, Z, sh, us, y, R, hf, hl, hr => by
    rw [e1] at hf
    cases hx : fr hv x with
    | none => rw [hx] at hf; cases hf
    | some a =>
      rw [hx] at hf
      simp only [Option.bind_some] at hf
      cases hxs : frs hv xs with
      | none => rw [hxs] at hf; cases hf
      | some b =>
        rw [hxs] at hf
        injection hf with hf; subst hf
        match us, hl with
        | u :: us, hl =>
          obtain ⟨Z1, u1, R1, r1⟩ := one R hx (hr 0 u x rfl rfl)
          obtain ⟨Z2, u2, R2, l2, r2⟩ := frzs_sim fr frs e0 e1 one xs (us := us) R1 hxs (by simpa using hl) (fun i u' x' hu hx' => (hr (i + 1) u' x' hu hx').mono u1.le (MLe.refl _))
          refine ⟨Z2, u1.trans u2, by rw [← flag_append]; exact R2, by simp [l2], fun i u' x' hu hx' => ?_⟩
          cases i with
          | zero => simp at hu hx'; subst hu hx'; exact r1.mono u2.le (MLe.refl _)
          | succ i => exact r2 i u' x' (by simpa using hu) (by simpa using hx')

theorem frzPs_sim (hs : ∀ id b, hv id = some b → h id = some b) (xs : List V) {us : List Value} {y : List V × List Nat} (R : Rel w0 Z Y m h sh w) (hf : frzPs hv xs = some y) (hl : us.length = xs.length) (hr : ∀ (i : Nat) u x, us[i]? = some u → xs[i]? = some x → Rep Z Y m u x) :
    ∃ Z', ZUp w0 Z Z' ∧ Rel w0 Z' Y m h (flag sh y.2) w ∧ y.1.length = xs.length ∧ ∀ (i : Nat) u x, us[i]? = some u → y.1[i]? = some x → Rep Z' (lent w) noM u x :=
  frzs_sim frzP frzPs rfl (fun _ _ => rfl) (fun R hf r => frzP_sim R hs hf r) xs R hf hl hr

theorem frzA_sim (R : Rel w0 Z Y m h sh w) (hs : ∀ id b, hv id = some b → h id = some b) {v : Value} {x : V} {y : V × List Nat} (hf : frzA hv x = some y) (r : Rep Z Y m v x) :
    ∃ Z', ZUp w0 Z Z' ∧ Rel w0 Z' Y m h (flag sh y.2) w ∧ Rep Z' (lent w) noM v y.1 := by
  unfold frzA at hf
  split at hf
  · rename_i f caps
    cases hl : frzPs hv caps with
    | none => rw [hl] at hf; cases hf
    | some a =>
      rw [hl] at hf
      injection hf with hf; subst hf
      obtain ⟨cs, hsz, hr, _, hmk⟩ := r.fun
      · obtain ⟨Z', u1, R1, l1, r1⟩ := frzPs_sim hs caps (us := cs.toList) R hl (by simpa using hsz) (fun i u x hu hx => hr i u x (by simpa using hu) hx)
        exact ⟨Z', u1, R1, hmk _ _ _ a.1 (by rw [l1]; exact hsz) (fun i u x hu hx => r1 i u x (by simpa using hu) hx)⟩
  · exact frzP_sim R hs hf r
theorem frzAs_sim (hs : ∀ id b, hv id = some b → h id = some b) (xs : List V) {us : List Value} {y : List V × List Nat} (R : Rel w0 Z Y m h sh w) (hf : frzAs hv xs = some y) (hl : us.length = xs.length) (hr : ∀ (i : Nat) u x, us[i]? = some u → xs[i]? = some x → Rep Z Y m u x) :
    ∃ Z', ZUp w0 Z Z' ∧ Rel w0 Z' Y m h (flag sh y.2) w ∧ y.1.length = xs.length ∧ ∀ (i : Nat) u x, us[i]? = some u → y.1[i]? = some x → Rep Z' (lent w) noM u x :=
  frzs_sim frzA frzAs rfl (fun _ _ => rfl) (fun R hf r => frzA_sim R hs hf r) xs R hf hl hr
end
end Go.Proofs.Ytokahibbkdbndaa
