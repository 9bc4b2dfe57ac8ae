/- SameEffect, applied. -/
import Derived.Test.YtgmjhnijnpfkgaaEffects
namespace Go.Proofs.Ytgmjhnijnpfkgaa
open Go.RowKit

def sameEff (x y : Eff) : Bool := sameB (x.X 0) (y.X 0) && (sameB (x.X 1) (y.X 1) && (sameB (x.X 2) (y.X 2) && (sameB (x.X 3) (y.X 3) && (x.f == y.f))))
/-- the four lists of an effect lie in memory -/
abbrev RdE (w : World) (R : Nat → Sl) (x : Eff) : Prop := ∀ i, i < 4 → Rd w 1 (R i).1 (R i).2.1 (R i).2.2 (strs (x.X i))

set_option maxHeartbeats 400000 in
theorem sameEffect (R S : Nat → Sl) (x y : Eff) (w : World) (hx : RdE w R x) (hy : RdE w S y) :
    Calls Try.prog 16 #[.agg (effVal R x.f), .agg (effVal S y.f)] w fun e w' => e = .returned (.bool (sameEff x y)) ∧ Bel w w' := by
  have X := Lib.hid hx
  have Y := Lib.hid hy
  clear hx hy
  have fin : ∀ b : Bool, sameEff x y = b → ∀ o1 o2 q, Ending.returned (.bool b) = .returned (.bool (sameEff x y)) ∧ Bel w (((w.alloc o1).alloc o2).drewN q) := fun b hb o1 o2 q => ⟨by rw [hb], (((Bel.refl w).alloc _).alloc _).drewN _⟩
  have FIN := Lib.hid fin
  clear fin
  by_cases g0 : sameB (x.X 0) (y.X 0) = false
  · have h0 : sameB (x.X 0) (y.X 0) = false := g0
    clear g0
    go_enter Try.func16, Try.ntmps16
    go_wp2_with fail
    refine (sameTexts _ _ _ _ _ _ (x.X 0) (y.X 0) _ ((X.out 0 (by decide)).bel (((Bel.refl w).alloc _).alloc _)) ((Y.out 0 (by decide)).bel (((Bel.refl w).alloc _).alloc _))).mono ?_
    rintro e w' ⟨rfl, q0, rfl⟩
    go_wp2_with fail
    go_ret
    exact FIN.out _ (by simp [sameEff, h0]) _ _ _
  have h0 : sameB (x.X 0) (y.X 0) = true := by simpa using g0
  clear g0
  by_cases g1 : sameB (x.X 1) (y.X 1) = false
  · have h1 : sameB (x.X 1) (y.X 1) = false := g1
    clear g1
    go_enter Try.func16, Try.ntmps16
    go_wp2_with fail
    refine (sameTexts _ _ _ _ _ _ (x.X 0) (y.X 0) _ ((X.out 0 (by decide)).bel (((Bel.refl w).alloc _).alloc _)) ((Y.out 0 (by decide)).bel (((Bel.refl w).alloc _).alloc _))).mono ?_
    rintro e w' ⟨rfl, q0, rfl⟩
    go_wp2_with fail
    refine (sameTexts _ _ _ _ _ _ (x.X 1) (y.X 1) _ ((X.out 1 (by decide)).bel ((((Bel.refl w).alloc _).alloc _).drewN _)) ((Y.out 1 (by decide)).bel ((((Bel.refl w).alloc _).alloc _).drewN _))).mono ?_
    rintro e w' ⟨rfl, q1, rfl⟩
    go_wp2_with fail
    go_ret
    exact FIN.out _ (by simp [sameEff, h0, h1]) _ _ _
  have h1 : sameB (x.X 1) (y.X 1) = true := by simpa using g1
  clear g1
  by_cases g2 : sameB (x.X 2) (y.X 2) = false
  · have h2 : sameB (x.X 2) (y.X 2) = false := g2
    clear g2
    go_enter Try.func16, Try.ntmps16
    go_wp2_with fail
    refine (sameTexts _ _ _ _ _ _ (x.X 0) (y.X 0) _ ((X.out 0 (by decide)).bel (((Bel.refl w).alloc _).alloc _)) ((Y.out 0 (by decide)).bel (((Bel.refl w).alloc _).alloc _))).mono ?_
    rintro e w' ⟨rfl, q0, rfl⟩
    go_wp2_with fail
    refine (sameTexts _ _ _ _ _ _ (x.X 1) (y.X 1) _ ((X.out 1 (by decide)).bel ((((Bel.refl w).alloc _).alloc _).drewN _)) ((Y.out 1 (by decide)).bel ((((Bel.refl w).alloc _).alloc _).drewN _))).mono ?_
    rintro e w' ⟨rfl, q1, rfl⟩
    go_wp2_with fail
    refine (sameTexts _ _ _ _ _ _ (x.X 2) (y.X 2) _ ((X.out 2 (by decide)).bel ((((Bel.refl w).alloc _).alloc _).drewN _)) ((Y.out 2 (by decide)).bel ((((Bel.refl w).alloc _).alloc _).drewN _))).mono ?_
    rintro e w' ⟨rfl, q2, rfl⟩
    go_wp2_with fail
    go_ret
    exact FIN.out _ (by simp [sameEff, h0, h1, h2]) _ _ _
  have h2 : sameB (x.X 2) (y.X 2) = true := by simpa using g2
  clear g2
  by_cases g3 : sameB (x.X 3) (y.X 3) = false
  · have h3 : sameB (x.X 3) (y.X 3) = false := g3
    clear g3
    go_enter Try.func16, Try.ntmps16
    go_wp2_with fail
    refine (sameTexts _ _ _ _ _ _ (x.X 0) (y.X 0) _ ((X.out 0 (by decide)).bel (((Bel.refl w).alloc _).alloc _)) ((Y.out 0 (by decide)).bel (((Bel.refl w).alloc _).alloc _))).mono ?_
    rintro e w' ⟨rfl, q0, rfl⟩
    go_wp2_with fail
    refine (sameTexts _ _ _ _ _ _ (x.X 1) (y.X 1) _ ((X.out 1 (by decide)).bel ((((Bel.refl w).alloc _).alloc _).drewN _)) ((Y.out 1 (by decide)).bel ((((Bel.refl w).alloc _).alloc _).drewN _))).mono ?_
    rintro e w' ⟨rfl, q1, rfl⟩
    go_wp2_with fail
    refine (sameTexts _ _ _ _ _ _ (x.X 2) (y.X 2) _ ((X.out 2 (by decide)).bel ((((Bel.refl w).alloc _).alloc _).drewN _)) ((Y.out 2 (by decide)).bel ((((Bel.refl w).alloc _).alloc _).drewN _))).mono ?_
    rintro e w' ⟨rfl, q2, rfl⟩
    go_wp2_with fail
    refine (sameTexts _ _ _ _ _ _ (x.X 3) (y.X 3) _ ((X.out 3 (by decide)).bel ((((Bel.refl w).alloc _).alloc _).drewN _)) ((Y.out 3 (by decide)).bel ((((Bel.refl w).alloc _).alloc _).drewN _))).mono ?_
    rintro e w' ⟨rfl, q3, rfl⟩
    go_wp2_with fail
    go_ret
    exact FIN.out _ (by simp [sameEff, h0, h1, h2, h3]) _ _ _
  have h3 : sameB (x.X 3) (y.X 3) = true := by simpa using g3
  clear g3
  go_enter Try.func16, Try.ntmps16
  go_wp2_with fail
  refine (sameTexts _ _ _ _ _ _ (x.X 0) (y.X 0) _ ((X.out 0 (by decide)).bel (((Bel.refl w).alloc _).alloc _)) ((Y.out 0 (by decide)).bel (((Bel.refl w).alloc _).alloc _))).mono ?_
  rintro e w' ⟨rfl, q0, rfl⟩
  go_wp2_with fail
  refine (sameTexts _ _ _ _ _ _ (x.X 1) (y.X 1) _ ((X.out 1 (by decide)).bel ((((Bel.refl w).alloc _).alloc _).drewN _)) ((Y.out 1 (by decide)).bel ((((Bel.refl w).alloc _).alloc _).drewN _))).mono ?_
  rintro e w' ⟨rfl, q1, rfl⟩
  go_wp2_with fail
  refine (sameTexts _ _ _ _ _ _ (x.X 2) (y.X 2) _ ((X.out 2 (by decide)).bel ((((Bel.refl w).alloc _).alloc _).drewN _)) ((Y.out 2 (by decide)).bel ((((Bel.refl w).alloc _).alloc _).drewN _))).mono ?_
  rintro e w' ⟨rfl, q2, rfl⟩
  go_wp2_with fail
  refine (sameTexts _ _ _ _ _ _ (x.X 3) (y.X 3) _ ((X.out 3 (by decide)).bel ((((Bel.refl w).alloc _).alloc _).drewN _)) ((Y.out 3 (by decide)).bel ((((Bel.refl w).alloc _).alloc _).drewN _))).mono ?_
  rintro e w' ⟨rfl, q3, rfl⟩
  go_wp2_with fail
  go_ret
  exact FIN.out _ (by simp [sameEff, h0, h1, h2, h3]) _ _ _

theorem sameEffect' (R S : Nat → Sl) (x y : Eff) (f g : Int) (vs vs' : Array Value) (b : Bool) (w : World) (hv : vs = effVal R f) (hv' : vs' = effVal S g) (hf : x.f = f) (hg : y.f = g) (hb : sameEff x y = b) (hx : RdE w R x) (hy : RdE w S y) :
    Calls Try.prog 16 #[.agg vs, .agg vs'] w fun e w' => e = .returned (.bool b) ∧ Bel w w' := by
  subst hv hv' hf hg hb
  exact sameEffect R S x y w hx hy

def appliedActs : List Act := [⟨1, ⟨#[]⟩, 0⟩, ⟨6, ⟨#[]⟩, 3⟩, ⟨1, ⟨#[]⟩, 0⟩]
def appliedEff : Eff := ⟨fun i => if i = 0 then [inbox] else [], 3⟩
theorem applied_f : (effOf appliedActs).1.f = 3 := by decide +kernel
theorem applied_2 : (effOf appliedActs).2 = (0, 0) := by decide +kernel
theorem applied_same : sameEff (effOf appliedActs).1 appliedEff = true := by decide +kernel
abbrev appliedCells : Array Value := #[.int .i64 1, .string ⟨#[]⟩, .int .i64 0, .int .i64 6, .string ⟨#[]⟩, .int .i64 3, .int .i64 1, .string ⟨#[]⟩, .int .i64 0]
theorem applied_rd (w : World) : Rd (w.alloc (.cells appliedCells 35)) 3 (some ⟨w.heap.size, 0, none⟩) 3 3 (appliedActs.flatMap Act.cells) :=
  Rd.new w 3 3 35 appliedCells rfl (by unfold maxLen; omega) (by decide)
theorem applied_rdE (w : World) (t : TypeId) (b : Nat) (hb : w.heap.size = b) : RdE (w.alloc (.cells #[.string inbox] t)) (fun i => if i = 0 then (some ⟨b, 0, none⟩, 1, 1) else Sl.nil) appliedEff := by
  subst hb
  intro i _
  by_cases h : i = 0
  · subst h
    exact Rd.new w 1 1 t #[.string inbox] rfl (by unfold maxLen; omega) (by simp [Value.oneCell'])
  · simp only [if_neg h, appliedEff]
    exact Rd.nil

set_option maxHeartbeats 400000 in
theorem applied (w : World) : Calls Try.prog 17 #[] w fun e w' => e = .returned (.bool true) ∧ Bel w w' := by
  go_enter Try.func17, Try.ntmps17
  go_wp2_with fail
  refine (effects _ _ _ appliedActs _ (applied_rd w)).mono ?_
  rintro e w1 ⟨R, rfl, hR, hb⟩
  rw [applied_f, applied_2]
  have HR := Lib.hid hR
  have HB := Lib.hid hb
  clear hR hb
  go_wp2_with fail
  refine (sameEffect' R (fun i => if i = 0 then (some ⟨w1.heap.size + 1 + 1, 0, none⟩, 1, 1) else Sl.nil) (effOf appliedActs).1 appliedEff 3 3 _ _ true _ rfl rfl applied_f rfl applied_same ?_ (applied_rdE _ _ _ (by simp))).mono ?_
  · intro i hi
    refine (HR.out i hi).bel ?_
    (repeat (first | with_reducible refine Bel.setCell ?_ (by simp) _ | with_reducible refine Bel.alloc ?_ _)); exact Bel.refl _
  rintro e w2 ⟨rfl, hb2⟩
  have HB2 := Lib.hid hb2
  clear hb2
  go_wp2_with fail
  go_ret
  refine ⟨rfl, Bel.trans ?_ HB2.out⟩
  (repeat (first | with_reducible refine Bel.setCell ?_ (by simp) _ | with_reducible refine Bel.alloc ?_ _))
  exact ((Bel.refl w).alloc _).trans HB.out
end Go.Proofs.Ytgmjhnijnpfkgaa
