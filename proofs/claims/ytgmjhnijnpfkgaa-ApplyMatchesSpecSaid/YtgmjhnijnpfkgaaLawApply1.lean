/- For every list of actions, ApplyMatchesSpec returns true and leaves its argument alone. -/
import Derived.Test.YtgmjhnijnpfkgaaEffectOf
import Derived.Test.YtgmjhnijnpfkgaaRow
namespace Go.Proofs.Ytgmjhnijnpfkgaa
open Go.ChangeShapes Go.WideShapes Go.ChangeAt Go.RowKit Go.Deep

theorem sameB_refl : ∀ l : List ByteArray, sameB l l = true
  | [] => rfl
  | s :: l => by rw [sameB, if_pos (by simp)]; exact sameB_refl l
theorem sameEff_refl (x : Eff) : sameEff x x = true := by simp [sameEff, sameB_refl]

set_option maxRecDepth 100000 in
/-- an argument of type []api.Action -/
theorem open_acts {H : Type} {enc : TypeId × Value → H} {w : World} {d : DataW H} {p : List MemPlace} {v : Value} (h : DataW.Trod enc Try.prog w 0 (fun _ => true) true 22 v d p) (hv : ∃ a n c, v = .slice a n c) :
    ∃ A n c l, v = .slice A n c ∧ Rd w 3 A n c (List.flatMap Act.cells l) := by
  have key : ∀ fuel cs y, DataW.trod enc Try.prog w 0 (fun _ => true) true fuel 35 cs = some y → ∃ a : Act, cs = a.cells := by
    intro fuel cs y hy
    obtain ⟨hl, n, hf⟩ := trod_field Try.underlying35 hy
    obtain ⟨y0, h0⟩ := hf 0 _ rfl
    obtain ⟨y1, h1⟩ := hf 1 _ rfl
    obtain ⟨y2, h2⟩ := hf 2 _ rfl
    obtain ⟨a0, e0, _, _⟩ := DataW.trod_int Try.underlying3 h0
    obtain ⟨a1, e1, _, _⟩ := DataW.trod_string Try.underlying9 h1
    obtain ⟨a2, e2, _, _⟩ := DataW.trod_int Try.underlying3 h2
    have hc : Try.prog.cellsOf 35 = 3 := by kernel_rfl
    have c3 : Try.prog.cellsOf 3 = 1 := by kernel_rfl
    have c9 : Try.prog.cellsOf 9 = 1 := by kernel_rfl
    rw [hc] at hl
    match cs, hl with
    | [u0, u1, u2], _ =>
      simp [c3] at e0 e2
      simp [c9] at e1
      subst e0 e1 e2
      exact ⟨⟨a0, a1, a2⟩, rfl⟩
  obtain ⟨a, n, c, rfl⟩ := hv
  obtain ⟨fuel, hf⟩ := h
  obtain ⟨A, n, c, css, hv, hr, _, hcs⟩ := open_rows (k := 3) Try.underlying22 (by kernel_rfl) (by decide) (fun fuel cs y hy u hu => by
    obtain ⟨a, rfl⟩ := key fuel cs y hy
    simp [Act.cells] at hu
    rcases hu with rfl | rfl | rfl <;> rfl) hf
  obtain ⟨l, hl, _, _⟩ := rows_of Act.cells (fun _ => True) (css := css) (fun cs hc => by
    obtain ⟨_, fuel, y, hy⟩ := hcs cs hc
    obtain ⟨a, e⟩ := key fuel cs y hy
    exact ⟨a, e, trivial⟩)
  exact ⟨A, n, c, l, hv, by rw [← hl]; exact hr⟩

set_option maxHeartbeats 400000 in
theorem applyMatches (A : Option Addr) (n c : Nat) (l : List Act) (w : World) (h : Rd w 3 A n c (l.flatMap Act.cells)) :
    Calls Try.prog 3 #[.slice A n c] w fun e w' => e = .returned (.bool true) ∧ Bel w w' := by
  have H := Lib.hid h
  clear h
  go_enter Try.func3, Try.ntmps3
  go_wp2_with fail
  refine (effects _ _ _ l _ H.out).mono ?_
  rintro e w1 ⟨R, rfl, hR, hb⟩
  have HR := Lib.hid hR
  have HB := Lib.hid hb
  clear hR hb
  generalize hx : effOf l = r at *
  have HX := Lib.hid hx
  clear hx
  go_wp2_with fail
  generalize hW1 : (World.alloc (World.alloc w1 _) _) = W1
  have hE1 : Blk W1 w1.heap.size 25 (effVal R r.1.f) := by rw [← hW1]; exact (Blk.new _ _ _).alloc _
  have hF1 : Blk W1 (w1.heap.size + 1) 27 #[.int .i64 r.2.1, .int .i64 r.2.2] := by rw [← hW1]; exact (show w1.heap.size + 1 = (w1.alloc _).heap.size by simp) ▸ Blk.new _ _ _
  have hb1 : Bel w1 W1 := by rw [← hW1]; exact ((Bel.refl _).alloc _).alloc _
  have HE1 := Lib.hid hE1
  have HF1 := Lib.hid hF1
  have HB1 := Lib.hid hb1
  clear hW1 hE1 hF1 hb1
  refine (effectOf _ _ _ l _ (H.out.bel (HB.out.trans HB1.out))).mono ?_
  rintro e w2 ⟨S, rfl, hS, hb2⟩
  rw [HX.out] at hS ⊢
  have HS := Lib.hid hS
  have HB2 := Lib.hid hb2
  have hce := (HE1.out.bel hb2).cell
  have hcf := (HF1.out.bel hb2).cell
  have hlt : w1.heap.size + 1 < w2.heap.size := (HF1.out.bel hb2).lt
  have hlt' : w1.heap.size < w2.heap.size := by omega
  clear hS hb2
  go_wp2_with fail
  refine (sameEffect' R S r.1 r.1 r.1.f r.1.f _ _ true _ rfl rfl rfl rfl (sameEff_refl _) (fun i hi => (HR.out i hi).bel ?_) (fun i hi => (HS.out i hi).bel ?_)).mono ?_
  · exact (((HB1.out.trans HB2.out).alloc _).alloc _)
  · exact (((Bel.refl _).alloc _).alloc _)
  rintro e w3 ⟨rfl, hb3⟩
  have HB3 := Lib.hid hb3
  clear hb3
  go_wp2_with fail
  refine (applied _).mono ?_
  rintro e w4 ⟨rfl, hb4⟩
  have HB4 := Lib.hid hb4
  clear hb4
  go_wp2_with fail
  go_ret
  exact ⟨rfl, (((((HB.out.trans HB1.out).trans HB2.out).alloc _).alloc _).trans HB3.out).trans HB4.out⟩

set_option maxRecDepth 100000 in
theorem applyMatches_lifted (os : Os) (started : os.Started) (H : Type) (enc : TypeId × Value → H) :
    ReturnsInHanded {} Try.checked os 3 .any (Rows.applyMatchesSpecSpec.pre6 enc Try.prog Try.f3 Rows.applyMatchesSpecRow.domain false) (Rows.applyMatchesSpecSpec.post enc Try.prog Try.f3 false true false false) := by
  refine returnsInHanded_of_change (C := Try.checked) Try_own started (by kernel_rfl) Try.func3
    (ChangeSpec.witness6 (enc := enc) (C := Try.checked) false ⟨#[], #[.slice none 0 0], []⟩ 8 (by kernel_rfl) (by kernel_rfl) (by kernel_rfl) (by kernel_rfl)) ?_
  intro W base args ds gs before hval0 hW _ _
  have hval : ∀ (j : Nat) t v, Try.f3.params[j]? = some t → args[j]? = some v → Value.okWide Try.prog W .any base t v := hval0
  have hW' : DataW.Whole enc Try.prog Try.f3.params.toList Rows.applyMatchesSpecSpec.vars false W args.toList ds gs before := hW
  obtain ⟨p, q, hA0, _, _, _, _⟩ := hW
  have hA : DataW.TrodAll enc Try.prog W 0 (fun _ => true) true Try.f3.params.toList args.toList ds p := hA0
  rw [Try.params3] at hA hval
  obtain ⟨v0, d0, hargs, rfl, h0⟩ := trodAll_one hA
  obtain rfl : args = #[v0] := by cases args; simp_all
  obtain ⟨A, n, c, l, rfl, hrd⟩ := open_acts h0 (okWide_slice Try.underlying22 (hval 0 22 v0 rfl rfl))
  refine (applyMatches A n c l W hrd).mono fun e W' ⟨he, hb⟩ => ?_
  subst he
  exact ⟨_, rfl, law_post (tb := 4) Try_laid (by kernel_rfl) rfl Try.underlying4 rfl rfl hW' hb⟩

theorem applyMatches_holds : Rows.ApplyMatchesSpecSaid :=
  OpenClaim.holds_of_wide 3 Try.f3 rfl rfl rfl rfl rfl rfl rfl ⟨rfl, rfl, rfl, rfl, rfl⟩ rfl rfl rfl rfl rfl (by kernel_rfl) Try.func3 (by kernel_rfl)
    (of_decide_eq_true (by kernel_rfl)) (by unfold Func.isWrapper; first | (rw [if_pos (by decide +kernel)]; kernel_rfl) | (rw [if_neg (by decide +kernel)]; exact ⟨rfl, rfl⟩))
    (fun os started H enc _ => applyMatches_lifted os started H enc)
end Go.Proofs.Ytgmjhnijnpfkgaa
