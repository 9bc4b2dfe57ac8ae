/- an argument of type []api.Action, opened. -/
import Derived.Test.YtgmjhnijnpfkgaaEffRef
import Derived.Test.YtgmjhnijnpfkgaaRow
namespace Go.Proofs.Ytgmjhnijnpfkgaa
open Go.ChangeShapes Go.WideShapes Go.ChangeAt Go.RowKit Go.Deep

theorem sameB_refl : ∀ l : List ByteArray, sameB l l = true
  | [] => rfl
  | s :: l => by rw [sameB, if_pos (by simp)]; exact sameB_refl l
theorem sameEff_refl (x : Eff) : sameEff x x = true := by simp [sameEff, sameB_refl]

set_option maxRecDepth 100000 in
/-- an argument of type []api.Action -/
theorem open_acts {H : Type} {enc : TypeId × Value → H} {w : World} {d : DataW H} {p : List MemPlace} {v : Value} (h : DataW.Trod enc Try.prog w 0 (fun _ => true) true 22 v d p) (hv : ∃ a n c, v = .slice a n c) :
    ∃ A n c l, v = .slice A n c ∧ Rd w 3 A n c (List.flatMap Act.cells l) := by
  have key : ∀ fuel cs y, DataW.trod enc Try.prog w 0 (fun _ => true) true fuel 35 cs = some y → ∃ a : Act, cs = a.cells := by
    intro fuel cs y hy
    obtain ⟨hl, n, hf⟩ := trod_field Try.underlying35 hy
    obtain ⟨y0, h0⟩ := hf 0 _ rfl
    obtain ⟨y1, h1⟩ := hf 1 _ rfl
    obtain ⟨y2, h2⟩ := hf 2 _ rfl
    obtain ⟨a0, e0, _, _⟩ := DataW.trod_int Try.underlying3 h0
    obtain ⟨a1, e1, _, _⟩ := DataW.trod_string Try.underlying9 h1
    obtain ⟨a2, e2, _, _⟩ := DataW.trod_int Try.underlying3 h2
    have hc : Try.prog.cellsOf 35 = 3 := by kernel_rfl
    have c3 : Try.prog.cellsOf 3 = 1 := by kernel_rfl
    have c9 : Try.prog.cellsOf 9 = 1 := by kernel_rfl
    rw [hc] at hl
    match cs, hl with
    | [u0, u1, u2], _ =>
      simp [c3] at e0 e2
      simp [c9] at e1
      subst e0 e1 e2
      exact ⟨⟨a0, a1, a2⟩, rfl⟩
  obtain ⟨a, n, c, rfl⟩ := hv
  obtain ⟨fuel, hf⟩ := h
  obtain ⟨A, n, c, css, hv, hr, _, hcs⟩ := open_rows (k := 3) Try.underlying22 (by kernel_rfl) (by decide) (fun fuel cs y hy u hu => by
    obtain ⟨a, rfl⟩ := key fuel cs y hy
    simp [Act.cells] at hu
    rcases hu with rfl | rfl | rfl <;> rfl) hf
  obtain ⟨l, hl, _, _⟩ := rows_of Act.cells (fun _ => True) (css := css) (fun cs hc => by
    obtain ⟨_, fuel, y, hy⟩ := hcs cs hc
    obtain ⟨a, e⟩ := key fuel cs y hy
    exact ⟨a, e, trivial⟩)
  exact ⟨A, n, c, l, hv, by rw [← hl]; exact hr⟩

end Go.Proofs.Ytgmjhnijnpfkgaa
