/- arguments of type api.Meeting, api.Period and string, opened; texts with equal bytes are equal. -/
import Derived.Test.YtgmjhnijnpfkgaaGuest
import Derived.Test.YtgmjhnijnpfkgaaRow
namespace Go.Proofs.Ytgmjhnijnpfkgaa
open Go.ChangeShapes Go.WideShapes Go.ChangeAt Go.RowKit Go.Deep

theorem bytes_inj {a b : ByteArray} (h : a.toList = b.toList) : a = b := by
  have e : ∀ s : ByteArray, s.toList = s.data.toList := fun s => ByteArray.toList_eq s
  rw [e, e] at h
  cases a; cases b
  congr 1
  exact Array.toList_inj.1 h

set_option maxRecDepth 100000 in
theorem open_per {H : Type} {enc : TypeId × Value → H} {w : World} {fuel : Nat} {cs : List Value} {y : DataW H × List MemPlace} (h : DataW.trod enc Try.prog w 0 (fun _ => true) true fuel 38 cs = some y) : ∃ f t, cs = [.int .i64 f, .int .i64 t] := by
  obtain ⟨hl, n, hf⟩ := trod_field Try.underlying38 h
  obtain ⟨y0, h0⟩ := hf 0 _ rfl
  obtain ⟨y1, h1⟩ := hf 1 _ rfl
  obtain ⟨a0, e0, _, _⟩ := DataW.trod_int Try.underlying3 h0
  obtain ⟨a1, e1, _, _⟩ := DataW.trod_int Try.underlying3 h1
  have hc : Try.prog.cellsOf 38 = 2 := by kernel_rfl
  have c3 : Try.prog.cellsOf 3 = 1 := by kernel_rfl
  rw [hc] at hl
  match cs, hl with
  | [u0, u1], _ =>
    simp [c3] at e0 e1
    subst e0 e1
    exact ⟨a0, a1, rfl⟩

set_option maxRecDepth 100000 in
theorem open_guest {H : Type} {enc : TypeId × Value → H} {w : World} {fuel : Nat} {cs : List Value} {y : DataW H × List MemPlace} (h : DataW.trod enc Try.prog w 0 (fun _ => true) true fuel 48 cs = some y) : ∃ g : Guest, cs = g.cells := by
  obtain ⟨hl, n, hf⟩ := trod_field Try.underlying48 h
  obtain ⟨y0, h0⟩ := hf 0 _ rfl
  obtain ⟨y1, h1⟩ := hf 1 _ rfl
  obtain ⟨y2, h2⟩ := hf 2 _ rfl
  obtain ⟨a0, e0, _, _⟩ := DataW.trod_string Try.underlying9 h0
  obtain ⟨a1, e1, _, _⟩ := DataW.trod_int Try.underlying3 h1
  obtain ⟨f, t, e2⟩ := open_per h2
  have hc : Try.prog.cellsOf 48 = 4 := by kernel_rfl
  have c3 : Try.prog.cellsOf 3 = 1 := by kernel_rfl
  have c9 : Try.prog.cellsOf 9 = 1 := by kernel_rfl
  have c2 : Try.prog.cellsOf 38 = 2 := by kernel_rfl
  rw [hc] at hl
  match cs, hl with
  | [u0, u1, u2, u3], _ =>
    simp [c9] at e0
    simp [c3] at e1
    simp [c2] at e2
    obtain ⟨rfl, rfl⟩ := e2
    subst e0 e1
    exact ⟨⟨a0, a1, f, t⟩, rfl⟩

theorem open_guests {H : Type} {enc : TypeId × Value → H} {w : World} {fuel : Nat} {v : Value} {y : DataW H × List MemPlace} (h : DataW.trod enc Try.prog w 0 (fun _ => true) true fuel 36 [v] = some y) :
    ∃ A n c l, v = .slice A n c ∧ Rd w 4 A n c (List.flatMap Guest.cells l) := by
  obtain ⟨A, n, c, css, hv, hr, _, hcs⟩ := open_rows (k := 4) Try.underlying36 (by kernel_rfl) (by decide) (fun fuel cs y hy u hu => by
    obtain ⟨a, rfl⟩ := open_guest hy
    simp [Guest.cells] at hu
    rcases hu with rfl | rfl | rfl | rfl <;> rfl) h
  obtain ⟨l, hl, _, _⟩ := rows_of Guest.cells (fun _ => True) (css := css) (fun cs hc => by
    obtain ⟨_, fuel, y, hy⟩ := hcs cs hc
    obtain ⟨a, e⟩ := open_guest hy
    exact ⟨a, e, trivial⟩)
  exact ⟨A, n, c, l, hv, by rw [← hl]; exact hr⟩

set_option maxRecDepth 100000 in
theorem open_meet {H : Type} {enc : TypeId × Value → H} {w : World} {base : Nat} {r : Reach} {v : Value} {d : DataW H} {p : List MemPlace} (hv : Value.okWide Try.prog w r base 40 v) (h : DataW.Trod enc Try.prog w 0 (fun _ => true) true 40 v d p) :
    ∃ (m : Mtg) (A : Option Addr) (n c : Nat), v = .agg (mval m A n c) ∧ Rd w 4 A n c (m.guests.flatMap Guest.cells) := by
  obtain ⟨cs, rfl, hsz⟩ := okWide_struct Try.underlying40 hv
  obtain ⟨fuel, h⟩ := h
  obtain ⟨hl, n, hf⟩ := trod_field Try.underlying40 h
  obtain ⟨y0, h0⟩ := hf 0 _ rfl
  obtain ⟨y1, h1⟩ := hf 1 _ rfl
  obtain ⟨y2, h2⟩ := hf 2 _ rfl
  obtain ⟨y3, h3⟩ := hf 3 _ rfl
  obtain ⟨y4, h4⟩ := hf 4 _ rfl
  obtain ⟨a0, e0, _, _⟩ := DataW.trod_string Try.underlying9 h0
  obtain ⟨a2, e2, _, _⟩ := DataW.trod_int Try.underlying3 h2
  obtain ⟨f, t, e3⟩ := open_per h3
  obtain ⟨b4, e4, _⟩ := DataW.trod_bool Try.underlying4 h4
  have hc : Try.prog.cellsOf 40 = 6 := by kernel_rfl
  have c3 : Try.prog.cellsOf 3 = 1 := by kernel_rfl
  have c9 : Try.prog.cellsOf 9 = 1 := by kernel_rfl
  have c2 : Try.prog.cellsOf 38 = 2 := by kernel_rfl
  have c4 : Try.prog.cellsOf 4 = 1 := by kernel_rfl
  have c36 : Try.prog.cellsOf 36 = 1 := by kernel_rfl
  rw [hc] at hl
  obtain ⟨l⟩ := cs
  match l, hl with
  | [u0, u1, u2, u3, u4, u5], _ =>
    simp [Value.cells, c9] at e0
    simp [Value.cells, c3] at e2
    simp [Value.cells, c2] at e3
    simp [Value.cells, c4] at e4
    simp [Value.cells, c36] at h1
    obtain ⟨A, n, c, l, rfl, hr⟩ := open_guests h1
    obtain ⟨rfl, rfl⟩ := e3
    subst e0 e2 e4
    exact ⟨⟨a0, l, a2, f, t, b4⟩, A, n, c, rfl, hr⟩
end Go.Proofs.Ytgmjhnijnpfkgaa
