/- Tests and rules that the caller hands in, opened. -/
import Derived.Test.YtokahibbkdbndaaR1
namespace Go.Proofs.Ytokahibbkdbndaa
open Go.ChangeShapes Go.WideShapes Go.ChangeAt Go.RowKit Go.Deep

theorem six {α : Type} {l : List α} (h : l.length = 6) : ∃ a b c d e f, l = [a, b, c, d, e, f] := by
  match l, h with
  | [a, b, c, d, e, f], _ => exact ⟨a, b, c, d, e, f, rfl⟩
theorem eight {α : Type} {l : List α} (h : l.length = 8) : ∃ a b c d e f g i, l = [a, b, c, d, e, f, g, i] := by
  match l, h with
  | [a, b, c, d, e, f, g, i], _ => exact ⟨a, b, c, d, e, f, g, i, rfl⟩
theorem thirteen {α : Type} {l : List α} (h : l.length = 13) : ∃ a b c d e f g i j k m n o, l = [a, b, c, d, e, f, g, i, j, k, m, n, o] := by
  match l, h with
  | [a, b, c, d, e, f, g, i, j, k, m, n, o], _ => exact ⟨a, b, c, d, e, f, g, i, j, k, m, n, o, rfl⟩
section
variable {H : Type} {enc : TypeId × Value → H} {w : World}
/-- a test and its data -/
def RT (a : S42) (d : DataW H) : Prop := tzT a ≤ Rows.uptoBulk d ∧ okT a
theorem all2_T : ∀ {l : List S42} {ds : List (DataW H)}, All2 RT l ds → tzL l ≤ Rows.uptoBulkAll ds ∧ okTL l ∧ l.length = ds.length
  | [], [], _ => ⟨Nat.zero_le _, trivial, rfl⟩
  | a :: l, d :: ds, h => by
    obtain ⟨h1, h2, h3⟩ := all2_T h.2
    refine ⟨?_, ⟨h.1.2, h2⟩, by simp [h3]⟩
    have := h.1.1
    simp only [tzL, Rows.uptoBulkAll]
    omega
  | [], _ :: _, h => h.elim
  | _ :: _, [], h => h.elim
set_option maxRecDepth 100000 in
theorem open_T : ∀ (B fuel : Nat) (cs : List Value) (y : DataW H × List MemPlace), Rows.uptoBulk y.1 = B → B ≤ 2000000 → DataW.trod enc Try.prog w 0 (fun _ => true) true fuel 42 cs = some y → ∃ a : S42, RepL (Zw w) cs (ec_42.enc a) ∧ RT a y.1 := by
  intro B
  induction B using Nat.strongRecOn with
  | _ B ih =>
    intro fuel cs y hB hb hy
    obtain ⟨xs, n, _, hx, hl, hxl, hf⟩ := DataW.trod_struct Try.underlying42 hy
    have hc : Try.prog.cellsOf 42 = 6 := by kernel_rfl
    have c1 : Try.prog.cellsOf 3 = 1 := by kernel_rfl
    have c2 : Try.prog.cellsOf 9 = 1 := by kernel_rfl
    have c3 : Try.prog.cellsOf 32 = 1 := by kernel_rfl
    rw [hc] at hl
    obtain ⟨u0, u1, u2, u3, u4, u5, rfl⟩ := six hl
    obtain ⟨x0, x1, x2, x3, x4, x5, rfl⟩ := six hxl
    have h0 : DataW.trod enc Try.prog w 0 (fun _ => true) true n 3 [u0] = some x0 := by have := hf 0 _ rfl; simpa [c1] using this
    have h1 : DataW.trod enc Try.prog w 0 (fun _ => true) true n 32 [u1] = some x1 := by have := hf 1 _ rfl; simpa [c3] using this
    have h2 : DataW.trod enc Try.prog w 0 (fun _ => true) true n 9 [u2] = some x2 := by have := hf 2 _ rfl; simpa [c2] using this
    have h3 : DataW.trod enc Try.prog w 0 (fun _ => true) true n 3 [u3] = some x3 := by have := hf 3 _ rfl; simpa [c1] using this
    have h4 : DataW.trod enc Try.prog w 0 (fun _ => true) true n 9 [u4] = some x4 := by have := hf 4 _ rfl; simpa [c2] using this
    have h5 : DataW.trod enc Try.prog w 0 (fun _ => true) true n 3 [u5] = some x5 := by have := hf 5 _ rfl; simpa [c1] using this
    obtain ⟨a0, e0, _, _⟩ := DataW.trod_int Try.underlying3 h0
    obtain ⟨a2, e2, _, _⟩ := DataW.trod_string Try.underlying9 h2
    obtain ⟨a3, e3, _, _⟩ := DataW.trod_int Try.underlying3 h3
    obtain ⟨a4, e4, _, _⟩ := DataW.trod_string Try.underlying9 h4
    obtain ⟨a5, e5, _, _⟩ := DataW.trod_int Try.underlying3 h5
    injection e0 with e0; injection e2 with e2; injection e3 with e3; injection e4 with e4; injection e5 with e5
    subst e0 e2 e3 e4 e5
    have hbulk : Rows.uptoBulk x1.1 < B := by
      rw [← hB, hx]
      simp only [Rows.uptoBulk, List.map_cons, Rows.uptoBulkAll]
      omega
    obtain ⟨l, ds, rc, hsum, h2'⟩ := rows_repI (k := 6) ec_42 RT Try.underlying32 (by kernel_rfl) (by decide) h1 (fun fuel cs y hlt hy => ih _ (by omega) fuel cs y rfl (by omega) hy)
    obtain ⟨g1, g2, g3⟩ := all2_T h2'
    refine ⟨⟨a0, l, a2, a3, a4, a5⟩, ?_, ?_, ?_⟩
    · rw [enc_42]
      exact ⟨.int _ _, rc, .str _, .int _ _, .str _, .int _ _, trivial⟩
    · rw [tzT_eq, hB]
      show 1 + tzL l ≤ B
      omega
    · have := bulk_len ds
      exact (okT_eq _).2 ⟨by show l.length ≤ big; unfold big; omega, g2⟩
/-- a rule and its data -/
def RR (a : S44) (d : DataW H) : Prop := tsz a ≤ Rows.uptoBulk d ∧ okR a
theorem all2_R : ∀ {l : List S44} {ds : List (DataW H)}, All2 RR l ds → tszL l ≤ Rows.uptoBulkAll ds ∧ okL l ∧ l.length = ds.length
  | [], [], _ => ⟨Nat.zero_le _, trivial, rfl⟩
  | a :: l, d :: ds, h => by
    obtain ⟨h1, h2, h3⟩ := all2_R h.2
    refine ⟨?_, ⟨h.1.2, h2⟩, by simp [h3]⟩
    have := h.1.1
    simp only [tszL, Rows.uptoBulkAll]
    omega
  | [], _ :: _, h => h.elim
  | _ :: _, [], h => h.elim
set_option maxRecDepth 100000 in
theorem open_R : ∀ (B fuel : Nat) (cs : List Value) (y : DataW H × List MemPlace), Rows.uptoBulk y.1 = B → B ≤ 2000000 → DataW.trod enc Try.prog w 0 (fun _ => true) true fuel 44 cs = some y → ∃ a : S44, RepL (Zw w) cs (ec_44.enc a) ∧ RR a y.1 := by
  intro B
  induction B using Nat.strongRecOn with
  | _ B ih =>
    intro fuel cs y hB hb hy
    obtain ⟨xs, n, _, hx, hl, hxl, hf⟩ := DataW.trod_struct Try.underlying44 hy
    have hc : Try.prog.cellsOf 44 = 13 := by kernel_rfl
    have c1 : Try.prog.cellsOf 3 = 1 := by kernel_rfl
    have c2 : Try.prog.cellsOf 9 = 1 := by kernel_rfl
    have c3 : Try.prog.cellsOf 22 = 1 := by kernel_rfl
    have c4 : Try.prog.cellsOf 42 = 6 := by kernel_rfl
    rw [hc] at hl
    obtain ⟨u0, u1, u2, u3, u4, u5, u6, u7, u8, u9, u10, u11, u12, rfl⟩ := thirteen hl
    obtain ⟨x0, x1, x2, x3, x4, x5, x6, x7, rfl⟩ := eight hxl
    have h0 : DataW.trod enc Try.prog w 0 (fun _ => true) true n 3 [u0] = some x0 := by have := hf 0 _ rfl; simpa [c1] using this
    have h1 : DataW.trod enc Try.prog w 0 (fun _ => true) true n 42 [u1, u2, u3, u4, u5, u6] = some x1 := by have := hf 1 _ rfl; simpa [c4] using this
    have h2 : DataW.trod enc Try.prog w 0 (fun _ => true) true n 22 [u7] = some x2 := by have := hf 2 _ rfl; simpa [c3] using this
    have h3 : DataW.trod enc Try.prog w 0 (fun _ => true) true n 22 [u8] = some x3 := by have := hf 3 _ rfl; simpa [c3] using this
    have h4 : DataW.trod enc Try.prog w 0 (fun _ => true) true n 3 [u9] = some x4 := by have := hf 4 _ rfl; simpa [c1] using this
    have h5 : DataW.trod enc Try.prog w 0 (fun _ => true) true n 9 [u10] = some x5 := by have := hf 5 _ rfl; simpa [c2] using this
    have h6 : DataW.trod enc Try.prog w 0 (fun _ => true) true n 9 [u11] = some x6 := by have := hf 6 _ rfl; simpa [c2] using this
    have h7 : DataW.trod enc Try.prog w 0 (fun _ => true) true n 3 [u12] = some x7 := by have := hf 7 _ rfl; simpa [c1] using this
    obtain ⟨a0, e0, _, _⟩ := DataW.trod_int Try.underlying3 h0
    obtain ⟨a4, e4, _, _⟩ := DataW.trod_int Try.underlying3 h4
    obtain ⟨a5, e5, z5, _⟩ := DataW.trod_string Try.underlying9 h5
    obtain ⟨a6, e6, _, _⟩ := DataW.trod_string Try.underlying9 h6
    obtain ⟨a7, e7, _, _⟩ := DataW.trod_int Try.underlying3 h7
    injection e0 with e0; injection e4 with e4; injection e5 with e5; injection e6 with e6; injection e7 with e7
    subst e0 e4 e5 e6 e7
    have hall : Rows.uptoBulk x1.1 + Rows.uptoBulk x2.1 + Rows.uptoBulk x3.1 + Rows.uptoBulk x5.1 < B := by
      rw [← hB, hx]
      simp only [Rows.uptoBulk, List.map_cons, Rows.uptoBulkAll]
      omega
    have h5b : a5.size < B := by
      have : Rows.uptoBulk x5.1 = a5.data.toList.length + 1 := by rw [z5]; simp only [Rows.uptoBulk]
      rw [Array.length_toList] at this
      have e : a5.data.size = a5.size := rfl
      omega
    obtain ⟨t, rt, ht1, ht2⟩ := open_T _ n _ x1 rfl (by omega) h1
    obtain ⟨l, ds, rc, hsum, h2'⟩ := rows_repI (k := 13) ec_44 RR Try.underlying22 (by kernel_rfl) (by decide) h2 (fun fuel cs y hlt hy => ih _ (by omega) fuel cs y rfl (by omega) hy)
    obtain ⟨g1, g2, g3⟩ := all2_R h2'
    obtain ⟨l', ds', rc', hsum', h3'⟩ := rows_repI (k := 13) ec_44 RR Try.underlying22 (by kernel_rfl) (by decide) h3 (fun fuel cs y hlt hy => ih _ (by omega) fuel cs y rfl (by omega) hy)
    obtain ⟨g1', g2', g3'⟩ := all2_R h3'
    have hlen := bulk_len ds
    have hlen' := bulk_len ds'
    rw [enc_42] at rt
    obtain ⟨r1, r2, r3, r4, r5, r6, _⟩ := rt
    obtain ⟨o1, o2⟩ := (okT_eq t).1 ht2
    refine ⟨⟨a0, t.Kind, t.Tests, t.Name, t.Pattern, t.Text, t.N, l, l', a4, a5, a6, a7⟩, ?_, ?_, ?_⟩
    · rw [enc_44]
      exact ⟨.int _ _, r1, r2, r3, r4, r5, r6, rc, rc', .int _ _, .str _, .str _, .int _ _, trivial⟩
    · rw [tsz_eq, hB]
      show tzT ⟨t.Kind, t.Tests, t.Name, t.Pattern, t.Text, t.N⟩ + tszL l + tszL l' ≤ B
      rw [eta_T]
      omega
    · refine (okR_eq _).2 ⟨⟨o1, o2⟩, ⟨?_, g2⟩, ⟨?_, g2'⟩, ?_⟩
      · show l.length ≤ big; unfold big; omega
      · show l'.length ≤ big; unfold big; omega
      · show a5.size ≤ big; unfold big; omega
set_option maxRecDepth 100000 in
/-- an argument of type []api.Rule -/
theorem open_rules {d : DataW H} {p : List MemPlace} {v : Value} (hv : ∃ a n c, v = .slice a n c) (hb : Rows.uptoBulk d ≤ 1048576) (h : DataW.Trod enc Try.prog w 0 (fun _ => true) true 22 v d p) :
    ∃ l : List S44, RepC (Zw w) v (.sl (ec_44.encL l)) ∧ SOk l ∧ l.length ≤ 1048576 ∧ tszL l ≤ 1048576 := by
  obtain ⟨a, n, c, rfl⟩ := hv
  obtain ⟨fuel, hf⟩ := h
  obtain ⟨l, ds, rc, hsum, h2'⟩ := rows_repI (k := 13) ec_44 RR Try.underlying22 (by kernel_rfl) (by decide) hf (fun fuel cs y hlt hy => open_R _ fuel cs y rfl (by simp only at hlt; omega) hy)
  obtain ⟨g1, g2, g3⟩ := all2_R h2'
  have hlen := bulk_len ds
  simp only at hsum
  exact ⟨l, rc, ⟨by unfold big; omega, g2, by unfold many; omega⟩, by omega, by omega⟩
end
end Go.Proofs.Ytokahibbkdbndaa
