/- From the machine to the rows: arguments that are read as plain data. -/
import Derived.Test.YtbbaldhmeifloaaGU
import Derived.Test.YtbbaldhmeifloaaR0
import Derived.Test.YtbbaldhmeifloaaRows
namespace Go.Proofs.Ytbbaldhmeifloaa
open Go.ChangeShapes Go.WideShapes Go.ChangeAt Go.RowKit Go.Deep

/-- cells and what they stand for -/
def RepL (Z : ZMap) : List Value → List C → Prop
  | [], [] => True
  | u :: us, x :: xs => RepC Z u x ∧ RepL Z us xs
  | _, _ => False
theorem RepL.len {Z : ZMap} : ∀ {us : List Value} {xs : List C}, RepL Z us xs → us.length = xs.length
  | [], [], _ => rfl
  | u :: us, x :: xs, h => by simp [RepL.len h.2]
  | [], _ :: _, h => h.elim
  | _ :: _, [], h => h.elim
theorem RepL.get {Z : ZMap} : ∀ {us : List Value} {xs : List C}, RepL Z us xs → ∀ (i : Nat) u x, us[i]? = some u → xs[i]? = some x → RepC Z u x
  | [], [], _, i, u, x, h, _ => by simp at h
  | u :: us, x :: xs, h, i, u', x', h1, h2 => by
    cases i with
    | zero => simp at h1 h2; subst h1 h2; exact h.1
    | succ i => simp at h1 h2; exact RepL.get h.2 i u' x' h1 h2
  | [], _ :: _, h, _, _, _, _, _ => h.elim
  | _ :: _, [], h, _, _, _, _, _ => h.elim
theorem RepL.agg {Z Y : ZMap} {m : Nat → Option Value} {us : List Value} {xs : List C} (h : RepL Z us xs) : Rep Z Y m (.agg us.toArray) (.agg (xs.map .c)) := by
  refine .agg _ _ (by simp [h.len]) ?_ ?_
  · intro u hu
    obtain ⟨i, hi, rfl⟩ := List.getElem_of_mem (by simpa using hu)
    have hx : i < xs.length := by rw [← h.len]; exact hi
    exact (h.get i _ _ (List.getElem?_eq_getElem hi) (List.getElem?_eq_getElem hx)).one
  · intro i u x hu hx
    rw [List.getElem?_map] at hx
    cases hy : xs[i]? with
    | none => rw [hy] at hx; cases hx
    | some y =>
      rw [hy] at hx
      injection hx with hx; subst hx
      exact .c (h.get i u y (by simpa using hu) hy)
theorem flatten_get {α : Type} {k : Nat} : ∀ {css : List (List α)}, (∀ cs ∈ css, cs.length = k) → ∀ (i j : Nat) cs, css[i]? = some cs → j < k → css.flatten[i * k + j]? = cs[j]?
  | [], _, i, j, cs, h, _ => by simp at h
  | c :: css, hk, i, j, cs, h, hj => by
    have hc : c.length = k := hk c (by simp)
    cases i with
    | zero =>
      simp at h; subst h
      rw [List.flatten_cons, List.getElem?_append_left (by omega)]
      simp
    | succ i =>
      simp at h
      rw [List.flatten_cons, List.getElem?_append_right (by rw [hc, Nat.add_mul]; omega), ← flatten_get (fun d hd => hk d (by simp [hd])) i j cs h hj]
      congr 1
      rw [hc, Nat.add_mul]; omega
theorem rd_rep {w : World} {k n c : Nat} {A : Option Addr} {css : List (List Value)} {es : List (List C)} (hr : Rd w k A n c css.flatten) (hn : css.length = n) (hN : A = none → c = 0) (hk : 0 < k) (hcs : ∀ cs ∈ css, cs.length = k) (hl : es.length = css.length)
    (he : ∀ (i : Nat) cs e, css[i]? = some cs → es[i]? = some e → RepL (Zw w) cs e) : RepC (Zw w) (.slice A n c) (.sl es) := by
  have helen : ∀ e ∈ es, e.length = k := fun e hm => by
    obtain ⟨i, hi, rfl⟩ := List.getElem_of_mem hm
    have hx : i < css.length := by omega
    rw [← (he i _ _ (List.getElem?_eq_getElem hx) (List.getElem?_eq_getElem hi)).len]
    exact hcs _ (List.getElem_mem hx)
  by_cases h0 : es = []
  · subst h0
    have : n = 0 := by rw [← hn, ← hl]; rfl
    exact .sl A n c k 0 0 (fun _ => .nilFunc) [] (by simp [this]) hr.le hr.2.2.1 (by simp) (by simp) (by simp) (by simp) hN
  · have hn0 : 0 < n * k := by
      have : 0 < es.length := List.length_pos_iff.2 h0
      exact Nat.mul_pos (by omega) hk
    obtain ⟨b, off, hA, _, hcell⟩ := hr.place hn0
    have hget : ∀ (i : Nat) (e : List C) (j : Nat) (x : C), es[i]? = some e → e[j]? = some x → ∃ u, css.flatten[i * k + j]? = some u ∧ RepC (Zw w) u x := by
      intro i e j x h1 h2
      have hi : i < css.length := by
        have := (List.getElem?_eq_some_iff.1 h1).1
        omega
      have hj : j < k := by
        rw [← helen e (List.mem_of_getElem? h1)]
        exact (List.getElem?_eq_some_iff.1 h2).1
      have hcl := hcs _ (List.getElem_mem hi)
      have hu : css[i][j]? = some (css[i][j]'(by omega)) := List.getElem?_eq_getElem _
      exact ⟨_, by rw [flatten_get hcs i j css[i] (List.getElem?_eq_getElem hi) hj, hu], (he i _ e (List.getElem?_eq_getElem hi) h1).get j _ x hu h2⟩
    refine .sl A n c k b off (fun j => (css.flatten[j]?).getD .nilFunc) es (by omega) hr.le hr.2.2.1 helen (fun _ => hA) ?_ ?_ hN
    · intro i e j x h1 h2
      obtain ⟨u, hu, _⟩ := hget i e j x h1 h2
      simp only [hu, Option.getD_some]
      exact hcell _ _ hu
    · intro i e j x h1 h2
      obtain ⟨u, hu, hr'⟩ := hget i e j x h1 h2
      simp only [hu, Option.getD_some]
      exact hr'
theorem nil_cap {H : Type} {enc : TypeId × Value → H} {P : Program} {w : World} {base : Nat} {spare : Nat → Bool} {held : Bool} {t e : TypeId} {fuel n c : Nat} {A : Option Addr} {x : DataW H × List MemPlace} (ht : P.underlying t = some (.slice e))
    (h : DataW.trod enc P w base spare held fuel t [.slice A n c] = some x) : A = none → c = 0 := by
  intro hA
  subst hA
  rcases open_slice ht h with ⟨hcs, _⟩ | ⟨a, len, cap, m, n', D, Pl, hcs, _⟩
  · injection hcs with hcs
    injection hcs
  · injection hcs with hcs
    injection hcs with h1
    cases h1
/-- a list's elements, each of a kind -/
theorem rows_rep {H : Type} {enc : TypeId × Value → H} {w : World} {t e : TypeId} {k fuel : Nat} {v : Value} {x : DataW H × List MemPlace} {τ : Type} (E : EC τ) (ht : Try.prog.underlying t = some (.slice e)) (hC : Try.prog.cellsOf e = k) (hk : 0 < k)
    (hE : ∀ fuel cs y, DataW.trod enc Try.prog w 0 (fun _ => true) true fuel e cs = some y → ∃ a : τ, RepL (Zw w) cs (E.enc a))
    (h : DataW.trod enc Try.prog w 0 (fun _ => true) true fuel t [v] = some x) : ∃ l : List τ, RepC (Zw w) v (.sl (E.encL l)) := by
  obtain ⟨A, n, c, css, hv, hr, hn, hcs⟩ := open_rows ht hC hk (fun fuel cs y hy u hu => by
    obtain ⟨a, ha⟩ := hE fuel cs y hy
    obtain ⟨i, hi, rfl⟩ := List.getElem_of_mem hu
    have hx : i < (E.enc a).length := by rw [← ha.len]; exact hi
    exact (ha.get i _ _ (List.getElem?_eq_getElem hi) (List.getElem?_eq_getElem hx)).one) h
  subst hv
  haveI : Inhabited τ := ⟨E.dec []⟩
  obtain ⟨F, hF⟩ := choose_lt (α := τ) (n := css.length) (p := fun i a => ∀ cs, css[i]? = some cs → RepL (Zw w) cs (E.enc a)) (fun i hi => by
    obtain ⟨_, fuel, y, hy⟩ := hcs _ (List.getElem_mem hi)
    obtain ⟨a, ha⟩ := hE fuel _ y hy
    exact ⟨a, fun cs h => by rw [List.getElem?_eq_getElem hi] at h; injection h with h; subst h; exact ha⟩)
  refine ⟨(List.range css.length).map F, rd_rep hr hn (nil_cap ht h) hk (fun cs hc => (hcs cs hc).1) (by simp [EC.encL]) ?_⟩
  intro i cs e h1 h2
  have hi : i < css.length := (List.getElem?_eq_some_iff.1 h1).1
  rw [EC.encL, List.getElem?_map, List.getElem?_map, List.getElem?_range hi] at h2
  simp only [Option.map_some, Option.some.injEq] at h2
  subst h2
  exact hF i hi cs h1

set_option maxRecDepth 100000 in
theorem open_per {H : Type} {enc : TypeId × Value → H} {w : World} {fuel : Nat} {cs : List Value} {y : DataW H × List MemPlace} (h : DataW.trod enc Try.prog w 0 (fun _ => true) true fuel 58 cs = some y) : ∃ f t, cs = [.int .i64 f, .int .i64 t] := by
  obtain ⟨hl, n, hf⟩ := trod_field Try.underlying58 h
  obtain ⟨y0, h0⟩ := hf 0 _ rfl
  obtain ⟨y1, h1⟩ := hf 1 _ rfl
  obtain ⟨a0, e0, _, _⟩ := DataW.trod_int Try.underlying3 h0
  obtain ⟨a1, e1, _, _⟩ := DataW.trod_int Try.underlying3 h1
  have hc : Try.prog.cellsOf 58 = 2 := by kernel_rfl
  have c3 : Try.prog.cellsOf 3 = 1 := by kernel_rfl
  rw [hc] at hl
  match cs, hl with
  | [u0, u1], _ =>
    simp [c3] at e0 e1
    subst e0 e1
    exact ⟨a0, a1, rfl⟩

theorem rep_max {Z : ZMap} {v : Value} {es : List (List C)} (h : RepC Z v (.sl es)) : es.length ≤ 9223372036854775807 := by
  cases h with
  | sl A n c k b off U es hl hc hm hk hA hz hr' hN => unfold maxLen at hm; omega
set_option maxRecDepth 100000 in
theorem open_perL {H : Type} {enc : TypeId × Value → H} {w : World} {fuel : Nat} {cs : List Value} {y : DataW H × List MemPlace} (h : DataW.trod enc Try.prog w 0 (fun _ => true) true fuel 58 cs = some y) : ∃ g : Pd, RepL (Zw w) cs (ec_58.enc g) := by
  obtain ⟨f, t, rfl⟩ := open_per h
  exact ⟨⟨f, t⟩, .int _ _, .int _ _, trivial⟩
/-- an argument of type []api.Period -/
theorem open_pers {H : Type} {enc : TypeId × Value → H} {w : World} {d : DataW H} {p : List MemPlace} {v : Value} (hv : ∃ a n c, v = .slice a n c) (h : DataW.Trod enc Try.prog w 0 (fun _ => true) true 45 v d p) :
    ∃ l : List Pd, RepC (Zw w) v (.sl (ec_58.encL l)) ∧ l.length ≤ 9223372036854775807 := by
  obtain ⟨a, n, c, rfl⟩ := hv
  obtain ⟨fuel, hf⟩ := h
  obtain ⟨l, hr⟩ := rows_rep (k := 2) ec_58 Try.underlying45 (by kernel_rfl) (by decide) (fun _ _ _ hy => open_perL hy) hf
  refine ⟨l, hr, ?_⟩
  have := rep_max hr
  rwa [EC.encL_length] at this
end Go.Proofs.Ytbbaldhmeifloaa
