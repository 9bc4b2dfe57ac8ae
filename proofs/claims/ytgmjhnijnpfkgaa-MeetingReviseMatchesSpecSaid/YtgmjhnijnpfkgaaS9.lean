/- From the machine to the rows: arguments that are read as plain data; the rule on Clone is sound. -/
import Derived.Test.YtgmjhnijnpfkgaaR0
import Derived.Test.YtgmjhnijnpfkgaaGMeet
import Derived.Lib.SliceRun
import Derived.Test.YtgmjhnijnpfkgaaRows
namespace Go.Proofs.Ytgmjhnijnpfkgaa
open Go.ChangeShapes Go.WideShapes Go.ChangeAt Go.RowKit Go.Deep

set_option maxHeartbeats 400000 in
set_option maxRecDepth 4000 in
theorem clone_nil (w : World) : Calls Try.prog 48 #[.slice none 0 0] w fun e w' => e = .returned (.slice none 0 0) ∧ w = w' := by
  have hz : ∀ w : World, (binOp .eql 36 (.slice none 0 0) (.slice none 0 0)).run Try.prog w = .ok (.bool true) w := fun w => Lib.run_eql_slice_nil w _ _ _ _ _ _ _ Try.underlying36
  go_enter Try.func48, Try.ntmps48
  go_wp2
  go_ret
  exact ⟨rfl, rfl⟩
/-- the rule on Clone -/
theorem X0_ok : ∀ f args r, X0 f args = some r → CallOk Try.prog f args r := by
  intro f args r h
  have hmo : Try.prog.follows .mixedOrders = true := by kernel_rfl
  unfold X0 at h
  cases hf : clones.contains f with
  | false => rw [hf] at h; cases h
  | true =>
    rw [hf, cond_true] at h
    have hf' : f = 48 := by simpa [clones] using hf
    subst hf'
    split at h
    case h_2 => cases h
    injection h with h
    subst h
    have c2 : CallOk Try.prog 48 [.c .ne] (.row 0 0, [.row []]) := Call_sound Try.prog lv (fun _ _ => none) hmo (fun _ _ _ h => by cases h) (Call_fuel (n := 30) (by kernel_rfl))
    refine ⟨c2.1, c2.2.1, fun w Z Y cargs hZ hY hs hr => ?_⟩
    have hs1 : cargs.size = 1 := hs
    obtain ⟨u, hu⟩ : ∃ u, cargs[0]? = some u := ⟨cargs[0]'(by omega), Array.getElem?_eq_getElem _⟩
    have r0 := hr 0 u _ hu rfl
    cases r0 with
    | c r0 =>
    have one : ∀ y : C, RepC Z u y → ∀ (i : Nat) u' x, cargs[i]? = some u' → [V.c y][i]? = some x → Rep Z Y noM u' x := by
      intro y hy i u' x h1 h2
      cases i with
      | zero =>
        rw [hu] at h1
        injection h1 with h1; subst h1
        simp at h2; subst h2
        exact .c hy
      | succ i => simp at h2
    cases r0 with
    | sl A n c k b off U es hl hc hm hk hA hz hr' hN =>
      have hl' : n = 0 := by simpa using hl.symm
      subst hl'
      cases A with
      | none =>
        have := hN rfl
        subst this
        obtain rfl : cargs = #[.slice none 0 0] := by
          apply Array.ext (by simpa using hs1)
          intro i h1 h2
          have : i = 0 := by simp at h2; omega
          subst this
          rw [Array.getElem?_eq_getElem h1] at hu
          injection hu
        refine (clone_nil w).mono fun e w' => ?_
        rintro ⟨rfl, rfl⟩
        refine ⟨_, Z, fun i => if i = 0 then some (.slice none 0 0) else none, rfl, ZUp.refl, ⟨Bel.refl _, hZ, (fun _ _ _ h => by cases h), ?_, ?_, ?_⟩, .row 0 0 none 0 (by simp) (by simp), ?_⟩
        · intro id cs h
          cases id <;> simp at h
        · intro id es h
          cases id with
          | zero => simp at h; subst h; exact .inl ⟨by simp, rfl⟩
          | succ id => simp at h
        · intro id id' g _ _ h
          unfold blkOf at h
          by_cases h0 : id = 0 <;> simp [h0] at h
        · intro i h
          by_cases h0 : i = 0
          · subst h0; simp
          · simp [h0] at h
      | some a => exact c2.2.2 w Z Y cargs hZ hY hs (one .ne (.ne a c hm))

/-- memory at the call -/
def Zw (w : World) : ZMap := fun b o => w.cell? ⟨b, o, none⟩
theorem law_calls {f : FuncId} {args : List V} {cargs : Array Value} {W : World} (hC : Call Try.prog lv X0 f args = some (.c (.bool true), [])) (hsz : cargs.size = args.length)
    (hrep : ∀ (i : Nat) u x, cargs[i]? = some u → args[i]? = some x → Rep (Zw W) (fun _ _ => none) noM u x) : Calls Try.prog f cargs W fun e W' => e = .returned (.bool true) ∧ Bel W W' := by
  have ok := Call_sound Try.prog lv X0 (by kernel_rfl) X0_ok hC
  refine (ok.2.2 W (Zw W) (fun _ _ => none) cargs (fun _ _ _ h => h) (fun _ _ _ h => by cases h) hsz hrep).mono fun e W' => ?_
  rintro ⟨cv, Z', m', rfl, _, R, r, _⟩
  cases r with
  | c r =>
  cases r
  exact ⟨rfl, R.bel⟩

/-- cells and what they stand for -/
def RepL (Z : ZMap) : List Value → List C → Prop
  | [], [] => True
  | u :: us, x :: xs => RepC Z u x ∧ RepL Z us xs
  | _, _ => False
theorem RepL.len {Z : ZMap} : ∀ {us : List Value} {xs : List C}, RepL Z us xs → us.length = xs.length
  | [], [], _ => rfl
  | u :: us, x :: xs, h => by simp [RepL.len h.2]
  | [], _ :: _, h => h.elim
  | _ :: _, [], h => h.elim
theorem RepL.get {Z : ZMap} : ∀ {us : List Value} {xs : List C}, RepL Z us xs → ∀ (i : Nat) u x, us[i]? = some u → xs[i]? = some x → RepC Z u x
  | [], [], _, i, u, x, h, _ => by simp at h
  | u :: us, x :: xs, h, i, u', x', h1, h2 => by
    cases i with
    | zero => simp at h1 h2; subst h1 h2; exact h.1
    | succ i => simp at h1 h2; exact RepL.get h.2 i u' x' h1 h2
  | [], _ :: _, h, _, _, _, _, _ => h.elim
  | _ :: _, [], h, _, _, _, _, _ => h.elim
theorem RepL.agg {Z Y : ZMap} {m : Nat → Option Value} {us : List Value} {xs : List C} (h : RepL Z us xs) : Rep Z Y m (.agg us.toArray) (.agg (xs.map .c)) := by
  refine .agg _ _ (by simp [h.len]) ?_ ?_
  · intro u hu
    obtain ⟨i, hi, rfl⟩ := List.getElem_of_mem (by simpa using hu)
    have hx : i < xs.length := by rw [← h.len]; exact hi
    exact (h.get i _ _ (List.getElem?_eq_getElem hi) (List.getElem?_eq_getElem hx)).one
  · intro i u x hu hx
    rw [List.getElem?_map] at hx
    cases hy : xs[i]? with
    | none => rw [hy] at hx; cases hx
    | some y =>
      rw [hy] at hx
      injection hx with hx; subst hx
      exact .c (h.get i u y (by simpa using hu) hy)
theorem flatten_get {α : Type} {k : Nat} : ∀ {css : List (List α)}, (∀ cs ∈ css, cs.length = k) → ∀ (i j : Nat) cs, css[i]? = some cs → j < k → css.flatten[i * k + j]? = cs[j]?
  | [], _, i, j, cs, h, _ => by simp at h
  | c :: css, hk, i, j, cs, h, hj => by
    have hc : c.length = k := hk c (by simp)
    cases i with
    | zero =>
      simp at h; subst h
      rw [List.flatten_cons, List.getElem?_append_left (by omega)]
      simp
    | succ i =>
      simp at h
      rw [List.flatten_cons, List.getElem?_append_right (by rw [hc, Nat.add_mul]; omega), ← flatten_get (fun d hd => hk d (by simp [hd])) i j cs h hj]
      congr 1
      rw [hc, Nat.add_mul]; omega
theorem rd_rep {w : World} {k n c : Nat} {A : Option Addr} {css : List (List Value)} {es : List (List C)} (hr : Rd w k A n c css.flatten) (hn : css.length = n) (hN : A = none → c = 0) (hk : 0 < k) (hcs : ∀ cs ∈ css, cs.length = k) (hl : es.length = css.length)
    (he : ∀ (i : Nat) cs e, css[i]? = some cs → es[i]? = some e → RepL (Zw w) cs e) : RepC (Zw w) (.slice A n c) (.sl es) := by
  have helen : ∀ e ∈ es, e.length = k := fun e hm => by
    obtain ⟨i, hi, rfl⟩ := List.getElem_of_mem hm
    have hx : i < css.length := by omega
    rw [← (he i _ _ (List.getElem?_eq_getElem hx) (List.getElem?_eq_getElem hi)).len]
    exact hcs _ (List.getElem_mem hx)
  by_cases h0 : es = []
  · subst h0
    have : n = 0 := by rw [← hn, ← hl]; rfl
    exact .sl A n c k 0 0 (fun _ => .nilFunc) [] (by simp [this]) hr.le hr.2.2.1 (by simp) (by simp) (by simp) (by simp) hN
  · have hn0 : 0 < n * k := by
      have : 0 < es.length := List.length_pos_iff.2 h0
      exact Nat.mul_pos (by omega) hk
    obtain ⟨b, off, hA, _, hcell⟩ := hr.place hn0
    have hget : ∀ (i : Nat) (e : List C) (j : Nat) (x : C), es[i]? = some e → e[j]? = some x → ∃ u, css.flatten[i * k + j]? = some u ∧ RepC (Zw w) u x := by
      intro i e j x h1 h2
      have hi : i < css.length := by
        have := (List.getElem?_eq_some_iff.1 h1).1
        omega
      have hj : j < k := by
        rw [← helen e (List.mem_of_getElem? h1)]
        exact (List.getElem?_eq_some_iff.1 h2).1
      have hcl := hcs _ (List.getElem_mem hi)
      have hu : css[i][j]? = some (css[i][j]'(by omega)) := List.getElem?_eq_getElem _
      exact ⟨_, by rw [flatten_get hcs i j css[i] (List.getElem?_eq_getElem hi) hj, hu], (he i _ e (List.getElem?_eq_getElem hi) h1).get j _ x hu h2⟩
    refine .sl A n c k b off (fun j => (css.flatten[j]?).getD .nilFunc) es (by omega) hr.le hr.2.2.1 helen (fun _ => hA) ?_ ?_ hN
    · intro i e j x h1 h2
      obtain ⟨u, hu, _⟩ := hget i e j x h1 h2
      simp only [hu, Option.getD_some]
      exact hcell _ _ hu
    · intro i e j x h1 h2
      obtain ⟨u, hu, hr'⟩ := hget i e j x h1 h2
      simp only [hu, Option.getD_some]
      exact hr'
theorem nil_cap {H : Type} {enc : TypeId × Value → H} {P : Program} {w : World} {base : Nat} {spare : Nat → Bool} {held : Bool} {t e : TypeId} {fuel n c : Nat} {A : Option Addr} {x : DataW H × List MemPlace} (ht : P.underlying t = some (.slice e))
    (h : DataW.trod enc P w base spare held fuel t [.slice A n c] = some x) : A = none → c = 0 := by
  intro hA
  subst hA
  rcases open_slice ht h with ⟨hcs, _⟩ | ⟨a, len, cap, m, n', D, Pl, hcs, _⟩
  · injection hcs with hcs
    injection hcs
  · injection hcs with hcs
    injection hcs with h1
    cases h1
/-- a list's elements, each of a kind -/
theorem rows_rep {H : Type} {enc : TypeId × Value → H} {w : World} {t e : TypeId} {k fuel : Nat} {v : Value} {x : DataW H × List MemPlace} {τ : Type} (E : EC τ) (ht : Try.prog.underlying t = some (.slice e)) (hC : Try.prog.cellsOf e = k) (hk : 0 < k)
    (hE : ∀ fuel cs y, DataW.trod enc Try.prog w 0 (fun _ => true) true fuel e cs = some y → ∃ a : τ, RepL (Zw w) cs (E.enc a))
    (h : DataW.trod enc Try.prog w 0 (fun _ => true) true fuel t [v] = some x) : ∃ l : List τ, RepC (Zw w) v (.sl (E.encL l)) := by
  obtain ⟨A, n, c, css, hv, hr, hn, hcs⟩ := open_rows ht hC hk (fun fuel cs y hy u hu => by
    obtain ⟨a, ha⟩ := hE fuel cs y hy
    obtain ⟨i, hi, rfl⟩ := List.getElem_of_mem hu
    have hx : i < (E.enc a).length := by rw [← ha.len]; exact hi
    exact (ha.get i _ _ (List.getElem?_eq_getElem hi) (List.getElem?_eq_getElem hx)).one) h
  subst hv
  haveI : Inhabited τ := ⟨E.dec []⟩
  obtain ⟨F, hF⟩ := choose_lt (α := τ) (n := css.length) (p := fun i a => ∀ cs, css[i]? = some cs → RepL (Zw w) cs (E.enc a)) (fun i hi => by
    obtain ⟨_, fuel, y, hy⟩ := hcs _ (List.getElem_mem hi)
    obtain ⟨a, ha⟩ := hE fuel _ y hy
    exact ⟨a, fun cs h => by rw [List.getElem?_eq_getElem hi] at h; injection h with h; subst h; exact ha⟩)
  refine ⟨(List.range css.length).map F, rd_rep hr hn (nil_cap ht h) hk (fun cs hc => (hcs cs hc).1) (by simp [EC.encL]) ?_⟩
  intro i cs e h1 h2
  have hi : i < css.length := (List.getElem?_eq_some_iff.1 h1).1
  rw [EC.encL, List.getElem?_map, List.getElem?_map, List.getElem?_range hi] at h2
  simp only [Option.map_some, Option.some.injEq] at h2
  subst h2
  exact hF i hi cs h1

set_option maxRecDepth 100000 in
theorem open_per {H : Type} {enc : TypeId × Value → H} {w : World} {fuel : Nat} {cs : List Value} {y : DataW H × List MemPlace} (h : DataW.trod enc Try.prog w 0 (fun _ => true) true fuel 38 cs = some y) : ∃ f t, cs = [.int .i64 f, .int .i64 t] := by
  obtain ⟨hl, n, hf⟩ := trod_field Try.underlying38 h
  obtain ⟨y0, h0⟩ := hf 0 _ rfl
  obtain ⟨y1, h1⟩ := hf 1 _ rfl
  obtain ⟨a0, e0, _, _⟩ := DataW.trod_int Try.underlying3 h0
  obtain ⟨a1, e1, _, _⟩ := DataW.trod_int Try.underlying3 h1
  have hc : Try.prog.cellsOf 38 = 2 := by kernel_rfl
  have c3 : Try.prog.cellsOf 3 = 1 := by kernel_rfl
  rw [hc] at hl
  match cs, hl with
  | [u0, u1], _ =>
    simp [c3] at e0 e1
    subst e0 e1
    exact ⟨a0, a1, rfl⟩

set_option maxRecDepth 100000 in
theorem open_guest {H : Type} {enc : TypeId × Value → H} {w : World} {fuel : Nat} {cs : List Value} {y : DataW H × List MemPlace} (h : DataW.trod enc Try.prog w 0 (fun _ => true) true fuel 48 cs = some y) : ∃ g : S48, RepL (Zw w) cs (ec_48.enc g) := by
  obtain ⟨hl, n, hf⟩ := trod_field Try.underlying48 h
  obtain ⟨y0, h0⟩ := hf 0 _ rfl
  obtain ⟨y1, h1⟩ := hf 1 _ rfl
  obtain ⟨y2, h2⟩ := hf 2 _ rfl
  obtain ⟨a0, e0, _, _⟩ := DataW.trod_string Try.underlying9 h0
  obtain ⟨a1, e1, _, _⟩ := DataW.trod_int Try.underlying3 h1
  obtain ⟨f, t, e2⟩ := open_per h2
  have hc : Try.prog.cellsOf 48 = 4 := by kernel_rfl
  have c3 : Try.prog.cellsOf 3 = 1 := by kernel_rfl
  have c9 : Try.prog.cellsOf 9 = 1 := by kernel_rfl
  have c2 : Try.prog.cellsOf 38 = 2 := by kernel_rfl
  rw [hc] at hl
  match cs, hl with
  | [u0, u1, u2, u3], _ =>
    simp [c9] at e0
    simp [c3] at e1
    simp [c2] at e2
    obtain ⟨rfl, rfl⟩ := e2
    subst e0 e1
    exact ⟨⟨a0, a1, f, t⟩, .str _, .int _ _, .int _ _, .int _ _, trivial⟩

set_option maxRecDepth 100000 in
theorem open_meet {H : Type} {enc : TypeId × Value → H} {w : World} {base : Nat} {r : Reach} {v : Value} {d : DataW H} {p : List MemPlace} (hv : Value.okWide Try.prog w r base 40 v) (h : DataW.Trod enc Try.prog w 0 (fun _ => true) true 40 v d p) :
    ∃ (o : ByteArray) (l : List S48) (r f t : Int) (c : Bool), Rep (Zw w) (fun _ _ => none) noM v (.agg [.c (.str o), .c (.sl (ec_48.encL l)), .c (.int .i64 r), .c (.int .i64 f), .c (.int .i64 t), .c (.bool c)]) ∧ l.length ≤ 9223372036854775807 := by
  obtain ⟨cs, rfl, hsz⟩ := okWide_struct Try.underlying40 hv
  obtain ⟨fuel, h⟩ := h
  obtain ⟨hl, n, hf⟩ := trod_field Try.underlying40 h
  obtain ⟨y0, h0⟩ := hf 0 _ rfl
  obtain ⟨y1, h1⟩ := hf 1 _ rfl
  obtain ⟨y2, h2⟩ := hf 2 _ rfl
  obtain ⟨y3, h3⟩ := hf 3 _ rfl
  obtain ⟨y4, h4⟩ := hf 4 _ rfl
  obtain ⟨a0, e0, _, _⟩ := DataW.trod_string Try.underlying9 h0
  obtain ⟨a2, e2, _, _⟩ := DataW.trod_int Try.underlying3 h2
  obtain ⟨f, t, e3⟩ := open_per h3
  obtain ⟨b4, e4, _⟩ := DataW.trod_bool Try.underlying4 h4
  have hc : Try.prog.cellsOf 40 = 6 := by kernel_rfl
  have c3 : Try.prog.cellsOf 3 = 1 := by kernel_rfl
  have c9 : Try.prog.cellsOf 9 = 1 := by kernel_rfl
  have c2 : Try.prog.cellsOf 38 = 2 := by kernel_rfl
  have c4 : Try.prog.cellsOf 4 = 1 := by kernel_rfl
  have c36 : Try.prog.cellsOf 36 = 1 := by kernel_rfl
  rw [hc] at hl
  obtain ⟨l⟩ := cs
  match l, hl with
  | [u0, u1, u2, u3, u4, u5], _ =>
    simp [Value.cells, c9] at e0
    simp [Value.cells, c3] at e2
    simp [Value.cells, c2] at e3
    simp [Value.cells, c4] at e4
    simp [Value.cells, c36] at h1
    obtain ⟨l, hr⟩ := rows_rep (k := 4) ec_48 Try.underlying36 (by kernel_rfl) (by decide) (fun _ _ _ hy => open_guest hy) h1
    obtain ⟨rfl, rfl⟩ := e3
    subst e0 e2 e4
    refine ⟨a0, l, a2, f, t, b4, RepL.agg (us := [.string a0, u1, .int .i64 a2, .int .i64 f, .int .i64 t, .bool b4]) (xs := [.str a0, .sl (ec_48.encL l), .int .i64 a2, .int .i64 f, .int .i64 t, .bool b4]) ⟨.str _, hr, .int _ _, .int _ _, .int _ _, .bool _, trivial⟩, ?_⟩
    cases hr with
    | sl A n c k b off U es hl hc hm hk hA hz hr' hN =>
      rw [EC.encL_length] at hl
      unfold maxLen at hm
      omega
set_option maxRecDepth 100000 in
theorem open_perV {H : Type} {enc : TypeId × Value → H} {w : World} {base : Nat} {r : Reach} {v : Value} {d : DataW H} {p : List MemPlace} (hv : Value.okWide Try.prog w r base 38 v) (h : DataW.Trod enc Try.prog w 0 (fun _ => true) true 38 v d p) :
    ∃ f t, Rep (Zw w) (fun _ _ => none) noM v (.agg [.c (.int .i64 f), .c (.int .i64 t)]) := by
  obtain ⟨cs, rfl, hsz⟩ := okWide_struct Try.underlying38 hv
  obtain ⟨fuel, h⟩ := h
  obtain ⟨f, t, e⟩ := open_per h
  obtain ⟨l⟩ := cs
  simp [Value.cells] at e
  subst e
  exact ⟨f, t, RepL.agg (us := [.int .i64 f, .int .i64 t]) (xs := [.int .i64 f, .int .i64 t]) ⟨.int _ _, .int _ _, trivial⟩⟩
end Go.Proofs.Ytgmjhnijnpfkgaa
