/- A script that the caller hands in, opened; what its bulk bounds. -/
import Derived.Test.YtokahibbkdbndaaQC
import Derived.Test.YtokahibbkdbndaaR0
import Derived.Test.YtokahibbkdbndaaRows
namespace Go.Proofs.Ytokahibbkdbndaa
open Go.ChangeShapes Go.WideShapes Go.ChangeAt Go.RowKit Go.Deep

theorem bulk_pos {H : Type} (d : DataW H) : 1 ≤ Rows.uptoBulk d := by
  cases d with
  | lit l => cases l <;> simp [Rows.uptoBulk]
  | nil => simp [Rows.uptoBulk]
  | ptr d => simp [Rows.uptoBulk]
  | slice elems spare => simp [Rows.uptoBulk]
  | agg parts => simp [Rows.uptoBulk]
  | iface t d => simp [Rows.uptoBulk]
  | map entries => simp [Rows.uptoBulk]
  | held h => simp [Rows.uptoBulk]
theorem bulk_len {H : Type} : ∀ l : List (DataW H), l.length ≤ Rows.uptoBulkAll l
  | [] => by simp
  | x :: r => by have := bulk_pos x; have := bulk_len r; simp only [Rows.uptoBulkAll, List.length_cons]; omega
theorem bulk_mem {H : Type} {d : DataW H} : ∀ {l : List (DataW H)}, d ∈ l → Rows.uptoBulk d ≤ Rows.uptoBulkAll l
  | x :: r, h => by
    simp only [Rows.uptoBulkAll]
    rcases List.mem_cons.1 h with rfl | h
    · omega
    · have := bulk_mem h; omega
theorem bulk_small {H : Type} {l : List (DataW H)} (hk : Rows.uptoSmall H l = true) : Rows.uptoBulkAll l ≤ 1048576 := of_decide_eq_true hk
/-- memory at the call -/
def Zw (w : World) : ZMap := fun b o => w.cell? ⟨b, o, none⟩
/-- cells and what they stand for -/
def RepL (Z : ZMap) : List Value → List C → Prop
  | [], [] => True
  | u :: us, x :: xs => RepC Z u x ∧ RepL Z us xs
  | _, _ => False
theorem RepL.len {Z : ZMap} : ∀ {us : List Value} {xs : List C}, RepL Z us xs → us.length = xs.length
  | [], [], _ => rfl
  | u :: us, x :: xs, h => by simp [RepL.len h.2]
  | [], _ :: _, h => h.elim
  | _ :: _, [], h => h.elim
theorem RepL.get {Z : ZMap} : ∀ {us : List Value} {xs : List C}, RepL Z us xs → ∀ (i : Nat) u x, us[i]? = some u → xs[i]? = some x → RepC Z u x
  | [], [], _, i, u, x, h, _ => by simp at h
  | u :: us, x :: xs, h, i, u', x', h1, h2 => by
    cases i with
    | zero => simp at h1 h2; subst h1 h2; exact h.1
    | succ i => simp at h1 h2; exact RepL.get h.2 i u' x' h1 h2
  | [], _ :: _, h, _, _, _, _, _ => h.elim
  | _ :: _, [], h, _, _, _, _, _ => h.elim
theorem RepL.agg {Z Y : ZMap} {m : Nat → Option Value} {us : List Value} {xs : List C} (h : RepL Z us xs) : Rep Z Y m (.agg us.toArray) (.agg (xs.map .c)) := by
  refine .agg _ _ (by simp [h.len]) ?_ ?_
  · intro u hu
    obtain ⟨i, hi, rfl⟩ := List.getElem_of_mem (by simpa using hu)
    have hx : i < xs.length := by rw [← h.len]; exact hi
    exact (h.get i _ _ (List.getElem?_eq_getElem hi) (List.getElem?_eq_getElem hx)).one
  · intro i u x hu hx
    rw [List.getElem?_map] at hx
    cases hy : xs[i]? with
    | none => rw [hy] at hx; cases hx
    | some y =>
      rw [hy] at hx
      injection hx with hx; subst hx
      exact .c (h.get i u y (by simpa using hu) hy)
theorem flatten_get {α : Type} {k : Nat} : ∀ {css : List (List α)}, (∀ cs ∈ css, cs.length = k) → ∀ (i j : Nat) cs, css[i]? = some cs → j < k → css.flatten[i * k + j]? = cs[j]?
  | [], _, i, j, cs, h, _ => by simp at h
  | c :: css, hk, i, j, cs, h, hj => by
    have hc : c.length = k := hk c (by simp)
    cases i with
    | zero =>
      simp at h; subst h
      rw [List.flatten_cons, List.getElem?_append_left (by omega)]
      simp
    | succ i =>
      simp at h
      rw [List.flatten_cons, List.getElem?_append_right (by rw [hc, Nat.add_mul]; omega), ← flatten_get (fun d hd => hk d (by simp [hd])) i j cs h hj]
      congr 1
      rw [hc, Nat.add_mul]; omega
theorem rd_rep {w : World} {k n c : Nat} {A : Option Addr} {css : List (List Value)} {es : List (List C)} (hr : Rd w k A n c css.flatten) (hn : css.length = n) (hN : A = none → c = 0) (hk : 0 < k) (hcs : ∀ cs ∈ css, cs.length = k) (hl : es.length = css.length)
    (he : ∀ (i : Nat) cs e, css[i]? = some cs → es[i]? = some e → RepL (Zw w) cs e) : RepC (Zw w) (.slice A n c) (.sl es) := by
  have helen : ∀ e ∈ es, e.length = k := fun e hm => by
    obtain ⟨i, hi, rfl⟩ := List.getElem_of_mem hm
    have hx : i < css.length := by omega
    rw [← (he i _ _ (List.getElem?_eq_getElem hx) (List.getElem?_eq_getElem hi)).len]
    exact hcs _ (List.getElem_mem hx)
  by_cases h0 : es = []
  · subst h0
    have : n = 0 := by rw [← hn, ← hl]; rfl
    exact .sl A n c k 0 0 (fun _ => .nilFunc) [] (by simp [this]) hr.le hr.2.2.1 (by simp) (by simp) (by simp) (by simp) hN
  · have hn0 : 0 < n * k := by
      have : 0 < es.length := List.length_pos_iff.2 h0
      exact Nat.mul_pos (by omega) hk
    obtain ⟨b, off, hA, _, hcell⟩ := hr.place hn0
    have hget : ∀ (i : Nat) (e : List C) (j : Nat) (x : C), es[i]? = some e → e[j]? = some x → ∃ u, css.flatten[i * k + j]? = some u ∧ RepC (Zw w) u x := by
      intro i e j x h1 h2
      have hi : i < css.length := by
        have := (List.getElem?_eq_some_iff.1 h1).1
        omega
      have hj : j < k := by
        rw [← helen e (List.mem_of_getElem? h1)]
        exact (List.getElem?_eq_some_iff.1 h2).1
      have hcl := hcs _ (List.getElem_mem hi)
      have hu : css[i][j]? = some (css[i][j]'(by omega)) := List.getElem?_eq_getElem _
      exact ⟨_, by rw [flatten_get hcs i j css[i] (List.getElem?_eq_getElem hi) hj, hu], (he i _ e (List.getElem?_eq_getElem hi) h1).get j _ x hu h2⟩
    refine .sl A n c k b off (fun j => (css.flatten[j]?).getD .nilFunc) es (by omega) hr.le hr.2.2.1 helen (fun _ => hA) ?_ ?_ hN
    · intro i e j x h1 h2
      obtain ⟨u, hu, _⟩ := hget i e j x h1 h2
      simp only [hu, Option.getD_some]
      exact hcell _ _ hu
    · intro i e j x h1 h2
      obtain ⟨u, hu, hr'⟩ := hget i e j x h1 h2
      simp only [hu, Option.getD_some]
      exact hr'
theorem nil_cap {H : Type} {enc : TypeId × Value → H} {P : Program} {w : World} {base : Nat} {spare : Nat → Bool} {held : Bool} {t e : TypeId} {fuel n c : Nat} {A : Option Addr} {x : DataW H × List MemPlace} (ht : P.underlying t = some (.slice e))
    (h : DataW.trod enc P w base spare held fuel t [.slice A n c] = some x) : A = none → c = 0 := by
  intro hA
  subst hA
  rcases open_slice ht h with ⟨hcs, _⟩ | ⟨a, len, cap, m, n', D, Pl, hcs, _⟩
  · injection hcs with hcs
    injection hcs
  · injection hcs with hcs
    injection hcs with h1
    cases h1
section
variable {H : Type} {enc : TypeId × Value → H} {P : Program}
/-- the rows of a slice's elements -/
theorem open_rowsI {w : World} {base : Nat} {spare : Nat → Bool} {held : Bool} {t e : TypeId} {k fuel : Nat} {v : Value} {x : DataW H × List MemPlace} (ht : P.underlying t = some (.slice e)) (hC : P.cellsOf e = k) (hk : 0 < k)
    (h : DataW.trod enc P w base spare held fuel t [v] = some x) (hone : ∀ fuel cs y, Rows.uptoBulk y.1 < Rows.uptoBulk x.1 → DataW.trod enc P w base spare held fuel e cs = some y → ∀ u ∈ cs, u.oneCell' = true) :
    ∃ A n c css ds, v = .slice A n c ∧ Rd w k A n c (List.flatten css) ∧ css.length = n ∧ ds.length = n ∧ Rows.uptoBulkAll ds + 1 ≤ Rows.uptoBulk x.1 ∧ ∀ (i : Nat) cs d, css[i]? = some cs → ds[i]? = some d → cs.length = k ∧ ∃ fuel pl, DataW.trod enc P w base spare held fuel e cs = some (d, pl) := by
  rcases open_slice ht h with ⟨hcs, _⟩ | ⟨a, len, cap, m, n, D, Pl, hcs, _, hl, hm, hmm, hxx, hi⟩
  · injection hcs with hcs
    exact ⟨none, 0, 0, [], [], hcs, Rd.nil, rfl, rfl, by have := bulk_pos x.1; simp only [Rows.uptoBulkAll]; omega, by simp⟩
  · injection hcs with hcs
    have hlm : len ≤ m := by rw [hmm]; split <;> omega
    have hsum : Rows.uptoBulkAll ((List.range len).map D) + 1 ≤ Rows.uptoBulk x.1 := by rw [hxx]; simp only [Rows.uptoBulk]; omega
    have hDb : ∀ i, i < len → Rows.uptoBulk (D i) < Rows.uptoBulk x.1 := fun i hi' => by
      have := bulk_mem (List.mem_map.2 ⟨i, List.mem_range.2 hi', rfl⟩ : D i ∈ (List.range len).map D)
      omega
    have hex : ∀ i, i < len → ∃ cs', w.cells? base (a.add (i * k)) k = some cs' ∧ DataW.trod enc P w base spare held n e cs' = some (D i, Pl i) := fun i hi' => by
      have := hi i (by omega)
      rwa [hC] at this
    obtain ⟨C, hCC⟩ := choose_lt (α := List Value) (p := fun i cs' => w.cells? base (a.add (i * k)) k = some cs' ∧ DataW.trod enc P w base spare held n e cs' = some (D i, Pl i)) hex
    have hlen : ∀ i, i < len → (C i).length = k := fun i hi' => (World.cells?_some (hCC i hi').1).2.1
    have hcell : ∀ i, i < len → ∀ j, j < k → w.cell? (a.add (i * k + j)) = (C i)[j]? := fun i hi' j hj => by
      have := (World.cells?_some (hCC i hi').1).2.2 j hj
      rwa [Go.Deep.add_add] at this
    have hfl : ∀ m', m' ≤ len → (((List.range m').map C).flatten).length = m' * k := by
      intro m' hm'
      induction m' with
      | zero => simp
      | succ m' ih =>
        rw [List.range_succ, List.map_append, List.flatten_append, List.length_append, ih (by omega)]
        simp [hlen m' (by omega), Nat.add_mul]
    have hget : ∀ m', m' ≤ len → ∀ i j, i < m' → j < k → (((List.range m').map C).flatten)[i * k + j]? = (C i)[j]? := by
      intro m' hm'
      induction m' with
      | zero => intro i j hi'; omega
      | succ m' ih =>
        intro i j hi' hj
        rw [List.range_succ, List.map_append, List.flatten_append]
        rcases Nat.lt_or_ge i m' with h' | h'
        · rw [List.getElem?_append_left (by
            rw [hfl m' (by omega)]
            have : (i + 1) * k ≤ m' * k := Nat.mul_le_mul_right k h'
            rw [Nat.add_mul] at this
            omega)]
          exact ih (by omega) i j h' hj
        · have : i = m' := by omega
          subst this
          rw [List.getElem?_append_right (by rw [hfl i (by omega)]; omega), hfl i (by omega)]
          simp
    refine ⟨some a, len, cap, (List.range len).map C, (List.range len).map D, hcs, ⟨by rw [hfl len (Nat.le_refl _)], hl, hm, ?_, ?_⟩, by simp, by simp, hsum, ?_⟩
    · intro u hu
      obtain ⟨cs, hcs', hu'⟩ := List.mem_flatten.1 hu
      obtain ⟨i, hi', rfl⟩ := List.mem_map.1 hcs'
      exact hone n _ _ (hDb i (by simpa using hi')) (hCC i (by simpa using hi')).2 u hu'
    · intro hpos
      have hl0 : 0 < len := Nat.pos_of_mul_pos_right hpos
      have h00 := hcell 0 hl0 0 hk
      have hc0 : (C 0)[0]? = some ((C 0)[0]'(by rw [hlen 0 hl0]; exact hk)) := List.getElem?_eq_getElem _
      rw [hc0] at h00
      have hadd : (a.add (0 * k + 0)) = a := by simp [Addr.add]
      rw [hadd] at h00
      obtain ⟨b, off, spot⟩ := a
      have hsp : spot = none := by
        cases spot with
        | none => rfl
        | some s =>
          unfold World.cell? at h00
          split at h00 <;> simp at h00
      subst hsp
      refine ⟨b, off, rfl, ?_, ?_⟩
      · rcases Nat.lt_or_ge b w.heap.size with hlt | hge
        · exact hlt
        · unfold World.cell? at h00
          rw [Array.getElem?_eq_none hge] at h00
          cases h00
      · intro j u hu
        have hjl : j < len * k := by
          rw [← hfl len (Nat.le_refl _)]
          rcases Nat.lt_or_ge j ((List.range len).map C).flatten.length with h' | h'
          · exact h'
          · rw [List.getElem?_eq_none h'] at hu; cases hu
        have hdm : j / k * k + j % k = j := by rw [Nat.mul_comm]; exact Nat.div_add_mod j k
        have hdl : j / k < len := (Nat.div_lt_iff_lt_mul hk).2 hjl
        have h1 := hcell (j / k) hdl (j % k) (Nat.mod_lt _ hk)
        have h2 := hget len (Nat.le_refl _) (j / k) (j % k) hdl (Nat.mod_lt _ hk)
        rw [hdm] at h1 h2
        rw [h2] at hu
        rw [hu] at h1
        rw [← h1]
        unfold Addr.add
        split
        · rename_i h0; subst h0; rfl
        · rfl
    · intro i cs d h1 h2
      have hi' : i < len := by
        have := (List.getElem?_eq_some_iff.1 h1).1
        simpa using this
      rw [List.getElem?_map, List.getElem?_range hi'] at h1 h2
      simp only [Option.map_some, Option.some.injEq] at h1 h2
      subst h1 h2
      exact ⟨hlen i hi', n, _, (hCC i hi').2⟩

end
/-- two lists, related at each place -/
def All2 {α β : Type} (R : α → β → Prop) : List α → List β → Prop
  | [], [] => True
  | a :: l, b :: m => R a b ∧ All2 R l m
  | _, _ => False
theorem all2_of {α β : Type} {R : α → β → Prop} : ∀ {l : List α} {m : List β}, l.length = m.length → (∀ (i : Nat) a b, l[i]? = some a → m[i]? = some b → R a b) → All2 R l m
  | [], [], _, _ => trivial
  | a :: l, b :: m, h, hR => ⟨hR 0 a b rfl rfl, all2_of (by simpa using h) fun i x y hx hy => hR (i + 1) x y hx hy⟩
  | [], _ :: _, h, _ => by cases h
  | _ :: _, [], h, _ => by cases h
/-- a list's elements, each of a kind -/
theorem rows_repI {H : Type} {enc : TypeId × Value → H} {w : World} {t e : TypeId} {k fuel : Nat} {v : Value} {x : DataW H × List MemPlace} {τ : Type} (E : EC τ) (R : τ → DataW H → Prop) (ht : Try.prog.underlying t = some (.slice e)) (hC : Try.prog.cellsOf e = k) (hk : 0 < k)
    (h : DataW.trod enc Try.prog w 0 (fun _ => true) true fuel t [v] = some x)
    (hE : ∀ fuel cs y, Rows.uptoBulk y.1 < Rows.uptoBulk x.1 → DataW.trod enc Try.prog w 0 (fun _ => true) true fuel e cs = some y → ∃ a : τ, RepL (Zw w) cs (E.enc a) ∧ R a y.1) :
    ∃ (l : List τ) (ds : List (DataW H)), RepC (Zw w) v (.sl (E.encL l)) ∧ Rows.uptoBulkAll ds + 1 ≤ Rows.uptoBulk x.1 ∧ All2 R l ds := by
  obtain ⟨A, n, c, css, ds, hv, hr, hn, hn', hsum, hcs⟩ := open_rowsI ht hC hk h (fun fuel cs y hb hy u hu => by
    obtain ⟨a, ha, _⟩ := hE fuel cs y hb hy
    obtain ⟨i, hi, rfl⟩ := List.getElem_of_mem hu
    have hx : i < (E.enc a).length := by rw [← ha.len]; exact hi
    exact (ha.get i _ _ (List.getElem?_eq_getElem hi) (List.getElem?_eq_getElem hx)).one)
  subst hv
  haveI : Inhabited τ := ⟨E.dec []⟩
  have hall : ∀ i, i < css.length → ∃ a : τ, (∀ cs, css[i]? = some cs → RepL (Zw w) cs (E.enc a)) ∧ (∀ d, ds[i]? = some d → R a d) := fun i hi => by
    have hi' : i < ds.length := by omega
    obtain ⟨_, fuel, pl, hy⟩ := hcs i _ _ (List.getElem?_eq_getElem hi) (List.getElem?_eq_getElem hi')
    have hb := bulk_mem (List.getElem_mem hi')
    obtain ⟨a, ha, hra⟩ := hE fuel _ _ (by show Rows.uptoBulk ds[i] < _; omega) hy
    exact ⟨a, fun cs h => by rw [List.getElem?_eq_getElem hi] at h; injection h with h; subst h; exact ha, fun d h => by rw [List.getElem?_eq_getElem hi'] at h; injection h with h; subst h; exact hra⟩
  obtain ⟨F, hF⟩ := choose_lt (α := τ) (n := css.length) hall
  refine ⟨(List.range css.length).map F, ds, rd_rep hr hn (nil_cap ht h) hk (fun cs hc => by
    obtain ⟨i, hi, rfl⟩ := List.getElem_of_mem hc
    exact (hcs i _ _ (List.getElem?_eq_getElem hi) (List.getElem?_eq_getElem (show i < ds.length by omega))).1) (by simp [EC.encL]) ?_, hsum, all2_of (by simp; omega) ?_⟩
  · intro i cs e h1 h2
    have hi : i < css.length := (List.getElem?_eq_some_iff.1 h1).1
    rw [EC.encL, List.getElem?_map, List.getElem?_map, List.getElem?_range hi] at h2
    simp only [Option.map_some, Option.some.injEq] at h2
    subst h2
    exact (hF i hi).1 cs h1
  · intro i a d h1 h2
    have hi : i < css.length := by have := (List.getElem?_eq_some_iff.1 h1).1; simpa using this
    rw [List.getElem?_map, List.getElem?_range hi] at h1
    simp only [Option.map_some, Option.some.injEq] at h1
    subst h1
    exact (hF i hi).2 d h2
end Go.Proofs.Ytokahibbkdbndaa
