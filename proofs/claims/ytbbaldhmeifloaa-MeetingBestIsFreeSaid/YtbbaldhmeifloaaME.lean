/- Several texts of this proof in one file. -/
import Derived.Test.YtbbaldhmeifloaaGE
import Derived.Test.YtbbaldhmeifloaaGrow
/- slices.Concat at lists of periods. -/
namespace Go.Proofs.Ytbbaldhmeifloaa
open Go.RowKit

/-- how many periods the first lists have -/
def upTo (ls : List (List Pd)) (i : Nat) : Nat := (ls.take i).flatten.length
theorem upTo_succ (ls : List (List Pd)) {i : Nat} (h : i < ls.length) : upTo ls (i + 1) = upTo ls i + ls[i].length := by
  unfold upTo; rw [take_at h, List.flatten_append, List.length_append]; simp only [List.flatten_cons, List.flatten_nil, List.append_nil]
theorem upTo_le (ls : List (List Pd)) {i : Nat} (h : i ≤ ls.length) : upTo ls i ≤ ls.flatten.length := by
  unfold upTo
  conv => rhs; rw [← List.take_append_drop i ls, List.flatten_append, List.length_append]
  omega
/-- a list of lists in memory -/
structure Lists (W : World) (A : Option Addr) (n : Nat) (ls : List (List Pd)) (V : Nat → Value) : Prop where
  len : ls.length = n
  at_ : ∀ i (h : i < ls.length), ∃ b off Ai ci, A = some ⟨b, off, none⟩ ∧ W.cell? ⟨b, off + i, none⟩ = some (V i) ∧ V i = .slice Ai ls[i].length ci ∧
    ((ls[i] = [] ) ∨ ∃ bi oi, Ai = some ⟨bi, oi, none⟩ ∧ ∀ (j : Nat) (x : Pd), ls[i][j]? = some x → W.cell? ⟨bi, oi + j * 2, none⟩ = some (.int .i64 x.From) ∧ W.cell? ⟨bi, oi + (j * 2 + 1), none⟩ = some (.int .i64 x.To))
theorem lists_of {W : World} {Z : ZMap} (hZ : ∀ b o u, Z b o = some u → W.cell? ⟨b, o, none⟩ = some u) {u : Value} {ls : List (List Pd)} (h : RepC Z u (.sl (ec_45.encL ls))) : ∃ A c V, u = .slice A ls.length c ∧ ls.length ≤ c ∧ c ≤ maxLen ∧ (A = none → c = 0) ∧ Lists W A ls.length ls V := by
  cases h with
  | sl A n c k b off U es hl hc hm hk hA hz hr hN =>
    rw [EC.encL_length] at hl
    subst hl
    refine ⟨A, c, fun i => U (i * k + 0), rfl, hc, hm, hN, rfl, fun i hi => ?_⟩
    have he : (ec_45.encL ls)[i]? = some [.sl (ec_58.encL ls[i])] := by rw [EC.encL, List.getElem?_map, List.getElem?_eq_getElem hi]; rfl
    have hne : ec_45.encL ls ≠ [] := by intro e; rw [e] at he; simp at he
    have hk1 : k = 1 := (hk _ (List.mem_of_getElem? he)).symm
    subst hk1
    have hcell := hZ _ _ _ (hz i _ 0 _ he rfl)
    have hrep := hr i _ 0 _ he rfl
    have ha := hA hne
    rw [show i * 1 + 0 = i by omega] at hcell hrep ⊢
    generalize U i = v at hcell hrep
    cases hrep with
    | sl Ai ni ci ki bi oi Ui esi hli hci hmi hki hAi hzi hri hNi =>
      rw [EC.encL_length] at hli
      subst hli
      refine ⟨b, off, Ai, ci, ha, hcell, rfl, ?_⟩
      by_cases h0 : ls[i] = []
      · exact .inl h0
      · right
        have hne : ec_58.encL ls[i] ≠ [] := by intro e; exact h0 (ec_58.encL_inj (by rw [e]; rfl))
        obtain ⟨e0, es0, hes⟩ := List.exists_cons_of_ne_nil hne
        have hk2 : ki = 2 := by
          rw [← hki e0 (by rw [hes]; simp)]
          exact RowP.each e0 (by rw [hes]; simp)
        subst hk2
        refine ⟨bi, oi, hAi hne, fun j x hx => ?_⟩
        have hej : (ec_58.encL ls[i])[j]? = some [.int .i64 x.From, .int .i64 x.To] := by rw [EC.encL, List.getElem?_map, hx]; rfl
        have z0 := hZ _ _ _ (hzi j _ 0 _ hej rfl)
        have z1 := hZ _ _ _ (hzi j _ 1 _ hej rfl)
        have r0 := hri j _ 0 _ hej rfl
        have r1 := hri j _ 1 _ hej rfl
        generalize Ui (j * 2 + 0) = v0 at z0 r0
        generalize Ui (j * 2 + 1) = v1 at z1 r1
        cases r0; cases r1
        exact ⟨z0, z1⟩
/-- a row that grows -/
def Grows (W w : World) (v : Value) (tot : Nat) (l : List Pd) : Prop :=
  (tot = 0 ∧ v = .slice none 0 0 ∧ l = []) ∨ ∃ g c t cur, v = .slice (some ⟨g, 0, none⟩) l.length c ∧ W.heap.size ≤ g ∧ tot ≤ c ∧ c ≤ maxLen ∧ l.length ≤ tot ∧ 0 < tot ∧ w.heap[g]? = some (.cells cur t (0, 0)) ∧ cur.size = c * 2 ∧
    ∀ (i : Nat) (x : Pd), l[i]? = some x → cur[i * 2]? = some (.int .i64 x.From) ∧ cur[i * 2 + 1]? = some (.int .i64 x.To)
theorem fold_in (o : Nat) : ∀ (l : List Value) (i : Nat) (arr : Array Value) (q : Nat), i ≤ q → q < i + l.length → o + q < arr.size → ((l.zipIdx i).foldl (fun (cs : Array Value) (p : Value × Nat) => cs.setIfInBounds (o + p.2) p.1) arr)[o + q]? = l[q - i]?
  | [], i, arr, q, h1, h2, _ => by simp at h2; omega
  | v :: l, i, arr, q, h1, h2, h3 => by
    rw [List.zipIdx_cons, List.foldl_cons]
    by_cases e : q = i
    · subst e
      rw [fold_below o l (q + 1) _ (o + q) (by omega)]
      simp [h3]
    · rw [fold_in o l (i + 1) _ q (by omega) (by simp at h2; omega) (by simp; omega)]
      rw [show q - i = (q - (i + 1)) + 1 by omega, List.getElem?_cons_succ]
def flatP (l : List Pd) : List Value := l.flatMap encP
theorem flatP_length (l : List Pd) : (flatP l).length = l.length * 2 := by
  induction l with
  | nil => rfl
  | cons x l ih =>
    have : flatP (x :: l) = encP x ++ flatP l := rfl
    rw [this, List.length_append, ih]; simp [encP]; omega
theorem flatP_get : ∀ (l : List Pd) (j : Nat) (x : Pd), l[j]? = some x → (flatP l)[j * 2]? = some (.int .i64 x.From) ∧ (flatP l)[j * 2 + 1]? = some (.int .i64 x.To)
  | [], j, x, h => by simp at h
  | y :: l, 0, x, h => by simp at h; subst h; exact ⟨rfl, rfl⟩
  | y :: l, j + 1, x, h => by
    simp at h
    have ih := flatP_get l j x h
    have e : flatP (y :: l) = encP y ++ flatP l := rfl
    rw [e]
    rw [show (j + 1) * 2 = (encP y).length + j * 2 by simp [encP]; omega, show (encP y).length + j * 2 + 1 = (encP y).length + (j * 2 + 1) by omega]
    rw [List.getElem?_append_right (by omega), List.getElem?_append_right (by omega)]
    simp only [Nat.add_sub_cancel_left]
    exact ih
theorem flatP_cell {W : World} {l : List Pd} {bi oi : Nat} (h : ∀ (j : Nat) (x : Pd), l[j]? = some x → W.cell? ⟨bi, oi + j * 2, none⟩ = some (.int .i64 x.From) ∧ W.cell? ⟨bi, oi + (j * 2 + 1), none⟩ = some (.int .i64 x.To)) : ∀ (j : Nat) u, (flatP l)[j]? = some u → W.cell? ⟨bi, oi + j, none⟩ = some u := by
  intro j u hu
  have hj : j < l.length * 2 := by rw [← flatP_length]; exact (List.getElem?_eq_some_iff.1 hu).1
  have hj2 : j / 2 < l.length := by omega
  obtain ⟨c1, c2⟩ := h (j / 2) l[j / 2] (List.getElem?_eq_getElem hj2)
  obtain ⟨f1, f2⟩ := flatP_get l (j / 2) l[j / 2] (List.getElem?_eq_getElem hj2)
  rcases (show j = j / 2 * 2 ∨ j = j / 2 * 2 + 1 by omega) with e | e
  · rw [← e] at c1 f1; rw [f1] at hu; injection hu with hu; rw [c1, hu]
  · rw [← e] at c2 f2; rw [f2] at hu; injection hu with hu; rw [c2, hu]
/-- one list is appended -/
theorem grows_append {W w : World} {v : Value} {tot : Nat} {l xs : List Pd} (h : Grows W w v tot l) (hb : Bel W w) (hroom : l.length + xs.length ≤ tot) {Ai : Option Addr} {ci : Nat}
    (hx : xs = [] ∨ ∃ bi oi, Ai = some ⟨bi, oi, none⟩ ∧ ∀ (j : Nat) (x : Pd), xs[j]? = some x → W.cell? ⟨bi, oi + j * 2, none⟩ = some (.int .i64 x.From) ∧ W.cell? ⟨bi, oi + (j * 2 + 1), none⟩ = some (.int .i64 x.To)) :
    ∃ v' w', (∀ ty, (Builtin.append_ #[45, 45] ty #[v, .slice Ai xs.length ci]).run Try.prog w = .ok v' w') ∧ Bel W w' ∧ Grows W w' v' tot (l ++ xs) := by
  obtain ⟨i0, hi, hi2⟩ : ∃ i0, Try.prog.info? 58 = some i0 ∧ i0.size = 2 := by
    have h := Try.sizeOf58 w
    unfold Go.sizeOf at h
    cases hi : Try.prog.info? 58 with
    | none => simp [typeInfo, hi] at h
    | some i0 =>
      simp [typeInfo, hi] at h
      exact ⟨i0, rfl, h⟩
  have hfirst : (Builtin.firstCells 2 xs.length (.slice Ai xs.length ci)).run Try.prog w = .ok (flatP xs).toArray w := by
    refine run_first (flatP xs) (flatP_length xs) ?_
    rcases hx with rfl | ⟨bi, oi, hA, hc⟩
    · exact .inl ⟨rfl, .inr (by simp)⟩
    · by_cases h0 : xs = []
      · subst h0; exact .inl ⟨rfl, .inr (by simp)⟩
      · right
        refine ⟨bi, oi, hA, fun j u hu => ?_⟩
        have := flatP_cell hc j u hu
        rw [hb.cell _ (cell_lt this)]; exact this
  rw [← hi2] at hfirst
  rcases h with ⟨rfl, rfl, rfl⟩ | ⟨g, c, t, cur, rfl, hg, hc, hm, hle, hp, hv, hs, hcur⟩
  · have : xs = [] := List.eq_nil_of_length_eq_zero (by omega)
    subst this
    exact ⟨.slice none 0 0, w, fun ty => run_apd_room Try.underlying45 Try.underlying45 hi (by simp) hfirst rfl, hb, .inl ⟨rfl, rfl, rfl⟩⟩
  · obtain ⟨w', r1, r2, r3⟩ := run_storeCells (P := Try.prog) (g := g) (o := l.length * 2) (flatP xs) 0 w cur hv (fun u hu => by
      unfold flatP at hu
      obtain ⟨x, _, hu⟩ := List.mem_flatMap.1 hu
      simp [encP] at hu
      rcases hu with rfl | rfl <;> rfl) (by rw [flatP_length, hs]; omega) (by simp)
    refine ⟨.slice (some ⟨g, 0, none⟩) (l.length + xs.length) c, w', fun ty => ?_, Bel.wr hb hg r2, .inr ⟨g, c, t, _, by rw [List.length_append], hg, hc, hm, by rw [List.length_append]; exact hroom, hp, r3, by rw [fold_size, hs], fun i x hx' => ?_⟩⟩
    · refine run_apd_room Try.underlying45 Try.underlying45 hi (by omega) hfirst ?_
      rw [hi2]
      have e : (Addr.add ⟨g, 0, none⟩ (l.length * 2)) = ⟨g, l.length * 2, none⟩ := by unfold Addr.add; split <;> simp_all
      simp only [e]
      exact r1
    · rcases Nat.lt_or_ge i l.length with h1 | h1
      · rw [List.getElem?_append_left h1] at hx'
        rw [fold_below _ _ _ _ _ (by omega), fold_below _ _ _ _ _ (by omega)]
        exact hcur i x hx'
      · rw [List.getElem?_append_right h1] at hx'
        have hi' : i - l.length < xs.length := (List.getElem?_eq_some_iff.1 hx').1
        obtain ⟨f1, f2⟩ := flatP_get xs _ x hx'
        have e1 : i * 2 = l.length * 2 + (i - l.length) * 2 := by omega
        have e2 : i * 2 + 1 = l.length * 2 + ((i - l.length) * 2 + 1) := by omega
        rw [e1, show l.length * 2 + (i - l.length) * 2 + 1 = l.length * 2 + ((i - l.length) * 2 + 1) by omega]
        rw [fold_in _ _ 0 _ _ (by omega) (by rw [flatP_length]; omega) (by rw [hs]; omega), fold_in _ _ 0 _ _ (by omega) (by rw [flatP_length]; omega) (by rw [hs]; omega)]
        exact ⟨f1, f2⟩
end Go.Proofs.Ytbbaldhmeifloaa
/- slices.Concat at lists of periods: the rule is sound. -/
namespace Go.Proofs.Ytbbaldhmeifloaa
open Go.RowKit

theorem perInfo : ∃ i0 z, Try.prog.info? 58 = some i0 ∧ i0.size = 2 ∧ i0.zero = some z ∧ z.cells.size = 2 ∧ i0.bytes = 16 := by
  have h1 := sz58
  have h2 := by58
  have h3 := zo58
  unfold szO at h1
  unfold byO at h2
  unfold zOk at h3
  cases hi : Try.prog.info? 58 with
  | none => rw [hi] at h1; cases h1
  | some i0 =>
    rw [hi] at h1 h2 h3
    simp only [Option.map_some, Option.some.injEq, decide_eq_true_eq] at h1 h2 h3
    cases hz : i0.zero with
    | none => rw [hz] at h3; cases h3
    | some z =>
      rw [hz] at h3
      simp only [Option.map_some, Option.some.injEq] at h3
      exact ⟨i0, z, rfl, h1, hz, by rw [h3, h1], h2⟩
theorem grow_calls {W w : World} (hb : Bel W w) (tot : Nat) (ht : tot ≤ 1000000) : Calls Try.prog 71 #[.slice none 0 0, .int .i64 tot] w fun e w' => ∃ v, e = .returned v ∧ Bel W w' ∧ Grows W w' v tot [] := by
  by_cases h0 : tot = 0
  · subst h0
    refine (Any8.slices_Grow_room growP none 0 0 0 w (by omega) (by omega) (by omega) (by omega)).mono ?_
    rintro e w' ⟨rfl, rfl⟩
    exact ⟨_, rfl, hb, .inl ⟨rfl, rfl, rfl⟩⟩
  · obtain ⟨i0, z, hi, hs, hz, hzs, hby⟩ := perInfo
    refine (Any8.slices_Grow_grow growP i0 z hi hz (by omega) none 0 0 tot [] w (by omega) (by omega) (by rw [hby]; omega) (by omega) (by simp) (fun _ => rfl) (by simp)).mono ?_
    have hge : 0 + tot ≤ grownCap w (0 + tot) 0 58 := grownCap_ge w _ _ _
    have hle := grownCap_le_maxLen w (0 + tot) 0 58 (by unfold maxLen; omega)
    rintro e w' ⟨rfl, rfl⟩
    refine ⟨_, rfl, ?_, .inr ⟨w.heap.size, grownCap w (0 + tot) 0 58, 58, _, rfl, hb.size, by omega, hle, Nat.zero_le _, by omega, heap_alloc_new w.drew _, ?_, by simp⟩⟩
    · exact (Bel.refl w |> hb.trans).drew.alloc _
    · show ((([] : List Value).toArray ++ Builtin.zeroCells z.cells (0 + tot - 0)) ++ Builtin.zeroCells z.cells (grownCap w (0 + tot) 0 58 - (0 + tot))).size = _
      simp only [Array.size_append, zeroCells_size, hzs]
      generalize grownCap w (0 + tot) 0 58 = G at *
      simp
      omega
theorem wpList_append_eq {P : Program} {w w' : World} {ops : Array Oper} {rest : List Oper} {o : Oper} {a : Act} {Q : Exit → Act → World → Prop}
    (hg : o.guard = none) (s x : Operand) (t tx : TypeId) (hop : o.op = Op.call { callee := Callee.builtin Builtin.append, args := #[s, x], argTypes := #[t, tx] })
    {v xv v' : Value} (hs : a.eval s = v) (hx : a.eval x = xv) (hrun : (Builtin.append_ #[t, tx] o.type #[v, xv]).run P w = .ok v' w')
    (hK : wpList P ops Q rest (a.put o.dst v') w') : wpList P ops Q (o :: rest) a w := by
  refine wpList_plain hg fun K hK' => ?_
  unfold Oper.wp
  simp [execOp, hop, resolve, invoke, builtin, hs, hx, hrun, Result.andThen]
  exact hK' _ _ hK
set_option maxHeartbeats 4000000 in
set_option maxRecDepth 1000000 in
theorem cat_walk {W : World} {A : Option Addr} {c : Nat} {ls : List (List Pd)} {V : Nat → Value} (hL : Lists W A ls.length ls V) (hc : ls.length ≤ c) (hm : c ≤ maxLen) (ht : ls.flatten.length ≤ 1000000) :
    Calls Try.prog 52 #[.slice A ls.length c] W fun e w' => ∃ v, e = .returned v ∧ Bel W w' ∧ Grows W w' v ls.flatten.length ls.flatten := by
  have hn : ls.length ≤ 9223372036854775807 := by unfold maxLen at hm; omega
  generalize hN : ls.length = n at *
  have HL : Aside (Lists W A n ls V) := hL
  have HT : Aside (ls.flatten.length ≤ 1000000) := ht
  have HN : Aside (ls.length = n) := hN
  have hup : ∀ i, i ≤ n → upTo ls i ≤ ls.flatten.length := fun i hi => upTo_le ls (by omega)
  have HU : Aside _ := hup
  clear hL ht hN hup hm
  go_enter Try.func52, Try.ntmps52
  go_wp2
  go_loopg [3, 11] n (fun gg s3 s11 wr => ∃ i : Nat, s3 = .int .i64 (upTo ls i : Nat) ∧ s11 = .int .i64 (i : Nat) ∧ i ≤ n ∧ n - i ≤ gg ∧ wr = W)
  case atStart => exact ⟨0, by simp [upTo], rfl, by omega, by omega, rfl⟩
  case round =>
    obtain ⟨i, rfl, rfl, hin, hgg, hwr⟩ := hrel
    have hwr' := hwr.symm
    clear hwr
    subst hwr'
    by_cases hlt : i < n
    · have hltz : (i : Int) < (n : Int) := by omega
      have hils : i < ls.length := by rw [HN.out]; exact hlt
      obtain ⟨b, off, Ai, ci, hA, hcell, hVi, _⟩ := HL.out.at_ i hils
      have hsz : upTo ls i + ls[i].length ≤ 1000000 := by
        have h1 := HU.out (i + 1) (by omega)
        rw [upTo_succ ls hils] at h1
        have := HT.out
        omega
      rw [hVi] at hcell
      subst hA
      have hgr := HU.out
      have c1 : (0 : Int) ≤ (upTo ls i : Nat) := by omega
      have hw1 : wrap64 (((upTo ls i : Nat) : Int) + (ls[i].length : Nat)) = ((upTo ls (i + 1) : Nat) : Int) := by rw [upTo_succ ls hils]; unfold wrap64; omega
      have hw2 : wrap64 ((i : Int) + 1) = ((i + 1 : Nat) : Int) := by unfold wrap64; omega
      have c2 : ¬ ((upTo ls (i + 1) : Nat) : Int) < 0 := by omega
      clear hVi hgr hsz
      go_wp2
      go_roundg (n - (i + 1))
      case measure => omega
      case rel => exact ⟨i + 1, rfl, rfl, by omega, Nat.le_refl _, rfl⟩
    · obtain rfl : i = n := by omega
      have hltz : ¬ (i : Int) < (i : Int) := by omega
      have etot : upTo ls i = ls.flatten.length := by unfold upTo; rw [← HN.out, List.take_length]
      rw [etot]
      have hgrow := grow_calls (Bel.refl W) ls.flatten.length HT.out
      have ET : Aside (upTo ls i = ls.flatten.length) := etot
      generalize hF : ls.flatten.length = tot at *
      have HF : Aside (ls.flatten.length = tot) := hF
      clear etot hF
      go_wp2_with (go_at_call 71; refine hgrow.mono ?_; rintro e w1 ⟨v1, rfl, hb1, hg1⟩)
      have HG : Aside _ := hg1
      have HB : Aside _ := hb1
      clear hg1 hb1 hgrow
      go_loopg [6, 27] i (fun gg s6 s27 wq => ∃ k : Nat, s27 = .int .i64 (k : Nat) ∧ k ≤ i ∧ i - k ≤ gg ∧ Aside (Bel W wq ∧ Grows W wq s6 tot (ls.take k).flatten))
      case atStart => exact ⟨0, rfl, by omega, by omega, HB.out, HG.out⟩
      case round =>
        obtain ⟨k, rfl, hki, hgg2, hinv⟩ := hrel
        obtain ⟨hbq, hgq⟩ := hinv.out
        by_cases hlt2 : k < i
        · have hltz2 : (k : Int) < (i : Int) := by omega
          have hils : k < ls.length := by rw [HN.out]; exact hlt2
          obtain ⟨b, off, Ai, ci, hA, hcell, hVi, hx⟩ := HL.out.at_ k hils
          have hroom : (ls.take k).flatten.length + ls[k].length ≤ tot := by
            have h1 := HU.out (k + 1) (by omega)
            rw [upTo_succ ls hils] at h1
            exact h1
          have hcell2 : wr.cell? ⟨b, off + k, none⟩ = some (V k) := by rw [hbq.cell _ (cell_lt hcell)]; exact hcell
          subst hA
          obtain ⟨v', w', happ, hb', hg'⟩ := grows_append hgq hbq hroom (ci := ci) hx
          rw [← hVi] at happ
          have hone : (V k).oneCell' = true := by rw [hVi]; rfl
          have hcls : (V k).cells = #[V k] := by rw [hVi]; rfl
          generalize V k = sv at hcell2 happ hone hcls
          have enx : (ls.take (k + 1)).flatten = (ls.take k).flatten ++ ls[k] := by rw [take_at hils, List.flatten_append]; simp
          rw [← enx] at hg'
          have HI : Aside (Bel W w' ∧ Grows W w' v' tot (ls.take (k + 1)).flatten) := ⟨hb', hg'⟩
          have hw2 : wrap64 ((k : Int) + 1) = ((k + 1 : Nat) : Int) := by unfold wrap64; omega
          have HA : Aside (∀ ty, (Builtin.append_ #[45, 45] ty #[u6, sv]).run Try.prog wr = .ok v' w') := happ
          clear hVi hcell hx hbq hgq hinv hb' hg' enx hroom happ
          go_wp2_with (at_builtin; refine wpList_append_eq rfl (.tmp 31) (.tmp 32) 45 45 rfl rfl rfl (HA.out _) ?_)
          go_roundg (i - (k + 1))
          case measure => omega
          case rel => exact ⟨k + 1, rfl, by omega, Nat.le_refl _, HI⟩
        · obtain rfl : k = i := by omega
          have hltz2 : ¬ (k : Int) < (k : Int) := by omega
          have etk : (ls.take k).flatten = ls.flatten := by rw [← HN.out, List.take_length]
          rw [etk] at hgq
          have HI : Aside (Bel W wr ∧ Grows W wr u6 tot ls.flatten) := ⟨hbq, hgq⟩
          clear hbq hgq hinv etk
          go_wp2
          go_ret
          have := HI.out
          rw [← HF.out] at this
          exact ⟨u6, rfl, this.1, by simpa using this.2⟩
theorem cat_ok (ls : List (List Pd)) (ht : ls.flatten.length ≤ 1000000) : CallOk Try.prog 52 [.c (.sl (ec_45.encL ls))] (.row 0 ls.flatten.length, [.row (ec_58.encL ls.flatten)]) := by
  refine ⟨rfl, (fun b hb => ⟨_, by simpa using hb⟩), fun W Z Y cargs hG hZ hY hs hr => ?_⟩
  have hs1 : cargs.size = 1 := hs
  obtain ⟨u, hu⟩ : ∃ u, cargs[0]? = some u := ⟨cargs[0]'(by omega), Array.getElem?_eq_getElem _⟩
  have r0 := hr 0 u _ hu rfl
  cases r0 with
  | c r0 =>
  obtain rfl : cargs = #[u] := by
    apply Array.ext (by simpa using hs1)
    intro i h1 h2
    have : i = 0 := by simp at h2; omega
    subst this
    rw [Array.getElem?_eq_getElem h1] at hu
    injection hu
  obtain ⟨A, c, V, rfl, hc, hm, hN, hL⟩ := lists_of hZ r0
  refine (cat_walk hL hc hm ht).mono fun e w' => ?_
  rintro ⟨v, rfl, hb, hg⟩
  generalize ls.flatten = F at *
  have hZ' : ∀ b o u, Z b o = some u → w'.cell? ⟨b, o, none⟩ = some u := fun b o u h => by have := hZ b o u h; rw [hb.cell _ (cell_lt this)]; exact this
  rcases hg with ⟨h0, rfl, hF⟩ | ⟨g, c', t, cur, rfl, hgb, hc', hm', hle, hp, hv, hcs, hcur⟩
  · rw [hF]
    refine ⟨_, Z, fun i => if i = 0 then some (.slice none 0 0) else none, rfl, ZUp.refl, ⟨hb, hG, hZ', (fun _ _ _ h => by cases h), ?_, ?_, ?_, ?_⟩, .row 0 0 none 0 (by simp) (by simp), ?_⟩
    · intro id cs h
      cases id <;> simp at h
    · intro id es h
      cases id with
      | zero => simp [EC.encL] at h; subst h; exact .inl ⟨by simp, rfl⟩
      | succ id => simp at h
    · intro id es q v h
      cases id <;> simp at h
    · intro id id' g _ _ h
      unfold blkOf at h
      by_cases h0 : id = 0 <;> simp [h0] at h
    · intro i h
      by_cases h0 : i = 0
      · subst h0; simp
      · simp [h0] at h
  · refine ⟨_, Z, fun i => if i = 0 then some (.slice (some ⟨g, 0, none⟩) F.length c') else none, rfl, ZUp.refl, ⟨hb, hG, hZ', (fun _ _ _ h => by cases h), ?_, ?_, ?_, ?_⟩, .row 0 F.length _ c' (by simp) (fun _ => ⟨g, rfl⟩), ?_⟩
    · intro id cs h
      cases id <;> simp at h
    · intro id es h
      cases id with
      | succ id => simp at h
      | zero =>
        simp at h; subst h
        refine .inr ⟨g, F.length, c', 2, by simp, ⟨hgb, ⟨t, (0, 0), cur, hv, hcs, by simp, fun i e j x h1 h2 => ?_⟩, by simp, by omega, hm', by decide, fun h => ?_, RowP.each, (fun o ho => ?_)⟩⟩
        · obtain ⟨y, hy, rfl⟩ := encP_get h1
          obtain ⟨c1, c2⟩ := hcur i y hy
          match j with
          | 0 => simp at h2; subst h2; exact ⟨_, c1, .int _ _⟩
          | 1 => simp at h2; subst h2; exact ⟨_, c2, .int _ _⟩
          | j + 2 => simp at h2
        · exact absurd h (by omega)
        · cases hzz : Z g o with
          | none => exact absurd hzz ho
          | some u => have := cell_lt (hZ g o u hzz); omega
    · intro id es q v h
      cases id <;> simp at h
    · intro id id' g' h1 h2 _ _
      cases id with
      | succ id => simp at h1
      | zero => cases id' with
        | succ id' => simp at h2
        | zero => rfl
    · intro i h
      by_cases h0 : i = 0
      · subst h0; simp
      · simp [h0] at h
end Go.Proofs.Ytbbaldhmeifloaa
