/- slices.DeleteFunc at periods, as freebusy.Union calls it. -/
import Derived.Test.YtbbaldhmeifloaaMC
import Derived.Test.YtbbaldhmeifloaaW
namespace Go.Proofs.Ytbbaldhmeifloaa
open Go.RowKit

/-- memory at the call -/
def Zw (w : World) : ZMap := fun b o => w.cell? ⟨b, o, none⟩
def Z0 : ZMap := fun _ _ => none
/-- a row of periods: a slice that begins at the head of a block, whose cells may be written -/
def RowP (w : World) (g n c : Nat) (l : List Pd) : Prop :=
  (∃ t fz cur, w.heap[g]? = some (.cells cur t fz) ∧ cur.size = c * 2 ∧ (∀ o, o < cur.size → ¬ (fz.1 ≤ o ∧ o < fz.2)) ∧ ∀ (i : Nat) (x : Pd), l[i]? = some x → cur[i * 2]? = some (.int .i64 x.From) ∧ cur[i * 2 + 1]? = some (.int .i64 x.To)) ∧
    l.length = n ∧ n ≤ c ∧ c ≤ maxLen ∧ 0 < n
theorem encP_get {l : List Pd} {i : Nat} {e : List C} (h : (ec_58.encL l)[i]? = some e) : ∃ x, l[i]? = some x ∧ e = [.int .i64 x.From, .int .i64 x.To] := by
  rw [EC.encL, List.getElem?_map] at h
  cases hx : l[i]? with
  | none => rw [hx] at h; cases h
  | some x => rw [hx] at h; injection h with h; exact ⟨x, rfl, h.symm⟩
theorem RowP.cell {w : World} {g n c : Nat} {l : List Pd} (h : RowP w g n c l) {i j : Nat} {e : List C} {x : C} (h1 : (ec_58.encL l)[i]? = some e) (h2 : e[j]? = some x) : ∃ u, w.cell? ⟨g, i * 2 + j, none⟩ = some u ∧ ∀ Z, RepC Z u x := by
  obtain ⟨⟨t, fz, cur, hv, _, _, hc⟩, _⟩ := h
  obtain ⟨y, hy, rfl⟩ := encP_get h1
  obtain ⟨c1, c2⟩ := hc i y hy
  match j with
  | 0 => simp at h2; subst h2; exact ⟨.int .i64 y.From, by simp only [World.cell?, hv]; exact c1, fun Z => .int _ _⟩
  | 1 => simp at h2; subst h2; exact ⟨.int .i64 y.To, by simp only [World.cell?, hv]; exact c2, fun Z => .int _ _⟩
  | j + 2 => simp at h2
theorem RowP.each {l : List Pd} : ∀ e ∈ ec_58.encL l, e.length = 2 := fun e he => by
  rw [EC.encL, List.mem_map] at he
  obtain ⟨x, _, rfl⟩ := he
  rfl
/-- the row, as a list that is shared -/
theorem RowP.repc {w : World} {g n c : Nat} {l : List Pd} (h : RowP w g n c l) : RepC (Zw w) (.slice (some ⟨g, 0, none⟩) n c) (.sl (ec_58.encL l)) := by
  have hl := h.2.1
  refine .sl _ n c 2 g 0 (fun j => (w.cell? ⟨g, j, none⟩).getD undef) _ (by simp [hl]) h.2.2.1 h.2.2.2.1 RowP.each (fun _ => rfl) ?_ ?_ (by simp)
  · intro i e j x h1 h2
    obtain ⟨u, hu, _⟩ := h.cell h1 h2
    simp only [Zw, Nat.zero_add, hu, Option.getD_some]
  · intro i e j x h1 h2
    obtain ⟨u, hu, hr⟩ := h.cell h1 h2
    simp only [hu, Option.getD_some]
    exact hr _
/-- the row, as a row of one's own -/
theorem RowP.rel {W w : World} {g n c : Nat} {l : List Pd} (h : RowP w g n c l) (hG : GW W) (hb : Bel W w) (hg : W.heap.size ≤ g) :
    Rel W Z0 Z0 (fun i => if i = 0 then some (.slice (some ⟨g, 0, none⟩) n c) else none) (fun j => ([some (B.row (ec_58.encL l))][j]?).getD none) (fun j => ([false][j]?).getD false) w := by
  obtain ⟨⟨t, fz, cur, hv, hs, hf, hc⟩, hl, hle, hm, hp⟩ := h
  refine ⟨hb, hG, (fun _ _ _ h => by cases h), (fun _ _ _ h => by cases h), ?_, ?_, ?_, ?_⟩
  · intro id cs h
    cases id <;> simp at h
  · intro id es h
    cases id with
    | succ id => simp at h
    | zero =>
      simp at h; subst h
      refine .inr ⟨g, n, c, 2, by simp, ⟨hg, ⟨t, fz, cur, hv, hs, hf, fun i e j x h1 h2 => ?_⟩, by simp [hl], hle, hm, by decide, by omega, RowP.each, (fun o ho => absurd rfl ho)⟩⟩
      obtain ⟨y, hy, rfl⟩ := encP_get h1
      obtain ⟨c1, c2⟩ := hc i y hy
      match j with
      | 0 => simp at h2; subst h2; exact ⟨_, c1, .int _ _⟩
      | 1 => simp at h2; subst h2; exact ⟨_, c2, .int _ _⟩
      | j + 2 => simp at h2
  · intro id es i v h
    cases id <;> simp at h
  · intro id id' g' h1 h2 _ _
    cases id with
    | succ id => simp at h1
    | zero => cases id' with
      | succ id' => simp at h2
      | zero => rfl
theorem bad_arg {Z Y : ZMap} {m : Nat → Option Value} : Rep Z Y m (.func (.func 67) #[] #[]) (.fn 67 []) := .fn _ _ _ rfl (by simp)
theorem del_idx {w : World} (hG : GW w) {g n c : Nat} {l : List Pd} (h : RowP w g n c l) : Calls Try.prog 86 #[.slice (some ⟨g, 0, none⟩) n c, .func (.func 67) #[] #[]] w fun e w' => e = .returned (.int .i64 (gidx badP 0 l)) ∧ Bel w w' := by
  have hl : l.length ≤ 9223372036854775807 := by have := h.2; unfold maxLen at this; omega
  have ok := Call_sound Try.prog lv X0 mo_ok X0_ok (fS_call (uidx_sp l hl))
  refine (ok.2.2 w (Zw w) Z0 _ hG (fun _ _ _ h => h) (fun _ _ _ h => by cases h) rfl ?_).mono fun e w' => ?_
  · intro i u x hu hx
    match i with
    | 0 => simp at hu; subst hu; injection hx with hx; subst hx; exact .c h.repc
    | 1 => simp at hu; subst hu; injection hx with hx; subst hx; exact bad_arg
    | i + 2 => simp at hu
  · rintro ⟨cv, Z', m', rfl, _, R, r, _⟩
    cases r with
    | c r =>
    cases r
    exact ⟨rfl, R.bel⟩
theorem udel_canon (n : Nat) (i j : Int) (b : List Pd) : canon (headOf lv 65 (getLoop (cdF Try.f65) 5)) (udel_l5_s.c.enc ((n, (), i, j), b)).st = (udel_l5_s.c.enc ((n, (), i, j), b)).st := by
  have h : canK (headOf lv 65 (getLoop (cdF Try.f65) 5)) (udel_l5_s.c.enc ((n, (), i, j), b)).st (fun ls => some ls) = some (udel_l5_s.c.enc ((n, (), i, j), b)) := by kernel_rfl
  obtain ⟨ls, h1, h2⟩ := canK_ok h
  rw [h1, Option.some.inj h2]
theorem fold_below (o : Nat) : ∀ (l : List Value) (i : Nat) (arr : Array Value) (q : Nat), q < o + i → ((l.zipIdx i).foldl (fun (cs : Array Value) (p : Value × Nat) => cs.setIfInBounds (o + p.2) p.1) arr)[q]? = arr[q]?
  | [], _, _, _, _ => rfl
  | v :: l, i, arr, q, h => by
    rw [List.zipIdx_cons, List.foldl_cons, fold_below o l (i + 1) _ q (by omega)]
    simp only
    rw [Array.getElem?_setIfInBounds_ne (by omega)]
theorem fold_size (o : Nat) : ∀ (l : List Value) (i : Nat) (arr : Array Value), ((l.zipIdx i).foldl (fun (cs : Array Value) (p : Value × Nat) => cs.setIfInBounds (o + p.2) p.1) arr).size = arr.size
  | [], _, _ => rfl
  | v :: l, i, arr => by rw [List.zipIdx_cons, List.foldl_cons, fold_size o l (i + 1)]; simp
theorem clear_run {w : World} {g c n : Nat} {i : Nat} {t : TypeId} {fz : Nat × Nat} {cur : Array Value} (hv : w.heap[g]? = some (.cells cur t fz)) (hs : cur.size = c * 2) (hf : ∀ o, o < cur.size → ¬ (fz.1 ≤ o ∧ o < fz.2)) (hi : i ≤ n) (hn : n ≤ c) :
    ∃ w', (∀ ty cap, (Builtin.clear_ #[45] ty #[.slice (some ⟨g, i * 2, none⟩) (n - i) cap]).run Try.prog w = .ok (.tuple #[]) w') ∧ Wr g w w' ∧ ∃ cur', w'.heap[g]? = some (.cells cur' t fz) ∧ cur'.size = c * 2 ∧ ∀ q, q < i * 2 → cur'[q]? = cur[q]? := by
  have hz : ∀ w, (zeroValue 58).run Try.prog w = .ok (.agg #[.int .i64 0, .int .i64 0]) w := fun w => by simp only [zeroValue, Sem.run_bind, Try.typeInfo58, Result.andThen_ok]; rfl
  by_cases h0 : n - i = 0
  · refine ⟨w, fun ty cap => ?_, Wr.refl g w, cur, hv, hs, fun _ _ => rfl⟩
    rw [h0]
    simp [Builtin.clear_, run_underlying Try.underlying45]
  · have hlen : (Builtin.zeroCells (Value.agg #[.int .i64 0, .int .i64 0]).cells (n - i)).toList.length = (n - i) * 2 := by simp [Builtin.zeroCells, Value.cells]
    obtain ⟨w', r1, r2, r3⟩ := run_storeCells (P := Try.prog) (o := i * 2) (Builtin.zeroCells (Value.agg #[.int .i64 0, .int .i64 0]).cells (n - i)).toList 0 w cur hv (fun u hu => by
      simp only [Builtin.zeroCells, Value.cells, Array.toList_map, List.mem_map] at hu
      obtain ⟨q, _, rfl⟩ := hu
      have : q % 2 = 0 ∨ q % 2 = 1 := by omega
      rcases this with e | e <;> simp [e] <;> rfl) (by rw [hlen, hs]; omega) hf
    refine ⟨w', fun ty cap => ?_, r2, _, r3, by rw [fold_size, hs], fun q hq => fold_below _ _ _ _ _ (by omega)⟩
    obtain ⟨m, hm⟩ : ∃ m, n - i = m + 1 := ⟨n - i - 1, by omega⟩
    rw [hm] at r1 ⊢
    simp [Builtin.clear_, run_underlying Try.underlying45, hz, r1]
/-- a frame's slots, written out -/
theorem act_lit {tm : Array Value} {n : Nat} (h : tm.size = n) : tm = ((List.range n).map fun i => tm.getD i undef).toArray := by
  apply Array.ext
  · simp [h]
  · intro i h1 h2
    simp [Array.getD_eq_getD_getElem?, h1]
set_option maxHeartbeats 4000000 in
set_option maxRecDepth 1000000 in
theorem del_calls {W w : World} (hG : GW W) {g n c : Nat} {l : List Pd} (hb : Bel W w) (hg : W.heap.size ≤ g) (h : RowP w g n c l) :
    Calls Try.prog 65 #[.slice (some ⟨g, 0, none⟩) n c, .func (.func 67) #[] #[]] w fun e w' => ∃ g' c', e = .returned (.slice (some ⟨g', 0, none⟩) (l.filter fun p => !badP p).length c') ∧ Bel W w' ∧ W.heap.size ≤ g' ∧ (l.filter fun p => !badP p).length ≤ c' ∧ c' ≤ maxLen ∧ (0 < (l.filter fun p => !badP p).length → RowP w' g' (l.filter fun p => !badP p).length c' (l.filter fun p => !badP p)) := by
  have hi := del_idx (Bel.gw hb hG) h
  rcases gidx_spec badP l 0 with ⟨h1, h2⟩ | ⟨i, hil, h1, h2, h3⟩
  · rw [h1] at hi
    go_enter Try.func65, Try.ntmps65
    go_wp2_with (go_at_call 86; refine hi.mono ?_; rintro e w' ⟨rfl, hb'⟩)
    go_ret
    have e : l.filter (fun p => !badP p) = l := List.filter_eq_self.2 fun x hx => by simp [h2 x hx]
    rw [e, h.2.1]
    refine ⟨g, c, rfl, hb.trans hb', hg, h.2.2.1, h.2.2.2.1, fun _ => ?_⟩
    obtain ⟨⟨t, fz, cur, hv, hr⟩, h0⟩ := h
    refine ⟨⟨t, fz, cur, ?_, hr⟩, h0⟩
    rw [hb'.block g (heap_lt hv)]; exact hv
  · rw [h1, Nat.zero_add] at hi
    have hne : ((i : Int) == -1) = false := beq_eq_false_iff_ne.2 (by omega)
    have hl := h.2.1
    have hlM : l.length ≤ 9223372036854775807 := by have := h.2; unfold maxLen at this; omega
    have hwr : wrap64 ((i : Int) + 1) = ((i + 1 : Nat) : Int) := by unfold wrap64; omega
    obtain ⟨b', hu, hbl, hbt⟩ := udel_loop n (by omega) (n - (i + 1)) i (i + 1) l (by omega) (by omega) hl (by omega)
    have ef : l.take i ++ (l.drop (i + 1)).filter (fun p => !badP p) = l.filter fun p => !badP p := by
      have e1 : l.filter (fun p => !badP p) = (l.take i).filter (fun p => !badP p) ++ (l.drop i).filter fun p => !badP p := by rw [← List.filter_append, List.take_append_drop]
      have e2 : (l.take i).filter (fun p => !badP p) = l.take i := List.filter_eq_self.2 fun x hx => by simp [h3 x hx]
      have e3 : (l.drop i).filter (fun p => !badP p) = (l.drop (i + 1)).filter fun p => !badP p := by
        rw [drop_at hil, List.filter_cons, h2]; rfl
      rw [e1, e2, e3]
    have el : i + ((l.drop (i + 1)).filter fun p => !badP p).length = (l.filter fun p => !badP p).length := by
      rw [← ef, List.length_append, List.length_take]; omega
    rw [ef, el] at hbt
    rw [el] at hu
    have hk : (l.filter fun p => !badP p).length ≤ n := by rw [← hl]; exact List.length_filter_le _ _
    have hk' : (l.filter fun p => !badP p).length < n := by
      have := List.length_filter_le (fun p => !badP p) (l.drop (i + 1))
      rw [List.length_drop] at this
      omega
    generalize hF : l.filter (fun p => !badP p) = F at *
    go_enter Try.func65, Try.ntmps65
    go_wp2_with (go_at_call 86; refine hi.mono ?_; rintro e w' ⟨rfl, hb'⟩)
    rename_i K hK
    have h' : RowP w' g n c l := by
      obtain ⟨⟨t, fz, cur, hv, hr⟩, h0⟩ := h
      refine ⟨⟨t, fz, cur, ?_, hr⟩, h0⟩
      rw [hb'.block g (heap_lt hv)]; exact hv
    have R := h'.rel hG (hb.trans hb') hg
    have ok := lS_ok mo_ok X0_ok hu (udel_canon _ _ _ _) Z0 W
    refine ok (fun _ => none) Z0 _ _ _ ⟨⟨rfl, rfl, fun q => ?_⟩, R, (fun _ _ _ _ h => by cases h)⟩ ?_ _ ?_
    · show Rep _ _ _ _ (tb [(0, V.row 0 n), (1, V.fn 67 []), (5, V.c (.int .i64 i)), (6, V.c (.int .i64 ((i : Int) + 1)))] q)
      match q with
      | 0 => exact .row 0 n _ c (by simp) (fun _ => ⟨g, rfl⟩)
      | 1 => exact bad_arg
      | 5 => exact .c (.int _ _)
      | 6 =>
        have e : ((i + 1 : Nat) : Int) = (i : Int) + 1 := by omega
        rw [← e, ← hwr]
        exact .c (.int _ _)
      | 2 => exact .any _
      | 3 => exact .any _
      | 4 => exact .any _
      | q + 7 => exact .any _
    · intro q hq
      show q < 1
      cases q with
      | zero => decide
      | succ q => simp at hq
    · intro a' w2 Z' m' hz' hm' F'
      have hsz : a'.tmps.size = 42 := F'.fr.size
      have hdf := F'.fr.defers
      have r0 : Rep Z' Z0 m' (a'.tmps.getD 0 undef) (.row 0 n) := F'.fr.rep 0
      have r5 : Rep Z' Z0 m' (a'.tmps.getD 5 undef) (.c (.int .i64 (F.length : Int))) := F'.fr.rep 5
      have hR := F'.rel.row 0 (ec_58.encL b') rfl
      have hlit := act_lit hsz
      obtain ⟨tm, df⟩ := a'
      simp only at hsz hdf r0 r5 hlit
      subst hdf
      generalize hT : (fun i => tm.getD i undef) = T at *
      have hT0 : tm.getD 0 undef = T 0 := by rw [← hT]
      have hT5 : tm.getD 5 undef = T 5 := by rw [← hT]
      rw [hT0] at r0
      rw [hT5] at r5
      rw [show List.range 42 = [0, 1, 2, 3, 4, 5, 6, 7, 8, 9, 10, 11, 12, 13, 14, 15, 16, 17, 18, 19, 20, 21, 22, 23, 24, 25, 26, 27, 28, 29, 30, 31, 32, 33, 34, 35, 36, 37, 38, 39, 40, 41] from rfl] at hlit
      simp only [List.map_cons, List.map_nil] at hlit
      clear hT hT0 hT5 hsz
      subst hlit
      have e5 : T 5 = .int .i64 (F.length : Int) := by
        generalize T 5 = v at r5
        cases r5 with | c r5 => cases r5; rfl
      have hn0 : n ≠ 0 := by omega
      obtain ⟨g', c', e0, hm0⟩ : ∃ g' c', T 0 = .slice (some ⟨g', 0, none⟩) n c' ∧ m' 0 = some (.slice (some ⟨g', 0, none⟩) n c') := by
        generalize T 0 = v at r0
        cases r0 with
        | row _ _ A c h hA =>
          obtain ⟨g', rfl⟩ := hA hn0
          exact ⟨g', c, rfl, h⟩
      obtain ⟨k, hat⟩ : ∃ k, RowAt W.heap.size Z' false w2 g' n c' k (ec_58.encL b') := by
        rcases hR with ⟨h0, _⟩ | ⟨g2, n2, c2, k, h0, hat⟩
        · rw [hm0] at h0; cases h0
        · rw [hm0] at h0
          injection h0 with h0; injection h0 with a1 a2 a3; injection a1 with a1; injection a1 with a1
          subst a1 a2 a3
          exact ⟨k, hat⟩
      have hk2 : k = 2 := by
        have hx : b' ≠ [] := by intro e; rw [e] at hbl; simp at hbl; omega
        obtain ⟨x, xs, rfl⟩ := List.exists_cons_of_ne_nil hx
        exact (hat.each _ (List.mem_map_of_mem (List.mem_cons_self ..))).symm
      subst hk2
      obtain ⟨t, fz, cur, hv, hcs, hfz, hcell⟩ := hat.ex
      have hbase := hat.base
      have hcur : ∀ (q : Nat) (x : Pd), b'[q]? = some x → cur[q * 2]? = some (.int .i64 x.From) ∧ cur[q * 2 + 1]? = some (.int .i64 x.To) := fun q x hx => by
        have he : (ec_58.encL b')[q]? = some [.int .i64 x.From, .int .i64 x.To] := by rw [EC.encL, List.getElem?_map, hx]; rfl
        obtain ⟨u0, a0, b0⟩ := hcell q _ 0 _ he rfl
        obtain ⟨u1, a1, b1⟩ := hcell q _ 1 _ he rfl
        cases b0; cases b1
        exact ⟨a0, a1⟩
      have hle' := hat.le
      have hmx := hat.max
      have hW2 : Bel W w2 := F'.rel.bel
      obtain ⟨w3, hrun, hwr3, cur3, hv3, hs3, hc3⟩ := clear_run (n := n) hv hcs hfz hk hle'
      refine hK _ _ ?_
      rw [e0, e5]
      clear F' r0 r5 ok R hm' hcell hat hu hi
      have hg' : W.heap.size ≤ g' := hbase
      have hcF : ¬ c' = F.length := by omega
      go_wp2
      go_ret
      refine ⟨g', c', rfl, Bel.wr hW2 hg' hwr3, hg', by omega, hmx, fun hp => ⟨⟨t, fz, cur3, hv3, hs3, by rw [hs3, ← hcs]; exact hfz, fun q x hx => ?_⟩, rfl, by omega, hmx, hp⟩⟩
      have hq : q < F.length := (List.getElem?_eq_some_iff.1 hx).1
      have hx' : b'[q]? = some x := by rw [← hbt, List.getElem?_take, if_pos hq] at hx; exact hx
      rw [hc3 _ (by omega), hc3 _ (by omega)]
      exact hcur q x hx'
end Go.Proofs.Ytbbaldhmeifloaa
