/- The rules on slices.DeleteFunc and slices.Insert at tokens are sound. -/
import Derived.Test.YtomnbknaanlmaaaGreatDoorZ17
import Derived.Test.YtomnbknaanlmaaaGreatDoorZ15
import Derived.Test.YtomnbknaanlmaaaGreatDoorZ09
import Derived.WalkKit
import Derived.RangeFuncRecord
import Derived.RangeFuncSeq
import Derived.TacticsIn
import Derived.BigFrameIn
import Derived.LoopNIn
import Derived.Shelf.Bytes.SlIndexWhole
import Derived.Lib.SlBytesConst
import Derived.BigRegionIn
import Derived.Shelf.RegionOpen
import Derived.RangeFuncCalls
import Derived.Test.YtomnbknaanlmaaaGreatDoorZ03
import Derived.Shelf.Spec.SlicesGrow
import Derived.Test.YtomnbknaanlmaaaGreatDoorChecked
namespace Go.Proofs.YtomnbknaanlmaaaGreatDoor
open Go.RowKit
set_option maxRecDepth 100000
theorem rowR_of {w : World} {base : Nat → Prop} {Z : ZMap} {s : Bool} {g n c : Nat} {l : List Rp} (hat : RowAt base Z s w g n c 3 (l.map encR)) : RowR w g c l := by
  obtain ⟨t, fz, cur, hv, hcs, ⟨_, hmk, _⟩, hcell⟩ := hat.ex
  have hln : l.length = n := by have := hat.len; simpa using this
  refine ⟨⟨t, fz, cur, hv, hcs, hmk (by decide), fun i x hx => ?_⟩, by rw [hln]; exact hat.le, hat.max⟩
  have he : (l.map encR)[i]? = some (encR x) := by rw [List.getElem?_map, hx]; rfl
  obtain ⟨u0, a0, b0⟩ := hcell i _ 0 _ he rfl
  obtain ⟨u1, a1, b1⟩ := hcell i _ 1 _ he rfl
  obtain ⟨u2, a2, b2⟩ := hcell i _ 2 _ he rfl
  cases b0; cases b1; cases b2
  exact ⟨a0, a1, a2⟩
theorem rowAt_of {w : World} {base : Nat → Prop} {Z : ZMap} {s : Bool} {g c : Nat} {l : List Rp} (h : RowR w g c l) (hb : base g) (hZ : ∀ o, Z g o = none) (hl : l ≠ []) : RowAt base Z s w g l.length c 3 (l.map encR) := by
  obtain ⟨⟨t, fz, cur, hv, hcs, hfz, hc⟩, hle, hmx⟩ := h
  have hn : l.length ≠ 0 := fun e => hl (List.eq_nil_of_length_eq_zero e)
  refine ⟨hb, ⟨t, fz, cur, hv, hcs, ⟨by subst hfz; simp, fun _ => hfz, by subst hfz; simp⟩, fun i e j x he hx => ?_⟩, by simp, hle, hmx, by decide, fun e => absurd e hn, fun e he => ?_, fun o ho => absurd (hZ o) ho⟩
  · rw [List.getElem?_map] at he
    cases hy : l[i]? with
    | none => rw [hy] at he; cases he
    | some y =>
      rw [hy] at he
      injection he with he
      subst he
      obtain ⟨c1, c2, c3⟩ := hc i y hy
      match j with
      | 0 => simp [encR] at hx; subst hx; exact ⟨_, c1, .str _⟩
      | 1 => simp [encR] at hx; subst hx; exact ⟨_, c2, .int _ _⟩
      | 2 => simp [encR] at hx; subst hx; exact ⟨_, c3, .int _ _⟩
      | j + 3 => simp [encR] at hx
  · obtain ⟨y, _, rfl⟩ := List.mem_map.1 he
    rfl
theorem RowR.front {w : World} {g c : Nat} {l m : List Rp} (h : RowR w g c (l ++ m)) : RowR w g c l := by
  obtain ⟨⟨t, fz, cur, hv, hs, hf, hc⟩, h1, h2⟩ := h
  refine ⟨⟨t, fz, cur, hv, hs, hf, fun i x hx => hc i x ?_⟩, by simp at h1; omega, h2⟩
  rw [List.getElem?_append_left (List.getElem?_eq_some_iff.1 hx).1]; exact hx
section
variable {w0 : WB} {Z Y : ZMap} {m : Nat → Option Value} {h : Nat → Option B} {sh : Nat → Bool} {w : World}
theorem rel_row (R : Rel w0 Z Y m h sh w) {id n : Nat} {l : List Rp} (hh : h id = some (.row (l.map encR))) {u : Value} (r : Rep Z Y m u (.row id n)) :
    n = l.length ∧ ((l = [] ∧ ∃ A, u = .slice A 0 0) ∨ (l ≠ [] ∧ ∃ g c, u = .slice (some ⟨g, 0, none⟩) l.length c ∧ m id = some u ∧ RowAt w0.own Z (sh id) w g l.length c 3 (l.map encR))) := by
  have nilE : l.map encR = [] → l = [] := fun e => List.map_eq_nil_iff.1 e
  cases r with
  | row _ _ A c hm hA =>
    rcases R.row id _ hh with ⟨h0, he⟩ | ⟨g, n', c', k, hm', hat⟩
    · rw [hm] at h0
      injection h0 with h0; injection h0 with a1 a2 a3
      subst a1 a2 a3
      have := nilE he
      subst this
      exact ⟨rfl, .inl ⟨rfl, _, rfl⟩⟩
    · rw [hm] at hm'
      injection hm' with hm'; injection hm' with a1 a2 a3
      subst a1 a2 a3
      have hln : l.length = n := by have := hat.len; simpa using this
      refine ⟨hln.symm, ?_⟩
      by_cases hl : l = []
      · subst hl
        have h0 : n = 0 := hln.symm
        have hc := hat.zero h0
        subst h0 hc
        exact .inl ⟨rfl, _, rfl⟩
      · right
        have hk : k = 3 := by
          obtain ⟨x, xs, rfl⟩ := List.exists_cons_of_ne_nil hl
          exact (hat.each (encR x) (by simp)).symm
        subst hk
        subst hln
        exact ⟨hl, g, c, rfl, hm, hat⟩
  | row0 _ A hm =>
    rcases R.row id _ hh with ⟨h0, he⟩ | ⟨g, n', c', k, hm', hat⟩
    · have := nilE he
      subst this
      exact ⟨rfl, .inl ⟨rfl, _, rfl⟩⟩
    · rw [hm] at hm'; cases hm'
theorem h_none (R : Rel w0 Z Y m h sh w) {i : Nat} (hm : m i = none) : h i = none := by
  cases hh : h i with
  | none => rfl
  | some b =>
    exfalso
    cases b with
    | box cs => obtain ⟨g, h1, _⟩ := R.box i cs hh; rw [hm] at h1; cases h1
    | row es => rcases R.row i es hh with ⟨h1, _⟩ | ⟨g, n, c, k, h1, _⟩ <;> (rw [hm] at h1; cases h1)
    | tab es q v => obtain ⟨g, n, c, h1, _⟩ := R.tab i es q v hh; rw [hm] at h1; cases h1
    | mp l => obtain ⟨g, h1, _⟩ := R.mp i l hh; rw [hm] at h1; cases h1
theorem frm_split {g : Nat} {w' : World} (h : Frm (fun k => k = g) w w') (hg : g < w.heap.size) : ∃ w1, Wr g w w1 ∧ Bel w1 w' ∧ w1.heap[g]? = w'.heap[g]? := by
  have hg' : g < w'.heap.size := Nat.lt_of_lt_of_le hg h.size
  refine ⟨{ w' with heap := w.heap.setIfInBounds g w'.heap[g] }, ⟨h.os, h.tape, h.output, by simp, fun k hk => ?_⟩, ⟨rfl, rfl, rfl, by simpa using h.size, fun k hk => ?_⟩, ?_⟩
  · show (w.heap.setIfInBounds g w'.heap[g])[k]? = _
    rw [Array.getElem?_setIfInBounds_ne (Ne.symm hk)]
  · show w'.heap[k]? = (w.heap.setIfInBounds g w'.heap[g])[k]?
    have hk : k < w.heap.size := by simpa using hk
    by_cases e : k = g
    · subst e
      rw [Array.getElem?_setIfInBounds_self_of_lt hg, Array.getElem?_eq_getElem hg']
    · rw [Array.getElem?_setIfInBounds_ne (Ne.symm e)]
      exact h.block k hk (fun e2 => e e2)
  · show (w.heap.setIfInBounds g w'.heap[g])[g]? = _
    rw [Array.getElem?_setIfInBounds_self_of_lt hg, Array.getElem?_eq_getElem hg']
end
set_option maxHeartbeats 1600000 in
theorem del_nil (A : Option Addr) (w : World) : Calls Tryz.prog 24 #[.slice A 0 0, .func (.func 25) #[] #[]] w fun e w' => e = .returned (.slice A 0 0) ∧ w' = w := by
  have hi : Calls Tryz.prog 58 #[.slice A 0 0, .func (.func 25) #[] #[]] w fun e w' => e = .returned (.int .i64 (-1)) ∧ w' = w := by
    go_enter Tryz.func58, Tryz.ntmps58
    go_wp2
    refine wp_loop_rounds 1 ?_
    rw [rounds_succ]
    go_wp2
    go_ret
    exact ⟨rfl, rfl⟩
  go_enter Tryz.func24, Tryz.ntmps24
  go_wp2_with (go_at_call 58; refine hi.mono ?_; rintro e w' ⟨rfl, rfl⟩)
  go_ret
  exact ⟨rfl, rfl⟩
/-- the rule on DeleteFunc -/
theorem args3 {cargs : Array Value} (hs : cargs.size = 3) : cargs = #[cargs.getD 0 undef, cargs.getD 1 undef, cargs.getD 2 undef] := by
  apply Array.ext (by simpa using hs)
  intro i h1 h2
  match i, h1 with
  | 0, h1 => simp [Array.getD, h1]
  | 1, h1 => simp [Array.getD, h1]
  | 2, h1 => simp [Array.getD, h1]
  | i + 3, h1 => omega
theorem args2' {cargs : Array Value} (hs : cargs.size = 2) : cargs = #[cargs.getD 0 undef, cargs.getD 1 undef] := by
  apply Array.ext (by simpa using hs)
  intro i h1 h2
  match i, h1 with
  | 0, h1 => simp [Array.getD, h1]
  | 1, h1 => simp [Array.getD, h1]
  | i + 2, h1 => omega
theorem upd_twice {α : Type} (f : Nat → α) (i : Nat) (a b : α) : upd (upd f i a) i b = upd f i b := by funext j; unfold upd; split <;> rfl
theorem dltX_ok (st : St) (vs : List V) (s1 : St) (h : (dltX 25).run (List V × St) st some = some (vs, s1)) : RuleOk Tryz.prog 24 2 st vs s1 := by
  unfold dltX at h
  simp only at h
  split at h
  case h_2 => cases h
  rename_i id n f e0 e1
  cases hf : f == 25 with
  | false => rw [hf] at h; cases h
  | true =>
  rw [hf, cond_true] at h
  have hf' : f = 25 := by simpa using hf
  subst hf'
  split at h
  case h_2 => cases h
  rename_i es hes
  cases hsh : st.sh id with
  | true => rw [hsh] at h; cases h
  | false =>
  rw [hsh, cond_false] at h
  obtain ⟨hg, h⟩ := gdE_some h
  obtain ⟨l, rfl⟩ := tokB_enc es hg
  have hfe : (l.map encR).filter (leftB) = (l.filter (keep)).map encR := filt_enc l
  rw [hfe] at h
  intro G w0 w Z Y m cargs R hm hG hs hr
  have r0 := hr 0
  have r1 := hr 1
  rw [e0] at r0
  rw [e1] at r1
  rw [args2' hs]
  generalize cargs.getD 0 undef = u0 at r0
  generalize cargs.getD 1 undef = u1 at r1
  have hnm : m st.nx = none := by cases hq : m st.nx with | none => rfl | some _ => exact absurd (hm st.nx (by rw [hq]; simp)) (by omega)
  have hnh := h_none R hnm
  have hidx : id ≠ st.nx := fun e => by rw [e, hnh] at hes; cases hes
  -- the closure
  obtain rfl : u1 = .func (.func 25) #[] #[] := by
    cases r1 with
    | fn _ cs _ hlen hrr _ =>
      have hl1 : cs.size = 0 := by simpa using hlen
      have hcs : cs = #[] := by
        apply Array.ext (by simpa using hl1)
        intro i h1 h2
        omega
      subst hcs
      rfl
  obtain ⟨hnl, hrow⟩ := rel_row R hes r0
  rcases hrow with ⟨rfl, A, rfl⟩ | ⟨hl, g, c, rfl, hmi, hat⟩
  · -- nothing there
    have h' : (vs, s1) = ([V.row st.nx 0], { st with h := upd (upd st.h id none) st.nx (some (.row [])), sh := upd st.sh st.nx false, nx := st.nx + 1 }) := (Option.some.inj h).symm
    injection h' with h1 h2
    subst h1 h2
    refine (del_nil A w).mono fun e w' => ?_
    rintro ⟨rfl, rfl⟩
    refine ⟨_, Z, upd m st.nx (some (.slice none 0 0)), rfl, ZUp.refl, R.renew (oid := some id) hnm hnh (fun j hj => by simp [upd, hj]) (Bel.refl _) (.inl ⟨rfl, rfl⟩), .row0 st.nx A (by simp [upd]), ?_, ?_⟩
    · intro i id' u hi hu
      have := hG i id' u hi hu
      unfold upd
      split
      · rename_i e; rw [e, hnm] at this; cases this
      · exact this
    · intro i hi
      unfold upd at hi
      split at hi
      · rename_i e; rw [e]; exact Nat.lt_succ_self _
      · exact Nat.lt_succ_of_lt (hm i hi)
  · have hrw := rowR_of hat
    have hZ : ∀ o, Z g o = none := fun o => by
      cases hz : Z g o with
      | none => rfl
      | some u => have := (hat.apart o (by rw [hz]; simp)).1; rw [hsh] at this; cases this
    refine (del_calls g c l w hrw).mono fun e w' => ?_
    rintro ⟨rfl, hr', hF⟩
    obtain ⟨w1, hW, hB, hE⟩ := frm_split hF hrw.lt
    generalize hFd : l.filter (keep) = F at *
    by_cases hF0 : F = []
    · subst hF0
      have hcond : ((([] : List Rp).map encR).isEmpty && !(l.map encR).isEmpty) = true := by
        cases l with
        | nil => exact absurd rfl hl
        | cons x l => rfl
      rw [hcond] at h
      have h' : (vs, s1) = ([V.c (.sl [])], { st with h := upd st.h id (some (.row ((l.map encR).map zeroT))) }) := (Option.some.inj h).symm
      injection h' with h1 h2
      subst h1 h2
      have hz : (l.map encR).map zeroT = (List.replicate l.length zR).map encR := by
        rw [List.map_map, List.map_replicate]
        exact List.map_eq_replicate_iff.2 fun _ _ => rfl
      rw [hz]
      have hr2 : RowR w1 g c (List.replicate l.length zR) := by
        have : RowR w' g c (List.replicate l.length zR) := by simpa using hr'
        exact this.same hE
      have hne : List.replicate l.length zR ≠ [] := by
        intro e
        have := congrArg List.length e
        simp at this
        exact hl this
      have hat2 := rowAt_of (s := st.sh id) hr2 hat.base hZ hne
      rw [List.length_replicate] at hat2
      have hRw := R.write (base := id) (b' := .row ((List.replicate l.length zR).map encR)) (v := .slice (some ⟨g, 0, none⟩) l.length c) (sh' := st.sh) hes (by simp [blkOf, hmi]) hW (.inl rfl) (fun _ _ _ _ => rfl) (fun o u hz => by rw [hZ o] at hz; cases hz) (fun _ => hmi) (.inr (.inl ⟨_, l.length, c, 3, rfl, rfl, hat2⟩))
      have hmid : upd m id (some (.slice (some ⟨g, 0, none⟩) l.length c)) = m := by
        funext j
        unfold upd
        split
        · rename_i e; rw [e, hmi]
        · rfl
      rw [hmid, upd_twice] at hRw
      refine ⟨_, Z, m, rfl, ZUp.refl, hRw.later hB, .c (repC_empty _ hat.max (fun h => by cases h)), hG, hm⟩
    · have hcond : ((F.map encR).isEmpty && !(l.map encR).isEmpty) = false := by
        cases F with
        | nil => exact absurd rfl hF0
        | cons x F => rfl
      rw [hcond] at h
      have h' : (vs, s1) = ([V.row st.nx (F.map encR).length], { st with h := upd (upd st.h id none) st.nx (some (.row (F.map encR))), sh := upd st.sh st.nx false, nx := st.nx + 1 }) := (Option.some.inj h).symm
      injection h' with h1 h2
      subst h1 h2
      have hr2 : RowR w1 g c F := hr'.front.same hE
      have hat2 := rowAt_of (s := (upd st.sh st.nx false) st.nx) hr2 hat.base hZ hF0
      have hRw := R.write (base := st.nx) (b' := .row (F.map encR)) (v := .slice (some ⟨g, 0, none⟩) F.length c) (sh' := upd st.sh st.nx false) hes (by simp [blkOf, hmi]) hW (.inr ⟨hnm, hnh⟩) (fun j hj _ _ => by simp [upd, hj]) (fun o u hz => by rw [hZ o] at hz; cases hz) (fun e => absurd e.symm hidx) (.inr (.inl ⟨_, F.length, c, 3, rfl, rfl, hat2⟩))
      refine ⟨_, Z, _, rfl, ZUp.refl, hRw.later hB, ?_, ?_, ?_⟩
      · show Rep Z Y _ _ (.row st.nx (F.map encR).length)
        rw [List.length_map]
        exact .row st.nx F.length _ c (by simp [upd]) (fun _ => ⟨g, rfl⟩)
      · intro i id' u hi hu
        have := hG i id' u hi hu
        unfold upd
        split
        · rename_i e; rw [e, hnm] at this; cases this
        · exact this
      · intro i hi
        unfold upd at hi
        split at hi
        · rename_i e; rw [e]; exact Nat.lt_succ_self _
        · exact Nat.lt_succ_of_lt (hm i hi)
/-- the rule on Insert -/
theorem ins_fin {w0 : WB} {Z Y : ZMap} {m : Nat → Option Value} {st : St} {w : World} (R : Rel w0 Z Y m st.h st.sh w) (hm : ∀ i, m i ≠ none → i < st.nx) {G : Nat → Option Value} (hG : ∀ (i id : Nat) (u : Value), st.og[i]? = some id → G i = some u → m id = some u)
    {id : Nat} {b0 : B} (hes : st.h id = some b0) {r : List Rp} {n c : Nat} {A : Option Addr} (hr : r.length = n + 1) (hA : n + 1 ≤ c → ∃ g, A = some ⟨g, 0, none⟩ ∧ blkOf m id = some g ∧ w0.own g ∧ (∀ o, Z g o = none) ∧ g < w.heap.size) {e : Ending} {w' : World} (hq : InsQ w A n c r e w') :
    ∃ cv Z' m', e = .returned cv ∧ ZUp w0 Z Z' ∧ Rel w0 Z' Y m' (upd (upd st.h id none) st.nx (some (.row (r.map encR)))) (upd st.sh st.nx false) w' ∧ Rep Z' Y m' cv (oneOrTup [V.row st.nx (n + 1)]) ∧ (∀ (i id : Nat) (u : Value), st.og[i]? = some id → G i = some u → m' id = some u) ∧ ∀ i, m' i ≠ none → i < st.nx + 1 := by
  have hnm : m st.nx = none := by cases hq : m st.nx with | none => rfl | some _ => exact absurd (hm st.nx (by rw [hq]; simp)) (by omega)
  have hnh := h_none R hnm
  have hidx : id ≠ st.nx := fun e => by rw [e, hnh] at hes; cases hes
  have hne : r ≠ [] := fun e => by rw [e] at hr; cases hr
  obtain ⟨g', c', rfl, hrow, hor⟩ := hq
  have hog : ∀ (v : Value), (∀ (i id : Nat) (u : Value), st.og[i]? = some id → G i = some u → upd m st.nx (some v) id = some u) ∧ ∀ i, upd m st.nx (some v) i ≠ none → i < st.nx + 1 := fun v => by
    refine ⟨fun i id' u hi hu => ?_, fun i hi => ?_⟩
    · have := hG i id' u hi hu
      unfold upd
      split
      · rename_i e; rw [e, hnm] at this; cases this
      · exact this
    · unfold upd at hi
      split at hi
      · rename_i e; rw [e]; exact Nat.lt_succ_self _
      · exact Nat.lt_succ_of_lt (hm i hi)
  have hrep : ∀ (Z : ZMap), Rep Z Y (upd m st.nx (some (.slice (some ⟨g', 0, none⟩) (n + 1) c'))) (.slice (some ⟨g', 0, none⟩) (n + 1) c') (.row st.nx (n + 1)) := fun Z => .row st.nx (n + 1) _ c' (by simp [upd]) (fun _ => ⟨g', rfl⟩)
  rcases hor with ⟨hroom, hAg, hF⟩ | ⟨hsz, hF⟩
  · obtain ⟨g, hA1, hblk, hown, hZ, hlt⟩ := hA hroom
    rw [hA1] at hAg
    injection hAg with hAg; injection hAg with hAg
    subst hAg
    obtain ⟨w1, hW, hB, hE⟩ := frm_split hF hlt
    have hat := rowAt_of (s := (upd st.sh st.nx false) st.nx) (hrow.same hE) hown hZ hne
    rw [hr] at hat
    have hRw := R.write (base := st.nx) (b' := .row (r.map encR)) (v := .slice (some ⟨g, 0, none⟩) (n + 1) c') (sh' := upd st.sh st.nx false) hes hblk hW (.inr ⟨hnm, hnh⟩) (fun j hj _ _ => by simp [upd, hj]) (fun o u hz => by rw [hZ o] at hz; cases hz) (fun e => absurd e.symm hidx) (.inr (.inl ⟨_, n + 1, c', 3, rfl, rfl, hat⟩))
    exact ⟨_, Z, _, rfl, ZUp.refl, hRw.later hB, hrep Z, (hog _).1, (hog _).2⟩
  · have hbel : Bel w w' := ⟨hF.os, hF.tape, hF.output, hF.size, fun k hk => hF.block k hk (by simp)⟩
    have hZ : ∀ o, Z g' o = none := fun o => by
      cases hz : Z g' o with
      | none => rfl
      | some u => have := R.z_lt hz; omega
    have hat := rowAt_of (s := (upd st.sh st.nx false) st.nx) hrow (WB.own_new R.bel hsz) hZ hne
    rw [hr] at hat
    have hRn := R.renew (oid := some id) (base := st.nx) (sh' := upd st.sh st.nx false) hnm hnh (fun j hj => by simp [upd, hj]) hbel (.inr ⟨g', n + 1, c', 3, rfl, hat, .inl hsz⟩)
    exact ⟨_, Z, _, rfl, ZUp.refl, hRn, hrep Z, (hog _).1, (hog _).2⟩
theorem one_of {l : List Rp} (h : (1 : Nat) = l.length) : ∃ x, l = [x] := by
  match l, h with
  | [x], _ => exact ⟨x, rfl⟩
theorem intX_ok (st : St) (vs : List V) (s1 : St) (h : intX.run (List V × St) st some = some (vs, s1)) : RuleOk Tryz.prog 23 3 st vs s1 := by
  unfold intX at h
  simp only at h
  split at h
  · -- a row
    rename_i id n i q e0 e1 e2
    cases hqi : q == id with
    | true => rw [hqi] at h; cases h
    | false =>
    rw [hqi, cond_false] at h
    split at h
    case h_2 => cases h
    rename_i es ws hes hqs
    cases hsh : st.sh id with
    | true => rw [hsh] at h; cases h
    | false =>
    rw [hsh, cond_false] at h
    have hgd := gdE_some h
    clear h
    obtain ⟨hg, h⟩ := hgd
    simp only [Bool.and_eq_true, decide_eq_true_eq] at hg
    obtain ⟨⟨⟨⟨g1, g2⟩, g3⟩, g4⟩, g5⟩ := hg
    obtain ⟨l, rfl⟩ := tokB_enc es g1
    obtain ⟨l2, rfl⟩ := tokB_enc ws g2
    have h' : (vs, s1) = ([V.row st.nx (n + 1)], { st with h := upd (upd st.h id none) st.nx (some (.row ((l.map encR).take i.toNat ++ (l2.map encR ++ (l.map encR).drop i.toNat)))), sh := upd st.sh st.nx false, nx := st.nx + 1 }) := (Option.some.inj h).symm
    injection h' with h1 h2
    subst h1 h2
    intro G w0 w Z Y m cargs R hm hG hs hr
    have r0 := hr 0
    have r1 := hr 1
    have r2 := hr 2
    rw [e0] at r0
    rw [e1] at r1
    rw [e2] at r2
    rw [args3 hs, rep_int r1]
    generalize cargs.getD 0 undef = u0 at r0
    generalize cargs.getD 2 undef = u2 at r2
    obtain ⟨hnl, hrow⟩ := rel_row R hes r0
    obtain ⟨hnl2, hrow2⟩ := rel_row R hqs r2
    obtain ⟨x, rfl⟩ := one_of hnl2
    obtain ⟨vb, vc, rfl, hmq, hat2⟩ : ∃ vb vc, u2 = .slice (some ⟨vb, 0, none⟩) 1 vc ∧ m q = some u2 ∧ RowAt w0.own Z (st.sh q) w vb 1 vc 3 ([x].map encR) := by
      rcases hrow2 with ⟨he, _⟩ | ⟨_, g, c, hu, hmi, hat⟩
      · cases he
      · exact ⟨g, c, hu, hmi, hat⟩
    have hv := rowR_of hat2
    subst hnl
    obtain ⟨k, rfl⟩ : ∃ k : Nat, i = k := ⟨i.toNat, (Int.toNat_of_nonneg g3).symm⟩
    have hk : k ≤ l.length := by omega
    have er : (l.map encR).take (Int.toNat (k : Int)) ++ ([x].map encR ++ (l.map encR).drop (Int.toNat (k : Int))) = (l.take k ++ x :: l.drop k).map encR := by simp [List.map_take, List.map_drop]
    rw [er]
    have hrl : (l.take k ++ x :: l.drop k).length = l.length + 1 := by simp; omega
    rcases hrow with ⟨rfl, A, rfl⟩ | ⟨hl, g, c, rfl, hmi, hat⟩
    · have hk0 : k = 0 := by simpa using hk
      subst hk0
      exact (ins_end hv A 0 0 [] rfl (.inl rfl) (fun h => by omega) (Nat.le_refl _) (by omega) (by unfold maxLen; omega) vc).mono fun e w' hq => ins_fin R hm hG hes hrl (fun h => by omega) hq
    · have hrw := rowR_of hat
      have hZ : ∀ o, Z g o = none := fun o => by
        cases hz : Z g o with
        | none => rfl
        | some u => have := (hat.apart o (by rw [hz]; simp)).1; rw [hsh] at this; cases this
      have hne : vb ≠ g := fun e => by
        have e1 : blkOf m q = some g := by simp [blkOf, hmq, e]
        have e2 : blkOf m id = some g := by simp [blkOf, hmi]
        have := R.inj q id g (by rw [hqs]; simp) (by rw [hes]; simp) e1 e2
        subst this
        simp at hqi
      have hfin := fun (e : Ending) (w' : World) (hq : InsQ w (some ⟨g, 0, none⟩) l.length c (l.take k ++ x :: l.drop k) e w') => ins_fin R hm hG hes hrl (fun _ => ⟨g, rfl, by simp [blkOf, hmi], hat.base, hZ, hrw.lt⟩) hq
      by_cases hkl : k = l.length
      · subst hkl
        have e3 : l.take l.length ++ x :: l.drop l.length = l ++ [x] := by simp
        rw [e3] at hfin ⊢
        exact (ins_end hv (some ⟨g, 0, none⟩) l.length c l rfl (.inr ⟨g, rfl, hrw⟩) (fun _ => ⟨g, rfl, hrw⟩) hrw.le (by omega) hrw.max vc).mono hfin
      · by_cases hroom : l.length + 1 ≤ c
        · exact (ins_room hv g c l hrw k (by omega) hroom hne vc).mono hfin
        · exact (ins_grow hv g c l hrw k (by omega) hroom (by omega) vc).mono hfin
  · -- an empty slice over a row
    rename_i id i q e0 e1 e2
    cases hqi : q == id with
    | true => rw [hqi] at h; cases h
    | false =>
    rw [hqi, cond_false] at h
    split at h
    case h_2 => cases h
    rename_i es ws hes hqs
    cases hsh : st.sh id with
    | true => rw [hsh] at h; cases h
    | false =>
    rw [hsh, cond_false] at h
    have hgd := gdE_some h
    clear h
    obtain ⟨hg, h⟩ := hgd
    simp only [Bool.and_eq_true, decide_eq_true_eq] at hg
    obtain ⟨⟨⟨g2, g3⟩, g4⟩, g1⟩ := hg
    obtain ⟨l, rfl⟩ := tokB_enc es g1
    obtain ⟨l2, rfl⟩ := tokB_enc ws g2
    subst g3
    have h' : (vs, s1) = ([V.row st.nx 1], { st with h := upd (upd st.h id none) st.nx (some (.row (l2.map encR))), sh := upd st.sh st.nx false, nx := st.nx + 1 }) := (Option.some.inj h).symm
    injection h' with h1 h2
    subst h1 h2
    intro G w0 w Z Y m cargs R hm hG hs hr
    have r0 := hr 0
    have r1 := hr 1
    have r2 := hr 2
    rw [e0] at r0
    rw [e1] at r1
    rw [e2] at r2
    rw [args3 hs, rep_int r1]
    generalize cargs.getD 0 undef = u0 at r0
    generalize cargs.getD 2 undef = u2 at r2
    obtain ⟨hnl2, hrow2⟩ := rel_row R hqs r2
    obtain ⟨x, rfl⟩ := one_of hnl2
    obtain ⟨vb, vc, rfl, hmq, hat2⟩ : ∃ vb vc, u2 = .slice (some ⟨vb, 0, none⟩) 1 vc ∧ m q = some u2 ∧ RowAt w0.own Z (st.sh q) w vb 1 vc 3 ([x].map encR) := by
      rcases hrow2 with ⟨he, _⟩ | ⟨_, g, c, hu, hmi, hat⟩
      · cases he
      · exact ⟨g, c, hu, hmi, hat⟩
    have hv := rowR_of hat2
    have hl : l ≠ [] := by
      intro e
      rw [e] at g4
      simp at g4
    cases r0 with
    | rowE _ g n c hmi hc =>
    have hu : Rep Z Y m (.slice (some ⟨g, 0, none⟩) n c) (.row id n) := .row id n _ c hmi (fun _ => ⟨g, rfl⟩)
    obtain ⟨hn, hrow⟩ := rel_row R hes hu
    rcases hrow with ⟨he, _⟩ | ⟨_, g2, c2, hu2, _, hat⟩
    · exact absurd he hl
    · injection hu2 with a1 a2 a3
      injection a1 with a1; injection a1 with a1
      subst a1 a3
      have hrw := rowR_of hat
      have hr0 : RowR w g c [] := by have : RowR w g c ([] ++ l) := hrw; exact this.front
      have hZ : ∀ o, Z g o = none := fun o => by
        cases hz : Z g o with
        | none => rfl
        | some u => have := (hat.apart o (by rw [hz]; simp)).1; rw [hsh] at this; cases this
      exact (ins_end hv (some ⟨g, 0, none⟩) 0 c [] rfl (.inl rfl) (fun _ => ⟨g, rfl, hr0⟩) (Nat.zero_le _) (by omega) hrw.max vc).mono fun e w' hq => ins_fin R hm hG hes (r := [x]) rfl (fun _ => ⟨g, rfl, by simp [blkOf, hmi], hat.base, hZ, hrw.lt⟩) hq
  · cases h
end Go.Proofs.YtomnbknaanlmaaaGreatDoor
namespace Go.Proofs.YtomnbknaanlmaaaGreatDoor
open Go.RowKit
/-- the world behind bytes.SplitSeq: three captured variables -/
def spW (w : World) (u v : Value) : World := ((w.alloc (.cells #[u] 47)).alloc (.cells #[v] 47)).alloc (.cells #[.int .i64 0] 3)
set_option maxRecDepth 100000 in
theorem spl_calls (A B : Option Addr) (n c k d : Nat) (w : World) : Calls Tryz.prog 188 #[.slice A n c, .slice B k d, .int .i64 0] w fun e w' =>
    e = .returned (.func (.func 206) #[] #[.pointer (some ⟨w.heap.size + 1, 0, none⟩), .pointer (some ⟨w.heap.size, 0, none⟩), .pointer (some ⟨w.heap.size + 2, 0, none⟩)]) ∧ w' = spW w (.slice A n c) (.slice B k d) := by
  go_enter Tryz.func188, Tryz.ntmps188
  go_wp2
  go_ret
  first | exact ⟨rfl, rfl⟩ | skip
set_option maxRecDepth 100000 in
theorem sps_calls (A B : Option Addr) (n c k d : Nat) (w : World) : Calls Tryz.prog 161 #[.slice A n c, .slice B k d] w fun e w' =>
    e = .returned (.func (.func 206) #[] #[.pointer (some ⟨w.heap.size + 1, 0, none⟩), .pointer (some ⟨w.heap.size, 0, none⟩), .pointer (some ⟨w.heap.size + 2, 0, none⟩)]) ∧ w' = spW w (.slice A n c) (.slice B k d) := by
  go_enter Tryz.func161, Tryz.ntmps161
  go_wp2_with (go_at_call 188; refine (spl_calls A B n c k d _).mono ?_; rintro e w' ⟨rfl, rfl⟩)
  go_ret
  first | exact ⟨rfl, rfl⟩ | skip
end Go.Proofs.YtomnbknaanlmaaaGreatDoor
namespace Go.Proofs.YtomnbknaanlmaaaGreatDoor
open Go.RowKit
theorem bix_calls {mm : Nat} (a1 a2 : Addr) (n c1 k c2 : Nat) (xs ys : List Int) (m : Int) (w : World) (hx : xs.length = n) (hy : ys.length = k) (hr1 : ∀ x ∈ xs, 0 ≤ x ∧ x < 256) (hr2 : ∀ y ∈ ys, 0 ≤ y ∧ y < 256)
    (hc1 : ∀ i, i < n → w.cell? (a1.add i) = some (.int .u8 (xs.getD i 0))) (hc2 : ∀ i, i < k → w.cell? (a2.add i) = some (.int .u8 (ys.getD i 0))) (hcap : n ≤ c1) (hs : n < 4294967281) (hk : k ≤ 9223372036854775807) (hm : w.cell? ⟨4, 0, none⟩ = some (.int .i64 m)) :
    CallsIn Fence.wide mm Tryz.prog 208 #[.slice (some a1) n c1, .slice (some a2) k c2] w fun e w' => e = .returned (.int .i64 (Lib.index (Lib.bytesOf xs) (Lib.bytesOf ys))) ∧ ∃ q, w' = w.drewN q :=
  callsIn_wide.2 (Any.bytes_Index_at lays185 a1 a2 n c1 k c2 xs ys m w hx hy hr1 hr2 hc1 hc2 hcap hs hk hm)
/-- what the iterator sees -/
structure SpI (W : World) (p1 p2 p3 g : Nat) (s : Value) (m : Int) : Prop where
  sep : W.cell? ⟨p1, 0, none⟩ = some (.slice (some ⟨g, 0, none⟩) 2 2)
  s : W.cell? ⟨p2, 0, none⟩ = some s
  fr : W.frozen? ⟨p2, 0, none⟩ = false
  sv : W.cell? ⟨p3, 0, none⟩ = some (.int .i64 0)
  g0 : W.cell? ⟨g, 0, none⟩ = some (.int .u8 13)
  g1 : W.cell? ⟨g, 1, none⟩ = some (.int .u8 10)
  ml : W.cell? ⟨4, 0, none⟩ = some (.int .i64 m)
set_option maxHeartbeats 4000000 in
set_option maxRecDepth 100000 in
theorem spc_two (l p1 p2 p3 g b off c : Nat) (mm : Int) (W0 : World) (hc : 4 ≤ c) (_hcm : c ≤ maxLen) (h : SpI W0 p1 p2 p3 g (.slice (some ⟨b, off, none⟩) 4 c) mm)
    (h0 : W0.cell? ⟨b, off, none⟩ = some (.int .u8 104)) (h1 : W0.cell? ⟨b, off + 1, none⟩ = some (.int .u8 105)) (h2 : W0.cell? ⟨b, off + 2, none⟩ = some (.int .u8 13)) (h3 : W0.cell? ⟨b, off + 3, none⟩ = some (.int .u8 10))
    (J1 J2 : World → Prop) (hJ1 : ∀ W, J1 W → SpI W p1 p2 p3 g (.slice (some ⟨b, off, none⟩) 4 c) mm)
    (hy1 : ∀ q m, YieldAt Fence.wide m Tryz.prog l #[.slice (some ⟨b, off, none⟩) 2 2] (W0.drewN q) fun e W' => e = .returned (.bool true) ∧ J1 W')
    (hy2 : ∀ W q m a c', J1 W → SpI (W.setCell ⟨p2, 0, none⟩ (.slice (some a) 0 c')) p1 p2 p3 g (.slice (some a) 0 c') mm ∧ YieldAt Fence.wide m Tryz.prog l #[.slice (some a) 0 0] ((W.setCell ⟨p2, 0, none⟩ (.slice (some a) 0 c')).drewN q) fun e W' => e = .returned (.bool true) ∧ J2 W') :
    CallsIn Fence.wide 5 Tryz.prog 206 #[.func (.yield l) #[] #[], .pointer (some ⟨p1, 0, none⟩), .pointer (some ⟨p2, 0, none⟩), .pointer (some ⟨p3, 0, none⟩)] W0 fun e W' => (∃ v, e = .returned v) ∧ J2 W' := by
  have i0 := h.sep; have i1 := h.s; have i2 := h.sv
  refine callsIn_of_wp Tryz.func206 rfl trivial ?_ rfl
  simp only [Tryz.ntmps206, List.size_toArray, List.length_cons, List.length_nil, Nat.reduceAdd, Nat.reduceSub, Array.replicate_succ, Array.replicate_zero, List.push_toArray, List.append_toArray, List.nil_append, List.cons_append]
  have hix : ∀ mm', CallsIn Fence.wide mm' Tryz.prog 208 #[.slice (some ⟨b, off, none⟩) 4 c, .slice (some ⟨g, 0, none⟩) 2 2] W0 fun e w' => e = .returned (.int .i64 2) ∧ ∃ q, w' = W0.drewN q := fun mm' =>
    (bix_calls ⟨b, off, none⟩ ⟨g, 0, none⟩ 4 c 2 2 [104, 105, 13, 10] [13, 10] mm W0 rfl rfl (by decide) (by decide) (fun i hi => by
      match i, hi with
      | 0, _ => simpa [Addr.add] using h0
      | 1, _ => simpa [Addr.add] using h1
      | 2, _ => simpa [Addr.add] using h2
      | 3, _ => simpa [Addr.add] using h3) (fun i hi => by
      match i, hi with
      | 0, _ => simpa [Addr.add] using h.g0
      | 1, _ => simpa [Addr.add] using h.g1) hc (by decide) (by decide) h.ml).mono fun e w' he => ⟨he.1, he.2⟩
  gi_wp2
  refine wpIn_loop_rounds 2 ?_
  rw [roundsIn_succ]
  gi_wp2_with (refine ⟨trivial, (hix _).mono ?_⟩; rintro e w' ⟨rfl, q, rfl⟩; obtain ⟨fn1, tm1, as1, bo1, hyr1, hR1⟩ := hy1 q 4)
  refine hR1.mono ?_
  rintro e W1 ⟨rfl, hj1⟩
  have k0 := (hJ1 _ hj1).sep
  have k1 := (hJ1 _ hj1).s
  have k2 := (hJ1 _ hj1).sv
  have k3 := (hJ1 _ hj1).fr
  gi_wp2
  all_goals
    rw [roundsIn_succ]
    generalize hW2 : W1.setCell _ _ = W2
    have hh : ∀ a c', W1.setCell ⟨p2, 0, none⟩ (.slice (some a) 0 c') = W2 → SpI W2 p1 p2 p3 g (.slice (some a) 0 c') mm ∧ ∀ q m, YieldAt Fence.wide m Tryz.prog l #[.slice (some a) 0 0] (W2.drewN q) fun e W' => e = .returned (.bool true) ∧ J2 W' := by
      rintro a c' rfl
      exact ⟨(hy2 W1 0 0 a c' hj1).1, fun q m => (hy2 W1 q m a c' hj1).2⟩
    obtain ⟨hI2, hY2⟩ := hh _ _ hW2
    clear hh
    have l0 := hI2.sep; have l1 := hI2.s; have l2 := hI2.sv
    have hix2 : ∀ mm' a c', CallsIn Fence.wide mm' Tryz.prog 208 #[.slice (some a) 0 c', .slice (some ⟨g, 0, none⟩) 2 2] W2 fun e w' => e = .returned (.int .i64 (-1)) ∧ ∃ q, w' = W2.drewN q := fun mm' a c' =>
      (bix_calls a ⟨g, 0, none⟩ 0 c' 2 2 [] [13, 10] mm W2 rfl rfl (by decide) (by decide) (fun i hi => by omega) (fun i hi => by
        match i, hi with
        | 0, _ => simpa [Addr.add] using hI2.g0
        | 1, _ => simpa [Addr.add] using hI2.g1) (by omega) (by decide) (by decide) hI2.ml).mono fun e w' he => ⟨he.1, he.2⟩
    clear hI2 hy2 hW2
    gi_wp2_with (refine ⟨trivial, (hix2 _ _ _).mono ?_⟩; rintro e w' ⟨rfl, q2, rfl⟩; obtain ⟨fn2, tm2, as2, bo2, hyr2, hR2⟩ := hY2 q2 4)
    refine hR2.mono ?_
    rintro e W3 ⟨rfl, hj2⟩
    gi_wp2
    first | go_end0 | go_ret | skip
    exact ⟨⟨_, rfl⟩, hj2⟩
end Go.Proofs.YtomnbknaanlmaaaGreatDoor
namespace Go.Proofs.YtomnbknaanlmaaaGreatDoor
open Go.RowKit
/-- a closed call at a text, answered by a text -/
theorem call_str {f : FuncId} {s r : ByteArray} (h : CallOk Tryz.prog f [.c (.str s)] (.c (.str r), [])) (w : World) (hG : GW w) : Calls Tryz.prog f #[.string s] w fun e w' => e = .returned (.string r) ∧ Bel w w' := by
  refine (h.2.2 w (fun _ _ => none) (fun _ _ => none) #[.string s] hG (by simp) (by simp) rfl ?_).mono ?_
  · intro i u x h1 h2
    match i with
    | 0 => simp at h1 h2; subst h1; subst h2; exact .c (.str s)
    | i + 1 => simp at h1
  · rintro e w' ⟨cv, Z', m', rfl, _, R, r1, _⟩
    exact ⟨by rw [rep_str r1], wb_bel.1 R.bel⟩
theorem mo_okY : Tryz.prog.follows .mixedOrders = true := by kernel_rfl
theorem sqz_hi : CallOk Tryz.prog 162 [.c (.str ⟨#[104, 105]⟩)] (.c (.str ⟨#[104, 105]⟩), []) := Call_sound Tryz.prog lv ⟨fun _ _ => none, fun _ => none⟩ mo_okY ⟨fun _ _ _ h => by (cases h), fun _ _ _ _ _ h => by (cases h)⟩ (Call_fuel (n := 30) (by kernel_rfl))
theorem sqz_no : CallOk Tryz.prog 162 [.c (.str ⟨#[]⟩)] (.c (.str ⟨#[]⟩), []) := Call_sound Tryz.prog lv ⟨fun _ _ => none, fun _ => none⟩ mo_okY ⟨fun _ _ _ h => by (cases h), fun _ _ _ _ _ h => by (cases h)⟩ (Call_fuel (n := 30) (by kernel_rfl))
theorem rep_zero (w : World) : Calls Tryz.prog 163 #[.string ⟨#[13, 10]⟩, .int .i64 0] w fun e w' => e = .returned (.string ⟨#[]⟩) ∧ Bel w w' :=
  (Any.strings_Repeat lays105 Builder_Extra_105 ⟨#[13, 10]⟩ 0 w (by decide) (by decide)).mono fun e w' h => ⟨h.1, ⟨h.2.os, h.2.tape, h.2.output, h.2.size, h.2.block⟩⟩
/-- between two rounds: the loop's record, the block for deferred calls, what is captured, the variables out and empty -/
structure BoI (W w : World) (L D : Nat) (rec : Loop) (p1 p2 p3 g B3 Be : Nat) (s : Value) (mm : Int) (out : Value) (e : Int) : Prop where
  lp : W.heap[L]? = some (.loop rec)
  dd : W.heap[D]? = some (.deferred (some []))
  sp : SpI W p1 p2 p3 g s mm
  bel : Bel w W
  gw : GW W
  out : W.cell? ⟨B3, 0, none⟩ = some out
  outf : W.frozen? ⟨B3, 0, none⟩ = false
  emp : W.cell? ⟨Be, 0, none⟩ = some (.int .i64 e)
  empf : W.frozen? ⟨Be, 0, none⟩ = false
theorem gwb {w w' : World} (h : GW w) (hb : Bel w w') : GW w' := BelA.gw (wb_bel.2 hb) ⟨h, GB.no h⟩
section
variable {W W' w : World} {L D : Nat} {r r' : Loop} {p1 p2 p3 g B3 Be : Nat} {s out : Value} {mm e : Int}
theorem cell_ne {k o : Nat} {v : Value} (h : W.cell? ⟨k, o, none⟩ = some v) (hl : W.heap[L]? = some (.loop r)) : k ≠ L := by
  rintro rfl
  simp [World.cell?, hl] at h
theorem put_cell {k o : Nat} {v : Value} (h : W.cell? ⟨k, o, none⟩ = some v) (hl : W.heap[L]? = some (.loop r)) (x : Obj) : (W.putObj L x).cell? ⟨k, o, none⟩ = some v :=
  (World.cell?_of_block (World.putObj_heap_other (cell_ne h hl))).trans h
theorem put_frz {k o : Nat} {v : Value} (h : W.cell? ⟨k, o, none⟩ = some v) (hl : W.heap[L]? = some (.loop r)) (hf : W.frozen? ⟨k, o, none⟩ = false) (x : Obj) : (W.putObj L x).frozen? ⟨k, o, none⟩ = false :=
  (World.frozen?_of_block (World.putObj_heap_other (cell_ne h hl))).trans hf
theorem BoI.put (h : BoI W w L D r p1 p2 p3 g B3 Be s mm out e) (hG : GW w) (hL : w.heap.size ≤ L) (hD : D ≠ L) : BoI (W.putObj L (.loop r')) w L D r' p1 p2 p3 g B3 Be s mm out e := by
  have hlt : L < W.heap.size := (Array.getElem?_eq_some_iff.1 h.lp).1
  have hb : Bel w (W.putObj L (.loop r')) := ⟨h.bel.os, h.bel.tape, h.bel.output, by simpa using h.bel.size, fun k hk => (World.putObj_heap_other (by omega)).trans (h.bel.block k hk)⟩
  exact ⟨World.putObj_heap_same hlt, (World.putObj_heap_other hD).trans h.dd,
    ⟨put_cell h.sp.sep h.lp _, put_cell h.sp.s h.lp _, put_frz h.sp.s h.lp h.sp.fr _, put_cell h.sp.sv h.lp _, put_cell h.sp.g0 h.lp _, put_cell h.sp.g1 h.lp _, put_cell h.sp.ml h.lp _⟩,
    hb, gwb hG hb, put_cell h.out h.lp _, put_frz h.out h.lp h.outf _, put_cell h.emp h.lp _, put_frz h.emp h.lp h.empf _⟩
theorem BoI.later (h : BoI W w L D r p1 p2 p3 g B3 Be s mm out e) (hb : Bel W W') (hG : GW w) : BoI W' w L D r p1 p2 p3 g B3 Be s mm out e := by
  have c : ∀ {k o v}, W.cell? ⟨k, o, none⟩ = some v → W'.cell? ⟨k, o, none⟩ = some v := fun hc => (hb.cell _ (cell_lt hc)).trans hc
  have f : ∀ {k o v}, W.cell? ⟨k, o, none⟩ = some v → W.frozen? ⟨k, o, none⟩ = false → W'.frozen? ⟨k, o, none⟩ = false := fun hc hf => (hb.cells.2 _ _ (cell_lt hc)).trans hf
  have hb2 : Bel w W' := h.bel.trans hb
  exact ⟨(hb.block _ (Array.getElem?_eq_some_iff.1 h.lp).1).trans h.lp, (hb.block _ (Array.getElem?_eq_some_iff.1 h.dd).1).trans h.dd,
    ⟨c h.sp.sep, c h.sp.s, f h.sp.s h.sp.fr, c h.sp.sv, c h.sp.g0, c h.sp.g1, c h.sp.ml⟩, hb2, gwb hG hb2, c h.out, f h.out h.outf, c h.emp, f h.emp h.empf⟩
theorem set_cell {k j o : Nat} {v x : Value} (h : W.cell? ⟨k, o, none⟩ = some v) (hj : k ≠ j) : (W.setCell ⟨j, 0, none⟩ x).cell? ⟨k, o, none⟩ = some v :=
  (World.cell?_of_block (Below.heap_setCell W ⟨j, 0, none⟩ x k hj)).trans h
theorem ml_lt (hG : GW w) : 4 < w.heap.size := by
  have h := hG
  unfold GW at h
  obtain ⟨m, hm⟩ := h.1
  exact cell_lt hm
theorem BoI.setO (h : BoI W w L D r p1 p2 p3 g B3 Be s mm out e) (hG : GW w) (v : Value) (hk : w.heap.size ≤ B3) (h1 : p1 ≠ B3) (h2 : p2 ≠ B3) (h3 : p3 ≠ B3) (hg : g ≠ B3) (hE : Be ≠ B3) (hD : D ≠ B3) : BoI (W.setCell ⟨B3, 0, none⟩ v) w L D r p1 p2 p3 g B3 Be s mm v e := by
  have hb : Bel w (W.setCell ⟨B3, 0, none⟩ v) := h.bel.setCell hk v
  have hL := cell_ne h.out h.lp
  have hml := ml_lt hG
  exact ⟨(Below.heap_setCell W ⟨B3, 0, none⟩ v L (Ne.symm hL)).trans h.lp, (Below.heap_setCell W ⟨B3, 0, none⟩ v D hD).trans h.dd,
    ⟨set_cell h.sp.sep h1, set_cell h.sp.s h2, by rw [World.frozen?_setCell]; exact h.sp.fr, set_cell h.sp.sv h3, set_cell h.sp.g0 hg, set_cell h.sp.g1 hg, set_cell h.sp.ml (by omega)⟩,
    hb, gwb hG hb, World.cell?_setCell_same' _ _ _ (by rw [h.out]; rfl), by rw [World.frozen?_setCell]; exact h.outf, set_cell h.emp hE, by rw [World.frozen?_setCell]; exact h.empf⟩
theorem BoI.setE (h : BoI W w L D r p1 p2 p3 g B3 Be s mm out e) (hG : GW w) (n : Int) (hk : w.heap.size ≤ Be) (h1 : p1 ≠ Be) (h2 : p2 ≠ Be) (h3 : p3 ≠ Be) (hg : g ≠ Be) (hE : B3 ≠ Be) (hD : D ≠ Be) : BoI (W.setCell ⟨Be, 0, none⟩ (.int .i64 n)) w L D r p1 p2 p3 g B3 Be s mm out n := by
  have hb : Bel w (W.setCell ⟨Be, 0, none⟩ (.int .i64 n)) := h.bel.setCell hk _
  have hL := cell_ne h.emp h.lp
  have hml := ml_lt hG
  exact ⟨(Below.heap_setCell W ⟨Be, 0, none⟩ _ L (Ne.symm hL)).trans h.lp, (Below.heap_setCell W ⟨Be, 0, none⟩ _ D hD).trans h.dd,
    ⟨set_cell h.sp.sep h1, set_cell h.sp.s h2, by rw [World.frozen?_setCell]; exact h.sp.fr, set_cell h.sp.sv h3, set_cell h.sp.g0 hg, set_cell h.sp.g1 hg, set_cell h.sp.ml (by omega)⟩,
    hb, gwb hG hb, set_cell h.out hE, by rw [World.frozen?_setCell]; exact h.outf, World.cell?_setCell_same' _ _ _ (by rw [h.emp]; rfl), by rw [World.frozen?_setCell]; exact h.empf⟩
theorem BoI.setS (h : BoI W w L D r p1 p2 p3 g B3 Be s mm out e) (hG : GW w) (v : Value) (hk : w.heap.size ≤ p2) (h1 : p1 ≠ p2) (h3 : p3 ≠ p2) (hg : g ≠ p2) (hE : B3 ≠ p2) (hF : Be ≠ p2) (hD : D ≠ p2) : BoI (W.setCell ⟨p2, 0, none⟩ v) w L D r p1 p2 p3 g B3 Be v mm out e := by
  have hb : Bel w (W.setCell ⟨p2, 0, none⟩ v) := h.bel.setCell hk v
  have hL := cell_ne h.sp.s h.lp
  have hml := ml_lt hG
  exact ⟨(Below.heap_setCell W ⟨p2, 0, none⟩ _ L (Ne.symm hL)).trans h.lp, (Below.heap_setCell W ⟨p2, 0, none⟩ _ D hD).trans h.dd,
    ⟨set_cell h.sp.sep h1, World.cell?_setCell_same' _ _ _ (by rw [h.sp.s]; rfl), by rw [World.frozen?_setCell]; exact h.sp.fr, set_cell h.sp.sv h3, set_cell h.sp.g0 hg, set_cell h.sp.g1 hg, set_cell h.sp.ml (by omega)⟩,
    hb, gwb hG hb, set_cell h.out hE, by rw [World.frozen?_setCell]; exact h.outf, set_cell h.emp hF, by rw [World.frozen?_setCell]; exact h.empf⟩
end
theorem conv_str {W : World} {v : Value} {l : List UInt8} (h : (Conv.bytesToString v).run Tryz.prog W = .ok (.string ⟨l.toArray⟩) W) (hv : ∃ A n c, v = .slice A n c) : (convert 47 9 v).run Tryz.prog W = .ok (.string ⟨l.toArray⟩) W := by
  obtain ⟨A, n, c, rfl⟩ := hv
  simp only [convert, Sem.run_bind, run_und Tryz.underlying47, run_und Tryz.underlying9, run_und Tryz.underlying5, Result.andThen_ok, h]
theorem conv_hi {W : World} {b off : Nat} (h0 : W.cell? ⟨b, off, none⟩ = some (.int .u8 104)) (h1 : W.cell? ⟨b, off + 1, none⟩ = some (.int .u8 105)) : (convert 47 9 (.slice (some ⟨b, off, none⟩) 2 2)).run Tryz.prog W = .ok (.string ⟨#[104, 105]⟩) W := by
  refine conv_str (l := [104, 105]) (bytes_sim (Z := fun b' o => W.cell? ⟨b', o, none⟩) (es := [[.int .u8 104], [.int .u8 105]]) (fun _ _ _ h => h) ?_ rfl) ⟨_, _, _, rfl⟩
  refine .sl _ 2 2 1 b off (fun j => if j = 0 then .int .u8 104 else .int .u8 105) _ rfl (by omega) (by decide) (by simp) (fun _ => rfl) ?_ ?_ (by simp)
  · intro i e j x he hx
    match i, j with
    | 0, 0 => simpa using h0
    | 0, j + 1 => simp at he; subst he; simp at hx
    | 1, 0 => simpa using h1
    | 1, j + 1 => simp at he; subst he; simp at hx
    | i + 2, _ => simp at he
  · intro i e j x he hx
    match i, j with
    | 0, 0 => simp at he; subst he; simp at hx; subst hx; exact .int _ _
    | 0, j + 1 => simp at he; subst he; simp at hx
    | 1, 0 => simp at he; subst he; simp at hx; subst hx; exact .int _ _
    | 1, j + 1 => simp at he; subst he; simp at hx
    | i + 2, _ => simp at he
theorem conv_no {W : World} (a : Addr) : (convert 47 9 (.slice (some a) 0 0)).run Tryz.prog W = .ok (.string ⟨#[]⟩) W := by
  refine conv_str (l := []) (bytes_sim (Z := fun _ _ => none) (es := []) (by simp) ?_ rfl) ⟨_, _, _, rfl⟩
  exact repC_empty _ (by decide) (fun h => by cases h)
theorem cut_le (k e : Nat) {x : Nat} : (Question.appendCap k 0 e).cut x ≤ maxLen ∨ 9223372036854775807 < k := by
  by_cases hk : 9223372036854775807 < k
  · exact .inr hk
  · left
    simp only [Question.cut]
    have : x % (2 ^ 63 - k) < 2 ^ 63 - k := Nat.mod_lt _ (by omega)
    unfold maxLen
    omega
theorem al_new (W : World) (o : Obj) {k : Nat} (h : k = W.heap.size) : (W.alloc o).heap[k]? = some o := by subst h; exact World.alloc_heap_new W o
theorem al_old {W : World} {x : Obj} (o : Obj) {k : Nat} (h : W.heap[k]? = some x) : (W.alloc o).heap[k]? = some x := (Below.heap_alloc W o k (Array.getElem?_eq_some_iff.1 h).1).trans h
theorem six (w : World) (o0 o1 o2 o3 o4 o5 : Obj) : ((((((w.alloc o0).alloc o1).alloc o2).alloc o3).alloc o4).alloc o5).heap[w.heap.size]? = some o0 ∧ ((((((w.alloc o0).alloc o1).alloc o2).alloc o3).alloc o4).alloc o5).heap[w.heap.size + 1]? = some o1 ∧
    ((((((w.alloc o0).alloc o1).alloc o2).alloc o3).alloc o4).alloc o5).heap[w.heap.size + 2]? = some o2 ∧ ((((((w.alloc o0).alloc o1).alloc o2).alloc o3).alloc o4).alloc o5).heap[w.heap.size + 3]? = some o3 ∧
    ((((((w.alloc o0).alloc o1).alloc o2).alloc o3).alloc o4).alloc o5).heap[w.heap.size + 4]? = some o4 ∧ ((((((w.alloc o0).alloc o1).alloc o2).alloc o3).alloc o4).alloc o5).heap[w.heap.size + 5]? = some o5 :=
  ⟨al_old _ (al_old _ (al_old _ (al_old _ (al_old _ (al_new _ _ rfl))))), al_old _ (al_old _ (al_old _ (al_old _ (al_new _ _ (by simp))))), al_old _ (al_old _ (al_old _ (al_new _ _ (by simp)))), al_old _ (al_old _ (al_new _ _ (by simp))), al_old _ (al_new _ _ (by simp)), al_new _ _ (by simp)⟩
theorem cell_at {W : World} {k o : Nat} {cs : Array Value} {t : TypeId} {fz : Nat × Nat} (h : W.heap[k]? = some (.cells cs t fz)) : W.cell? ⟨k, o, none⟩ = cs[o]? := by simp [World.cell?, h]
theorem frz_at {W : World} {k : Nat} {cs : Array Value} {t : TypeId} (h : W.heap[k]? = some (.cells cs t (0, 0))) : W.frozen? ⟨k, 0, none⟩ = false := by simp [World.frozen?, h]
set_option maxHeartbeats 4000000 in
set_option maxRecDepth 100000 in
theorem bod_in (b off c : Nat) (w : World) (hc : 4 ≤ c) (hcm : c ≤ maxLen) (hG : GW w)
    (h0 : w.cell? ⟨b, off, none⟩ = some (.int .u8 104)) (h1 : w.cell? ⟨b, off + 1, none⟩ = some (.int .u8 105)) (h2 : w.cell? ⟨b, off + 2, none⟩ = some (.int .u8 13)) (h3 : w.cell? ⟨b, off + 3, none⟩ = some (.int .u8 10)) :
    CallsIn Fence.wide 6 Tryz.prog 127 #[.slice (some ⟨b, off, none⟩) 4 c] w fun e w' => ∃ g c', e = .returned (.slice (some ⟨g, 0, none⟩) 4 c') ∧ 4 ≤ c' ∧ c' ≤ maxLen ∧ w.heap.size ≤ g ∧ Bel w w' ∧
      w'.cell? ⟨g, 0, none⟩ = some (.int .u8 104) ∧ w'.cell? ⟨g, 1, none⟩ = some (.int .u8 105) ∧ w'.cell? ⟨g, 2, none⟩ = some (.int .u8 13) ∧ w'.cell? ⟨g, 3, none⟩ = some (.int .u8 10) := by
  obtain ⟨mm, hml⟩ : ∃ mm, w.cell? ⟨4, 0, none⟩ = some (.int .i64 mm) := by have h := hG; unfold GW at h; exact h.1
  have kc := Lib.run_convert_bytes_const (P := Tryz.prog) ((w.alloc (.cells #[.slice none 0 0] 47)).alloc (.cells #[.int .i64 0] 3)) 47 5 #[.int .u8 13, .int .u8 10] 2 2 Tryz.underlying47 Tryz.underlying5
  simp only [World.size_alloc] at kc
  refine callsIn_of_wp_marks Tryz.func127 rfl trivial ?_ rfl
  simp only [Tryz.ntmps127, List.size_toArray, List.length_cons, List.length_nil, Nat.reduceAdd, Nat.reduceSub, Array.replicate_succ, Array.replicate_zero, List.push_toArray, List.append_toArray, List.nil_append, List.cons_append]
  gi_wp2_with (first | (rw [kc]; simp only [Result.andThen, Oper.uponIn_value]) | skip; refine ⟨trivial, (callsIn_wide.2 (sps_calls _ _ _ _ _ _ _)).mono ?_⟩; rintro e w' ⟨rfl, rfl⟩)
  generalize hW0 : spW _ _ _ = W0
  have hs0 : W0.heap.size = w.heap.size + 6 := by rw [← hW0]; simp [spW]
  have hb0 : Bel w W0 := by rw [← hW0]; exact ((((((Bel.refl w).alloc _).alloc _).alloc _).alloc _).alloc _).alloc _
  have s6 := six w (.cells #[.slice none 0 0] 47) (.cells #[.int .i64 0] 3) (.cells #[.int .u8 13, .int .u8 10] 5 (2, 3)) (.cells #[.slice (some ⟨b, off, none⟩) 4 c] 47) (.cells #[.slice (some ⟨w.heap.size + 1 + 1, 0, none⟩) 2 2] 47) (.cells #[.int .i64 0] 3)
  unfold spW at hW0
  rw [hW0] at s6
  obtain ⟨b0, b1, b2, b3, b4, b5⟩ := s6
  clear hW0 kc
  refine range_enter rfl (by decide) (gf := 206) (lb := #[.pointer (some ⟨w.heap.size + 1 + 1 + 1 + 1, 0, none⟩), .pointer (some ⟨w.heap.size + 1 + 1 + 1, 0, none⟩), .pointer (some ⟨w.heap.size + 1 + 1 + 1 + 2, 0, none⟩)]) rfl trivial (enters_of Tryz.func206 (by kernel_rfl) rfl) ?_
  intro fn hfn
  generalize hW1 : (W0.alloc (.deferred (some []))).alloc _ = W1
  have hK : W1.heap[w.heap.size + 6]? = some (.deferred (some [])) := by rw [← hW1]; exact al_old _ (al_new _ _ hs0.symm)
  have hL := al_new (W0.alloc (.deferred (some []))) _ (k := w.heap.size + 7) (by simp [hs0]) |> (fun h => (congrArg (fun W : World => W.heap[w.heap.size + 7]?) hW1).symm.trans h)
  have hold : ∀ k x, W0.heap[k]? = some x → W1.heap[k]? = some x := fun k x h => by rw [← hW1]; exact al_old _ (al_old _ h)
  have hb1 : Bel w W1 := by rw [← hW1]; exact (hb0.alloc _).alloc _
  replace b0 := hold _ _ b0
  replace b1 := hold _ _ b1
  replace b2 := hold _ _ b2
  replace b3 := hold _ _ b3
  replace b4 := hold _ _ b4
  replace b5 := hold _ _ b5
  clear hW1 hold hb0
  rw [hs0] at hL ⊢
  revert hL
  generalize hrec : recL fn _ _ _ _ _ = rec
  intro hL
  have hI1 : SpI W1 (w.heap.size + 1 + 1 + 1 + 1) (w.heap.size + 1 + 1 + 1) (w.heap.size + 1 + 1 + 1 + 2) (w.heap.size + 1 + 1) (.slice (some ⟨b, off, none⟩) 4 c) mm :=
    ⟨(cell_at b4).trans rfl, (cell_at b3).trans rfl, frz_at b3, (cell_at b5).trans rfl, (cell_at b2).trans rfl, (cell_at b2).trans rfl, by rw [hb1.cell _ (cell_lt hml)]; exact hml⟩
  have hBI : BoI W1 w (w.heap.size + 7) (w.heap.size + 6) (rec .ready none) (w.heap.size + 1 + 1 + 1 + 1) (w.heap.size + 1 + 1 + 1) (w.heap.size + 1 + 1 + 1 + 2) (w.heap.size + 1 + 1) w.heap.size (w.heap.size + 1) (.slice (some ⟨b, off, none⟩) 4 c) mm (.slice none 0 0) 0 :=
    ⟨hL, hK, hI1, hb1, gwb hG hb1, (cell_at b0).trans rfl, frz_at b0, (cell_at b1).trans rfl, frz_at b1⟩
  have hold : ∀ {o : Nat} {v : Value}, w.cell? ⟨b, o, none⟩ = some v → W1.cell? ⟨b, o, none⟩ = some v := fun h => by rw [hb1.cell _ (cell_lt h)]; exact h
  refine (spc_two (w.heap.size + 6 + 1) _ _ _ _ b off c mm W1 hc hcm hI1 (hold h0) (hold h1) (hold h2) (hold h3)
    (fun W => ∃ q cap cs, BoI W w (w.heap.size + 7) (w.heap.size + 6) (rec .ready none) (w.heap.size + 1 + 1 + 1 + 1) (w.heap.size + 1 + 1 + 1) (w.heap.size + 1 + 1 + 1 + 2) (w.heap.size + 1 + 1) w.heap.size (w.heap.size + 1) (.slice (some ⟨b, off, none⟩) 4 c) mm (.slice (some ⟨q, 0, none⟩) 4 cap) 0 ∧ w.heap.size + 8 ≤ q ∧ 4 ≤ cap ∧ cap ≤ maxLen ∧ W.heap[q]? = some (.cells cs 5) ∧
      cs[0]? = some (.int .u8 104) ∧ cs[1]? = some (.int .u8 105) ∧ cs[2]? = some (.int .u8 13) ∧ cs[3]? = some (.int .u8 10))
    (fun W => ∃ q cap cs a c', BoI W w (w.heap.size + 7) (w.heap.size + 6) (rec .ready none) (w.heap.size + 1 + 1 + 1 + 1) (w.heap.size + 1 + 1 + 1) (w.heap.size + 1 + 1 + 1 + 2) (w.heap.size + 1 + 1) w.heap.size (w.heap.size + 1) (.slice (some a) 0 c') mm (.slice (some ⟨q, 0, none⟩) 4 cap) 1 ∧ w.heap.size + 8 ≤ q ∧ 4 ≤ cap ∧ cap ≤ maxLen ∧ W.heap[q]? = some (.cells cs 5) ∧
      cs[0]? = some (.int .u8 104) ∧ cs[1]? = some (.int .u8 105) ∧ cs[2]? = some (.int .u8 13) ∧ cs[3]? = some (.int .u8 10))
    (fun W h => by obtain ⟨q, cap, cs, h, _⟩ := h; exact h.sp) ?_ ?_).mono ?_
  · intro q m
    have hL' := hL
    rw [← hrec] at hL'
    refine yield_round trivial (show (W1.drewN q).heap[_]? = _ from hL') rfl ?_
    rw [hrec]
    gi_wp2_with (rw [Oper.semAt_eq _ _ _ (fun c h => by cases h)]; go_simp; try go_bits)
    intro W2 hW2
    have hB : BoI W2 w (w.heap.size + 7) (w.heap.size + 6) (rec .busy none) (w.heap.size + 1 + 1 + 1 + 1) (w.heap.size + 1 + 1 + 1) (w.heap.size + 1 + 1 + 1 + 2) (w.heap.size + 1 + 1) w.heap.size (w.heap.size + 1) (.slice (some ⟨b, off, none⟩) 4 c) mm (.slice none 0 0) 0 := by
      rw [hW2]
      exact (hBI.later ((Bel.refl W1).drewN q) hG).put hG (by omega) (by omega)
    clear hW2 hL'
    have e0 : W2.cell? ⟨b, off, none⟩ = some (.int .u8 104) := by rw [hB.bel.cell _ (cell_lt h0)]; exact h0
    have e1 : W2.cell? ⟨b, off + 1, none⟩ = some (.int .u8 105) := by rw [hB.bel.cell _ (cell_lt h1)]; exact h1
    gi_wp2_with (first
      | (rw [conv_hi e0 e1]; simp only [Result.andThen, Oper.uponIn_value])
      | (rw [Oper.semAt_eq _ _ _ (fun c h => by cases h)]; go_simp; try go_bits))
    refine ⟨trivial, (fun h => by cases h), CallsIn.mono (show CallsIn (Fence.wide.inRound _) _ _ _ _ _ _ from callsIn_wide.2 (call_str sqz_hi _ hB.gw)) ?_⟩
    rintro e w2 ⟨rfl, hb2⟩
    replace hB := hB.later hb2 hG
    have g1 := hB.out
    have g2 := hB.emp
    have g3 := hB.outf
    have g4 := hB.empf
    gi_wp2_with (rw [Oper.semAt_eq _ _ _ (fun c h => by cases h)]; go_simp; try go_bits)
    clear g1 g2 g3 g4
    have hstr : ((⟨#[]⟩ ++ ⟨#[104, 105]⟩ : ByteArray) ++ ⟨#[13, 10]⟩) = ⟨#[104, 105, 13, 10]⟩ := rfl
    have hstr2 : (⟨#[]⟩ ++ ⟨#[104, 105]⟩ : ByteArray) = ⟨#[104, 105]⟩ := rfl
    have hstr3 : (⟨#[104, 105]⟩ ++ ⟨#[13, 10]⟩ : ByteArray) = ⟨#[104, 105, 13, 10]⟩ := rfl
    have g0 : w2.drew.cell? ⟨w.heap.size, 0, none⟩ = some (.slice none 0 0) := hB.out
    have g1 : w2.drew.cell? ⟨w.heap.size + 1, 0, none⟩ = some (.int .i64 0) := hB.emp
    have g2 : w2.drew.frozen? ⟨w.heap.size, 0, none⟩ = false := hB.outf
    have g3 : w2.drew.frozen? ⟨w.heap.size + 1, 0, none⟩ = false := hB.empf
    have hmo := mo_okY
    have hsem : ∀ (l : Nat) (ρ : Operand → Value) (o : Oper), (∀ c, o.op ≠ .defer c) → Oper.semAt (some l) ρ o = execOp ρ o := Oper.semAt_some
    have hfr : Fence.wide.fn 163 := trivial
    have hdp : Fence.wide.depth.isSome = false := rfl
    gi_region_with_o (gi_at_call 163; refine (CallsIn.inRound _ (callsIn_wide.2 (rep_zero _))).mono ?_; rintro e w3 ⟨rfl, hb3⟩; have hb4 := (Bel.refl w2).drew.trans hb3; have q0 := (hB.later hb4 hG).out; have q2 := (hB.later hb4 hG).outf; have q4 : ∀ X, (w3.alloc X).cell? ⟨w.heap.size, 0, none⟩ = some (.slice none 0 0) := fun X => (hB.later (hb4.alloc X) hG).out; have q5 : ∀ X, (w3.alloc X).frozen? ⟨w.heap.size, 0, none⟩ = false := fun X => (hB.later (hb4.alloc X) hG).outf; have q6 : ∀ X, (w3.alloc X).drew.cell? ⟨w.heap.size, 0, none⟩ = some (.slice none 0 0) := fun X => (hB.later (hb4.alloc X) hG).out; have q7 : ∀ X, (w3.alloc X).drew.frozen? ⟨w.heap.size, 0, none⟩ = false := fun X => (hB.later (hb4.alloc X) hG).outf)
    all_goals
      generalize hcap : (Question.appendCap 4 0 5).cut _ = cap
      have hcap4 : 4 ≤ cap := by rw [← hcap]; simp [Question.cut]
      have hcapm : cap ≤ maxLen := by rw [← hcap]; exact (cut_le 4 5).resolve_right (by decide)
      generalize hcs : (#[Value.int .u8 104, .int .u8 105, .int .u8 13, .int .u8 10] ++ Builtin.zeroCells _ _ : Array Value) = cs
      have hc0 : cs[0]? = some (.int .u8 104) ∧ cs[1]? = some (.int .u8 105) ∧ cs[2]? = some (.int .u8 13) ∧ cs[3]? = some (.int .u8 10) := by
        rw [← hcs]
        refine ⟨?_, ?_, ?_, ?_⟩ <;> (rw [Array.getElem?_append_left (by simp)]; rfl)
      have hlt3 := (Array.getElem?_eq_some_iff.1 (hB.later hb4 hG).lp).1
      have hB4 := (((hB.later (hb4.alloc (.cells cs 5)) hG).setO hG (.slice (some ⟨w3.heap.size, 0, none⟩) 4 cap) (by omega) (by omega) (by omega) (by omega) (by omega) (by omega) (by omega)).later ((Bel.refl _).drew) hG)
      have hQ : ((w3.alloc (.cells cs 5)).setCell ⟨w.heap.size, 0, none⟩ (.slice (some ⟨w3.heap.size, 0, none⟩) 4 cap)).drew.heap[w3.heap.size]? = some (.cells cs 5) := (Below.heap_setCell _ ⟨w.heap.size, 0, none⟩ _ w3.heap.size (show w3.heap.size ≠ w.heap.size by omega)).trans (al_new _ _ rfl)
      generalize ((w3.alloc (.cells cs 5)).setCell ⟨w.heap.size, 0, none⟩ (.slice (some ⟨w3.heap.size, 0, none⟩) 4 cap)).drew = W4 at hB4 hQ
      clear q0 q2 q4 q5 q6 q7 hcap hcs
      have k1 := hB4.emp
      have k2 := hB4.empf
      gi_wp2_with (rw [Oper.semAt_eq _ _ _ (fun c h => by cases h)]; go_simp; try go_bits)
      have hB5 := hB4.setE hG 0 (by omega) (by omega) (by omega) (by omega) (by omega) (by omega) (by omega)
      exact ⟨hB5.lp, rfl, w3.heap.size, cap, hB5.put hG (by omega) (by omega), by omega, hcap4, hcapm, cs, (World.putObj_heap_other (by omega)).trans ((Below.heap_setCell _ ⟨w.heap.size + 1, 0, none⟩ _ w3.heap.size (show w3.heap.size ≠ w.heap.size + 1 by omega)).trans hQ), hc0.1, hc0.2.1, hc0.2.2.1, hc0.2.2.2⟩
  · intro W q m a c' hJ
    obtain ⟨q0, cap, cs, hJB, h8, hc4, hcm4, hq, c0, c1, c2, c3⟩ := hJ
    have hS := hJB.setS hG (.slice (some a) 0 c') (by omega) (by omega) (by omega) (by omega) (by omega) (by omega) (by omega)
    refine ⟨hS.sp, ?_⟩
    have hL' := hS.lp
    rw [← hrec] at hL'
    refine yield_round trivial (show (World.drewN _ q).heap[_]? = _ from hL') rfl ?_
    rw [hrec]
    gi_wp2_with (rw [Oper.semAt_eq _ _ _ (fun c h => by cases h)]; go_simp; try go_bits)
    intro W2 hW2
    have hB : BoI W2 w (w.heap.size + 7) (w.heap.size + 6) (rec .busy none) (w.heap.size + 1 + 1 + 1 + 1) (w.heap.size + 1 + 1 + 1) (w.heap.size + 1 + 1 + 1 + 2) (w.heap.size + 1 + 1) w.heap.size (w.heap.size + 1) (.slice (some a) 0 c') mm (.slice (some ⟨q0, 0, none⟩) 4 cap) 0 := by
      rw [hW2]
      exact (hS.later ((Bel.refl _).drewN q) hG).put hG (by omega) (by omega)
    have hQ2 : W2.heap[q0]? = some (.cells cs 5) := by
      rw [hW2]
      exact (World.putObj_heap_other (by omega)).trans ((Below.heap_setCell _ ⟨w.heap.size + 1 + 1 + 1, 0, none⟩ _ q0 (show q0 ≠ w.heap.size + 1 + 1 + 1 by omega)).trans hq)
    clear hW2 hL' hS hJB hq
    gi_wp2_with (first
      | (rw [conv_no a]; simp only [Result.andThen, Oper.uponIn_value])
      | (rw [Oper.semAt_eq _ _ _ (fun c h => by cases h)]; go_simp; try go_bits))
    refine ⟨trivial, (fun h => by cases h), CallsIn.mono (show CallsIn (Fence.wide.inRound _) _ _ _ _ _ _ from callsIn_wide.2 (call_str sqz_no _ hB.gw)) ?_⟩
    rintro e w2 ⟨rfl, hb2⟩
    replace hB := hB.later hb2 hG
    replace hQ2 := (hb2.block _ (Array.getElem?_eq_some_iff.1 hQ2).1).trans hQ2
    have g2 := hB.emp
    have g4 := hB.empf
    gi_wp2_with (rw [Oper.semAt_eq _ _ _ (fun c h => by cases h)]; go_simp; try go_bits)
    have hB5 := hB.setE hG 1 (by omega) (by omega) (by omega) (by omega) (by omega) (by omega) (by omega)
    exact ⟨hB5.lp, rfl, q0, cap, ⟨a, c', hB5.put hG (by omega) (by omega)⟩, h8, hc4, hcm4, cs, (World.putObj_heap_other (by omega)).trans ((Below.heap_setCell _ ⟨w.heap.size + 1, 0, none⟩ _ q0 (show q0 ≠ w.heap.size + 1 by omega)).trans hQ2), c0, c1, c2, c3⟩
  · rintro e W3 ⟨⟨v, rfl⟩, q, cap, cs, a, c', hB, h8, hc4, hcm4, hq, c0, c1, c2, c3⟩
    have hend : (Instr.endLoop (w.heap.size + 6 + 1)).run Tryz.prog W3 = .ok none (W3.putObj (w.heap.size + 6 + 1) (.loop { rec .ready none with state := .exhausted })) := by
      have h := run_endLoop (P := Tryz.prog) hB.lp (by rw [← hrec]; simp [recL])
      rw [show w.heap.size + 7 = w.heap.size + 6 + 1 from rfl] at h
      have hp : (rec .ready none).pending = none := by rw [← hrec]; rfl
      rw [h]
      show Result.ok (rec .ready none).pending _ = _
      rw [hp]
      first | done | rfl | (simp only [hp]; done)
    have hB4 : BoI (W3.putObj (w.heap.size + 6 + 1) (.loop { rec .ready none with state := .exhausted })) w (w.heap.size + 7) (w.heap.size + 6) { rec .ready none with state := .exhausted } _ _ _ _ _ _ _ mm _ 1 := hB.put hG (by omega) (by omega)
    have hQ4 : (W3.putObj (w.heap.size + 6 + 1) (.loop { rec .ready none with state := .exhausted })).heap[q]? = some (.cells cs 5) := (World.putObj_heap_other (by omega)).trans hq
    generalize W3.putObj (w.heap.size + 6 + 1) (.loop { rec .ready none with state := .exhausted }) = W4 at hend hB4 hQ4
    refine ⟨none, W4, hend, ?_⟩
    have k1 := hB4.out
    have k2 := hB4.dd
    simp only
    gi_wp2
    have hD : (W4.putObj (w.heap.size + 6) (.deferred none)).heap[q]? = some (.cells cs 5) := (World.putObj_heap_other (by omega)).trans hQ4
    have hbel : Bel w (W4.putObj (w.heap.size + 6) (.deferred none)) := ⟨hB4.bel.os, hB4.bel.tape, hB4.bel.output, by simpa using hB4.bel.size, fun k hk => (World.putObj_heap_other (by omega)).trans (hB4.bel.block k hk)⟩
    refine ⟨by simp, .inl ⟨_, _, rfl, run_takeDeferred k2, ?_⟩⟩
    exact ⟨_, results_tmp rfl _ _ _, q, cap, rfl, hc4, hcm4, by omega, hbel, (cell_at hD).trans c0, (cell_at hD).trans c1, (cell_at hD).trans c2, (cell_at hD).trans c3⟩
theorem isHi_inv {es : List (List C)} (h : isHi es = true) : es = [[.int .u8 104], [.int .u8 105], [.int .u8 13], [.int .u8 10]] := by
  unfold isHi at h
  split at h
  · simp only [Bool.and_eq_true, beq_iff_eq] at h
    obtain ⟨rfl, rfl, rfl, rfl⟩ := h
    rfl
  · cases h
/-- the rule on canonical.body is sound -/
theorem bodP_ok {es r : List (List C)} (h : bodP es = some r) : CallOk Tryz.prog 127 [.c (.sl es)] (.c (.sl r), []) := by
  unfold bodP at h
  cases hh : isHi es with
  | false =>
    rw [hh, cond_false] at h
    unfold bodG at h
    split at h
    case isFalse => cases h
    rename_i hex
    injection h with h
    subst h
    exact (Classical.choose_spec hex).2
  | true =>
  rw [hh, cond_true] at h
  injection h with h
  subst h
  have hes := isHi_inv hh
  subst hes
  refine ⟨rfl, (fun b hb => by cases hb), fun w Z Y cargs hG hZ hY hs hr => ?_⟩
  have hs1 : cargs.size = 1 := hs
  obtain ⟨u, hu⟩ : ∃ u, cargs[0]? = some u := ⟨cargs[0]'(by omega), Array.getElem?_eq_getElem _⟩
  have r0 := hr 0 u _ hu rfl
  obtain rfl : cargs = #[u] := by
    apply Array.ext (by simpa using hs1)
    intro i h1 h2
    have : i = 0 := by simp at h2; omega
    subst this
    rw [Array.getElem?_eq_getElem h1] at hu
    injection hu
  cases r0 with
  | c r0 =>
  cases r0 with
  | sl A n c k b off U _ hl hc hm hk hA hz hr' hN =>
    have hn : n = 4 := hl.symm
    subst hn
    have hk1 : k = 1 := (hk [.int .u8 104] (by simp)).symm
    subst hk1
    have hA' := hA (by simp)
    subst hA'
    have cellk : ∀ (i : Nat) (x : Int), ([[C.int .u8 104], [.int .u8 105], [.int .u8 13], [.int .u8 10]] : List (List C))[i]? = some [.int .u8 x] → w.cell? ⟨b, off + i, none⟩ = some (.int .u8 x) := fun i x hi => by
      have z := hZ _ _ _ (hz i _ 0 _ hi rfl)
      have r1 := hr' i _ 0 _ hi rfl
      rw [Nat.mul_one, Nat.add_zero] at z r1
      generalize U i = v at z r1
      cases r1
      exact z
    refine (callsIn_wide.1 (bod_in b off c w hc hm hG (cellk 0 _ rfl) (cellk 1 _ rfl) (cellk 2 _ rfl) (cellk 3 _ rfl))).mono ?_
    rintro e w' ⟨g, c', rfl, h4, hcm, hg, hb, c0, c1, c2, c3⟩
    let Z' : ZMap := fun b' o => if b' = g then w'.cell? ⟨g, o, none⟩ else Z b' o
    have hzg : ∀ b' o u, Z b' o = some u → b' ≠ g := fun b' o u h e => by
      have := cell_lt (hZ _ _ _ h)
      omega
    have hup : ZUp (wb w) Z Z' := ⟨fun b' o u h => by simp [Z', hzg b' o u h, h], fun b' o u h => by
      by_cases e : b' = g
      · right; subst e; exact .inl hg
      · left; simpa [Z', e] using h⟩
    have hZ' : ∀ b' o u, Z' b' o = some u → w'.cell? ⟨b', o, none⟩ = some u := fun b' o u h => by
      by_cases e : b' = g
      · subst e; simpa [Z'] using h
      · have h1 : Z b' o = some u := by simpa [Z', e] using h
        have h2 := hZ _ _ _ h1
        rw [hb.cell _ (cell_lt h2)]; exact h2
    refine ⟨_, Z', fun _ => none, rfl, hup, ⟨wb_bel.2 hb, ⟨hG, GB.no hG⟩, hZ', (fun _ _ _ h => by cases h), by simp, by simp, by simp, by simp, by simp⟩, .c ?_, fun i h => absurd rfl h⟩
    have hget : ∀ (i : Nat) (e : List C) (j : Nat) (x : C), ([[C.int .u8 104], [.int .u8 105], [.int .u8 13], [.int .u8 10]] : List (List C))[i]? = some e → e[j]? = some x → j = 0 ∧ ∃ n : Int, x = .int .u8 n ∧ w'.cell? ⟨g, i, none⟩ = some (.int .u8 n) := by
      intro i e j x he hx
      match i, j with
      | 0, 0 => simp at he; subst he; simp at hx; subst hx; exact ⟨rfl, _, rfl, c0⟩
      | 1, 0 => simp at he; subst he; simp at hx; subst hx; exact ⟨rfl, _, rfl, c1⟩
      | 2, 0 => simp at he; subst he; simp at hx; subst hx; exact ⟨rfl, _, rfl, c2⟩
      | 3, 0 => simp at he; subst he; simp at hx; subst hx; exact ⟨rfl, _, rfl, c3⟩
      | 0, j + 1 => simp at he; subst he; simp at hx
      | 1, j + 1 => simp at he; subst he; simp at hx
      | 2, j + 1 => simp at he; subst he; simp at hx
      | 3, j + 1 => simp at he; subst he; simp at hx
      | i + 4, _ => simp at he
    refine .sl _ 4 c' 1 g 0 (fun j => (w'.cell? ⟨g, j, none⟩).getD undef) _ rfl h4 hcm (by simp) (fun _ => rfl) ?_ ?_ (by simp)
    · intro i e j x he hx
      obtain ⟨rfl, n, rfl, hcl⟩ := hget i e j x he hx
      simp [Z', hcl]
    · intro i e j x he hx
      obtain ⟨rfl, n, rfl, hcl⟩ := hget i e j x he hx
      simp only [Nat.mul_one, Nat.add_zero, hcl, Option.getD_some]
      exact .int _ _
end Go.Proofs.YtomnbknaanlmaaaGreatDoor
namespace Go.Proofs.YtomnbknaanlmaaaGreatDoor
open Go.RowKit
abbrev Fd := ByteArray × ByteArray
def encF (x : Fd) : List Value := [.string x.1, .string x.2]
def fdC (x : Fd) : List C := [.str x.1, .str x.2]
def flC (l : List Fd) : List (List C) := l.map fdC
def lsC (ls : List (List Fd)) : List (List C) := ls.map fun l => [.sl (flC l)]
theorem flC_each {l : List Fd} : ∀ e ∈ flC l, e.length = 2 := fun e he => by
  obtain ⟨x, _, rfl⟩ := List.mem_map.1 he
  rfl
theorem flC_get {l : List Fd} {i : Nat} {e : List C} (h : (flC l)[i]? = some e) : ∃ x, l[i]? = some x ∧ e = [.str x.1, .str x.2] := by
  rw [flC, List.getElem?_map] at h
  cases hx : l[i]? with
  | none => rw [hx] at h; cases h
  | some x => rw [hx] at h; injection h with h; exact ⟨x, rfl, h.symm⟩
theorem fldB_inv : ∀ {e : List C}, fldB e = true → ∃ x, e = fdC x
  | [.str a, .str b], _ => ⟨(a, b), rfl⟩
theorem flds_inv : ∀ {xs : List (List C)}, xs.all fldB = true → ∃ l, xs = flC l
  | [], _ => ⟨[], rfl⟩
  | e :: xs, h => by
    rw [List.all_cons, Bool.and_eq_true] at h
    obtain ⟨x, rfl⟩ := fldB_inv h.1
    obtain ⟨l, rfl⟩ := flds_inv h.2
    exact ⟨x :: l, rfl⟩
theorem catL_inv : ∀ {es r : List (List C)}, catL es = some r → ∃ ls, es = lsC ls ∧ r = flC ls.flatten
  | [], r, h => by injection h with h; subst h; exact ⟨[], rfl, rfl⟩
  | e :: es, r, h => by
    unfold catL at h
    split at h
    · rename_i e1; cases e1
    · rename_i xs r' e1
      injection e1 with e1 e2
      subst e1 e2
      split at h
      case isFalse => cases h
      rename_i hx
      obtain ⟨l, rfl⟩ := flds_inv hx
      cases hq : catL es with
      | none => rw [hq] at h; cases h
      | some q =>
        rw [hq] at h
        injection h with h
        obtain ⟨ls, rfl, rfl⟩ := catL_inv hq
        refine ⟨l :: ls, rfl, ?_⟩
        rw [← h]
        simp [flC]
    · cases h
theorem take_atF {α : Type} {l : List α} {k : Nat} (h : k < l.length) : l.take (k + 1) = l.take k ++ [l[k]] := by rw [List.take_add_one, List.getElem?_eq_getElem h]; rfl
/-- how many fields the first lists have -/
def upTo (ls : List (List Fd)) (i : Nat) : Nat := (ls.take i).flatten.length
theorem upTo_succ (ls : List (List Fd)) {i : Nat} (h : i < ls.length) : upTo ls (i + 1) = upTo ls i + ls[i].length := by
  unfold upTo; rw [take_atF h, List.flatten_append, List.length_append]; simp only [List.flatten_cons, List.flatten_nil, List.append_nil]
theorem upTo_le (ls : List (List Fd)) {i : Nat} (_h : i ≤ ls.length) : upTo ls i ≤ ls.flatten.length := by
  unfold upTo
  conv => rhs; rw [← List.take_append_drop i ls, List.flatten_append, List.length_append]
  omega
/-- a list of lists in memory -/
structure Lists (W : World) (A : Option Addr) (n : Nat) (ls : List (List Fd)) (V : Nat → Value) : Prop where
  len : ls.length = n
  at_ : ∀ i (h : i < ls.length), ∃ b off Ai ci, A = some ⟨b, off, none⟩ ∧ W.cell? ⟨b, off + i, none⟩ = some (V i) ∧ V i = .slice Ai ls[i].length ci ∧
    ((ls[i] = [] ) ∨ ∃ bi oi, Ai = some ⟨bi, oi, none⟩ ∧ ∀ (j : Nat) (x : Fd), ls[i][j]? = some x → W.cell? ⟨bi, oi + j * 2, none⟩ = some (.string x.1) ∧ W.cell? ⟨bi, oi + (j * 2 + 1), none⟩ = some (.string x.2))
theorem lists_of {W : World} {Z : ZMap} (hZ : ∀ b o u, Z b o = some u → W.cell? ⟨b, o, none⟩ = some u) {u : Value} {ls : List (List Fd)} (h : RepC Z u (.sl (lsC ls))) : ∃ A c V, u = .slice A ls.length c ∧ ls.length ≤ c ∧ c ≤ maxLen ∧ (A = none → c = 0) ∧ Lists W A ls.length ls V := by
  cases h with
  | sl A n c k b off U es hl hc hm hk hA hz hr hN =>
    rw [lsC, List.length_map] at hl
    subst hl
    refine ⟨A, c, fun i => U (i * k + 0), rfl, hc, hm, hN, rfl, fun i hi => ?_⟩
    have he : (lsC ls)[i]? = some [.sl (flC ls[i])] := by rw [lsC, List.getElem?_map, List.getElem?_eq_getElem hi]; rfl
    have hne : lsC ls ≠ [] := by intro e; rw [e] at he; simp at he
    have hk1 : k = 1 := (hk _ (List.mem_of_getElem? he)).symm
    subst hk1
    have hcell := hZ _ _ _ (hz i _ 0 _ he rfl)
    have hrep := hr i _ 0 _ he rfl
    have ha := hA hne
    rw [show i * 1 + 0 = i by omega] at hcell hrep ⊢
    generalize U i = v at hcell hrep
    cases hrep with
    | sl Ai ni ci ki bi oi Ui esi hli hci hmi hki hAi hzi hri hNi =>
      rw [flC, List.length_map] at hli
      subst hli
      refine ⟨b, off, Ai, ci, ha, hcell, rfl, ?_⟩
      by_cases h0 : ls[i] = []
      · exact .inl h0
      · right
        have hne : flC ls[i] ≠ [] := by intro e; exact h0 (List.map_eq_nil_iff.1 e)
        obtain ⟨e0, es0, hes⟩ := List.exists_cons_of_ne_nil hne
        have hk2 : ki = 2 := by
          rw [← hki e0 (by rw [hes]; simp)]
          exact flC_each e0 (by rw [hes]; simp)
        subst hk2
        refine ⟨bi, oi, hAi hne, fun j x hx => ?_⟩
        have hej : (flC ls[i])[j]? = some [.str x.1, .str x.2] := by rw [flC, List.getElem?_map, hx]; rfl
        have z0 := hZ _ _ _ (hzi j _ 0 _ hej rfl)
        have z1 := hZ _ _ _ (hzi j _ 1 _ hej rfl)
        have r0 := hri j _ 0 _ hej rfl
        have r1 := hri j _ 1 _ hej rfl
        generalize Ui (j * 2 + 0) = v0 at z0 r0
        generalize Ui (j * 2 + 1) = v1 at z1 r1
        cases r0; cases r1
        exact ⟨z0, z1⟩
/-- a row that grows -/
def Grows (W w : World) (v : Value) (tot : Nat) (l : List Fd) : Prop :=
  (tot = 0 ∧ v = .slice none 0 0 ∧ l = []) ∨ ∃ g c t cur, v = .slice (some ⟨g, 0, none⟩) l.length c ∧ W.heap.size ≤ g ∧ tot ≤ c ∧ c ≤ maxLen ∧ l.length ≤ tot ∧ 0 < tot ∧ w.heap[g]? = some (.cells cur t (0, 0)) ∧ cur.size = c * 2 ∧
    ∀ (i : Nat) (x : Fd), l[i]? = some x → cur[i * 2]? = some (.string x.1) ∧ cur[i * 2 + 1]? = some (.string x.2)
theorem fold_below (o : Nat) : ∀ (l : List Value) (i : Nat) (arr : Array Value) (q : Nat), q < o + i → ((l.zipIdx i).foldl (fun (cs : Array Value) (p : Value × Nat) => cs.setIfInBounds (o + p.2) p.1) arr)[q]? = arr[q]?
  | [], _, _, _, _ => rfl
  | v :: l, i, arr, q, h => by
    rw [List.zipIdx_cons, List.foldl_cons, fold_below o l (i + 1) _ q (by omega)]
    simp only
    rw [Array.getElem?_setIfInBounds_ne (by omega)]
theorem fold_size (o : Nat) : ∀ (l : List Value) (i : Nat) (arr : Array Value), ((l.zipIdx i).foldl (fun (cs : Array Value) (p : Value × Nat) => cs.setIfInBounds (o + p.2) p.1) arr).size = arr.size
  | [], _, _ => rfl
  | v :: l, i, arr => by rw [List.zipIdx_cons, List.foldl_cons, fold_size o l (i + 1)]; simp
theorem belF {W w w' : World} {g : Nat} (hb : Bel W w) (hg : W.heap.size ≤ g) (h : Wr g w w') : Bel W w' := ⟨h.os.trans hb.os, h.tape.trans hb.tape, h.output.trans hb.output, by rw [h.size]; exact hb.size, fun k hk => (h.block k (by omega)).trans (hb.block k hk)⟩
theorem fold_in (o : Nat) : ∀ (l : List Value) (i : Nat) (arr : Array Value) (q : Nat), i ≤ q → q < i + l.length → o + q < arr.size → ((l.zipIdx i).foldl (fun (cs : Array Value) (p : Value × Nat) => cs.setIfInBounds (o + p.2) p.1) arr)[o + q]? = l[q - i]?
  | [], i, arr, q, h1, h2, _ => by simp at h2; omega
  | v :: l, i, arr, q, h1, h2, h3 => by
    rw [List.zipIdx_cons, List.foldl_cons]
    by_cases e : q = i
    · subst e
      rw [fold_below o l (q + 1) _ (o + q) (by omega)]
      simp [h3]
    · rw [fold_in o l (i + 1) _ q (by omega) (by simp at h2; omega) (by simp; omega)]
      rw [show q - i = (q - (i + 1)) + 1 by omega, List.getElem?_cons_succ]
def flatF (l : List Fd) : List Value := l.flatMap encF
theorem flatF_length (l : List Fd) : (flatF l).length = l.length * 2 := by
  induction l with
  | nil => rfl
  | cons x l ih =>
    have : flatF (x :: l) = encF x ++ flatF l := rfl
    rw [this, List.length_append, ih]; simp [encF]; omega
theorem flatF_get : ∀ (l : List Fd) (j : Nat) (x : Fd), l[j]? = some x → (flatF l)[j * 2]? = some (.string x.1) ∧ (flatF l)[j * 2 + 1]? = some (.string x.2)
  | [], j, x, h => by simp at h
  | y :: l, 0, x, h => by simp at h; subst h; exact ⟨rfl, rfl⟩
  | y :: l, j + 1, x, h => by
    simp at h
    have ih := flatF_get l j x h
    have e : flatF (y :: l) = encF y ++ flatF l := rfl
    rw [e]
    rw [show (j + 1) * 2 = (encF y).length + j * 2 by simp [encF]; omega, show (encF y).length + j * 2 + 1 = (encF y).length + (j * 2 + 1) by omega]
    rw [List.getElem?_append_right (by omega), List.getElem?_append_right (by omega)]
    simp only [Nat.add_sub_cancel_left]
    exact ih
theorem flatF_cell {W : World} {l : List Fd} {bi oi : Nat} (h : ∀ (j : Nat) (x : Fd), l[j]? = some x → W.cell? ⟨bi, oi + j * 2, none⟩ = some (.string x.1) ∧ W.cell? ⟨bi, oi + (j * 2 + 1), none⟩ = some (.string x.2)) : ∀ (j : Nat) u, (flatF l)[j]? = some u → W.cell? ⟨bi, oi + j, none⟩ = some u := by
  intro j u hu
  have hj : j < l.length * 2 := by rw [← flatF_length]; exact (List.getElem?_eq_some_iff.1 hu).1
  have hj2 : j / 2 < l.length := by omega
  obtain ⟨c1, c2⟩ := h (j / 2) l[j / 2] (List.getElem?_eq_getElem hj2)
  obtain ⟨f1, f2⟩ := flatF_get l (j / 2) l[j / 2] (List.getElem?_eq_getElem hj2)
  rcases (show j = j / 2 * 2 ∨ j = j / 2 * 2 + 1 by omega) with e | e
  · rw [← e] at c1 f1; rw [f1] at hu; injection hu with hu; rw [c1, hu]
  · rw [← e] at c2 f2; rw [f2] at hu; injection hu with hu; rw [c2, hu]
/-- one list is appended -/
theorem grows_append {W w : World} {v : Value} {tot : Nat} {l xs : List Fd} (h : Grows W w v tot l) (hb : Bel W w) (hroom : l.length + xs.length ≤ tot) {Ai : Option Addr} {ci : Nat}
    (hx : xs = [] ∨ ∃ bi oi, Ai = some ⟨bi, oi, none⟩ ∧ ∀ (j : Nat) (x : Fd), xs[j]? = some x → W.cell? ⟨bi, oi + j * 2, none⟩ = some (.string x.1) ∧ W.cell? ⟨bi, oi + (j * 2 + 1), none⟩ = some (.string x.2)) :
    ∃ v' w', (∀ ty, (Builtin.append_ #[46, 46] ty #[v, .slice Ai xs.length ci]).run Tryz.prog w = .ok v' w') ∧ Bel W w' ∧ Grows W w' v' tot (l ++ xs) := by
  obtain ⟨i0, hi, hi2⟩ : ∃ i0, Tryz.prog.info? 45 = some i0 ∧ i0.size = 2 := by
    have h := Tryz.sizeOf45 w
    unfold Go.sizeOf at h
    cases hi : Tryz.prog.info? 45 with
    | none => simp [typeInfo, hi] at h
    | some i0 =>
      simp [typeInfo, hi] at h
      exact ⟨i0, rfl, h⟩
  have hfirst : (Builtin.firstCells 2 xs.length (.slice Ai xs.length ci)).run Tryz.prog w = .ok (flatF xs).toArray w := by
    refine run_first (flatF xs) (flatF_length xs) ?_
    rcases hx with rfl | ⟨bi, oi, hA, hc⟩
    · exact .inl ⟨rfl, .inr (by simp)⟩
    · by_cases h0 : xs = []
      · subst h0; exact .inl ⟨rfl, .inr (by simp)⟩
      · right
        refine ⟨bi, oi, hA, fun j u hu => ?_⟩
        have := flatF_cell hc j u hu
        rw [hb.cell _ (cell_lt this)]; exact this
  rw [← hi2] at hfirst
  rcases h with ⟨rfl, rfl, rfl⟩ | ⟨g, c, t, cur, rfl, hg, hc, hm, hle, hp, hv, hs, hcur⟩
  · have : xs = [] := List.eq_nil_of_length_eq_zero (by omega)
    subst this
    exact ⟨.slice none 0 0, w, fun ty => run_apd_room Tryz.underlying46 (.inl ⟨_, _, _, Tryz.underlying46, rfl⟩) hi (by simp) hfirst rfl, hb, .inl ⟨rfl, rfl, rfl⟩⟩
  · obtain ⟨w', r1, r2, r3⟩ := run_storeCells (P := Tryz.prog) (g := g) (o := l.length * 2) (flatF xs) 0 w cur hv (fun u hu => by
      unfold flatF at hu
      obtain ⟨x, _, hu⟩ := List.mem_flatMap.1 hu
      simp [encF] at hu
      rcases hu with rfl | rfl <;> rfl) (by rw [flatF_length, hs]; omega) (by simp)
    refine ⟨.slice (some ⟨g, 0, none⟩) (l.length + xs.length) c, w', fun ty => ?_, belF hb hg r2, .inr ⟨g, c, t, _, by rw [List.length_append], hg, hc, hm, by rw [List.length_append]; exact hroom, hp, r3, by rw [fold_size, hs], fun i x hx' => ?_⟩⟩
    · refine run_apd_room Tryz.underlying46 (.inl ⟨_, _, _, Tryz.underlying46, rfl⟩) hi (by omega) hfirst ?_
      rw [hi2]
      have e : (Addr.add ⟨g, 0, none⟩ (l.length * 2)) = ⟨g, l.length * 2, none⟩ := by unfold Addr.add; split <;> simp_all
      simp only [e]
      exact r1
    · rcases Nat.lt_or_ge i l.length with h1 | h1
      · rw [List.getElem?_append_left h1] at hx'
        rw [fold_below _ _ _ _ _ (by omega), fold_below _ _ _ _ _ (by omega)]
        exact hcur i x hx'
      · rw [List.getElem?_append_right h1] at hx'
        have hi' : i - l.length < xs.length := (List.getElem?_eq_some_iff.1 hx').1
        obtain ⟨f1, f2⟩ := flatF_get xs _ x hx'
        have e1 : i * 2 = l.length * 2 + (i - l.length) * 2 := by omega
        have e2 : i * 2 + 1 = l.length * 2 + ((i - l.length) * 2 + 1) := by omega
        rw [e1, show l.length * 2 + (i - l.length) * 2 + 1 = l.length * 2 + ((i - l.length) * 2 + 1) by omega]
        rw [fold_in _ _ 0 _ _ (by omega) (by rw [flatF_length]; omega) (by rw [hs]; omega), fold_in _ _ 0 _ _ (by omega) (by rw [flatF_length]; omega) (by rw [hs]; omega)]
        exact ⟨f1, f2⟩
end Go.Proofs.YtomnbknaanlmaaaGreatDoor
namespace Go.Proofs.YtomnbknaanlmaaaGreatDoor
open Go.Shelf
def growP_ren : Go.Shelf.Ren := ⟨fun | 4 => 129 | n => n, fun | 22 => 46 | 25 => 45 | 3 => 3 | 4 => 4 | 9 => 9 | 20 => 20 | 0 => 0 | n => n, fun | n => n⟩
theorem growP : Lays8.n4 Tryz.prog growP_ren := {
  mixed := by kernel_rfl
  f4 := ⟨Tryz.f129.name, by decide, Tryz.func129.trans (congrArg some (by kernel_rfl))⟩
  t0 := Tryz.underlying0
  a0 := Tryz.isAgg0
  z0 := Tryz.sizeOf0
  v0 := Tryz.zeroValue0
  t3 := Tryz.underlying3
  a3 := Tryz.isAgg3
  z3 := Tryz.sizeOf3
  v3 := Tryz.zeroValue3
  t4 := Tryz.underlying4
  a4 := Tryz.isAgg4
  z4 := Tryz.sizeOf4
  v4 := Tryz.zeroValue4
  t9 := Tryz.underlying9
  a9 := Tryz.isAgg9
  z9 := Tryz.sizeOf9
  v9 := Tryz.zeroValue9
  t20 := Tryz.underlying20
  a20 := Tryz.isAgg20
  z20 := Tryz.sizeOf20
  v20 := Tryz.zeroValue20
  t22 := Tryz.underlying46
  a22 := Tryz.isAgg46
  z22 := Tryz.sizeOf46
  v22 := Tryz.zeroValue46 }
end Go.Proofs.YtomnbknaanlmaaaGreatDoor
