/- slices.Concat at fields: the rule is sound (after slices.Concat at periods). -/
import Derived.Test.YtomnbknaanlmaaaGreatDoorZ18
import Derived.Test.YtomnbknaanlmaaaGreatDoorZ09
import Derived.Test.YtomnbknaanlmaaaGreatDoorZ15
import Derived.Test.YtomnbknaanlmaaaGreatDoorZ17
import Derived.Shelf.Strconv.AtoiAll
import Derived.Lib.AtoiAllCases
import Derived.Test.YtomnbknaanlmaaaGreatDoorZ16
import Derived.Shelf.Vars
import Derived.Shelf.Unicode.PredsPay
import Derived.Shelf.Unicode.CaseLaid
import Derived.Shelf.Unicode.DecodeSlow
import Derived.HandedShaped
import Derived.ChangeMaps5
import Derived.Deep.DeepHandedRow
import Derived.Lib.LaidU8
import Derived.Lib.LaidIn
import Derived.Lay
import Derived.LaidOnce
import Derived.Lib.LaidRTab
import Derived.Lib.LaidCase
import Derived.PinnedBridge
namespace Go.Proofs.YtomnbknaanlmaaaGreatDoor
open Go.RowKit
theorem fldInfo : ∃ i0 z, Tryz.prog.info? 45 = some i0 ∧ i0.size = 2 ∧ i0.zero = some z ∧ z.cells.size = 2 ∧ i0.bytes = 32 := by
  have h1 := sz45
  have h2 := by45
  have h3 := zo45
  unfold szO at h1
  unfold byO at h2
  unfold zOk at h3
  cases hi : Tryz.prog.info? 45 with
  | none => rw [hi] at h1; cases h1
  | some i0 =>
    rw [hi] at h1 h2 h3
    simp only [Option.map_some, Option.some.injEq, decide_eq_true_eq] at h1 h2 h3
    cases hz : i0.zero with
    | none => rw [hz] at h3; cases h3
    | some z =>
      rw [hz] at h3
      simp only [Option.map_some, Option.some.injEq] at h3
      exact ⟨i0, z, rfl, h1, hz, by rw [h3, h1], h2⟩
theorem grow_calls {W w : World} (hb : Bel W w) (tot : Nat) (ht : tot ≤ 1000000) : Calls Tryz.prog 129 #[.slice none 0 0, .int .i64 tot] w fun e w' => ∃ v, e = .returned v ∧ Bel W w' ∧ Grows W w' v tot [] := by
  by_cases h0 : tot = 0
  · subst h0
    refine (Any8.slices_Grow_room growP none 0 0 0 w (by omega) (by omega) (by omega) (by omega)).mono ?_
    rintro e w' ⟨rfl, rfl⟩
    exact ⟨_, rfl, hb, .inl ⟨rfl, rfl, rfl⟩⟩
  · obtain ⟨i0, z, hi, hs, hz, hzs, hby⟩ := fldInfo
    refine (Any8.slices_Grow_grow growP i0 z hi hz (by omega) none 0 0 tot [] w (by omega) (by omega) (by rw [hby]; omega) (by omega) (by simp) (fun _ => rfl) (by simp)).mono ?_
    have hge : 0 + tot ≤ grownCap w (0 + tot) 0 45 := grownCap_ge w _ _ _
    have hle := grownCap_le_maxLen w (0 + tot) 0 45 (by unfold maxLen; omega)
    rintro e w' ⟨rfl, rfl⟩
    refine ⟨_, rfl, ?_, .inr ⟨w.heap.size, grownCap w (0 + tot) 0 45, 45, _, rfl, hb.size, by omega, hle, Nat.zero_le _, by omega, heap_alloc_new w.drew _, ?_, by simp⟩⟩
    · exact (Bel.refl w |> hb.trans).drew.alloc _
    · show ((([] : List Value).toArray ++ Builtin.zeroCells z.cells (0 + tot - 0)) ++ Builtin.zeroCells z.cells (grownCap w (0 + tot) 0 45 - (0 + tot))).size = _
      simp only [Array.size_append, zeroCells_size, hzs]
      generalize grownCap w (0 + tot) 0 45 = G at *
      simp
      omega
theorem wpList_append_eq {P : Program} {w w' : World} {ops : Array Oper} {rest : List Oper} {o : Oper} {a : Act} {Q : Exit → Act → World → Prop}
    (hg : o.guard = none) (s x : Operand) (t tx : TypeId) (hop : o.op = Op.call { callee := Callee.builtin Builtin.append, args := #[s, x], argTypes := #[t, tx] })
    {v xv v' : Value} (hs : a.eval s = v) (hx : a.eval x = xv) (hrun : (Builtin.append_ #[t, tx] o.type #[v, xv]).run P w = .ok v' w')
    (hK : wpList P ops Q rest (a.put o.dst v') w') : wpList P ops Q (o :: rest) a w := by
  refine wpList_plain hg fun K hK' => ?_
  unfold Oper.wp
  simp [execOp, hop, resolve, invoke, builtin, hs, hx, hrun, Result.andThen]
  exact hK' _ _ hK
set_option maxHeartbeats 4000000 in
set_option maxRecDepth 1000000 in
theorem cat_walk {W : World} {A : Option Addr} {c : Nat} {ls : List (List Fd)} {V : Nat → Value} (hL : Lists W A ls.length ls V) (hc : ls.length ≤ c) (hm : c ≤ maxLen) (ht : ls.flatten.length ≤ 1000000) :
    Calls Tryz.prog 86 #[.slice A ls.length c] W fun e w' => ∃ v, e = .returned v ∧ Bel W w' ∧ Grows W w' v ls.flatten.length ls.flatten := by
  have hn : ls.length ≤ 9223372036854775807 := by unfold maxLen at hm; omega
  generalize hN : ls.length = n at *
  have HL : Aside (Lists W A n ls V) := hL
  have HT : Aside (ls.flatten.length ≤ 1000000) := ht
  have HN : Aside (ls.length = n) := hN
  have hup : ∀ i, i ≤ n → upTo ls i ≤ ls.flatten.length := fun i hi => upTo_le ls (by omega)
  have HU : Aside _ := hup
  clear hL ht hN hup hm
  go_enter Tryz.func86, Tryz.ntmps86
  go_wp2
  go_loopg [3, 11] n (fun gg s3 s11 wr => ∃ i : Nat, s3 = .int .i64 (upTo ls i : Nat) ∧ s11 = .int .i64 (i : Nat) ∧ i ≤ n ∧ n - i ≤ gg ∧ wr = W)
  case atStart => exact ⟨0, by simp [upTo], rfl, by omega, by omega, rfl⟩
  case round =>
    obtain ⟨i, rfl, rfl, hin, hgg, hwr⟩ := hrel
    have hwr' := hwr.symm
    clear hwr
    subst hwr'
    by_cases hlt : i < n
    · have hltz : (i : Int) < (n : Int) := by omega
      have hils : i < ls.length := by rw [HN.out]; exact hlt
      obtain ⟨b, off, Ai, ci, hA, hcell, hVi, _⟩ := HL.out.at_ i hils
      have hsz : upTo ls i + ls[i].length ≤ 1000000 := by
        have h1 := HU.out (i + 1) (by omega)
        rw [upTo_succ ls hils] at h1
        have := HT.out
        omega
      rw [hVi] at hcell
      subst hA
      have hgr := HU.out
      have c1 : (0 : Int) ≤ (upTo ls i : Nat) := by omega
      have hw1 : wrap64 (((upTo ls i : Nat) : Int) + (ls[i].length : Nat)) = ((upTo ls (i + 1) : Nat) : Int) := by rw [upTo_succ ls hils]; unfold wrap64; omega
      have hw2 : wrap64 ((i : Int) + 1) = ((i + 1 : Nat) : Int) := by unfold wrap64; omega
      have c2 : ¬ ((upTo ls (i + 1) : Nat) : Int) < 0 := by omega
      clear hVi hgr hsz
      go_wp2
      go_roundg (n - (i + 1))
      case measure => omega
      case rel => exact ⟨i + 1, rfl, rfl, by omega, Nat.le_refl _, rfl⟩
    · obtain rfl : i = n := by omega
      have hltz : ¬ (i : Int) < (i : Int) := by omega
      have etot : upTo ls i = ls.flatten.length := by unfold upTo; rw [← HN.out, List.take_length]
      rw [etot]
      have hgrow := grow_calls (Bel.refl W) ls.flatten.length HT.out
      have ET : Aside (upTo ls i = ls.flatten.length) := etot
      generalize hF : ls.flatten.length = tot at *
      have HF : Aside (ls.flatten.length = tot) := hF
      clear etot hF
      go_wp2_with (go_at_call 129; refine hgrow.mono ?_; rintro e w1 ⟨v1, rfl, hb1, hg1⟩)
      have HG : Aside _ := hg1
      have HB : Aside _ := hb1
      clear hg1 hb1 hgrow
      go_loopg [6, 27] i (fun gg s6 s27 wq => ∃ k : Nat, s27 = .int .i64 (k : Nat) ∧ k ≤ i ∧ i - k ≤ gg ∧ Aside (Bel W wq ∧ Grows W wq s6 tot (ls.take k).flatten))
      case atStart => exact ⟨0, rfl, by omega, by omega, HB.out, HG.out⟩
      case round =>
        obtain ⟨k, rfl, hki, hgg2, hinv⟩ := hrel
        obtain ⟨hbq, hgq⟩ := hinv.out
        by_cases hlt2 : k < i
        · have hltz2 : (k : Int) < (i : Int) := by omega
          have hils : k < ls.length := by rw [HN.out]; exact hlt2
          obtain ⟨b, off, Ai, ci, hA, hcell, hVi, hx⟩ := HL.out.at_ k hils
          have hroom : (ls.take k).flatten.length + ls[k].length ≤ tot := by
            have h1 := HU.out (k + 1) (by omega)
            rw [upTo_succ ls hils] at h1
            exact h1
          have hcell2 : wr.cell? ⟨b, off + k, none⟩ = some (V k) := by rw [hbq.cell _ (cell_lt hcell)]; exact hcell
          subst hA
          obtain ⟨v', w', happ, hb', hg'⟩ := grows_append hgq hbq hroom (ci := ci) hx
          rw [← hVi] at happ
          have hone : (V k).oneCell' = true := by rw [hVi]; rfl
          have hcls : (V k).cells = #[V k] := by rw [hVi]; rfl
          generalize V k = sv at hcell2 happ hone hcls
          have enx : (ls.take (k + 1)).flatten = (ls.take k).flatten ++ ls[k] := by rw [take_atF hils, List.flatten_append]; simp
          rw [← enx] at hg'
          have HI : Aside (Bel W w' ∧ Grows W w' v' tot (ls.take (k + 1)).flatten) := ⟨hb', hg'⟩
          have hw2 : wrap64 ((k : Int) + 1) = ((k + 1 : Nat) : Int) := by unfold wrap64; omega
          have HA : Aside (∀ ty, (Builtin.append_ #[46, 46] ty #[u6, sv]).run Tryz.prog wr = .ok v' w') := happ
          clear hVi hcell hx hbq hgq hinv hb' hg' enx hroom happ
          go_wp2_with (at_builtin; refine wpList_append_eq rfl (.tmp 31) (.tmp 32) 46 46 rfl rfl rfl (HA.out _) ?_)
          go_roundg (i - (k + 1))
          case measure => omega
          case rel => exact ⟨k + 1, rfl, by omega, Nat.le_refl _, HI⟩
        · obtain rfl : k = i := by omega
          have hltz2 : ¬ (k : Int) < (k : Int) := by omega
          have etk : (ls.take k).flatten = ls.flatten := by rw [← HN.out, List.take_length]
          rw [etk] at hgq
          have HI : Aside (Bel W wr ∧ Grows W wr u6 tot ls.flatten) := ⟨hbq, hgq⟩
          clear hbq hgq hinv etk
          go_wp2
          go_ret
          have := HI.out
          rw [← HF.out] at this
          exact ⟨u6, rfl, this.1, by simpa using this.2⟩
theorem cat_ok (ls : List (List Fd)) (ht : ls.flatten.length ≤ 1000000) : CallOk Tryz.prog 86 [.c (.sl (lsC ls))] (.row 0 ls.flatten.length, [.row (flC ls.flatten)]) := by
  refine ⟨rfl, (fun b hb => ⟨_, by simpa using hb⟩), fun W Z Y cargs hG hZ hY hs hr => ?_⟩
  have hs1 : cargs.size = 1 := hs
  obtain ⟨u, hu⟩ : ∃ u, cargs[0]? = some u := ⟨cargs[0]'(by omega), Array.getElem?_eq_getElem _⟩
  have r0 := hr 0 u _ hu rfl
  cases r0 with
  | c r0 =>
  obtain rfl : cargs = #[u] := by
    apply Array.ext (by simpa using hs1)
    intro i h1 h2
    have : i = 0 := by simp at h2; omega
    subst this
    rw [Array.getElem?_eq_getElem h1] at hu
    injection hu
  obtain ⟨A, c, V, rfl, hc, hm, hN, hL⟩ := lists_of hZ r0
  refine (cat_walk hL hc hm ht).mono fun e w' => ?_
  rintro ⟨v, rfl, hb, hg⟩
  generalize ls.flatten = F at *
  have hZ' : ∀ b o u, Z b o = some u → w'.cell? ⟨b, o, none⟩ = some u := fun b o u h => by have := hZ b o u h; rw [hb.cell _ (cell_lt this)]; exact this
  rcases hg with ⟨h0, rfl, hF⟩ | ⟨g, c', t, cur, rfl, hgb, hc', hm', hle, hp, hv, hcs, hcur⟩
  · rw [hF]
    refine ⟨_, Z, fun i => if i = 0 then some (.slice none 0 0) else none, rfl, ZUp.refl, ⟨wb_bel.2 hb, ⟨hG, GB.no hG⟩, hZ', (fun _ _ _ h => by cases h), ?_, ?_, ?_, ?_, ?_⟩, .row 0 0 none 0 (by simp) (by simp), ?_⟩
    · intro id cs h
      cases id <;> simp at h
    · intro id es h
      cases id with
      | zero => simp [flC] at h; subst h; exact .inl ⟨by simp, rfl⟩
      | succ id => simp at h
    · intro id es q v h
      cases id <;> simp at h
    · intro id l h
      cases id <;> simp at h
    · intro id id' g _ _ h
      unfold blkOf at h
      by_cases h0 : id = 0 <;> simp [h0] at h
    · intro i h
      by_cases h0 : i = 0
      · subst h0; simp
      · simp [h0] at h
  · refine ⟨_, Z, fun i => if i = 0 then some (.slice (some ⟨g, 0, none⟩) F.length c') else none, rfl, ZUp.refl, ⟨wb_bel.2 hb, ⟨hG, GB.no hG⟩, hZ', (fun _ _ _ h => by cases h), ?_, ?_, ?_, ?_, ?_⟩, .row 0 F.length _ c' (by simp) (fun _ => ⟨g, rfl⟩), ?_⟩
    · intro id cs h
      cases id <;> simp at h
    · intro id es h
      cases id with
      | succ id => simp at h
      | zero =>
        simp at h; subst h
        refine .inr ⟨g, F.length, c', 2, by simp, ⟨.inl hgb, ⟨t, (0, 0), cur, hv, hcs, by simp, fun i e j x h1 h2 => ?_⟩, by simp [flC], by omega, hm', by decide, fun h => ?_, flC_each, (fun o ho => ?_)⟩⟩
        · obtain ⟨y, hy, rfl⟩ := flC_get h1
          obtain ⟨c1, c2⟩ := hcur i y hy
          match j with
          | 0 => simp at h2; subst h2; exact ⟨_, c1, .str _⟩
          | 1 => simp at h2; subst h2; exact ⟨_, c2, .str _⟩
          | j + 2 => simp at h2
        · exact absurd h (by omega)
        · cases hzz : Z g o with
          | none => exact absurd hzz ho
          | some u => have := cell_lt (hZ g o u hzz); omega
    · intro id es q v h
      cases id <;> simp at h
    · intro id l h
      cases id <;> simp at h
    · intro id id' g' h1 h2 _ _
      cases id with
      | succ id => simp at h1
      | zero => cases id' with
        | succ id' => simp at h2
        | zero => rfl
    · intro i h
      by_cases h0 : i = 0
      · subst h0; simp
      · simp [h0] at h
/-- the rule on slices.Concat at fields is sound -/
theorem catP_ok {es r : List (List C)} (h : catP es = some r) : CallOk Tryz.prog 86 [.c (.sl es)] (.row 0 r.length, [.row r]) := by
  unfold catP at h
  cases hq : catL es with
  | none => rw [hq] at h; cases h
  | some q =>
  rw [hq] at h
  simp only [Option.bind_some] at h
  split at h
  case isFalse => cases h
  rename_i hc
  injection h with h
  subst h
  obtain ⟨ls, rfl, rfl⟩ := catL_inv hq
  have hl : (flC ls.flatten).length = ls.flatten.length := List.length_map _
  rw [hl] at hc ⊢
  exact cat_ok ls hc
end Go.Proofs.YtomnbknaanlmaaaGreatDoor
namespace Go.Proofs.YtomnbknaanlmaaaGreatDoor
open Go.RowKit
theorem bel_of {w w' : World} (h : Below w.heap.size w w') : Bel w w' := ⟨h.os, h.tape, h.output, h.size, h.block⟩
theorem gw_ml {w : World} (h : GW w) : ∃ m, w.cell? ⟨4, 0, none⟩ = some (.int .i64 m) := by unfold GW at h; exact h.1
theorem gw_bel {w w' : World} (h : GW w) (hb : Bel w w') : GW w' := BelA.gw (wb_bel.2 hb) ⟨h, GB.no h⟩
theorem gw_pow {w : World} (h : GW w) : Lib.TabIs Tryz.prog w "internal/strconv.uint64pow10" .u64 Lib.pow10Tab := by
  unfold GW at h
  obtain ⟨_, ⟨t, fz, h⟩, _⟩ := h
  have hn : Tryz.prog.globalNamed "internal/strconv.uint64pow10" = some 9 := by kernel_rfl
  unfold Lib.TabIs World.var?
  rw [hn]
  simp only [Option.bind_some, h]
theorem gw_syn {w : World} (h : GW w) : ∃ ev, w.cell? ⟨7, 0, none⟩ = some ev ∧ (ev = .nilIface ∨ ∃ te pe, ev = .iface te pe) := by
  unfold GW at h
  exact h.2.2.1
theorem gw_ran {w : World} (h : GW w) : ∃ ev, w.cell? ⟨8, 0, none⟩ = some ev ∧ (ev = .nilIface ∨ ∃ te pe, ev = .iface te pe) := by
  unfold GW at h
  exact h.2.2.2.1
theorem rel_none {w w' : World} {Z : ZMap} (hG : GW w) (hb : Bel w w') (hZ : ∀ b o u, Z b o = some u → w.cell? ⟨b, o, none⟩ = some u) : Rel (wb w) Z (fun _ _ => none) (fun _ => none) (fun i => ([] : List B)[i]?) (fun _ => false) w' :=
  ⟨wb_bel.2 hb, ⟨hG, GB.no hG⟩, fun b o u h => by rw [hb.cell _ (cell_lt (hZ _ _ _ h))]; exact hZ _ _ _ h, (fun _ _ _ h => by cases h), by simp, by simp, by simp, by simp, by simp⟩
theorem args1 {cargs : Array Value} {a : V} {Z Y : ZMap} (hs : cargs.size = 1) (hr : ∀ (i : Nat) u x, cargs[i]? = some u → [a][i]? = some x → Rep Z Y noM u x) : ∃ u, cargs = #[u] ∧ Rep Z Y noM u a := by
  refine ⟨cargs[0]'(by omega), ?_, hr 0 _ _ (Array.getElem?_eq_getElem _) rfl⟩
  apply Array.ext (by simpa using hs)
  intro i h1 h2
  have : i = 0 := by omega
  subst this
  rfl
theorem args2 {cargs : Array Value} {a b : V} {Z Y : ZMap} (hs : cargs.size = 2) (hr : ∀ (i : Nat) u x, cargs[i]? = some u → [a, b][i]? = some x → Rep Z Y noM u x) : ∃ u v, cargs = #[u, v] ∧ Rep Z Y noM u a ∧ Rep Z Y noM v b := by
  refine ⟨cargs[0]'(by omega), cargs[1]'(by omega), ?_, hr 0 _ _ (Array.getElem?_eq_getElem _) rfl, hr 1 _ _ (Array.getElem?_eq_getElem _) rfl⟩
  apply Array.ext (by simpa using hs)
  intro i h1 h2
  match i, h1 with
  | 0, _ => rfl
  | 1, _ => rfl
  | i + 2, h1 => omega
/-- a rule whose answer has no rows -/
theorem callOk_plain {f : FuncId} {args : List V} {x : V} (ho : okRes x = true) (h : ∀ (w : World) (Z Y : ZMap) (cargs : Array Value), GW w → (∀ b o u, Z b o = some u → w.cell? ⟨b, o, none⟩ = some u) → cargs.size = args.length → (∀ (i : Nat) u x, cargs[i]? = some u → args[i]? = some x → Rep Z Y noM u x) →
    Calls Tryz.prog f cargs w fun e w' => ∃ cv, e = .returned cv ∧ Bel w w' ∧ ∀ (Z : ZMap) Y, Rep Z Y noM cv x) : CallOk Tryz.prog f args (x, []) := by
  refine ⟨ho, (fun b hb => by cases hb), fun w Z Y cargs hG hZ hY hs hr => (h w Z Y cargs hG hZ hs hr).mono fun e w' => ?_⟩
  rintro ⟨cv, rfl, hb, r⟩
  exact ⟨cv, Z, fun _ => none, rfl, ZUp.refl, rel_none hG hb hZ, r _ _, fun i h => absurd rfl h⟩
theorem itoa_calls (n : Int) (h0 : -9223372036854775808 ≤ n) (h1 : n ≤ 9223372036854775807) (w : World) (ht : Lib.TabIs Tryz.prog w "internal/strconv.uint64pow10" .u64 Lib.pow10Tab) :
    Calls Tryz.prog 202 #[.int .i64 n] w fun e w' => e = .returned (.string ⟨(Lib.itoa n).toArray⟩) ∧ Bel w w' := (Any.strconv_Itoa laysM171 n h0 h1 w ht).mono fun e w' => by
  rintro ⟨rfl, k, os, rfl⟩
  refine ⟨rfl, rfl, rfl, rfl, ?_, fun k hk => ?_⟩
  · show w.heap.size ≤ (w.heap ++ os).size
    rw [Array.size_append]; omega
  · show (w.heap ++ os)[k]? = _
    rw [Array.getElem?_append_left hk]
theorem nv_app (a : List UInt8) (c : UInt8) : nvL (a ++ [c]) = 10 * nvL a + (c.toNat - 48) := by simp [nvL, List.foldl_append]
theorem nv_dec (n : Nat) : nvL (Lib.decDigits n) = n := by
  induction n using Nat.strongRecOn with
  | _ n ih =>
    rw [Lib.decDigits]
    split
    · rename_i h
      simp only [nvL, List.foldl_cons, List.foldl_nil]
      rw [UInt8.toNat_ofNat']
      omega
    · rename_i h
      rw [nv_app, ih (n / 10) (by omega), UInt8.toNat_ofNat']
      omega
theorem pu_app (c : UInt8) : ∀ (l : List UInt8) (acc u : Nat), Lib.parseUint10 acc l = .ok u → Lib.parseUint10 acc (l ++ [c]) = Lib.parseUint10 u [c]
  | [], acc, u, h => by
    simp only [Lib.parseUint10] at h
    injection h with h
    rw [h]
    rfl
  | d :: l, acc, u, h => by
    simp only [Lib.parseUint10, List.cons_append] at h ⊢
    split at h
    · rename_i h1
      rw [if_pos h1]
      split at h; · cases h
      rename_i h2
      rw [if_neg h2]
      split at h; · cases h
      rename_i h3
      rw [if_neg h3]
      rw [pu_app c l _ u h]
      simp only [Lib.parseUint10]
    · cases h
theorem pu_dec (n : Nat) (hn : n ≤ 9223372036854775807) : Lib.parseUint10 0 (Lib.decDigits n) = .ok n := by
  induction n using Nat.strongRecOn with
  | _ n ih =>
    rw [Lib.decDigits]
    split
    · rename_i h
      have e : (UInt8.ofNat (48 + n)).toNat = 48 + n := by rw [UInt8.toNat_ofNat']; omega
      simp only [Lib.parseUint10, e]
      rw [if_pos (by omega), if_neg (by omega), if_neg (by omega)]
      congr 1
      omega
    · rename_i h
      have e : (UInt8.ofNat (48 + n % 10)).toNat = 48 + n % 10 := by rw [UInt8.toNat_ofNat']; omega
      rw [pu_app _ _ _ _ (ih (n / 10) (by omega) (by omega))]
      simp only [Lib.parseUint10, e]
      rw [if_pos (by omega), if_neg (by omega), if_neg (by omega)]
      congr 1
      omega
theorem dec_first (n : Nat) : ∃ c r, Lib.decDigits n = c :: r ∧ 48 ≤ c.toNat := by
  induction n using Nat.strongRecOn with
  | _ n ih =>
    rw [Lib.decDigits]
    split
    · rename_i h
      refine ⟨_, _, rfl, ?_⟩
      rw [UInt8.toNat_ofNat']
      omega
    · rename_i h
      obtain ⟨c, r, h1, h2⟩ := ih (n / 10) (by omega)
      rw [h1]
      exact ⟨c, _, rfl, h2⟩
theorem atoi_dec (n : Nat) (hn : n ≤ 9223372036854775807) : Lib.atoiAll (Lib.decDigits n) = .ok (n : Int) := by
  obtain ⟨c, r, h1, h2⟩ := dec_first n
  have h3 := pu_dec n hn
  rw [h1] at h3 ⊢
  rw [Lib.atoiAll_plain c r (by omega) (by omega)]
  unfold Lib.parseMag
  rw [if_neg (by simp), h3]
  have e : ¬ 9223372036854775808 ≤ n := by omega
  simp only [Lib.signless, if_neg e]
theorem ba_eq {s t : ByteArray} : s = t ↔ s.data.toList = t.data.toList := ⟨fun h => by rw [h], fun h => ByteArray.ext (Array.toList_inj.1 h)⟩
/-- what basic.Number answers -/
theorem num_val {s : ByteArray} {v : Int} (h : Lib.atoiAll s.data.toList = .ok v) (most : Int) (hm : most ≤ 9223372036854775807) :
    (if s.data.toList = Lib.decDigits (nvL s.data.toList) ∧ (nvL s.data.toList : Int) ≤ most then ((nvL s.data.toList : Int), true) else (0, false)) =
    (if Lib.itoa v = s.data.toList ∧ 0 ≤ v ∧ v ≤ most then (v, true) else (0, false)) := by
  by_cases hc : Lib.itoa v = s.data.toList ∧ 0 ≤ v ∧ v ≤ most
  · rw [if_pos hc]
    obtain ⟨h1, h2, h3⟩ := hc
    have e : Lib.itoa v = Lib.decDigits v.toNat := by unfold Lib.itoa; rw [if_neg (by omega)]
    rw [e] at h1
    rw [← h1, nv_dec, if_pos ⟨rfl, by omega⟩]
    congr 1
    omega
  · rw [if_neg hc, if_neg ?_]
    rintro ⟨h1, h2⟩
    rw [h1] at h
    rw [atoi_dec _ (by omega)] at h
    injection h with h
    subst h
    refine hc ⟨?_, by omega, h2⟩
    unfold Lib.itoa
    rw [if_neg (by omega), Int.toNat_natCast]
    exact h1.symm
theorem num_bad {s : ByteArray} (h : ∀ v, Lib.atoiAll s.data.toList ≠ .ok v) (most : Int) (hm : most ≤ 9223372036854775807) :
    (if s.data.toList = Lib.decDigits (nvL s.data.toList) ∧ (nvL s.data.toList : Int) ≤ most then ((nvL s.data.toList : Int), true) else (0, false)) = (0, false) := by
  rw [if_neg]
  rintro ⟨h1, h2⟩
  have := h (nvL s.data.toList)
  rw [h1] at this
  rw [nv_dec] at this
  exact this (atoi_dec _ (by omega))
theorem bel_bytes (w : World) (e : TypeId) (t : ByteArray) : Bel w (Lib.bytesWorld w e t) := ⟨rfl, rfl, rfl, by rw [Lib.bytesWorld_size]; omega, fun k hk => Lib.bytesWorld_at_old w e t k hk⟩
set_option maxRecDepth 100000 in
set_option maxHeartbeats 1600000 in
theorem number_calls (s : ByteArray) (most : Int) (w : World) (hG : GW w) (r : Int × Bool) (hr : numP s most = some r) :
    Calls Tryz.prog 194 #[.string s, .int .i64 most] w fun e w' => e = .returned (.tuple #[.int .i64 r.1, .bool r.2]) ∧ Bel w w' := by
  unfold numP at hr
  split at hr
  case isFalse => cases hr
  rename_i hsm
  obtain ⟨hs, hm⟩ := hsm
  injection hr with hr
  obtain ⟨es, hes, hes2⟩ := gw_syn hG
  obtain ⟨er, her, her2⟩ := gw_ran hG
  cases ha : Lib.atoiAll s.data.toList with
  | ok v =>
    rw [num_val ha most hm] at hr
    obtain ⟨hv0, hv1⟩ := Lib.atoiAll_bounds ha
    have hat : Calls Tryz.prog 213 #[.string s] w fun e w' => e = .returned (.tuple #[.int .i64 v, .nilIface]) ∧ Bel w w' := (Any.strconv_Atoi_ok laysC172 s (by omega) v ha w).mono fun e w' h => ⟨h.1, by
      rcases h.2 with h | ⟨t, h⟩
      · rw [h]; exact Bel.refl _
      · rw [h]; exact bel_bytes _ _ _⟩
    by_cases h1 : Lib.itoa v = s.data.toList
    · have hse : (⟨(Lib.itoa v).toArray⟩ : ByteArray) = s := by rw [ba_eq]; simpa using h1
      by_cases h2 : 0 ≤ v
      · by_cases h3 : v ≤ most
        · rw [if_pos ⟨h1, h2, h3⟩] at hr
          subst hr
          go_enter Tryz.func194, Tryz.ntmps194
          go_wp2_with (first | (go_at_call 213; refine hat.mono ?_; rintro e w1 ⟨rfl, hb1⟩) | (go_at_call 202; refine (itoa_calls v hv0 hv1 _ (gw_pow (gw_bel hG hb1))).mono ?_; rintro e w2 ⟨rfl, hb2⟩; rw [hse]))
          go_ret2
          exact ⟨rfl, hb1.trans hb2⟩
        · rw [if_neg (fun h => h3 h.2.2)] at hr
          subst hr
          have h3' : most < v := by omega
          go_enter Tryz.func194, Tryz.ntmps194
          go_wp2_with (first | (go_at_call 213; refine hat.mono ?_; rintro e w1 ⟨rfl, hb1⟩) | (go_at_call 202; refine (itoa_calls v hv0 hv1 _ (gw_pow (gw_bel hG hb1))).mono ?_; rintro e w2 ⟨rfl, hb2⟩; rw [hse]))
          go_ret2
          exact ⟨rfl, hb1.trans hb2⟩
      · rw [if_neg (fun h => h2 h.2.1)] at hr
        subst hr
        have h2' : v < 0 := by omega
        go_enter Tryz.func194, Tryz.ntmps194
        go_wp2_with (first | (go_at_call 213; refine hat.mono ?_; rintro e w1 ⟨rfl, hb1⟩) | (go_at_call 202; refine (itoa_calls v hv0 hv1 _ (gw_pow (gw_bel hG hb1))).mono ?_; rintro e w2 ⟨rfl, hb2⟩; rw [hse]))
        go_ret2
        exact ⟨rfl, hb1.trans hb2⟩
    · rw [if_neg (fun h => h1 h.1)] at hr
      subst hr
      have h1' : ¬ Lib.itoa v = s.toList := by rw [ByteArray.toList_eq]; exact h1
      go_enter Tryz.func194, Tryz.ntmps194
      go_wp2_with (first | (go_at_call 213; refine hat.mono ?_; rintro e w1 ⟨rfl, hb1⟩) | (go_at_call 202; refine (itoa_calls v hv0 hv1 _ (gw_pow (gw_bel hG hb1))).mono ?_; rintro e w2 ⟨rfl, hb2⟩))
      go_ret2
      exact ⟨rfl, hb1.trans hb2⟩
  | range =>
    rw [num_bad (by rw [ha]; intro v h; cases h) most hm] at hr
    subst hr
    have hat := Any.strconv_Atoi_range laysC172 s (by omega) ha er w her her2
    go_enter Tryz.func194, Tryz.ntmps194
    go_wp2_with (go_at_call 213; refine hat.mono ?_; rintro e w' ⟨N, rfl, hN, _, hB⟩)
    go_ret2
    exact ⟨rfl, bel_of hB⟩
  | _ =>
    rw [num_bad (by rw [ha]; intro v h; cases h) most hm] at hr
    subst hr
    have hat := Any.strconv_Atoi_syntax laysC172 s (by omega) ha es w hes hes2
    go_enter Tryz.func194, Tryz.ntmps194
    go_wp2_with (go_at_call 213; refine hat.mono ?_; rintro e w' ⟨N, rfl, hN, _, hB⟩)
    go_ret2
    exact ⟨rfl, bel_of hB⟩
theorem rep_flat (l : List UInt8) : ∀ n : Nat, Lib.repeatL l n = (List.replicate n l).flatten
  | 0 => rfl
  | n + 1 => by rw [Lib.repeatL, rep_flat l n, List.replicate_succ, List.flatten_cons]
theorem repeat_calls (s : ByteArray) (n : Int) (r : ByteArray) (hr : repP s n = some r) (w : World) :
    Calls Tryz.prog 163 #[.string s, .int .i64 n] w fun e w' => e = .returned (.string r) ∧ Bel w w' := by
  unfold repP at hr
  split at hr
  case isFalse => cases hr
  rename_i hc
  injection hr with hr
  subst hr
  obtain ⟨h0, h1, h2⟩ := hc
  obtain ⟨k, rfl⟩ : ∃ k : Nat, n = k := ⟨n.toNat, (Int.toNat_of_nonneg h0).symm⟩
  have hb : s.size * k ≤ 140737488355328 := by
    have := Nat.mul_le_mul h2 (show k ≤ 1000000 by omega)
    omega
  refine (Any.strings_Repeat lays105 Builder_Extra_105 s k w (by omega) hb).mono fun e w' h => ⟨?_, bel_of h.2⟩
  rw [h.1, rep_flat, Int.toNat_natCast]
theorem strs_len : ∀ {es : List (List C)} {l : List ByteArray}, strsOf es = some l → es = l.map fun s => [C.str s]
  | [], l, h => by injection h with h; subst h; rfl
  | e :: es, l, h => by
    unfold strsOf at h
    split at h
    · rename_i e1; cases e1
    · rename_i s l' e1
      injection e1 with e1 e2
      subst e1 e2
      cases hq : strsOf es with
      | none => rw [hq] at h; cases h
      | some q =>
        rw [hq] at h
        injection h with h
        subst h
        rw [strs_len hq]
        rfl
    · cases h
theorem join_calls (es : List (List C)) (l : List ByteArray) (sep r : ByteArray) (he : strsOf es = some l) (hr : joinP l sep = some r) (w : World) (Z : ZMap) (hZ : ∀ b o u, Z b o = some u → w.cell? ⟨b, o, none⟩ = some u) (v : Value) (hv : RepC Z v (.sl es)) :
    Calls Tryz.prog 83 #[v, .string sep] w fun e w' => e = .returned (.string r) ∧ Bel w w' := by
  unfold joinP at hr
  split at hr
  case isFalse => cases hr
  rename_i hc
  injection hr with hr
  subst hr
  have hes := strs_len he
  subst hes
  cases hv with
  | sl A n c k b off U _ hl hc2 hm hk hA hz hrr hN =>
    rw [List.length_map] at hl
    cases l with
    | nil =>
      simp only [List.length_nil] at hl
      subst hl
      refine (Any.strings_Join_none lays156 Builder_Extra_156 A c sep w).mono fun e w' h => ⟨?_, by rw [h.2]; exact Bel.refl _⟩
      rw [h.1]
      rfl
    | cons x l =>
      have hA' := hA (by simp)
      subst hA' hl
      have hk1 : k = 1 := (hk [C.str x] (by simp)).symm
      subst hk1
      have hcell : ∀ (j : Nat) y, (x :: l)[j]? = some y → w.cell? ⟨b, off + j, none⟩ = some (.string y) := fun j y hy => by
        have e1 : ((x :: l).map fun s => [C.str s])[j]? = some [C.str y] := by rw [List.getElem?_map, hy]; rfl
        have h1 := hz j _ 0 _ e1 rfl
        have h2 := hrr j _ 0 _ e1 rfl
        have h3 := hZ _ _ _ h1
        rw [Nat.mul_one, Nat.add_zero] at h3 h2
        cases hU : U j with
        | string q => rw [hU] at h2 h3; cases h2; exact h3
        | _ => rw [hU] at h2; cases h2
      refine (Any.strings_Join lays156 Builder_Extra_156 b off c (x :: l) sep w hcell (cell_lt (hcell 0 x rfl)) hc.2 hc2 hc.1).mono fun e w' h => ⟨h.1, bel_of h.2⟩
theorem cany_eq (l : List UInt8) : decide (0 ≤ Lib.indexAny l crlf0) = l.any fun b => crlf0.contains b := by
  induction l with
  | nil => rfl
  | cons b l ih =>
    rw [List.any_cons, Lib.indexAny, ← ih]
    cases crlf0.contains b with
    | true => rfl
    | false =>
      have := Lib.indexAny_ge crlf0 l
      by_cases h : Lib.indexAny l crlf0 = -1
      · rw [h]; rfl
      · have h2 : (Lib.indexAny l crlf0 == -1) = false := by simpa using h
        simp only [h2, Bool.false_eq_true, if_false, Bool.false_or]
        rw [Bool.eq_iff_iff]
        simp
        omega
set_option maxRecDepth 100000 in
theorem cany_calls (s : ByteArray) (w : World) (hs : s.size < 4294967281) : Calls Tryz.prog 205 #[.string s, .string ⟨#[13, 10, 0]⟩] w fun e w' => e = .returned (.bool (s.data.toList.any fun b => crlf0.contains b)) ∧ Below w.heap.size w w' := by
  have hc : Calls Tryz.prog 222 #[.string s, .string ⟨#[13, 10, 0]⟩] w fun e w' => e = .returned (.int .i64 (Lib.indexAny s.data.toList crlf0)) ∧ Below w.heap.size w w' := by
    by_cases h8 : s.size ≤ 8
    · exact iany_short s w h8
    · exact iany_long s ⟨#[13, 10, 0]⟩ w (by decide) (by omega) hs (by decide) (fun j b hb => by
        have : b ∈ ([13, 10, 0] : List UInt8) := List.mem_of_getElem? hb
        simp at this
        rcases this with rfl | rfl | rfl <;> decide)
  go_enter Tryz.func205, Tryz.ntmps205
  go_wp2_with (go_at_call 222; refine hc.mono ?_; rintro e w' ⟨rfl, hb⟩)
  go_ret
  refine ⟨?_, hb⟩
  rw [← cany_eq s.data.toList]
  rfl
theorem cont_calls (s sub : ByteArray) (m : Int) (w : World) (hs : s.size < 4294967281) (hm : w.cell? ⟨4, 0, none⟩ = some (.int .i64 m)) :
    Calls Tryz.prog 216 #[.string s, .string sub] w fun e w' => e = .returned (.bool (Lib.contains s.data.toList sub.data.toList)) ∧ w' = w := Any.strings_Contains lays144 s sub m w hs hm
theorem cmpr_calls (a b : ByteArray) (w : World) : Calls Tryz.prog 55 #[.string a, .string b] w fun e w' => e = .returned (.int .i64 (Lib.compareBytes a.data.toList b.data.toList)) ∧ w' = w := Any.strings_Compare lays106 a b w
set_option maxHeartbeats 400000 in
set_option maxRecDepth 4000 in
theorem cloneB_nil (w : World) : Calls Tryz.prog 87 #[.slice none 0 0] w fun e w' => e = .returned (.slice none 0 0) ∧ w = w' := by
  have hz : ∀ w : World, (binOp .eql 47 (.slice none 0 0) (.slice none 0 0)).run Tryz.prog w = .ok (.bool true) w := fun w => Lib.run_eql_slice_nil w _ _ _ _ _ _ _ Tryz.underlying47
  go_enter Tryz.func87, Tryz.ntmps87
  go_wp2
  go_ret
  exact ⟨rfl, rfl⟩
set_option maxHeartbeats 400000 in
set_option maxRecDepth 4000 in
theorem cloneS_nil (w : World) : Calls Tryz.prog 32 #[.slice none 0 0] w fun e w' => e = .returned (.slice none 0 0) ∧ w = w' := by
  have hz : ∀ w : World, (binOp .eql 25 (.slice none 0 0) (.slice none 0 0)).run Tryz.prog w = .ok (.bool true) w := fun w => Lib.run_eql_slice_nil w _ _ _ _ _ _ _ Tryz.underlying25
  go_enter Tryz.func32, Tryz.ntmps32
  go_wp2
  go_ret
  exact ⟨rfl, rfl⟩
set_option maxHeartbeats 400000 in
set_option maxRecDepth 4000 in
theorem cloneT_nil (w : World) : Calls Tryz.prog 21 #[.slice none 0 0] w fun e w' => e = .returned (.slice none 0 0) ∧ w = w' := by
  have hz : ∀ w : World, (binOp .eql 22 (.slice none 0 0) (.slice none 0 0)).run Tryz.prog w = .ok (.bool true) w := fun w => Lib.run_eql_slice_nil w _ _ _ _ _ _ _ Tryz.underlying22
  go_enter Tryz.func21, Tryz.ntmps21
  go_wp2
  go_ret
  exact ⟨rfl, rfl⟩
/-- one instance of Clone -/
theorem clone_ok {f : FuncId} (hnil : ∀ w, Calls Tryz.prog f #[.slice none 0 0] w fun e w' => e = .returned (.slice none 0 0) ∧ w = w') (c2 : CallOk Tryz.prog f [.c .ne] (.row 0 0, [.row []])) : CallOk Tryz.prog f [.c (.sl [])] (.row 0 0, [.row []]) := by
  refine ⟨c2.1, c2.2.1, fun w Z Y cargs hG hZ hY hs hr => ?_⟩
  have hs1 : cargs.size = 1 := hs
  obtain ⟨u, hu⟩ : ∃ u, cargs[0]? = some u := ⟨cargs[0]'(by omega), Array.getElem?_eq_getElem _⟩
  have r0 := hr 0 u _ hu rfl
  cases r0 with
  | c r0 =>
  have one : ∀ y : C, RepC Z u y → ∀ (i : Nat) u' x, cargs[i]? = some u' → [V.c y][i]? = some x → Rep Z Y noM u' x := by
    intro y hy i u' x h1 h2
    cases i with
    | zero =>
      rw [hu] at h1
      injection h1 with h1; subst h1
      simp at h2; subst h2
      exact .c hy
    | succ i => simp at h2
  cases r0 with
  | sl A n c k b off U es hl hc hm hk hA hz hr' hN =>
    have hl' : n = 0 := by simpa using hl.symm
    subst hl'
    cases A with
    | none =>
      have := hN rfl
      subst this
      obtain rfl : cargs = #[.slice none 0 0] := by
        apply Array.ext (by simpa using hs1)
        intro i h1 h2
        have : i = 0 := by simp at h2; omega
        subst this
        rw [Array.getElem?_eq_getElem h1] at hu
        injection hu
      refine (hnil w).mono fun e w' => ?_
      rintro ⟨rfl, rfl⟩
      refine ⟨_, Z, fun i => if i = 0 then some (.slice none 0 0) else none, rfl, ZUp.refl, ⟨wb_bel.2 (Bel.refl _), ⟨hG, GB.no hG⟩, hZ, (fun _ _ _ h => by cases h), ?_, ?_, ?_, ?_, ?_⟩, .row 0 0 none 0 (by simp) (by simp), ?_⟩
      · intro id cs h
        cases id <;> simp at h
      · intro id es h
        cases id with
        | zero => simp at h; subst h; exact .inl ⟨by simp, rfl⟩
        | succ id => simp at h
      · intro id es q v h
        cases id <;> simp at h
      · intro id l h
        cases id <;> simp at h
      · intro id id' g _ _ h
        unfold blkOf at h
        by_cases h0 : id = 0 <;> simp [h0] at h
      · intro i h
        by_cases h0 : i = 0
        · subst h0; simp
        · simp [h0] at h
    | some a => exact c2.2.2 w Z Y cargs hG hZ hY hs (one .ne (.ne a c hm))
theorem mo_ok : Tryz.prog.follows .mixedOrders = true := by kernel_rfl
theorem clones_ok {f : FuncId} (hf : clones.contains f = true) : CallOk Tryz.prog f [.c (.sl [])] (.row 0 0, [.row []]) := by
  have h : f ∈ clones := by simpa using hf
  clear hf
  unfold clones at h
  repeat
    rcases h with _ | ⟨_, h⟩
    · first
        | fail
        | exact clone_ok cloneB_nil (Call_sound Tryz.prog lv ⟨fun _ _ => none, fun _ => none⟩ mo_ok ⟨fun _ _ _ h => by (cases h), fun _ _ _ _ _ h => by (cases h)⟩ (Call_fuel (n := 30) (by kernel_rfl)))
        | exact clone_ok cloneS_nil (Call_sound Tryz.prog lv ⟨fun _ _ => none, fun _ => none⟩ mo_ok ⟨fun _ _ _ h => by (cases h), fun _ _ _ _ _ h => by (cases h)⟩ (Call_fuel (n := 30) (by kernel_rfl)))
        | exact clone_ok cloneT_nil (Call_sound Tryz.prog lv ⟨fun _ _ => none, fun _ => none⟩ mo_ok ⟨fun _ _ _ h => by (cases h), fun _ _ _ _ _ h => by (cases h)⟩ (Call_fuel (n := 30) (by kernel_rfl)))
  cases h
theorem X0c_ok : ∀ f args r, X0c f args = some r → CallOk Tryz.prog f args r := by
  intro f args r h
  unfold X0c at h
  cases hf : clones.contains f with
  | true =>
    rw [hf, cond_true] at h
    split at h
    case h_2 => cases h
    injection h with h
    subst h
    exact clones_ok hf
  | false =>
  rw [hf, cond_false] at h
  cases h1 : f == 216 with
  | true =>
    rw [h1, cond_true] at h
    have hf' : f = 216 := by simpa using h1
    subst hf'
    split at h
    case h_2 => cases h
    rename_i s t
    cases hp : contP s t with
    | none => rw [hp] at h; cases h
    | some b =>
    rw [hp] at h
    injection h with h
    subst h
    unfold contP at hp
    split at hp
    case isFalse => cases hp
    rename_i hsz
    injection hp with hp
    subst hp
    refine callOk_plain rfl fun w Z Y cargs hG hZ hs hr => ?_
    obtain ⟨u, v, rfl, r1, r2⟩ := args2 hs hr
    rw [rep_str r1, rep_str r2]
    obtain ⟨m, hm⟩ := gw_ml hG
    exact (cont_calls s t m w hsz hm).mono fun e w' h => ⟨_, h.1, by rw [h.2]; exact Bel.refl _, fun _ _ => .c (.bool _)⟩
  | false =>
  rw [h1, cond_false] at h
  cases h2 : f == 182 with
  | true =>
    rw [h2, cond_true] at h
    have hf' : f = 182 := by simpa using h2
    subst hf'
    split at h
    case h_2 => cases h
    rename_i s t
    cases hp : cutP s t with
    | none => rw [hp] at h; cases h
    | some b =>
    rw [hp] at h
    injection h with h
    subst h
    unfold cutP at hp
    split at hp
    case isFalse => cases hp
    rename_i hsz
    injection hp with hp
    subst hp
    refine callOk_plain rfl fun w Z Y cargs hG hZ hs hr => ?_
    obtain ⟨u, v, rfl, r1, r2⟩ := args2 hs hr
    rw [rep_str r1, rep_str r2]
    obtain ⟨m, hm⟩ := gw_ml hG
    refine (cut_calls s t m w hsz hm).mono fun e w' h => ?_
    obtain ⟨he, n, rfl⟩ := h
    refine ⟨_, he, (Bel.refl w).drewN n, fun _ _ => .tup _ _ rfl ?_⟩
    intro i u x hu hx
    match i with
    | 0 => simp at hu hx; subst hu; subst hx; exact .c (.str _)
    | 1 => simp at hu hx; subst hu; subst hx; exact .c (.str _)
    | 2 => simp at hu hx; subst hu; subst hx; exact .c (.bool _)
    | i + 3 => simp at hu
  | false =>
  rw [h2, cond_false] at h
  cases h3 : f == 88 with
  | true =>
    rw [h3, cond_true] at h
    have hf' : f = 88 := by simpa using h3
    subst hf'
    split at h
    case h_2 => cases h
    rename_i s c
    injection h with h
    subst h
    refine callOk_plain rfl fun w Z Y cargs hG hZ hs hr => ?_
    obtain ⟨u, v, rfl, r1, r2⟩ := args2 hs hr
    rw [rep_str r1, rep_int r2]
    exact (Any.strings_IndexByte lays137 s c w).mono fun e w' h => ⟨_, h.1, by rw [h.2]; exact Bel.refl _, fun _ _ => .c (.int _ _)⟩
  | false =>
  rw [h3, cond_false] at h
  cases h4 : f == 205 with
  | true =>
    rw [h4, cond_true] at h
    have hf' : f = 205 := by simpa using h4
    subst hf'
    split at h
    case h_2 => cases h
    rename_i s t
    cases hp : canyP s t with
    | none => rw [hp] at h; cases h
    | some b =>
    rw [hp] at h
    injection h with h
    subst h
    unfold canyP at hp
    split at hp
    case isFalse => cases hp
    rename_i hsz
    injection hp with hp
    subst hp
    have ht : t = ⟨#[13, 10, 0]⟩ := by
      apply ByteArray.ext
      exact Array.toList_inj.1 hsz.2
    subst ht
    refine callOk_plain rfl fun w Z Y cargs hG hZ hs hr => ?_
    obtain ⟨u, v, rfl, r1, r2⟩ := args2 hs hr
    rw [rep_str r1, rep_str r2]
    exact (cany_calls s w hsz.1).mono fun e w' h => ⟨_, h.1, bel_of h.2, fun _ _ => .c (.bool _)⟩
  | false =>
  rw [h4, cond_false] at h
  cases h6 : f == 194 with
  | true =>
    rw [h6, cond_true] at h
    have hf' : f = 194 := by simpa using h6
    subst hf'
    split at h
    case h_2 => cases h
    rename_i s n
    cases hp : numP s n with
    | none => rw [hp] at h; cases h
    | some b =>
    rw [hp] at h
    injection h with h
    subst h
    refine callOk_plain rfl fun w Z Y cargs hG hZ hs hr => ?_
    obtain ⟨u, v, rfl, r1, r2⟩ := args2 hs hr
    rw [rep_str r1, rep_int r2]
    refine (number_calls s n w hG b hp).mono fun e w' h => ⟨_, h.1, h.2, fun _ _ => .tup _ _ rfl ?_⟩
    intro i u x hu hx
    match i with
    | 0 => simp at hu hx; subst hu; subst hx; exact .c (.int _ _)
    | 1 => simp at hu hx; subst hu; subst hx; exact .c (.bool _)
    | i + 2 => simp at hu
  | false =>
  rw [h6, cond_false] at h
  cases h8 : f == 163 with
  | true =>
    rw [h8, cond_true] at h
    have hf' : f = 163 := by simpa using h8
    subst hf'
    split at h
    case h_2 => cases h
    rename_i s n
    cases hp : repP s n with
    | none => rw [hp] at h; cases h
    | some b =>
    rw [hp] at h
    injection h with h
    subst h
    refine callOk_plain rfl fun w Z Y cargs hG hZ hs hr => ?_
    obtain ⟨u, v, rfl, r1, r2⟩ := args2 hs hr
    rw [rep_str r1, rep_int r2]
    exact (repeat_calls s n b hp w).mono fun e w' h => ⟨_, h.1, h.2, fun _ _ => .c (.str _)⟩
  | false =>
  rw [h8, cond_false] at h
  cases h9 : f == 83 with
  | true =>
    rw [h9, cond_true] at h
    have hf' : f = 83 := by simpa using h9
    subst hf'
    split at h
    case h_2 => cases h
    rename_i es s
    cases hl : strsOf es with
    | none => rw [hl] at h; cases h
    | some l =>
    rw [hl] at h
    simp only [Option.bind_some] at h
    cases hp : joinP l s with
    | none => rw [hp] at h; cases h
    | some b =>
    rw [hp] at h
    injection h with h
    subst h
    refine callOk_plain rfl fun w Z Y cargs hG hZ hs hr => ?_
    obtain ⟨u, v, rfl, r1, r2⟩ := args2 hs hr
    rw [rep_str r2]
    cases r1 with
    | c r1 => exact (join_calls es l s b hl hp w Z hZ u r1).mono fun e w' h => ⟨_, h.1, h.2, fun _ _ => .c (.str _)⟩
  | false =>
  rw [h9, cond_false] at h
  cases h10 : f == 55 with
  | true =>
    rw [h10, cond_true] at h
    have hf' : f = 55 := by simpa using h10
    subst hf'
    split at h
    case h_2 => cases h
    rename_i s t
    injection h with h
    subst h
    refine callOk_plain rfl fun w Z Y cargs hG hZ hs hr => ?_
    obtain ⟨u, v, rfl, r1, r2⟩ := args2 hs hr
    rw [rep_str r1, rep_str r2]
    exact (cmpr_calls s t w).mono fun e w' h => ⟨_, h.1, by rw [h.2]; exact Bel.refl _, fun _ _ => .c (.int _ _)⟩
  | false =>
  rw [h10, cond_false] at h
  cases hk : f == 127 with
  | true =>
    rw [hk, cond_true] at h
    have hf' : f = 127 := by simpa using hk
    subst hf'
    split at h
    case h_2 => cases h
    rename_i es
    cases hp : bodP es with
    | none => rw [hp] at h; cases h
    | some b =>
    rw [hp] at h
    injection h with h
    subst h
    exact bodP_ok hp
  | false =>
  rw [hk, cond_false] at h
  clear hk
  cases hk : f == 86 with
  | true =>
    rw [hk, cond_true] at h
    have hf' : f = 86 := by simpa using hk
    subst hf'
    split at h
    case h_2 => cases h
    rename_i es
    cases hp : catP es with
    | none => rw [hp] at h; cases h
    | some b =>
    rw [hp] at h
    injection h with h
    subst h
    exact catP_ok hp
  | false =>
  rw [hk, cond_false] at h
  clear hk
  cases hk : f == 4 with
  | true =>
    rw [hk, cond_true] at h
    have hf' : f = 4 := by simpa using hk
    subst hf'
    split at h
    case h_2 => cases h
    rename_i s
    cases hp : splP s with
    | none => rw [hp] at h; cases h
    | some b =>
    rw [hp] at h
    injection h with h
    subst h
    unfold splP at hp
    split at hp
    case isFalse => cases hp
    rename_i hex
    injection hp with hp
    subst hp
    exact (Classical.choose_spec hex).2
  | false =>
  rw [hk, cond_false] at h
  clear hk
  cases h5 : f == 202 with
  | true =>
    rw [h5, cond_true] at h
    have hf' : f = 202 := by simpa using h5
    subst hf'
    split at h
    case h_2 => cases h
    rename_i n
    cases hp : itoaP n with
    | none => rw [hp] at h; cases h
    | some b =>
    rw [hp] at h
    injection h with h
    subst h
    unfold itoaP at hp
    split at hp
    case isFalse => cases hp
    rename_i hsz
    injection hp with hp
    subst hp
    refine callOk_plain rfl fun w Z Y cargs hG hZ hs hr => ?_
    obtain ⟨u, rfl, r1⟩ := args1 hs hr
    rw [rep_int r1]
    exact (itoa_calls n hsz.1 hsz.2 w (gw_pow hG)).mono fun e w' h => ⟨_, h.1, h.2, fun _ _ => .c (.str _)⟩
  | false =>
  rw [h5, cond_false] at h
  cases h
theorem argsD {cargs : Array Value} (hs : cargs.size = 2) : cargs = #[cargs.getD 0 undef, cargs.getD 1 undef] := by
  apply Array.ext (by simpa using hs)
  intro i h1 h2
  match i, h1 with
  | 0, h1 => simp [Array.getD, h1]
  | 1, h1 => simp [Array.getD, h1]
  | i + 2, h1 => omega
theorem expX_ok (st : St) (vs : List V) (s1 : St) (h : expX.run (List V × St) st some = some (vs, s1)) : RuleOk Tryz.prog 143 2 st vs s1 := by
  unfold expX at h
  simp only at h
  split at h
  case h_2 => cases h
  rename_i id a e0 e1
  split at h
  case h_2 => cases h
  rename_i cs hcs
  split at h
  case h_2 => cases h
  rename_i j hj
  split at h
  case h_2 => cases h
  rename_i l hl
  cases hp : expP l a with
  | none => rw [hp] at h; cases h
  | some r =>
  rw [hp] at h
  injection h with h
  injection h with h1 h2
  subst h1 h2
  intro G w0 w Z Y m cargs R hm hG hs hr
  have r0 := hr 0
  have r1 := hr 1
  rw [e0] at r0
  rw [e1] at r1
  rw [argsD hs]
  rw [rep_str r1]
  generalize cargs.getD 0 undef = u0 at r0
  cases r0 with
  | ptr _ _ g hmi =>
  obtain ⟨g', hm', hb⟩ := R.box id cs hcs
  rw [hmi] at hm'
  injection hm' with hm'; injection hm' with hm'; injection hm' with hm'; injection hm' with hm'
  subst hm'
  obtain ⟨t, ws, hw, hrep⟩ := hb.ex
  cases hrep with
  | agg _ _ hlen h1 hcell =>
  have h6 : cs[6]? = some (.mp j) := by
    rw [List.getD_eq_getElem?_getD] at hj
    cases h6 : cs[6]? with
    | none => rw [h6] at hj; cases hj
    | some v => rw [h6] at hj; exact congrArg some hj
  obtain ⟨hlt, hel⟩ := List.getElem?_eq_some_iff.1 h6
  have hw6 : ws[6]? = some (ws[6]'(by omega)) := Array.getElem?_eq_getElem (by omega)
  have r6 := hcell 6 _ _ hw6 h6
  generalize ws[6]'(by omega) = u6 at hw6 r6
  cases r6 with
  | mp _ b hmj =>
  obtain ⟨b', hm', hat⟩ := R.mp j l hl
  rw [hmj] at hm'
  injection hm' with hm'; injection hm' with hm'; injection hm' with hm'
  subst hm'
  have hown := hat.owns (P := Tryz.prog) (k := 9) Tryz.underlying9
  have hcl : w.cell? ⟨g, 6, none⟩ = some (.map (some b)) := by simp only [World.cell?, hw]; exact hw6
  obtain ⟨ml, hml⟩ := gw_ml (BelA.gw R.bel R.gw)
  unfold expP at hp
  split at hp
  case isFalse => cases hp
  rename_i hsz
  cases hq : expF l (a.size + 1) a.data.toList [] with
  | none => rw [hq] at hp; cases hp
  | some o =>
  rw [hq] at hp
  injection hp with hp
  subst hp
  refine (expand_calls g b l.length ml l a w o hsz hml hcl hown hq).mono fun e w' => ?_
  rintro ⟨rfl, hb⟩
  exact ⟨_, Z, m, rfl, ZUp.refl, R.later (bel_of hb), .c (.str _), hG, hm⟩
/-- a block was written, others were made: the write alone -/
theorem grown_split {w w' : World} {g : Nat} (h : w.grownBy w' (some g)) (hg : g < w.heap.size) : ∃ w1, Wr g w w1 ∧ Bel w1 w' ∧ w1.heap[g]? = w'.heap[g]? := by
  have hg' : g < w'.heap.size := Nat.lt_of_lt_of_le hg h.size
  refine ⟨{ w' with heap := w.heap.setIfInBounds g w'.heap[g] }, ⟨h.os, h.tape, h.output, by simp, fun k hk => ?_⟩, ⟨rfl, rfl, rfl, by simpa using h.size, fun k hk => ?_⟩, ?_⟩
  · show (w.heap.setIfInBounds g w'.heap[g])[k]? = _
    rw [Array.getElem?_setIfInBounds_ne (Ne.symm hk)]
  · show w'.heap[k]? = (w.heap.setIfInBounds g w'.heap[g])[k]?
    have hk : k < w.heap.size := by simpa using hk
    by_cases e : k = g
    · subst e
      rw [Array.getElem?_setIfInBounds_self_of_lt hg, Array.getElem?_eq_getElem hg']
    · rw [Array.getElem?_setIfInBounds_ne (Ne.symm e)]
      exact h.block k hk (fun e2 => e (by injection e2))
  · show (w.heap.setIfInBounds g w'.heap[g])[g]? = _
    rw [Array.getElem?_setIfInBounds_self_of_lt hg, Array.getElem?_eq_getElem hg']
theorem delX_ok (st : St) (vs : List V) (s1 : St) (h : (delX 201).run (List V × St) st some = some (vs, s1)) : RuleOk Tryz.prog 200 2 st vs s1 := by
  unfold delX at h
  simp only at h
  split at h
  case h_2 => cases h
  rename_i j f e0 e1
  cases hf : f == 201 with
  | false => rw [hf] at h; cases h
  | true =>
  rw [hf, cond_true] at h
  have hf' : f = 201 := by simpa using hf
  subst hf'
  split at h
  case h_2 => cases h
  rename_i l hl
  cases hp : delP l with
  | none => rw [hp] at h; cases h
  | some l' =>
  rw [hp] at h
  injection h with h
  injection h with h1 h2
  subst h1 h2
  unfold delP at hp
  split at hp
  case isFalse => cases hp
  rename_i hall
  injection hp with hp
  subst hp
  intro G w0 w Z Y m cargs R hm hG hs hr
  have r0 := hr 0
  have r1 := hr 1
  rw [e0] at r0
  rw [e1] at r1
  rw [argsD hs]
  generalize cargs.getD 0 undef = u0 at r0
  generalize cargs.getD 1 undef = u1 at r1
  cases r0 with
  | mp _ b hmj =>
  have hu1 : u1 = .func (.func 201) #[] #[] := by
    cases r1 with
    | fn _ cs _ hlen _ _ =>
      have : cs = #[] := Array.size_eq_zero_iff.1 (by simpa using hlen)
      rw [this]
  subst hu1
  obtain ⟨b', hm', hat⟩ := R.mp j l hl
  rw [hmj] at hm'
  injection hm' with hm'; injection hm' with hm'; injection hm' with hm'
  subst hm'
  have hown := hat.owns (P := Tryz.prog) (k := 9) Tryz.underlying9
  refine (delf_calls b l.length l w hown (fun p hp => of_decide_eq_true (List.all_eq_true.1 hall p hp))).mono fun e w' => ?_
  rintro ⟨rfl, ho, hg⟩
  obtain ⟨l2, hl2, hat2, _⟩ := MapAt.of_owns (base := w0.own) hat.base Tryz.underlying9 ho
  have := datM_inj hl2
  subst this
  obtain ⟨w1, hw1, hb1, he1⟩ := grown_split hg hown.lt
  have hat1 : MapAt w0.own w1 b (l.filter fun p => !digP p.1) := by
    obtain ⟨es, clock, q1, q2⟩ := hat2.ex
    exact ⟨hat2.base, es, clock, by rw [he1]; exact q1, q2⟩
  have R1 := (R.write_map hl hmj hw1 hat1).later hb1
  exact ⟨_, Z, m, rfl, ZUp.refl, R1, .tup _ _ rfl (fun i u x hu _ => by simp at hu), hG, hm⟩
theorem X0_ok : XOk Tryz.prog X0 := by
  refine ⟨X0c_ok, fun f R st vs s1 hf0 h => ?_⟩
  have hf : X0h f = some R := hf0
  clear hf0
  unfold X0h at hf
  cases h1 : f == 24 with
  | true =>
    rw [h1, cond_true] at hf
    injection hf with hR
    have hf' : f = 24 := by simpa using h1
    subst hR
    subst hf'
    exact dltX_ok st vs s1 h
  | false =>
  rw [h1, cond_false] at hf
  clear h1
  cases h1 : f == 23 with
  | true =>
    rw [h1, cond_true] at hf
    injection hf with hR
    have hf' : f = 23 := by simpa using h1
    subst hR
    subst hf'
    exact intX_ok st vs s1 h
  | false =>
  rw [h1, cond_false] at hf
  clear h1
  cases h1 : f == 143 with
  | true =>
    rw [h1, cond_true] at hf
    injection hf with hR
    have hf' : f = 143 := by simpa using h1
    subst hR
    subst hf'
    exact expX_ok st vs s1 h
  | false =>
  rw [h1, cond_false] at hf
  clear h1
  cases h1 : f == 200 with
  | true =>
    rw [h1, cond_true] at hf
    injection hf with hR
    have hf' : f = 200 := by simpa using h1
    subst hR
    subst hf'
    exact delX_ok st vs s1 h
  | false =>
  rw [h1, cond_false] at hf
  clear h1
  cases hf
end Go.Proofs.YtomnbknaanlmaaaGreatDoor
namespace Go.Proofs.YtomnbknaanlmaaaGreatDoor
open Go.ChangeShapes Go.WideShapes Go.ChangeAt Go.ChangeMaps Go.RowKit Go.Deep
theorem moR_ok : Tryz.prog.follows .mixedOrders = true := by kernel_rfl
/-- from the machine to the model, at a row's arguments -/
theorem lawR_calls {f : FuncId} {args : List V} {cargs : Array Value} {W : World} (hC : Call Tryz.prog lv X0 f args = some (.c (.bool true), [])) (hG : GW W) (hsz : cargs.size = args.length)
    (hrep : ∀ (i : Nat) u x, cargs[i]? = some u → args[i]? = some x → Rep (Zw W) (fun _ _ => none) noM u x) : Calls Tryz.prog f cargs W fun e W' => e = .returned (.bool true) ∧ Bel W W' := by
  have ok := Call_sound Tryz.prog lv X0 moR_ok X0_ok hC
  refine (ok.2.2 W (Zw W) (fun _ _ => none) cargs hG (fun _ _ _ h => h) (fun _ _ _ h => by cases h) hsz hrep).mono fun e W' => ?_
  rintro ⟨cv, Z', m', rfl, _, R, r, _⟩
  cases r with
  | c r =>
  cases r
  exact ⟨rfl, wb_bel.1 R.bel⟩
/-- arguments, one by one -/
def RepA (W : World) : List Value → List V → Prop
  | [], [] => True
  | u :: us, x :: xs => Rep (Zw W) (fun _ _ => none) noM u x ∧ RepA W us xs
  | _, _ => False
theorem RepA.get {W : World} : ∀ {us : List Value} {xs : List V}, RepA W us xs → us.length = xs.length ∧ ∀ (i : Nat) u x, us[i]? = some u → xs[i]? = some x → Rep (Zw W) (fun _ _ => none) noM u x
  | [], [], _ => ⟨rfl, fun i u x h _ => by simp at h⟩
  | u :: us, x :: xs, h => by
    obtain ⟨h1, h2⟩ := RepA.get h.2
    refine ⟨by simp [h1], fun i u' x' hu hx => ?_⟩
    cases i with
    | zero => simp at hu hx; subst hu hx; exact h.1
    | succ i => simp at hu hx; exact h2 i u' x' hu hx
  | [], _ :: _, h => h.elim
  | _ :: _, [], h => h.elim
/-- what the rows list -/
def laidL : List (String × DataW Unit) := [("math/bits.deBruijn32tab", Rows.laid_math_bits_deBruijn32tab), ("math/bits.deBruijn64tab", Rows.laid_math_bits_deBruijn64tab), ("internal/strconv.uint64pow10", Rows.laid_internal_strconv_uint64pow10), ("unicode/utf8.acceptRanges", Rows.laid_unicode_utf8_acceptRanges), ("strconv.ErrRange", Rows.laid_strconv_ErrRange), ("strconv.ErrSyntax", Rows.laid_strconv_ErrSyntax), ("unicode.properties", Rows.laid_unicode_properties), ("unicode.CaseRanges", Rows.laid_unicode_CaseRanges), ("unicode.Digit", Rows.laid_unicode_Digit), ("unicode.Letter", Rows.laid_unicode_Letter), ("unicode/utf8.first", Rows.laid_unicode_utf8_first)]
theorem laid_plain : ∀ W, laidMetH Tryz.prog laidL W = laidMet Tryz.prog laidL W := fun _ => MakeChecks.laidMetH_plain _ _ _ (by kernel_rfl)
theorem trod_ifc {H : Type} {enc : TypeId × Value → H} {P : Program} {w : World} {base : Nat} {spare : Nat → Bool} {held : Bool} {fuel : Nat} {t : TypeId} {ms : Array (String × TypeId)} {cs : List Value} {x : DataW H × List MemPlace}
    (ht : P.underlying t = some (.interface ms)) (h : DataW.trod enc P w base spare held fuel t cs = some x) : cs = [.nilIface] ∨ ∃ te pe, cs = [.iface te pe] := by
  cases fuel with
  | zero => simp [DataW.trod] at h
  | succ fuel =>
    simp only [DataW.trod, ht] at h
    split at h <;> first | (exact .inl rfl) | (exact .inr ⟨_, _, rfl⟩) | simp_all
theorem cell_ifc {P : Program} {w : World} {name : String} {g : Nat} {t : TypeId} {ms : Array (String × TypeId)} {D : DataW Unit} (hr : Lib.VarReads P w name D) (hg : P.globalNamed name = some g) (ht : (P.globals[g]?).map (·.type) = some t) (hu : P.underlying t = some (.interface ms)) :
    ∃ ev, w.cell? ⟨g, 0, none⟩ = some ev ∧ (ev = .nilIface ∨ ∃ te pe, ev = .iface te pe) := by
  obtain ⟨g', t', cs, fuel, p, h1, h2, h3, h4⟩ := hr
  obtain rfl := Option.some.inj (hg.symm.trans h1)
  obtain rfl := Option.some.inj (ht.symm.trans h2)
  have hc := World.var?_cell h1 h3 0
  rcases trod_ifc hu h4 with e | ⟨te, pe, e⟩
  · exact ⟨.nilIface, by rw [hc, ← Array.getElem?_toList, e]; rfl, .inl rfl⟩
  · exact ⟨.iface te pe, by rw [hc, ← Array.getElem?_toList, e]; rfl, .inr ⟨_, _, rfl⟩⟩
theorem case_extra : CaseExtra Tryz.prog lays204_ren := ⟨by kernel_rfl, by kernel_rfl, by kernel_rfl, by kernel_rfl, by kernel_rfl, by kernel_rfl⟩
theorem letter_extra : RExtra Tryz.prog lays200_ren := ⟨by kernel_rfl, by kernel_rfl, by kernel_rfl, by kernel_rfl, by kernel_rfl, by kernel_rfl, by kernel_rfl, by kernel_rfl⟩
theorem digit_extra : RExtra Tryz.prog lays198_ren := ⟨by kernel_rfl, by kernel_rfl, by kernel_rfl, by kernel_rfl, by kernel_rfl, by kernel_rfl, by kernel_rfl, by kernel_rfl⟩
theorem u8_extra : U8Extra Tryz.prog lays230_ren := ⟨by kernel_rfl, by kernel_rfl, by kernel_rfl, by kernel_rfl, by kernel_rfl, by kernel_rfl, by kernel_rfl⟩
theorem tab_reads {W : World} {D : DataW Unit} {name : String} {g ty te n : Nat} {k : IntKind} {zs : List Int} (h : Lib.VarReads Tryz.prog W name D) (hg : Tryz.prog.globalNamed name = some g) (ht : (Tryz.prog.globals[g]?).map (·.type) = some ty)
    (hd : D = Lib.tabData k zs) (hu : Tryz.prog.underlying ty = some (.array n te)) (hk : Tryz.prog.underlying te = some (.int k)) (hc : Tryz.prog.cellsOf te = 1) (hn : Tryz.prog.cellsOf ty = n) : Lib.TabIs Tryz.prog W name k zs := by
  obtain ⟨g', t, cs, fuel, p, h1, h2, h3, h4⟩ := h
  obtain rfl := Option.some.inj (hg.symm.trans h1)
  obtain rfl := Option.some.inj (ht.symm.trans h2)
  rw [hd] at h4
  have := Lib.cells_of_tab (n := n) hu hk hc hn h4
  have e : cs = (zs.map fun z => Value.int k z).toArray := by rw [← this]
  exact h3.trans (congrArg some e)
theorem tw_row {W : World} (hl : laidMet Tryz.prog laidL W) : TW W := by
  refine ⟨?_, ?_, ?_, ?_, ?_⟩
  · exact rvar_of_reads { lays200 with } letter_extra (by kernel_rfl) (by kernel_rfl) ((show Rows.laid_unicode_Letter = Lib.rtabData Lib.letterT from Pinned.letter_eq) ▸ Lib.laidMet.reads hl (.tail _ (.tail _ (.tail _ (.tail _ (.tail _ (.tail _ (.tail _ (.tail _ (.tail _ (.head _)))))))))))
  · exact rvar_of_reads { lays198 with } digit_extra (by kernel_rfl) (by kernel_rfl) ((show Rows.laid_unicode_Digit = Lib.rtabData Lib.digitT from Pinned.digit_eq) ▸ Lib.laidMet.reads hl (.tail _ (.tail _ (.tail _ (.tail _ (.tail _ (.tail _ (.tail _ (.tail _ (.head _))))))))))
  · exact caseVar_of_reads { lays204 with } (by kernel_rfl) case_extra ((show Rows.laid_unicode_CaseRanges = Lib.caseData from Pinned.caseRanges_eq) ▸ Lib.laidMet.reads hl (.tail _ (.tail _ (.tail _ (.tail _ (.tail _ (.tail _ (.tail _ (.head _)))))))))
  · exact tab_reads (n := 256) (Lib.laidMet.reads hl (.tail _ (.tail _ (.tail _ (.tail _ (.tail _ (.tail _ (.head _)))))))) (g := 0) (by kernel_rfl) (ty := 121) (by kernel_rfl) (by kernel_rfl) Tryz.underlying121 Tryz.underlying5 (by kernel_rfl) (by kernel_rfl)
  · exact utf8Tabs_of_reads { lays230 with } u8_extra ((show Rows.laid_unicode_utf8_first = Lib.firstData from Pinned.utf8First_eq) ▸ Lib.laidMet.reads hl (.tail _ (.tail _ (.tail _ (.tail _ (.tail _ (.tail _ (.tail _ (.tail _ (.tail _ (.tail _ (.head _)))))))))))) (Lib.laidMet.reads hl (.tail _ (.tail _ (.tail _ (.head _)))))
theorem case_same {g : Nat} {T : Array Lib.CaseRow} {w w' : World} (h : Lib.CaseVar g T w) (hB : Below w.heap.size w w') : Lib.CaseVar g T w' := by
  obtain ⟨R, o, c, hp, ht⟩ := h
  refine ⟨R, o, c, cell_below hB hp, fun i hi => ?_⟩
  obtain ⟨t1, t2, t3, t4, t5⟩ := ht i hi
  exact ⟨cell_below hB t1, cell_below hB t2, cell_below hB t3, cell_below hB t4, cell_below hB t5⟩
/-- the tables in another memory that is the same there -/
theorem tw_same {w w' : World} (h : TW w) (hb : ∀ k, k < w.heap.size → w'.heap[k]? = w.heap[k]?) : TW w' := by
  have hsz : w.heap.size ≤ w'.heap.size := by
    rcases Nat.lt_or_ge w'.heap.size w.heap.size with hlt | hge
    · have := hb _ hlt
      rw [Array.getElem?_eq_none (Nat.le_refl _), Array.getElem?_eq_getElem hlt] at this
      cases this
    · exact hge
  have hB : Below w.heap.size w { w with heap := w'.heap } := ⟨rfl, rfl, rfl, hsz, fun k hk => hb k hk⟩
  obtain ⟨h1, h2, h3, h4, h5⟩ := h
  have g1 := RVar_below h1 hB
  have g2 := RVar_below h2 hB
  have g3 := case_same h3 hB
  have g4 := TabIs_below (g := 0) (by kernel_rfl) h4 hB
  have g5 := Utf8Tabs_below h5 hB
  exact ⟨g1, g2, g3, g4, g5⟩
theorem twk_row {W : World} (hl : laidMet Tryz.prog laidL W) : TWk W W.heap.size := ⟨Nat.le_refl _, fun _ hb => tw_same (tw_row hl) hb⟩
theorem gw_row {W : World} (hs : W.ShapedOpen Tryz.prog) (hl0 : laidMetH Tryz.prog laidL W) : GW W := by
  have hl' : laidMet Tryz.prog laidL W := by rw [laid_plain] at hl0; exact hl0
  have hp := tab_reads (n := 20) (Lib.laidMet.reads hl' (.tail _ (.tail _ (.head _)))) (g := 9) (by kernel_rfl) (ty := 322) (by kernel_rfl) (k := .u64) (zs := Lib.pow10Tab) (by rfl) Tryz.underlying322 Tryz.underlying52 (by kernel_rfl) (by kernel_rfl)
  refine ⟨Go.Proofs.cell_of_shapedOpen_int (zero := #[.int .i64 0]) (t := 3) hs (of_decide_eq_true (by kernel_rfl)) (by kernel_rfl) rfl (by kernel_rfl) (by kernel_rfl) Tryz.underlying3, ?_,
    cell_ifc (Lib.laidMet.reads hl' (.tail _ (.tail _ (.tail _ (.tail _ (.tail _ (.head _))))))) (by kernel_rfl) (by kernel_rfl) Tryz.underlying135,
    cell_ifc (Lib.laidMet.reads hl' (.tail _ (.tail _ (.tail _ (.tail _ (.head _)))))) (by kernel_rfl) (by kernel_rfl) Tryz.underlying135, ⟨_, twk_row hl'⟩, trivial⟩
  unfold Lib.TabIs World.var? at hp
  rw [show Tryz.prog.globalNamed "internal/strconv.uint64pow10" = some 9 by kernel_rfl] at hp
  simp only [Option.bind_some] at hp
  split at hp
  · rename_i cs' t' fz hh
    injection hp with hp
    subst hp
    exact ⟨t', fz, hh⟩
  · cases hp
/-- A world that meets the rows: the settled one, the listed variables laid. -/
noncomputable def laidWorld (os : Os) : World := World.laidAll Tryz.prog os laidL
theorem laid_met (os : Os) (args : Array Value) : laidMetH Tryz.prog laidL ((laidWorld os).forCall (fun _ _ => 0) ⟨#[], args, []⟩).memory := by
  rw [laid_plain]
  exact laidMet_laidAll args (by kernel_rfl) (by kernel_rfl)
end Go.Proofs.YtomnbknaanlmaaaGreatDoor
