/- strings.ContainsAny over CR, LF, 0, at any text. -/
import Derived.Test.YtomnbknaanlmaaaGreatDoorZ16
import Derived.Test.YtomnbknaanlmaaaGreatDoorZ09
import Derived.Deep.LoopGhost
import Derived.Test.YtomnbknaanlmaaaGreatDoorZ15
import Derived.Lib.SlMapFilter
import Derived.WalkKit
import Derived.Maps.OwnOps
import Derived.LoopTactic
import Derived.Deep.QuietTactic
import Derived.BigQuiet
import Derived.Shelf.Spec.SlicesInsertGrow
import Derived.Deep.RegionLaw
namespace Go.Proofs.YtomnbknaanlmaaaGreatDoor
open Go.RowKit Go.ChangeMaps
/-- the step of a range over a text, in any world -/
theorem run_next_at2 {P : Program} (W : World) (r : Nat) (s : ByteArray) (pos : Nat) (h : W.heap[r]? = some (.stringIter s pos)) (hp : pos < s.size) (ty : TypeId) :
    (Instr.next (.pointer (some ⟨r, 0, none⟩)) true ty).run P W = .ok (.tuple #[.bool true, .int .i64 pos, .int .i32 (Utf8.decode s pos).1]) (setBlock W r (.stringIter s (pos + (Utf8.decode s pos).2))) := by
  simp [Instr.next, getObj, setObj, Sem.run, h, hp, Result.andThen, goInt, setBlock]
theorem run_next_end2 {P : Program} (W : World) (r : Nat) (s : ByteArray) (pos : Nat) (h : W.heap[r]? = some (.stringIter s pos)) (hp : ¬ pos < s.size) (ty : TypeId) :
    (Instr.next (.pointer (some ⟨r, 0, none⟩)) true ty).run P W = .ok (.tuple #[.bool false]) W := by
  simp [Instr.next, getObj, Sem.run, h, hp]
theorem ixr_ascii (s : ByteArray) (r : Int) (w : World) (h0 : 0 ≤ r) (h1 : r < 128) : Calls Tryz.prog 238 #[.string s, .int .i32 r] w fun e w' => e = .returned (.int .i64 (Lib.indexByte s.data.toList r.toNat.toUInt8)) ∧ w' = w := Any.strings_IndexRune_ascii lays152 s r w h0 h1
theorem iany_long (s chars : ByteArray) (w : World) (h2 : 2 ≤ chars.size) (h8 : 8 < s.size) (hs : s.size < 4294967281) (hcs : chars.size < 4294967281) (hascii : ∀ (j : Nat) b, chars.data.toList[j]? = some b → b.toNat < 128) :
    Calls Tryz.prog 222 #[.string s, .string chars] w fun e w' => e = .returned (.int .i64 (Lib.indexAny s.data.toList chars.data.toList)) ∧ Below w.heap.size w w' := by
  refine (Any.strings_IndexAny_long lays153 (fun w => by kernel_rfl) (by kernel_rfl) s chars w h2 h8 hs hcs hascii).mono fun e w' => ?_
  rintro ⟨rfl, rfl⟩
  exact ⟨rfl, ((Below.refl _ _).alloc (Nat.le_refl _) _).alloc (by simp) _⟩
theorem suse_calls (n : Int) (w : World) : Calls Tryz.prog 239 #[.int .i64 n] w fun e w' => e = .returned (.bool (decide (8 < n))) ∧ w' = w := Any.strings_shouldUseASCIISet { lays153 with } n w
theorem noAny_more {s : ByteArray} {i k : Nat} (h : Lib.NoAny s.data.toList crlf0 i) (hk : ∀ j (hj : j < s.size), i ≤ j → j < k → crlf0.contains (s[j]'hj) = false) : Lib.NoAny s.data.toList crlf0 k := fun j b hj hb => by
  by_cases e : j < i
  · exact h j b e hb
  · obtain ⟨hj2, hb2⟩ := List.getElem?_eq_some_iff.1 hb
    have hj3 : j < s.size := by rw [Array.length_toList] at hj2; exact hj2
    have := hk j hj3 (by omega) hj
    rw [← hb2]
    exact this
theorem crlf_no (b : UInt8) (h : 128 ≤ b.toNat) : crlf0.contains b = false := by
  unfold crlf0
  have h1 : b ≠ 13 := fun e => by subst e; revert h; decide
  have h2 : b ≠ 10 := fun e => by subst e; revert h; decide
  have h3 : b ≠ 0 := fun e => by subst e; revert h; decide
  simp [h1, h2, h3]
theorem below_set {B : Nat} {a w : World} (h : Below B a w) {r : Nat} (hr : B ≤ r) (o : Obj) : Below B a (setBlock w r o) :=
  ⟨h.os, h.tape, h.output, by simp only [setBlock, Array.size_setIfInBounds]; exact h.size, fun k hk => by
    simp only [setBlock]
    rw [Array.getElem?_setIfInBounds_ne (by omega)]
    exact h.block k hk⟩
set_option maxHeartbeats 8000000 in
set_option maxRecDepth 1000000 in
theorem iany_short (s : ByteArray) (w : World) (h8 : s.size ≤ 8) :
    Calls Tryz.prog 222 #[.string s, .string ⟨#[13, 10, 0]⟩] w fun e w' => e = .returned (.int .i64 (Lib.indexAny s.data.toList crlf0)) ∧ Below w.heap.size w w' := by
  have h8z : decide ((8 : Int) < (s.size : Int)) = false := decide_eq_false (by omega)
  have hb0 : Below w.heap.size w (w.iter s 0) := below_alloc4 _ _
  have hi0 := World.iter_heap w s 0
  go_enter Tryz.func222, Tryz.ntmps222
  go_wp2_with (go_at_call 239; refine (suse_calls _ _).mono ?_; rintro e w' ⟨rfl, hw⟩; rw [hw, h8z])
  go_loopg [9, 10] s.size (fun g _ _ wx => ∃ i : Nat, i + g = s.size ∧ wx.heap[w.heap.size]? = some (.stringIter s i) ∧ Below w.heap.size w wx ∧ Lib.NoAny s.data.toList crlf0 i)
  case atStart => exact ⟨0, by omega, hi0, hb0, Lib.NoAny.zero _ _⟩
  case round =>
    obtain ⟨i, hig, hit, hbel, hno⟩ := hrel
    cases gk with
    | zero =>
      obtain rfl : i = s.size := by omega
      have hnx := run_next_end2 (P := Tryz.prog) wr w.heap.size s s.size hit (by omega)
      have hnone : Lib.indexAny s.data.toList crlf0 = -1 := Lib.indexAny_none (by rw [Array.length_toList]; exact hno)
      go_wp2
      go_ret
      exact ⟨by rw [hnone]; rfl, hbel⟩
    | succ g =>
      have hi : i < s.size := by omega
      have hnx := run_next_at2 (P := Tryz.prog) wr w.heap.size s i hit hi
      have hlt := (Array.getElem?_eq_some_iff.1 hit).1
      by_cases hx : (s[i]'hi).toNat < 128
      · rw [decode_ascii s i hi hx] at hnx
        simp only at hnx
        have hset : (setBlock wr w.heap.size (.stringIter s (i + 1))).heap[w.heap.size]? = some (.stringIter s (i + 1)) := by
          simp only [setBlock]
          rw [Array.getElem?_setIfInBounds_self_of_lt hlt]
        have hb1 := below_set hbel (Nat.le_refl _) (.stringIter s (i + 1))
        obtain ⟨x, hxe⟩ : ∃ x : UInt8, s[i]'hi = x := ⟨_, rfl⟩
        rw [hxe] at hnx hx
        have hxl : s.data.toList[i]? = some x := by rw [← hxe]; exact Lib.data_getElem? s i hi
        have hcon := Lib.contains_iff_indexByte crlf0 x
        have hback : ((x.toNat : Int)).toNat.toUInt8 = x := by simp
        have hr := fun W => ixr_ascii ⟨#[13, 10, 0]⟩ (x.toNat : Int) W (by omega) (by omega)
        rw [hback] at hr
        have hcd : (⟨#[13, 10, 0]⟩ : ByteArray).data.toList = crlf0 := rfl
        rw [hcd] at hr
        cases hin : crlf0.contains x with
        | false =>
          rw [hin] at hcon
          have hlt0 : ¬ ((0 : Int) ≤ Lib.indexByte crlf0 x) := of_decide_eq_false hcon.symm
          have hno1 : Lib.NoAny s.data.toList crlf0 (i + 1) := hno.succ hxl hin
          clear hcon
          go_wp2_with (first
            | (go_at_call 238; refine (hr _).mono ?_; rintro e w' ⟨rfl, rfl⟩)
            | go_in)
          go_roundg g
          case measure => omega
          case rel => exact ⟨i + 1, by omega, hset, hb1, hno1⟩
        | true =>
          rw [hin] at hcon
          have hge0 : (0 : Int) ≤ Lib.indexByte crlf0 x := of_decide_eq_true hcon.symm
          have hhit : Lib.indexAny s.data.toList crlf0 = i := Lib.indexAny_hit hno hxl hin
          clear hcon
          go_wp2_with (first
            | (go_at_call 238; refine (hr _).mono ?_; rintro e w' ⟨rfl, rfl⟩)
            | go_in)
          go_ret
          exact ⟨by rw [hhit]; rfl, hb1⟩
      · obtain ⟨d1, d2, d3, d4, d5⟩ := dec_spec s i hi (by omega)
        have hno1 : Lib.NoAny s.data.toList crlf0 (i + (Utf8.decode s i).2) := noAny_more hno (fun j hj h1 h2 => crlf_no _ (d5 j hj h1 h2))
        generalize (Utf8.decode s i).1 = c at hnx d1 d2
        generalize (Utf8.decode s i).2 = k at hnx d3 d4 d5 hno1
        have hset : (setBlock wr w.heap.size (.stringIter s (i + k))).heap[w.heap.size]? = some (.stringIter s (i + k)) := by
          simp only [setBlock]
          rw [Array.getElem?_setIfInBounds_self_of_lt hlt]
        have hb1 := below_set hbel (Nat.le_refl _) (.stringIter s (i + k))
        have hsz1 : w.heap.size < (setBlock wr w.heap.size (.stringIter s (i + k))).heap.size := by simp only [setBlock, Array.size_setIfInBounds]; exact hlt
        have hr := fun W => ixr_calls (c : Int) (by omega) W
        go_wp2_with (first
          | (go_at_call 238; refine (hr _).mono ?_; rintro e w' ⟨rfl, hbw⟩)
          | go_in)
        go_roundg (s.size - (i + k))
        case measure => omega
        case rel => exact ⟨i + k, by omega, by rw [hbw.block _ hsz1]; exact hset, hb1.trans (hbw.mono (by omega)), hno1⟩
end Go.Proofs.YtomnbknaanlmaaaGreatDoor
namespace Go.Proofs.YtomnbknaanlmaaaGreatDoor
open Go.RowKit Go.Maps
def digL (l : List UInt8) : Bool := match l with
  | b :: _ => decide (48 ≤ b.toNat) && decide (b.toNat ≤ 57)
  | [] => false
def pdL (k : Lit) (_ : DataW Unit) : Bool := match k with
  | .string l => digL l
  | _ => false
theorem filter_lit (l : List (ByteArray × ByteArray)) : Lib.deleteFuncD pdL (datM l) = datM (l.filter fun p => !digP p.1) := by
  unfold datM Lib.deleteFuncD
  simp only
  congr 1
  induction l with
  | nil => rfl
  | cons p l ih =>
    rw [List.map_cons, List.filter_cons, List.filter_cons]
    have : (!pdL (litM p).1 (litM p).2) = !digP p.1 := rfl
    rw [this]
    cases !digP p.1 with
    | true => simp [ih]
    | false => simpa using ih
theorem grownBy_refl (w : World) (row : Option Nat) : w.grownBy w row := ⟨rfl, rfl, rfl, Nat.le_refl _, fun _ _ _ => rfl⟩
theorem digP_head (k : ByteArray) (h : 0 < k.size) : digP k = (decide ((48 : Int) ≤ (k[0].toNat : Int)) && decide ((k[0].toNat : Int) ≤ 57)) := by
  obtain ⟨⟨l⟩⟩ := k
  cases l with
  | nil => cases h
  | cons b l =>
    show (decide (48 ≤ b.toNat) && decide (b.toNat ≤ 57)) = (decide ((48 : Int) ≤ (b.toNat : Int)) && decide ((b.toNat : Int) ≤ 57))
    rw [Bool.eq_iff_iff]
    simp
    omega
set_option maxRecDepth 100000 in
theorem digf_calls (k v : ByteArray) (hk : k.size ≠ 0) (w : World) : Calls Tryz.prog 201 #[.string k, .string v] w fun e w' => e = .returned (.bool (digP k)) ∧ w.grownBy w' none := by
  have hp := digP_head k (by omega)
  go_enter Tryz.func201, Tryz.ntmps201
  go_wp2
  · go_ret
    refine ⟨?_, grownBy_refl _ _⟩
    first | rw [hp] | skip
    rename_i h
    simp [h]
  · go_ret
    refine ⟨?_, grownBy_refl _ _⟩
    first | rw [hp] | skip
    rename_i h
    have : decide ((48 : Int) ≤ (k[0].toNat : Int)) = false := decide_eq_false (by omega)
    rw [this]
    rfl
set_option maxRecDepth 100000 in
/-- what reads asx a text is one -/
theorem RM_inv {v : Value} {y : DataW Unit × List MemPlace} (h : RM Tryz.prog 9 v = some y) : ∃ s, v = .string s := by
  unfold RM plainElem at h
  rw [Tryz.underlying9] at h
  cases v <;> simp at h
  exact ⟨_, rfl⟩
set_option maxHeartbeats 4000000 in
set_option maxRecDepth 100000 in
theorem delf_calls (b n : Nat) (l : List (ByteArray × ByteArray)) (w : World) (hown : w.ownsMap Tryz.prog 9 (RM Tryz.prog 9) b n (datM l)) (hne : ∀ p ∈ l, p.1.size ≠ 0) :
    Calls Tryz.prog 200 #[.map (some b), .func (.func 201) #[] #[]] w fun e w' => e = .returned (.tuple #[]) ∧ w'.ownsMap Tryz.prog 9 (RM Tryz.prog 9) b n (datM (l.filter fun p => !digP p.1)) ∧ w.grownBy w' (some b) := by
  have K := Maps.string_keyed Tryz.underlying9
  have hu : Tryz.prog.underlying 172 = some (.map 9 9) := Tryz.underlying172
  obtain ⟨es0, hes, hap, hkeys⟩ := hown.entries K
  have hes' : l.map litM = es0 := by unfold datM at hes; injection hes
  have hcalls := digf_calls
  have hfin := filter_lit l
  rw [hes] at hown hfin
  have hin : ∀ (k : ByteArray), Maps.has (.map es0) (.string k.data.toList) = true → k.size ≠ 0 := by
    intro k hk
    rw [Maps.has_eq, List.any_eq_true] at hk
    obtain ⟨p, hp, hs⟩ := hk
    rw [← hes', List.mem_map] at hp
    obtain ⟨q, hq, rfl⟩ := hp
    have h0 := hne q hq
    have e : q.1.data.toList = k.data.toList := by simpa [litM, Lit.sameKey] using hs
    have e2 : q.1.data.toList.length = q.1.size := by rw [Array.length_toList]; rfl
    have e3 : k.data.toList.length = k.size := by rw [Array.length_toList]; rfl
    rw [← e3, ← e, e2]
    exact h0
  rw [← hfin]
  clear hfin
  go_enter Tryz.func200, Tryz.ntmps200
  go_wp2_with (first
    | (at_range; refine wpList_range_own _ rfl _ 172 rfl 9 9 K hu _ b n _ rfl hown ?_; intro w0 hrg0 hg0 hs0)
    | go_in)
  go_frame
  go_loopw [8] (fun _ wr => ∃ (left : Lit → Bool) (cnt : Nat), wr.ranges Tryz.prog 9 (RM Tryz.prog 9) b w.heap.size n (Fk pdL es0 left) left cnt ∧ w.grownBy wr (some b) ∧ ∀ kl, left kl = true → Maps.has (.map es0) kl = true)
    (fun _ wr => wr.rangeLeft b w.heap.size)
  case atStart => exact ⟨_, _, by rw [Fk_start hkeys]; exact hrg0, hg0.but _, fun _ h => h⟩
  case round =>
    obtain ⟨left, cnt, hrg, hgw, hlf⟩ := hrel
    go_wp2_with (first
      | (at_next; refine wpList_next_ranges _ rfl _ rfl 9 K (RM Tryz.prog 9) Value.string Value.string (fun key kl h => by obtain ⟨s, e, _⟩ := (keyOf_str Tryz.underlying9 _ _).1 h; exact ⟨s, e⟩) (fun v y h => RM_inv h) b w.heap.size n _ _ _ rfl hrg ?_ ?_)
      | go_in)
    · intro _ hl0
      go_wp2
      go_end0
      exact ⟨rfl, by rw [← Fk_end hl0]; exact hrg.owns, hgw⟩
    · intro k v kl yd yp w1 cnt1 hkey hlx hv hat hrg1 hlt hg1 hs1 hen
      have hgw1 := hgw.andThen hg1 (fun j hj => by cases hj; exact Or.inl (Nat.le_refl _))
      obtain ⟨k', ek, hks, rfl⟩ := (keyOf_str Tryz.underlying9 _ _).1 hkey
      cases ek
      have hk0 := hin k (hlf _ hlx)
      have hc := hcalls k v hk0 w1
      have hbl := hrg1.owns.lt
      have hrl := hrg1.lt
      have hpe : pdL (.string k.data.toList) yd = digP k := rfl
      cases hp : digP k <;> rw [hp] at hc hpe
      · go_wp2_with (first
          | (go_at_call 201; refine hc.mono ?_; rintro e w2 ⟨rfl, hg2⟩)
          | go_in)
        have hrg2 := hrg1.kept hg2 (by simp) (by simp)
        go_roundw
        case rel => exact ⟨_, cnt1, by rw [← Fk_stays hap (kl := .string k.data.toList) trivial hlx hpe hat]; exact hrg2, hgw1.andThen hg2 (fun j hj => by cases hj), fun z hz => hlf z (by simp at hz; exact hz.1)⟩
        case measure => rw [hrg2.left_eq, hrg.left_eq]; exact hlt
      · go_wp2_with (first
          | (go_at_call 201; refine hc.mono ?_; rintro e w2 ⟨rfl, hg2⟩; have hrg2 := hrg1.kept hg2 (by simp) (by simp))
          | (at_delete; refine wpList_delete_ranges _ rfl _ _ 172 9 rfl 9 K hu (RM Tryz.prog 9) b w.heap.size n _ _ _ rfl hrg2 _ _ rfl hkey ?_; intro w3 cnt3 hrg3 hle hturn; go_frame)
          | go_in)
        rw [strike_twice] at hrg3
        go_roundw
        case rel => exact ⟨_, cnt3, by rw [← Fk_struck hap (kl := .string k.data.toList) trivial hlx hpe hat]; exact hrg3, (hgw1.andThen hg2 (fun j hj => by cases hj)).andThen hturn.grown (fun j hj => by cases hj; exact Or.inr rfl), fun z hz => hlf z (by simp at hz; exact hz.1)⟩
        case measure => rw [hrg3.left_eq, hrg.left_eq]; omega
end Go.Proofs.YtomnbknaanlmaaaGreatDoor
namespace Go.Proofs.YtomnbknaanlmaaaGreatDoor
open Go.RowKit Go.Maps
theorem cut_calls (s sep : ByteArray) (m : Int) (w : World) (hs : s.size < 4294967281) (hm : w.cell? ⟨4, 0, none⟩ = some (.int .i64 m)) :
    Calls Tryz.prog 182 #[.string s, .string sep] w fun e w' => e = .returned (.tuple #[.string ⟨(Lib.cut s.data.toList sep.data.toList).1.toArray⟩, .string ⟨(Lib.cut s.data.toList sep.data.toList).2.1.toArray⟩, .bool (Lib.cut s.data.toList sep.data.toList).2.2]) ∧ ∃ n, w' = w.drewN n := Any.strings_Cut lays145 s sep m w hs hm
theorem wstr_calls (B b : Nat) (bs : List Value) (s : ByteArray) (w : World) (h : Lib.IsBuilder 129 5 B b bs w) (hlen : bs.length + s.size ≤ 140737488355328) (hBw : B ≤ w.heap.size) :
    Calls Tryz.prog 67 #[.pointer (some ⟨b, 0, none⟩), .string s] w fun e w' => e = .returned (.tuple #[.int .i64 s.size, .nilIface]) ∧ (Lib.BuilderAt 129 5 B b (.pointer (some ⟨b, 0, none⟩)) (bs ++ Lib.strCells s) w' ∧ Below B w w') := Any.Builder_WriteString lays166 Builder_Extra_166 B b bs s w h hlen hBw
theorem bstr_calls (B b : Nat) (l : List UInt8) (w : World) (h : Lib.IsBuilder 129 5 B b (Lib.byteCells l) w) (hBw : B ≤ w.heap.size) :
    Calls Tryz.prog 71 #[.pointer (some ⟨b, 0, none⟩)] w fun e w' => e = .returned (.string ⟨l.toArray⟩) ∧ Below B w w' := Any.Builder_String_any lays169 Builder_Extra_169 B b l w h hBw
/-- the value of a variable, in the kit's map -/
theorem atKey_datM (k : List UInt8) : ∀ l : List (ByteArray × ByteArray), (datM l).atKey (.string k) (.lit (.string [])) = .lit (.string (getM l k)) := by
  intro l
  unfold datM DataW.atKey getM
  simp only
  induction l with
  | nil => rfl
  | cons p l ih =>
    rw [List.map_cons, List.find?_cons, List.find?_cons]
    have : (litM p).1.sameKey (.string k) = (p.1.data.toList == k) := rfl
    simp only [this]
    cases p.1.data.toList == k with
    | true => rfl
    | false => exact ih
/-- a lookup, for the walk -/
theorem wpList_lookup_M {P : Program} (w : World) {ops : Array Oper} {rest : List Oper} {o : Oper} {a : Act} {Q : Exit → Act → World → Prop}
    (hg : o.guard = none) (m x : Operand) (t : TypeId) (hop : o.op = Op.lookup t m x false) (k : TypeId) (ht : P.underlying t = some (.map k k)) (he : P.underlying k = some .string) (hz : (zeroValue k).run P w = .ok (.string ⟨#[]⟩) w) (b n : Nat) (l : List (ByteArray × ByteArray))
    (hm : a.eval m = .map (some b)) (hown : w.ownsMap P k (RM P k) b n (datM l)) (key : ByteArray) (hx : a.eval x = .string key) (hks : key.size ≤ maxLen)
    (hK : wpList P ops Q rest (a.put o.dst (.string ⟨(getM l key.data.toList).toArray⟩)) w) : wpList P ops Q (o :: rest) a w := by
  refine wpList_plain hg fun K' hK' => ?_
  obtain ⟨v, ps, hrun, hv⟩ := hown.lookup (t := t) (e := k) (Maps.string_keyed he) ht hz (zd := .lit (.string [])) (zp := []) (plainElem_string he (s := ⟨#[]⟩) (Nat.zero_le _)) (key := .string key) (kl := .string key.data.toList) ((keyOf_str he _ _).2 ⟨key, rfl, hks, rfl⟩)
  rw [atKey_datM] at hv
  have hv2 : v = .string ⟨(getM l key.data.toList).toArray⟩ := by
    unfold RM plainElem at hv
    rw [he] at hv
    cases v <;> simp at hv
    rename_i s
    have e := hv.2.1
    rw [← e, Array.toArray_toList]
  subst hv2
  unfold Oper.wp
  simp [execOp, hop, hm, hx, hrun, Result.andThen]
  exact hK' _ _ hK
theorem owns_heap {P : Program} {k : TypeId} {b n : Nat} {D : DataW Unit} {w w' : World} (h : w.ownsMap P k (RM P k) b n D) (e : w'.heap[b]? = w.heap[b]?) : w'.ownsMap P k (RM P k) b n D := by
  obtain ⟨es, clock, hb, r⟩ := h
  exact ⟨es, clock, by rw [e]; exact hb, r⟩
/-- what a search leaves is shorter -/
theorem cut_len (s : List UInt8) (sep : List UInt8) (h : (Lib.cut s sep).2.2 = true) : (Lib.cut s sep).2.1.length + sep.length ≤ s.length := by
  unfold Lib.cut at *
  split at h
  · rename_i h0
    rw [if_pos h0]
    have := Lib.index_room s sep h0
    simp only [List.length_drop]
    omega
  · cases h
theorem cut_len0 (s : List UInt8) (sep : List UInt8) : (Lib.cut s sep).2.1.length ≤ s.length ∧ (Lib.cut s sep).1.length ≤ s.length := by
  unfold Lib.cut
  split
  · simp; omega
  · simp
theorem cell_drewN (w : World) (n : Nat) (a : Addr) : (w.drewN n).cell? a = w.cell? a := rfl
theorem byte_app (out a b : List UInt8) : Lib.byteCells out ++ Lib.strCells (⟨a.toArray⟩ ++ ⟨b.toArray⟩) = Lib.byteCells (out ++ (a ++ b)) := by
  have : (⟨a.toArray⟩ ++ ⟨b.toArray⟩ : ByteArray) = ⟨(a ++ b).toArray⟩ := by
    apply ByteArray.ext
    simp
  rw [this]
  show Lib.byteCells out ++ Lib.byteCells (a ++ b) = _
  simp [Lib.byteCells]
theorem isB_drewN {T e : TypeId} {B b : Nat} {bs : List Value} {w : World} (h : Lib.IsBuilder T e B b bs w) (n : Nat) : Lib.IsBuilder T e B b bs (w.drewN n) := h
theorem isB_alloc {T e : TypeId} {w : World} : Lib.IsBuilder T e w.heap.size w.heap.size (Lib.byteCells []) (w.alloc (Obj.cells #[Value.pointer none, Value.slice none 0 0] T)) := by
  refine .inl ⟨Nat.le_refl _, .slice none 0 0, (MapKept.heap_alloc w _).1, World.ownsRow_nil _ _ _ _, ?_⟩
  simp [Value.ownBlock]
theorem below_drewN {B : Nat} {a w : World} (h : Below B a w) (n : Nat) : Below B a (w.drewN n) := ⟨h.os, h.tape, h.output, h.size, h.block⟩
theorem below_alloc (w : World) (o : Obj) : Below w.heap.size w (w.alloc o) := (Below.refl _ w).alloc (Nat.le_refl _) o
theorem take_min (r : List UInt8) : (⟨r.toArray⟩ : ByteArray).extract 0 (min (r.length : Int) 4000).toNat = ⟨(r.take 4000).toArray⟩ := by
  have e : (min (r.length : Int) 4000).toNat = min r.length 4000 := by omega
  rw [e]
  apply ByteArray.ext
  rw [ByteArray.data_extract]
  simp
  omega
set_option maxHeartbeats 4000000 in
set_option maxRecDepth 100000 in
theorem expand_calls (g b n : Nat) (m : Int) (l : List (ByteArray × ByteArray)) (s : ByteArray) (w : World) (r : List UInt8) (hs : s.size < 4294967281) (hm : w.cell? ⟨4, 0, none⟩ = some (.int .i64 m)) (hg : w.cell? ⟨g, 6, none⟩ = some (.map (some b)))
    (hown : w.ownsMap Tryz.prog 9 (RM Tryz.prog 9) b n (datM l)) (h : expF l (s.size + 1) s.data.toList [] = some r) :
    Calls Tryz.prog 143 #[.pointer (some ⟨g, 0, none⟩), .string s] w fun e w' => e = .returned (.string ⟨(r.take 4000).toArray⟩) ∧ Below w.heap.size w w' := by
  have hu : Tryz.prog.underlying 172 = some (.map 9 9) := Tryz.underlying172
  have hbel0 := Below.refl w.heap.size w
  go_enter Tryz.func143, Tryz.ntmps143
  go_wp2
  go_loopw [1] (fun u1 wr => ∃ (sb : ByteArray) (out : List UInt8) (k : Nat), u1 = .string sb ∧ sb.size < 4294967281 ∧ Lib.IsBuilder 129 5 w.heap.size w.heap.size (Lib.byteCells out) wr ∧ Below w.heap.size w wr ∧ w.heap.size ≤ wr.heap.size ∧ expF l k sb.data.toList out = some r)
    (fun u1 _ => (strV u1).size)
  case atStart =>
    refine ⟨s, [], s.size + 1, rfl, hs, ?_, ?_, ?_, h⟩
    · exact isB_alloc
    · exact below_alloc _ _
    · exact (below_alloc _ _).size
  case round =>
    obtain ⟨sb, out, k, rfl, hsb, hB, hbel, hsz, hexp⟩ := hrel
    cases k with
    | zero => cases hexp
    | succ k =>
    have hmw : wr.cell? ⟨4, 0, none⟩ = some (.int .i64 m) := by rw [hbel.cell (cell_lt hm)]; exact hm
    have hgw : wr.cell? ⟨g, 6, none⟩ = some (.map (some b)) := by rw [hbel.cell (cell_lt hg)]; exact hg
    have how : wr.ownsMap Tryz.prog 9 (RM Tryz.prog 9) b n (datM l) := owns_heap hown (hbel.block b hown.lt)
    rw [expF] at hexp
    rcases e1 : Lib.cut sb.data.toList [36, 123] with ⟨a1, r1, k1⟩
    have q1 := cut_len0 sb.data.toList [36, 123]
    have q2 := cut_len sb.data.toList [36, 123]
    rw [e1] at hexp q1 q2
    simp only at hexp q1 q2
    rcases e2 : Lib.cut r1 [125] with ⟨a2, r2, k2⟩
    have q3 := cut_len0 r1 [125]
    have q4 := cut_len r1 [125]
    rw [e2] at hexp q3 q4
    simp only at hexp q3 q4
    have hsl : sb.data.toList.length = sb.size := by rw [Array.length_toList]; rfl
    rw [hsl] at q1 q2
    have hr1 : (⟨r1.toArray⟩ : ByteArray).size < 4294967281 := by show r1.toArray.size < _; rw [List.size_toArray]; omega
    have hm1 : ∀ n, (wr.drewN n).cell? ⟨4, 0, none⟩ = some (.int .i64 m) := fun n => (cell_drewN wr n _).trans hmw
    have how2 : ∀ n1, (wr.drewN n1).ownsMap Tryz.prog 9 (RM Tryz.prog 9) b n (datM l) := fun n1 => owns_heap how rfl
    have hB2 : ∀ n1, Lib.IsBuilder 129 5 w.heap.size w.heap.size (Lib.byteCells out) (wr.drewN n1) := fun n1 => isB_drewN hB n1
    have hsz2 : ∀ n1, w.heap.size ≤ (wr.drewN n1).heap.size := fun _ => hsz
    have hg2 : ∀ n1, (wr.drewN n1).cell? ⟨g, 6, none⟩ = some (.map (some b)) := fun _ => hgw
    have hb2 : ∀ n1, Below w.heap.size w (wr.drewN n1) := fun n1 => below_drewN hbel n1
    have hbl0 : (Lib.byteCells out).length = out.length := by simp [Lib.byteCells]
    have e1' : Lib.cut sb.data.toList (⟨#[36, 123]⟩ : ByteArray).data.toList = (a1, r1, k1) := e1
    have e2' : Lib.cut (⟨r1.toArray⟩ : ByteArray).data.toList (⟨#[125]⟩ : ByteArray).data.toList = (a2, r2, k2) := e2
    by_cases hgo : k1 = true ∧ k2 = true
    · obtain ⟨rfl, rfl⟩ := hgo
      rw [if_neg (by simp)] at hexp
      split at hexp
      case isFalse => cases hexp
      rename_i hlen
      have hlen' : (Lib.byteCells out).length + (⟨a1.toArray⟩ ++ ⟨(getM l a2).toArray⟩ : ByteArray).size ≤ 140737488355328 := by
        rw [hbl0, ByteArray.size_append]
        show out.length + (a1.toArray.size + (getM l a2).toArray.size) ≤ _
        rw [List.size_toArray, List.size_toArray]
        exact hlen
      go_wp2_with (first
        | (go_at_call 182; refine (cut_calls _ _ m _ (by first | with_reducible exact hsb | with_reducible exact hr1) (by first | with_reducible exact hmw | with_reducible exact hm1 _)).mono ?_; rintro e w2 ⟨rfl, n1, rfl⟩; simp only [e1', e2'])
        | (at_lookup; refine wpList_lookup_M _ rfl _ _ 172 rfl 9 hu Tryz.underlying9 (Tryz.zeroValue9 _) b n l rfl (how2 _) ⟨a2.toArray⟩ rfl (by show a2.toArray.size ≤ _; rw [List.size_toArray]; unfold maxLen; omega) ?_)
        | (go_at_call 67; refine (wstr_calls w.heap.size w.heap.size (Lib.byteCells out) _ _ (hB2 _) hlen' (hsz2 _)).mono ?_; rintro e w4 ⟨rfl, hBA, hbl⟩)
        | go_in)
      go_roundw
      case rel => exact ⟨⟨r2.toArray⟩, out ++ (a1 ++ getM l a2), k, rfl, by show r2.toArray.size < _; rw [List.size_toArray]; omega, by rw [← byte_app]; exact .inr hBA, (hb2 _).trans hbl, Nat.le_trans hsz hbl.size, hexp⟩
      case measure =>
        have z1 := q2 trivial
        have z2 := q4 trivial
        show r2.toArray.size < sb.size
        rw [List.size_toArray]
        simp only [List.length_cons, List.length_nil] at z1 z2
        omega
    · have hstop : k1 = false ∨ k2 = false := by
        cases k1 <;> cases k2 <;> simp at hgo ⊢
      rw [if_pos hstop] at hexp
      split at hexp
      case isFalse => cases hexp
      rename_i hlen
      injection hexp with hexp
      have hlen' : (Lib.byteCells out).length + sb.size ≤ 140737488355328 := by rw [hbl0, ← hsl]; exact hlen
      have hap : Lib.byteCells out ++ Lib.strCells sb = Lib.byteCells (out ++ sb.data.toList) := by
        show Lib.byteCells out ++ Lib.byteCells sb.data.toList = _
        simp [Lib.byteCells]
      have hfin : (⟨r.toArray⟩ : ByteArray).extract 0 (min (r.length : Int) 4000).toNat = ⟨(r.take 4000).toArray⟩ := take_min r
      rcases hstop with rfl | rfl
      · go_wp2_with (first
          | (go_at_call 182; refine (cut_calls _ _ m _ (by first | with_reducible exact hsb | with_reducible exact hr1) (by first | with_reducible exact hmw | with_reducible exact hm1 _)).mono ?_; rintro e w2 ⟨rfl, n1, rfl⟩; simp only [e1', e2'])
          | (go_at_call 67; refine (wstr_calls w.heap.size w.heap.size (Lib.byteCells out) _ _ (hB2 _) hlen' (hsz2 _)).mono ?_; rintro e w4 ⟨rfl, hBA, hbl⟩; rw [hap] at hBA; have hsz4 := Nat.le_trans hsz hbl.size; have hw4 := (hb2 _).trans hbl)
          | (go_at_call 71; refine (bstr_calls w.heap.size w.heap.size (out ++ sb.data.toList) _ (.inr hBA) hsz4).mono ?_; rintro e w5 ⟨rfl, hbl5⟩)
          | go_in)
        all_goals (go_ret; exact ⟨by rw [← hfin]; rfl, hw4.trans hbl5⟩)
      · go_wp2_with (first
          | (go_at_call 182; refine (cut_calls _ _ m _ (by first | with_reducible exact hsb | with_reducible exact hr1) (by first | with_reducible exact hmw | with_reducible exact hm1 _)).mono ?_; rintro e w2 ⟨rfl, n1, rfl⟩; simp only [e1', e2'])
          | (go_at_call 67; refine (wstr_calls w.heap.size w.heap.size (Lib.byteCells out) _ _ (hB2 _) hlen' (hsz2 _)).mono ?_; rintro e w4 ⟨rfl, hBA, hbl⟩; rw [hap] at hBA; have hsz4 := Nat.le_trans hsz hbl.size; have hw4 := (hb2 _).trans hbl)
          | (go_at_call 71; refine (bstr_calls w.heap.size w.heap.size (out ++ sb.data.toList) _ (.inr hBA) hsz4).mono ?_; rintro e w5 ⟨rfl, hbl5⟩)
          | go_in)
        all_goals (go_ret; exact ⟨by rw [← hfin]; rfl, hw4.trans hbl5⟩)
end Go.Proofs.YtomnbknaanlmaaaGreatDoor
namespace Go.Proofs.YtomnbknaanlmaaaGreatDoor
open Go.RowKit
set_option maxRecDepth 100000
abbrev Rp := ByteArray × Int × Int
def encR (x : Rp) : List C := [.str x.1, .int .i64 x.2.1, .int .i64 x.2.2]
def isOld (x : Rp) : Bool := IntKind.i64.wrap (x.2.1 + x.2.2) == 0
def valR (x : Rp) : Value := .agg #[.string x.1, .int .i64 x.2.1, .int .i64 x.2.2]
theorem tokB_enc : ∀ (es : List (List C)), es.all tokB = true → ∃ l : List Rp, es = l.map encR
  | [], _ => ⟨[], rfl⟩
  | e :: es, h => by
    rw [List.all_cons, Bool.and_eq_true] at h
    obtain ⟨l, rfl⟩ := tokB_enc es h.2
    have h1 := h.1
    unfold tokB at h1
    split at h1
    · rename_i s n k; exact ⟨(s, n, k) :: l, rfl⟩
    · cases h1
theorem filt_enc (l : List Rp) : ((l.map encR).filter (leftB)) = (l.filter fun x => !isOld x).map encR := by
  rw [List.filter_map]
  rfl
/-- a row of replies in memory -/
structure RowR (w : World) (g c : Nat) (l : List Rp) : Prop where
  ex : ∃ t fz cur, w.heap[g]? = some (.cells cur t fz) ∧ cur.size = c * 3 ∧ fz = (0, 0) ∧ ∀ (i : Nat) (x : Rp), l[i]? = some x → cur[i * 3]? = some (.string x.1) ∧ cur[i * 3 + 1]? = some (.int .i64 x.2.1) ∧ cur[i * 3 + 2]? = some (.int .i64 x.2.2)
  le : l.length ≤ c
  max : c ≤ maxLen
theorem RowR.cell {w : World} {g c : Nat} {l : List Rp} (h : RowR w g c l) {i : Nat} (hi : i < l.length) : w.cell? ⟨g, i * 3, none⟩ = some (.string l[i].1) ∧ w.cell? ⟨g, i * 3 + 1, none⟩ = some (.int .i64 l[i].2.1) ∧ w.cell? ⟨g, i * 3 + 2, none⟩ = some (.int .i64 l[i].2.2) := by
  obtain ⟨t, fz, cur, hv, hs, hf, hc⟩ := h.ex
  obtain ⟨h1, h2, h3⟩ := hc i _ (List.getElem?_eq_getElem hi)
  refine ⟨?_, ?_, ?_⟩
  · simp only [World.cell?, hv]; exact h1
  · simp only [World.cell?, hv]; exact h2
  · simp only [World.cell?, hv]; exact h3
theorem RowR.free {w : World} {g c : Nat} {l : List Rp} (h : RowR w g c l) (o : Nat) (_ho : o < c * 3) : w.frozen? ⟨g, o, none⟩ = false := by
  obtain ⟨t, fz, cur, hv, hs, rfl, hc⟩ := h.ex
  simp only [World.frozen?, hv]
  simp
theorem RowR.same {w w' : World} {g c : Nat} {l : List Rp} (h : RowR w g c l) (hb : w'.heap[g]? = w.heap[g]?) : RowR w' g c l := by
  obtain ⟨⟨t, fz, cur, hv, hr⟩, h1, h2⟩ := h
  exact ⟨⟨t, fz, cur, hb.trans hv, hr⟩, h1, h2⟩
theorem RowR.lt {w : World} {g c : Nat} {l : List Rp} (h : RowR w g c l) : g < w.heap.size := by
  obtain ⟨⟨t, fz, cur, hv, hr⟩, h1, h2⟩ := h
  exact heap_lt hv
theorem vold_calls (x : Rp) (w : World) : Calls Tryz.prog 25 #[valR x] w fun e w' => e = .returned (.bool (isOld x)) ∧ Below w.heap.size w w' := by
  unfold isOld valR
  go_enter Tryz.func25, Tryz.ntmps25
  go_wp2
  go_ret
  refine ⟨?_, (Below.refl _ w).alloc (Nat.le_refl _) _⟩
  have e : IntKind.i64.wrap (x.2.1 + x.2.2) = wrap64 (x.2.1 + x.2.2) := by rw [IntKind.wrap_i64]; unfold wrap64; omega
  rw [e]
  first | rfl | (unfold wrap64; rfl) | simp [wrap64]
def vI : Value → Int
  | .int _ n => n
  | _ => 0
/-- the place of the first reply that is old -/
def idxO : Nat → List Rp → Int
  | _, [] => -1
  | i, x :: l => if isOld x = true then (i : Int) else idxO (i + 1) l
theorem drop_at8 {α : Type} {l : List α} {k : Nat} (h : k < l.length) : l.drop k = l[k] :: l.drop (k + 1) := List.drop_eq_getElem_cons h
set_option maxHeartbeats 1600000 in
theorem idx_calls (g c : Nat) (l : List Rp) (w : World) (h : RowR w g c l) :
    Calls Tryz.prog 58 #[.slice (some ⟨g, 0, none⟩) l.length c, .func (.func 25) #[] #[]] w fun e w' => e = .returned (.int .i64 (idxO 0 l)) ∧ Below w.heap.size w w' := by
  have hmx : l.length ≤ 9223372036854775807 := by have := h.le; have := h.max; unfold maxLen at *; omega
  have hg := h.lt
  go_enter Tryz.func58, Tryz.ntmps58
  go_wp2
  go_loopw [8] (fun u8 wr => ∃ k : Nat, u8 = .int .i64 k ∧ k ≤ l.length ∧ idxO 0 l = idxO k (l.drop k) ∧ Below w.heap.size w wr) (fun u8 _ => l.length - (vI u8).toNat)
  case atStart => exact ⟨0, rfl, by omega, by simp, Below.refl _ _⟩
  case round =>
    obtain ⟨k, rfl, hk, he, hb⟩ := hrel
    by_cases h1 : k = l.length
    · subst h1
      rw [List.drop_eq_nil_of_le (Nat.le_refl _)] at he
      have he : idxO 0 l = -1 := he
      go_wp2
      go_ret
      exact ⟨by rw [he]; rfl, hb⟩
    have hlt : k < l.length := by omega
    have hr := h.same (hb.block g hg)
    obtain ⟨c1, c2, c3⟩ := hr.cell hlt
    rw [drop_at8 hlt] at he
    have hi1 : (0 : Int) ≤ (k : Int) ∧ (k : Int) < (l.length : Int) := by omega
    cases ho : isOld l[k] with
    | true =>
      have he2 : idxO 0 l = (k : Int) := by rw [he]; simp only [idxO, ho, if_true]
      go_wp2_with (go_at_call 25; refine (vold_calls l[k] _).mono ?_; rintro e w' ⟨rfl, hb2⟩; rw [ho])
      go_ret
      exact ⟨by rw [he2]; rfl, hb.trans (hb2.mono hb.size)⟩
    | false =>
      have he2 : idxO 0 l = idxO (k + 1) (l.drop (k + 1)) := by rw [he]; simp only [idxO, ho, Bool.false_eq_true, if_false]
      go_wp2_with (go_at_call 25; refine (vold_calls l[k] _).mono ?_; rintro e w' ⟨rfl, hb2⟩; rw [ho])
      refine ⟨⟨k + 1, rfl, by omega, he2, hb.trans (hb2.mono hb.size)⟩, by simp [vI]; omega⟩
theorem idxO_spec : ∀ (l : List Rp) (k : Nat), (idxO k l = -1 ∧ ∀ x ∈ l, isOld x = false) ∨ ∃ i, ∃ hi : i < l.length, idxO k l = ((k + i : Nat) : Int) ∧ isOld l[i] = true ∧ ∀ x ∈ l.take i, isOld x = false
  | [], _ => .inl ⟨rfl, by simp⟩
  | x :: l, k => by
    cases ho : isOld x with
    | true => exact .inr ⟨0, by simp, by simp [idxO, ho], by simpa using ho, by simp⟩
    | false =>
      have e : idxO k (x :: l) = idxO (k + 1) l := by simp [idxO, ho]
      rw [e]
      rcases idxO_spec l (k + 1) with ⟨h1, h2⟩ | ⟨i, hi, h1, h2, h3⟩
      · refine .inl ⟨h1, fun y hy => ?_⟩
        rcases List.mem_cons.1 hy with rfl | hy
        · exact ho
        · exact h2 y hy
      · refine .inr ⟨i + 1, by simp; omega, by rw [h1]; congr 1; omega, by simpa using h2, fun y hy => ?_⟩
        rw [List.take_succ_cons] at hy
        rcases List.mem_cons.1 hy with rfl | hy
        · exact ho
        · exact h3 y hy
abbrev setR (w : World) (g o : Nat) (x : Rp) : World := ((w.setCell ⟨g, o * 3, none⟩ (.string x.1)).setCell ⟨g, o * 3 + 1, none⟩ (.int .i64 x.2.1)).setCell ⟨g, o * 3 + 2, none⟩ (.int .i64 x.2.2)
theorem RowR.set {w : World} {g c : Nat} {l : List Rp} (h : RowR w g c l) {i : Nat} (hi : i < l.length) (x : Rp) : RowR (setR w g i x) g c (l.set i x) := by
  obtain ⟨⟨t, fz, cur, hv, hs, hf, hc⟩, h1, h2⟩ := h
  have hb : (setR w g i x).heap[g]? = some (.cells (((cur.setIfInBounds (i * 3) (.string x.1)).setIfInBounds (i * 3 + 1) (.int .i64 x.2.1)).setIfInBounds (i * 3 + 2) (.int .i64 x.2.2)) t fz) := by
    simp [setR, World.setCell, Array.getElem?_modify, hv]
  refine ⟨⟨t, fz, _, hb, by simp [hs], hf, fun j y hy => ?_⟩, by simpa using h1, h2⟩
  rw [List.getElem?_set] at hy
  by_cases hj : i = j
  · subst hj
    rw [if_pos rfl, if_pos hi] at hy
    injection hy with hy
    subst hy
    refine ⟨?_, ?_, ?_⟩
    · rw [Array.getElem?_setIfInBounds_ne (by omega), Array.getElem?_setIfInBounds_ne (by omega), Array.getElem?_setIfInBounds_self_of_lt (by omega)]
    · rw [Array.getElem?_setIfInBounds_ne (by omega), Array.getElem?_setIfInBounds_self_of_lt (by rw [Array.size_setIfInBounds]; omega)]
    · rw [Array.getElem?_setIfInBounds_self_of_lt (by rw [Array.size_setIfInBounds, Array.size_setIfInBounds]; omega)]
  · rw [if_neg hj] at hy
    obtain ⟨c1, c2, c3⟩ := hc j y hy
    refine ⟨?_, ?_, ?_⟩
    · rw [Array.getElem?_setIfInBounds_ne (by omega), Array.getElem?_setIfInBounds_ne (by omega), Array.getElem?_setIfInBounds_ne (by omega)]; exact c1
    · rw [Array.getElem?_setIfInBounds_ne (by omega), Array.getElem?_setIfInBounds_ne (by omega), Array.getElem?_setIfInBounds_ne (by omega)]; exact c2
    · rw [Array.getElem?_setIfInBounds_ne (by omega), Array.getElem?_setIfInBounds_ne (by omega), Array.getElem?_setIfInBounds_ne (by omega)]; exact c3
def zR : Rp := (⟨#[]⟩, 0, 0)
theorem wr_frm {g : Nat} {w w' : World} (h : Wr g w w') : Frm (fun k => k = g) w w' := ⟨h.os, h.tape, h.output, by rw [h.size]; exact Nat.le_refl _, fun k _ hk => h.block k hk⟩
theorem clear_run {w : World} {g c : Nat} {l : List Rp} (h : RowR w g c l) {i : Nat} (hi : i ≤ l.length) :
    ∃ w', (∀ ty cap, (Builtin.clear_ #[22] ty #[.slice (some ⟨g, i * 3, none⟩) (l.length - i) cap]).run Tryz.prog w = .ok (.tuple #[]) w') ∧ Frm (fun k => k = g) w w' ∧ RowR w' g c (l.take i ++ List.replicate (l.length - i) zR) := by
  obtain ⟨⟨t, fz, cur, hv, hs, hf, hc⟩, hle, hmx⟩ := id h
  have hz : ∀ w, (zeroValue 74).run Tryz.prog w = .ok (.agg #[.string ⟨#[]⟩, .int .i64 0, .int .i64 0]) w := fun w => by simp only [zeroValue, Sem.run_bind, Tryz.typeInfo74, Result.andThen_ok]; rfl
  by_cases h0 : l.length - i = 0
  · refine ⟨w, fun ty cap => ?_, ⟨rfl, rfl, rfl, Nat.le_refl _, fun _ _ _ => rfl⟩, ?_⟩
    · rw [h0]
      simp [Builtin.clear_, run_underlying Tryz.underlying22]
    · rw [h0, List.take_of_length_le (by omega)]
      simpa using h
  · have hlen : (Builtin.zeroCells (Value.agg #[.string ⟨#[]⟩, .int .i64 0, .int .i64 0]).cells (l.length - i)).toList.length = (l.length - i) * 3 := by simp [Builtin.zeroCells, Value.cells]
    have hat : ∀ q, q < (l.length - i) * 3 → (Builtin.zeroCells (Value.agg #[.string ⟨#[]⟩, .int .i64 0, .int .i64 0]).cells (l.length - i)).toList[q]? = some (if q % 3 = 0 then .string ⟨#[]⟩ else .int .i64 0) := fun q hq => by
      simp only [Builtin.zeroCells, Value.cells, Array.toList_map, List.getElem?_map, Array.toList_range]
      rw [List.getElem?_range (by simpa using hq)]
      have : q % 3 = 0 ∨ q % 3 = 1 ∨ q % 3 = 2 := by omega
      rcases this with e | e | e <;> simp [e]
    obtain ⟨w', r1, r2, r3⟩ := run_storeCells (P := Tryz.prog) (o := i * 3) (Builtin.zeroCells (Value.agg #[.string ⟨#[]⟩, .int .i64 0, .int .i64 0]).cells (l.length - i)).toList 0 w cur hv (fun u hu => by
      simp only [Builtin.zeroCells, Value.cells, Array.toList_map, List.mem_map] at hu
      obtain ⟨q, _, rfl⟩ := hu
      have : q % 3 = 0 ∨ q % 3 = 1 ∨ q % 3 = 2 := by omega
      rcases this with e | e | e <;> simp [e] <;> rfl) (by rw [hlen, hs]; omega) (by subst hf; simp)
    obtain ⟨f1, f2⟩ := fold_get (i * 3) (Builtin.zeroCells (Value.agg #[.string ⟨#[]⟩, .int .i64 0, .int .i64 0]).cells (l.length - i)).toList 0 cur
    refine ⟨w', fun ty cap => ?_, wr_frm r2, ⟨⟨t, fz, _, r3, by rw [f1, hs], hf, fun j y hy => ?_⟩, by simp; omega, hmx⟩⟩
    · obtain ⟨m, hm⟩ : ∃ m, l.length - i = m + 1 := ⟨l.length - i - 1, by omega⟩
      rw [hm] at r1 ⊢
      simp [Builtin.clear_, run_underlying Tryz.underlying22, hz, r1]
    · have hjl : j < l.length := by
        have := (List.getElem?_eq_some_iff.1 hy).1
        simp at this
        omega
      by_cases hj : j < i
      · rw [List.getElem?_append_left (by simp; omega), List.getElem?_take, if_pos hj] at hy
        obtain ⟨c1, c2, c3⟩ := hc j y hy
        rw [f2 _ (by omega), f2 _ (by omega), f2 _ (by omega), if_neg (by omega), if_neg (by omega), if_neg (by omega)]
        exact ⟨c1, c2, c3⟩
      · rw [List.getElem?_append_right (by simp; omega), List.getElem?_replicate] at hy
        split at hy
        case isFalse => cases hy
        injection hy with hy
        subst hy
        rw [f2 _ (by omega), f2 _ (by omega), f2 _ (by omega), if_pos (by rw [hlen]; omega), if_pos (by rw [hlen]; omega), if_pos (by rw [hlen]; omega), hat _ (by omega), hat _ (by omega), hat _ (by omega)]
        have e1 : (j * 3 - (i * 3 + 0)) % 3 = 0 := by omega
        have e2 : ¬ (j * 3 + 1 - (i * 3 + 0)) % 3 = 0 := by omega
        have e3 : ¬ (j * 3 + 2 - (i * 3 + 0)) % 3 = 0 := by omega
        rw [if_pos e1, if_neg e2, if_neg e3]
        exact ⟨rfl, rfl, rfl⟩
/-- slices.DeleteFunc -/
theorem frm8_tr {S : Nat → Prop} {a b c : World} (h : Frm S a b) (h' : Frm S b c) : Frm S a c := Frm.trans h h' (fun _ h _ => h)
theorem frm8_bel {S : Nat → Prop} {a b : World} (h : Below a.heap.size a b) : Frm S a b := ⟨h.os, h.tape, h.output, h.size, fun k hk _ => h.block k hk⟩
theorem frm8_set (S : Nat → Prop) (w : World) (b o : Nat) (v : Value) (h : S b) : Frm S w (w.setCell ⟨b, o, none⟩ v) :=
  ⟨rfl, by simp, rfl, by simp, fun k _ hk => Below.heap_setCell _ _ _ _ (fun e => hk (by rw [e]; exact h))⟩
theorem frm8_alloc (S : Nat → Prop) (w : World) (X : Obj) : Frm S w (w.alloc X) :=
  ⟨rfl, by simp, rfl, by simp, fun k hk _ => Below.heap_alloc w X k hk⟩
def keep (x : Rp) : Bool := !isOld x
set_option maxHeartbeats 4000000 in
theorem del_calls (g c : Nat) (l : List Rp) (w : World) (h : RowR w g c l) :
    Calls Tryz.prog 24 #[.slice (some ⟨g, 0, none⟩) l.length c, .func (.func 25) #[] #[]] w fun e w' => e = .returned (.slice (some ⟨g, 0, none⟩) (l.filter (keep)).length c) ∧ RowR w' g c (l.filter (keep) ++ List.replicate (l.length - (l.filter (keep)).length) zR) ∧ Frm (fun k => k = g) w w' := by
  have hmx : l.length ≤ 9223372036854775807 := by have := h.le; have := h.max; unfold maxLen at *; omega
  have hg := h.lt
  have hlc := h.le
  rcases idxO_spec l 0 with ⟨h1, h2⟩ | ⟨i0, hi0, h1, h2, h3⟩
  · have hF : l.filter (keep) = l := List.filter_eq_self.2 fun x hx => by unfold keep; rw [h2 x hx]; rfl
    have hi := idx_calls g c l w h
    rw [h1] at hi
    go_enter Tryz.func24, Tryz.ntmps24
    go_wp2_with (go_at_call 58; refine hi.mono ?_; rintro e w' ⟨rfl, hb⟩)
    go_ret
    rw [hF, Nat.sub_self]
    exact ⟨rfl, by simpa using h.same (hb.block g hg), frm8_bel hb⟩
  · rw [Nat.zero_add] at h1
    have hi := idx_calls g c l w h
    rw [h1] at hi
    have hne : ((i0 : Int) == -1) = false := beq_eq_false_iff_ne.2 (by omega)
    have hF0 : l.filter (keep) = l.take i0 ++ (l.drop (i0 + 1)).filter (keep) := by
      conv => lhs; rw [← List.take_append_drop i0 l, List.filter_append, drop_at8 hi0, List.filter_cons]
      have : keep l[i0] = false := by unfold keep; rw [h2]; rfl
      rw [this]
      simp only [Bool.false_eq_true, if_false]
      congr 1
      exact List.filter_eq_self.2 fun x hx => by unfold keep; rw [h3 x hx]; rfl
    generalize hF : l.filter (keep) = F at *
    go_enter Tryz.func24, Tryz.ntmps24
    go_wp2_with (go_at_call 58; refine hi.mono ?_; rintro e w1 ⟨rfl, hb⟩)
    have hr1 : RowR w1 g c l := h.same (hb.block g hg)
    have hF1 : Frm (fun k => k = g) w w1 := frm8_bel hb
    go_loopw [5, 6] (fun u5 u6 wr => ∃ (i j : Nat) (b : List Rp), u5 = .int .i64 i ∧ u6 = .int .i64 j ∧ i < j ∧ j ≤ l.length ∧ b.length = l.length ∧ RowR wr g c b ∧ b.take i ++ (b.drop j).filter (keep) = F ∧ Frm (fun k => k = g) w wr) (fun _ u6 _ => l.length - (vI u6).toNat)
    case atStart => exact ⟨i0, i0 + 1, l, rfl, rfl, by omega, by omega, rfl, hr1, hF0.symm, hF1⟩
    case round =>
      obtain ⟨i, j, b, rfl, rfl, hij, hj, hbl, hrb, hbF, hFr⟩ := hrel
      by_cases h5 : j = l.length
      · subst h5
        rw [List.drop_eq_nil_of_le (by omega), List.filter_nil, List.append_nil] at hbF
        have hFl : F.length = i := by rw [← hbF, List.length_take]; omega
        obtain ⟨w3, hrun, hFc, hrc⟩ := clear_run hrb (i := i) (by omega)
        rw [hbl] at hrun hrc
        have hic : (0 : Int) ≤ (i : Int) ∧ (i : Int) ≤ (l.length : Int) := by omega
        go_wp2
        go_ret
        rw [hbF] at hrc
        refine ⟨by rw [hFl]; rfl, by rw [hFl]; exact hrc, frm8_tr hFr hFc⟩
      have hlt : j < b.length := by omega
      have hli : i < b.length := by omega
      obtain ⟨c1, c2, c3⟩ := hrb.cell hlt
      obtain ⟨d1, d2, d3⟩ := hrb.cell hli
      have f1 := hrb.free (i * 3) (by have := hrb.le; omega)
      have f2 := hrb.free (i * 3 + 1) (by have := hrb.le; omega)
      have f3 := hrb.free (i * 3 + 2) (by have := hrb.le; omega)
      have hgr := hrb.lt
      have hj1 : (0 : Int) ≤ (j : Int) ∧ (j : Int) < (l.length : Int) := by omega
      have hi1 : (0 : Int) ≤ (i : Int) ∧ (i : Int) < (l.length : Int) := by omega
      rw [drop_at8 hlt] at hbF
      cases ho : isOld b[j] with
      | true =>
        have hk : keep b[j] = false := by unfold keep; rw [ho]; rfl
        rw [List.filter_cons, hk] at hbF
        simp only [Bool.false_eq_true, if_false] at hbF
        go_wp2_with (go_at_call 25; refine (vold_calls b[j] _).mono ?_; rintro e w' ⟨rfl, hb2⟩; rw [ho])
        have hsz : wr.heap.size < (wr.alloc (.cells #[.string b[j].1, .int .i64 b[j].2.1, .int .i64 b[j].2.2] 74)).heap.size := by show _ < (wr.heap.push _).size; rw [Array.size_push]; omega
        have e1 : w'.heap[g]? = wr.heap[g]? := (hb2.block g (by omega)).trans (Below.heap_alloc wr _ g hgr)
        exact ⟨⟨i, j + 1, b, rfl, rfl, by omega, by omega, hbl, hrb.same e1, hbF, frm8_tr hFr (frm8_tr (frm8_alloc _ wr _) (frm8_bel hb2))⟩, by simp [vI]; omega⟩
      | false =>
        have hk : keep b[j] = true := by unfold keep; rw [ho]; rfl
        rw [List.filter_cons, hk] at hbF
        simp only [if_true] at hbF
        have hsz : wr.heap.size < (wr.alloc (.cells #[.string b[j].1, .int .i64 b[j].2.1, .int .i64 b[j].2.2] 74)).heap.size := by show _ < (wr.heap.push _).size; rw [Array.size_push]; omega
        go_wp2_with (go_at_call 25; refine (vold_calls b[j] _).mono ?_; rintro e w' ⟨rfl, hb2⟩; rw [ho]; have n1 : w'.cell? ⟨wr.heap.size, 0, none⟩ = some (.string b[j].1) := (hb2.cell (p := ⟨wr.heap.size, 0, none⟩) hsz).trans (World.cell?_alloc_new wr _ _ 0); have n2 : w'.cell? ⟨wr.heap.size, 1, none⟩ = some (.int .i64 b[j].2.1) := (hb2.cell (p := ⟨wr.heap.size, 1, none⟩) hsz).trans (World.cell?_alloc_new wr _ _ 1); have n3 : w'.cell? ⟨wr.heap.size, 2, none⟩ = some (.int .i64 b[j].2.2) := (hb2.cell (p := ⟨wr.heap.size, 2, none⟩) hsz).trans (World.cell?_alloc_new wr _ _ 2); have hr3 := hrb.same ((hb2.block g (by omega)).trans (Below.heap_alloc wr _ g hgr)); obtain ⟨d1', d2', d3'⟩ := hr3.cell hli; have f1' := hr3.free (i * 3) (by have := hrb.le; omega); have f2' := hr3.free (i * 3 + 1) (by have := hrb.le; omega); have f3' := hr3.free (i * 3 + 2) (by have := hrb.le; omega))
        have hr4 := hr3.set hli b[j]
        refine ⟨⟨i + 1, j + 1, b.set i b[j], rfl, rfl, by omega, by omega, by rw [List.length_set]; exact hbl, hr4, ?_, frm8_tr hFr (frm8_tr (frm8_alloc _ wr _) (frm8_tr (frm8_bel hb2) (frm8_tr (frm8_set _ _ g (i * 3) _ rfl) (frm8_tr (frm8_set _ _ g (i * 3 + 1) _ rfl) (frm8_set _ _ g (i * 3 + 2) _ rfl)))))⟩, by simp [vI]; omega⟩
        rw [← hbF]
        have e1 : (b.set i b[j]).drop (j + 1) = b.drop (j + 1) := by rw [List.drop_set_of_lt (by omega)]
        have e2 : (b.set i b[j]).take (i + 1) = b.take i ++ [b[j]] := by
          rw [List.take_succ_eq_append_getElem (by rw [List.length_set]; exact hli), List.take_set_of_le (by omega)]
          simp
        rw [e1, e2, List.append_assoc, List.singleton_append]
end Go.Proofs.YtomnbknaanlmaaaGreatDoor
namespace Go.Proofs.YtomnbknaanlmaaaGreatDoor
open Go.RowKit
set_option maxRecDepth 100000
def cellsR : List Rp → List Value
  | [] => []
  | x :: l => .string x.1 :: .int .i64 x.2.1 :: .int .i64 x.2.2 :: cellsR l
theorem cellsR_len : ∀ l : List Rp, (cellsR l).length = l.length * 3
  | [] => rfl
  | x :: l => by simp only [cellsR, List.length_cons, cellsR_len l]; omega
theorem cellsR_get : ∀ (l : List Rp) (q : Nat), (cellsR l)[q]? = (l[q / 3]?).map fun x => if q % 3 = 0 then Value.string x.1 else if q % 3 = 1 then .int .i64 x.2.1 else .int .i64 x.2.2
  | [], q => by simp [cellsR]
  | x :: l, 0 => rfl
  | x :: l, 1 => rfl
  | x :: l, 2 => rfl
  | x :: l, q + 3 => by
    have h1 : (q + 3) / 3 = q / 3 + 1 := by omega
    have h2 : (q + 3) % 3 = q % 3 := by omega
    simp only [cellsR, List.getElem?_cons_succ, h1, h2, cellsR_get l q]
theorem cellsR_one (l : List Rp) : ∀ v ∈ cellsR l, v.oneCell' = true := by
  induction l with
  | nil => simp [cellsR]
  | cons x l ih =>
    intro v hv
    simp only [cellsR, List.mem_cons] at hv
    rcases hv with rfl | rfl | rfl | hv
    · rfl
    · rfl
    · rfl
    · exact ih v hv
theorem info_rep : ∃ i, Tryz.prog.info? 74 = some i ∧ i.zero = some (.agg #[.string ⟨#[]⟩, .int .i64 0, .int .i64 0]) ∧ i.size = 3 ∧ i.bytes = 32 := by
  have h : (Tryz.prog.info? 74).map (fun i => (i.zero, i.size, i.bytes)) = some (some (.agg #[.string ⟨#[]⟩, .int .i64 0, .int .i64 0]), 3, 32) := by kernel_rfl
  cases hi : Tryz.prog.info? 74 with
  | none => rw [hi] at h; cases h
  | some i =>
    rw [hi] at h
    simp only [Option.map_some, Option.some.injEq, Prod.mk.injEq] at h
    exact ⟨i, rfl, h.1, h.2.1, h.2.2⟩
/-- a row's cells asx a list -/
theorem RowR.src {w : World} {g c : Nat} {l : List Rp} (h : RowR w g c l) (o : Nat) : ∀ j v, (cellsR (l.drop o))[j]? = some v → w.cell? ((⟨g, o * 3, none⟩ : Addr).add j) = some v := by
  intro j v hj
  have hadd : (⟨g, o * 3, none⟩ : Addr).add j = ⟨g, o * 3 + j, none⟩ := by unfold Addr.add; split <;> simp_all
  rw [hadd]
  rw [cellsR_get, List.getElem?_drop] at hj
  cases hx : l[o + j / 3]? with
  | none => rw [hx] at hj; cases hj
  | some x =>
    rw [hx] at hj
    injection hj with hj
    subst hj
    obtain ⟨hlt, hx⟩ := List.getElem?_eq_some_iff.1 hx
    subst hx
    obtain ⟨c1, c2, c3⟩ := h.cell hlt
    have : j % 3 = 0 ∨ j % 3 = 1 ∨ j % 3 = 2 := by omega
    rcases this with e | e | e
    · dsimp only; rw [if_pos e, show o * 3 + j = (o + j / 3) * 3 by omega]; exact c1
    · have n0 : ¬ j % 3 = 0 := by omega
      dsimp only; rw [if_neg n0, if_pos e, show o * 3 + j = (o + j / 3) * 3 + 1 by omega]; exact c2
    · have n0 : ¬ j % 3 = 0 := by omega
      have n1 : ¬ j % 3 = 1 := by omega
      dsimp only; rw [if_neg n0, if_neg n1, show o * 3 + j = (o + j / 3) * 3 + 2 by omega]; exact c3
/-- slices.Insert -/
theorem storeR {w : World} {g c : Nat} {L : List Rp} (h : RowR w g c L) (o : Nat) (ho : o ≤ L.length) (M : List Rp) (hM : o + M.length ≤ c) :
    ∃ w', (storeCells ⟨g, o * 3, none⟩ (cellsR M)).run Tryz.prog w = .ok () w' ∧ Frm (fun k => k = g) w w' ∧ RowR w' g c (L.take o ++ M ++ L.drop (o + M.length)) := by
  obtain ⟨⟨t, fz, cur, hv, hs, hf, hc⟩, hle, hmx⟩ := id h
  have hlen := cellsR_len M
  obtain ⟨w', r1, r2, r3⟩ := run_storeCells (P := Tryz.prog) (o := o * 3) (cellsR M) 0 w cur hv (cellsR_one M) (by rw [hlen, hs]; omega) (by subst hf; simp)
  obtain ⟨f1, f2⟩ := fold_get (o * 3) (cellsR M) 0 cur
  refine ⟨w', r1, wr_frm r2, ⟨⟨t, fz, _, r3, by rw [f1, hs], hf, fun j y hy => ?_⟩, by simp; omega, hmx⟩⟩
  have hjc : j < c := by
    have := (List.getElem?_eq_some_iff.1 hy).1
    simp at this
    omega
  rw [f2 _ (by omega), f2 _ (by omega), f2 _ (by omega), hlen]
  by_cases h1 : j < o
  · rw [List.append_assoc, List.getElem?_append_left (by simp; omega), List.getElem?_take, if_pos h1] at hy
    rw [if_neg (by omega), if_neg (by omega), if_neg (by omega)]
    exact hc j y hy
  · by_cases h2 : j < o + M.length
    · rw [List.append_assoc, List.getElem?_append_right (by simp; omega), List.getElem?_append_left (by simp; omega)] at hy
      have e : (L.take o).length = o := by simp; omega
      rw [e] at hy
      rw [if_pos (by omega), if_pos (by omega), if_pos (by omega), cellsR_get, cellsR_get, cellsR_get]
      have e1 : (j * 3 - (o * 3 + 0)) / 3 = j - o := by omega
      have e2 : (j * 3 + 1 - (o * 3 + 0)) / 3 = j - o := by omega
      have e2' : (j * 3 + 2 - (o * 3 + 0)) / 3 = j - o := by omega
      have e3 : (j * 3 - (o * 3 + 0)) % 3 = 0 := by omega
      have e4 : (j * 3 + 1 - (o * 3 + 0)) % 3 = 1 := by omega
      have e5 : (j * 3 + 2 - (o * 3 + 0)) % 3 = 2 := by omega
      rw [e1, e2, e2', hy, e3, e4, e5]
      exact ⟨rfl, rfl, rfl⟩
    · rw [List.getElem?_append_right (by simp; omega), List.getElem?_drop] at hy
      have e : (L.take o ++ M).length = o + M.length := by simp; omega
      rw [e, show o + M.length + (j - (o + M.length)) = j by omega] at hy
      rw [if_neg (by omega), if_neg (by omega), if_neg (by omega)]
      exact hc j y hy
theorem copyR {w : World} {g c : Nat} {L : List Rp} (h : RowR w g c L) (o : Nat) (ho : o ≤ L.length) (M : List Rp) (hM : o + M.length ≤ c) (a : Addr) (hsrc : ∀ j v, (cellsR M)[j]? = some v → w.cell? (a.add j) = some v) (dLen sLen : Nat) (hmin : Nat.min sLen dLen = M.length) :
    ∃ w', (∀ ty dCap sCap, (Builtin.copy_ #[22, 22] ty #[.slice (some ⟨g, o * 3, none⟩) dLen dCap, .slice (some a) sLen sCap]).run Tryz.prog w = .ok (goInt M.length) w') ∧ Frm (fun k => k = g) w w' ∧ RowR w' g c (L.take o ++ M ++ L.drop (o + M.length)) := by
  obtain ⟨i0, hi, hz0, hz1, hz2⟩ := info_rep
  have hlen := cellsR_len M
  have hl := run_loadCells_list (P := Tryz.prog) w a (cellsR M) hsrc
  rw [hlen] at hl
  obtain ⟨w', r1, r2, r3⟩ := storeR h o ho M hM
  refine ⟨w', fun ty dCap sCap => ?_, r2, r3⟩
  simp [Builtin.copy_, run_underlying Tryz.underlying22, Builtin.lenOf, Builtin.firstCells, sizeOf, typeInfo, hi, hz1, hmin, hl, r1]
theorem RowR.first {w : World} {g c : Nat} {l : List Rp} (h : RowR w g c l) (W : World) (hW : W.heap[g]? = w.heap[g]?) (n cap : Nat) (hn : n = l.length) : (Builtin.firstCells 3 n (.slice (some ⟨g, 0, none⟩) n cap)).run Tryz.prog W = .ok (cellsR l).toArray W := by
  have hs := (h.same hW).src 0
  rw [List.drop_zero, Nat.zero_mul] at hs
  have hl := run_loadCells_list (P := Tryz.prog) W ⟨g, 0, none⟩ (cellsR l) hs
  rw [cellsR_len] at hl
  subst hn
  simp only [Builtin.firstCells]
  exact hl
theorem zc_len (k : Nat) : (Builtin.zeroCells (Value.agg #[.string ⟨#[]⟩, .int .i64 0, .int .i64 0]).cells k).size = k * 3 := by simp [Builtin.zeroCells, Value.cells]
theorem zc_list (k : Nat) : (Builtin.zeroCells (Value.agg #[.string ⟨#[]⟩, .int .i64 0, .int .i64 0]).cells k).toList = cellsR (List.replicate k zR) := by
  apply List.ext_getElem?
  intro q
  rw [cellsR_get]
  by_cases hq : q < k * 3
  · simp only [Builtin.zeroCells, Value.cells, Array.toList_map, List.getElem?_map, Array.toList_range]
    rw [List.getElem?_range (by simpa using hq), List.getElem?_replicate, if_pos (by omega)]
    have : q % 3 = 0 ∨ q % 3 = 1 ∨ q % 3 = 2 := by omega
    rcases this with e | e | e <;> simp [e, zR]
  · rw [List.getElem?_eq_none (by rw [Array.length_toList, zc_len]; omega), List.getElem?_replicate, if_neg (by omega)]
    rfl
theorem cellsR_app : ∀ a b : List Rp, cellsR (a ++ b) = cellsR a ++ cellsR b
  | [], _ => rfl
  | x :: a, b => by simp [cellsR, cellsR_app a b]
/-- a new block of replies -/
theorem rowR_new (W : World) (l : List Rp) (cap : Nat) (arr : Array Value) (t : TypeId) (ha : ∃ k, arr.toList = cellsR (l ++ List.replicate k zR) ∧ l.length + k = cap) (hm : cap ≤ maxLen) : RowR (W.alloc (.cells arr t)) W.heap.size cap l := by
  obtain ⟨k, ha, hk⟩ := ha
  refine ⟨⟨t, (0, 0), arr, by show (W.heap.push _)[W.heap.size]? = _; simp, ?_, rfl, fun j y hy => ?_⟩, by omega, hm⟩
  · rw [← Array.length_toList, ha, cellsR_len]; simp; omega
  · have hj := (List.getElem?_eq_some_iff.1 hy).1
    rw [← Array.getElem?_toList, ← Array.getElem?_toList, ← Array.getElem?_toList, ha, cellsR_get, cellsR_get, cellsR_get, show j * 3 / 3 = j by omega, show (j * 3 + 1) / 3 = j by omega, show (j * 3 + 2) / 3 = j by omega, List.getElem?_append_left hj, hy]
    have e3 : j * 3 % 3 = 0 := by omega
    have e4 : (j * 3 + 1) % 3 = 1 := by omega
    have e5 : (j * 3 + 2) % 3 = 2 := by omega
    rw [e3, e4, e5]
    exact ⟨rfl, rfl, rfl⟩
/-- the end: appended -/
theorem apdR {w : World} {vb vc : Nat} {x : Rp} (hv : RowR w vb vc [x]) (A : Option Addr) (n c : Nat) (l : List Rp) (hl : l.length = n) (hA : l = [] ∨ ∃ g, A = some ⟨g, 0, none⟩ ∧ RowR w g c l) (hg : 0 < c → ∃ g', A = some ⟨g', 0, none⟩ ∧ RowR w g' c l) (hn : n ≤ c) (hs : n ≤ 1000000) (cap : Nat) :
    ∃ g' c' w', ((Builtin.append_ #[22, 22] 22 #[.slice A n c, .slice (some ⟨vb, 0, none⟩) 1 cap]).run Tryz.prog w = .ok (.slice (some ⟨g', 0, none⟩) (n + 1) c') w') ∧ RowR w' g' c' (l ++ [x]) ∧ ((n + 1 ≤ c ∧ A = some ⟨g', 0, none⟩ ∧ Frm (fun k => k = g') w w') ∨ (w.heap.size ≤ g' ∧ Frm (fun _ => False) w w')) := by
  obtain ⟨i0, hi, hz0, hz1, hz2⟩ := info_rep
  have hx : ∀ t : World, ApdT Tryz.prog 22 (.slice (some ⟨vb, 0, none⟩) 1 cap) 1 := fun _ => .inl ⟨_, _, _, Tryz.underlying22, rfl⟩
  have hnew : ∀ W : World, W.heap[vb]? = w.heap[vb]? → (Builtin.firstCells i0.size 1 (.slice (some ⟨vb, 0, none⟩) 1 cap)).run Tryz.prog W = .ok (cellsR [x]).toArray W := fun W hW => by
    rw [hz1]; exact hv.first W hW 1 cap rfl
  by_cases hroom : n + 1 ≤ c
  · obtain ⟨g, rfl, hr⟩ := hg (by omega)
    obtain ⟨w', r1, r2, r3⟩ := storeR hr n (by omega) [x] hroom
    have hadd : (⟨g, 0, none⟩ : Addr).add (n * i0.size) = ⟨g, n * 3, none⟩ := by rw [hz1]; unfold Addr.add; split <;> simp_all
    refine ⟨g, c, w', run_apd_room (w1 := w') Tryz.underlying22 (hx w) hi hroom (hnew w rfl) (by simp only [hadd]; exact r1), ?_, .inl ⟨hroom, rfl, r2⟩⟩
    rw [List.take_of_length_le (by omega), List.drop_eq_nil_of_le (by simp; omega), List.append_nil] at r3
    exact r3
  · have hold : (Builtin.firstCells i0.size n (.slice A n c)).run Tryz.prog w.drew = .ok (cellsR l).toArray w.drew := by
      rw [hz1]
      rcases hA with rfl | ⟨g, rfl, hr⟩
      · simp only [List.length_nil] at hl
        subst hl
        cases A with
        | none => rfl
        | some a => rfl
      · exact hr.first w.drew rfl n c hl.symm
    obtain ⟨k, q1, q2, q3⟩ := run_apd_grow (P := Tryz.prog) (w := w) (ty := 22) Tryz.underlying22 (hx w) hi hz0 (A := A) (n := n) (c := c) (mm := 1) (by omega) (by rw [hz2]; omega) (by omega) (hnew w.drew rfl) hold
    refine ⟨w.heap.size, k, _, q3, rowR_new w.drew (l ++ [x]) k _ _ ⟨k - (n + 1), ?_, by simp; omega⟩ q2, .inr ⟨Nat.le_refl _, ?_⟩⟩
    · rw [Array.toList_append, Array.toList_append, zc_list, cellsR_app, cellsR_app]
    · exact ⟨rfl, rfl, rfl, by show w.heap.size ≤ (w.drew.heap.push _).size; rw [Array.size_push]; exact Nat.le_succ _, fun j hj _ => Below.heap_alloc w.drew _ j hj⟩
/-- Insert at the end -/
def InsQ (w : World) (A : Option Addr) (n c : Nat) (r : List Rp) (e : Ending) (w' : World) : Prop :=
  ∃ g' c', e = .returned (.slice (some ⟨g', 0, none⟩) (n + 1) c') ∧ RowR w' g' c' r ∧ ((n + 1 ≤ c ∧ A = some ⟨g', 0, none⟩ ∧ Frm (fun k => k = g') w w') ∨ (w.heap.size ≤ g' ∧ Frm (fun _ => False) w w'))
set_option maxHeartbeats 4000000 in
theorem ins_end {w : World} {vb vc : Nat} {x : Rp} (hv : RowR w vb vc [x]) (A : Option Addr) (n c : Nat) (l : List Rp) (hl : l.length = n) (hA : l = [] ∨ ∃ g, A = some ⟨g, 0, none⟩ ∧ RowR w g c l) (hg : 0 < c → ∃ g', A = some ⟨g', 0, none⟩ ∧ RowR w g' c l) (hn : n ≤ c) (hs : n ≤ 1000000) (hc : c ≤ maxLen) (cap : Nat) :
    Calls Tryz.prog 23 #[.slice A n c, .int .i64 n, .slice (some ⟨vb, 0, none⟩) 1 cap] w (InsQ w A n c (l ++ [x])) := by
  obtain ⟨g', c', w', r1, r2, r3⟩ := apdR hv A n c l hl hA hg hn hs cap
  have hc63 : c ≤ 9223372036854775807 := by unfold maxLen at hc; omega
  have hcn : (n : Int) ≤ (c : Int) := by omega
  cases A with
  | none =>
    have h0 : c = 0 := by
      rcases Nat.eq_zero_or_pos c with h | h
      · exact h
      · obtain ⟨_, e, _⟩ := hg h; cases e
    subst h0
    have hn0 : n = 0 := by omega
    subst hn0
    go_enter Tryz.func23, Tryz.ntmps23
    go_wp2_with (at_builtin; refine Lib.wpList_append_run _ rfl _ _ _ _ rfl _ _ rfl rfl _ _ r1 ?_)
    all_goals go_ret
    all_goals exact ⟨g', c', rfl, r2, r3⟩
  | some a =>
    obtain ⟨ab, ao, asp⟩ := a
    by_cases hcn2 : c = n
    · subst hcn2
      go_enter Tryz.func23, Tryz.ntmps23
      go_wp2_with (at_builtin; refine Lib.wpList_append_run _ rfl _ _ _ _ rfl _ _ rfl rfl _ _ r1 ?_)
      all_goals go_ret
      all_goals exact ⟨g', c', rfl, r2, r3⟩
    · go_enter Tryz.func23, Tryz.ntmps23
      go_wp2_with (at_builtin; refine Lib.wpList_append_run _ rfl _ _ _ _ rfl _ _ rfl rfl _ _ r1 ?_)
      all_goals go_ret
      all_goals exact ⟨g', c', rfl, r2, r3⟩
set_option maxHeartbeats 4000000 in
theorem ins_room {w : World} {vb vc : Nat} {x : Rp} (hv : RowR w vb vc [x]) (g c : Nat) (l : List Rp) (h : RowR w g c l) (i : Nat) (hi : i < l.length) (hroom : l.length + 1 ≤ c) (hne : vb ≠ g) (cap : Nat) :
    Calls Tryz.prog 23 #[.slice (some ⟨g, 0, none⟩) l.length c, .int .i64 i, .slice (some ⟨vb, 0, none⟩) 1 cap] w (InsQ w (some ⟨g, 0, none⟩) l.length c (l.take i ++ x :: l.drop i)) := by
  have hmx := h.max
  have hc63 : c ≤ 9223372036854775807 := by unfold maxLen at hmx; omega
  have hgl := h.lt
  have hvl := hv.lt
  obtain ⟨n, hn⟩ : ∃ n, n = l.length := ⟨_, rfl⟩
  obtain ⟨w1, q1, q2, q3⟩ := copyR (w := w.drew) (h.same rfl) (i + 1) (by omega) (l.drop i) (by rw [List.length_drop]; omega) ⟨g, i * 3, none⟩ ((h.same (w' := w.drew) rfl).src i) (l.length - i) (l.length + 1 - i) (by rw [List.length_drop]; simp only [Nat.min_def]; split <;> omega)
  have hv1 : RowR w1 vb vc [x] := hv.same (q2.block vb hvl hne)
  obtain ⟨w2, p1, p2, p3⟩ := copyR q3 i (by simp; omega) [x] (by simp; omega) ⟨vb, 0, none⟩ (by have := hv1.src 0; simpa using this) (l.length + 1 - i) 1 (by simp only [Nat.min_def, List.length_singleton]; split <;> omega)
  have hfin : RowR w2 g c (l.take i ++ x :: l.drop i) := by
    have e : (l.take (i + 1) ++ l.drop i ++ l.drop (i + 1 + (l.drop i).length)) = l.take (i + 1) ++ l.drop i := by
      have hz : l.drop (i + 1 + (l.drop i).length) = [] := List.drop_eq_nil_of_le (by rw [List.length_drop]; omega)
      rw [hz, List.append_nil]
    rw [e] at p3
    have e2 : (l.take (i + 1) ++ l.drop i).take i = l.take i := by
      rw [List.take_append_of_le_length (by simp; omega), List.take_take, Nat.min_eq_left (by omega)]
    have e3 : (l.take (i + 1) ++ l.drop i).drop (i + [x].length) = l.drop i := by
      rw [List.drop_append_of_le_length (by simp; omega), List.drop_eq_nil_of_le (by simp; omega), List.nil_append]
    rw [e2, e3, List.append_assoc, List.singleton_append] at p3
    exact p3
  obtain ⟨tB, fB, cB, hB, sB, _, _⟩ := h.ex
  obtain ⟨tA, fA, cA, hA, sA, zA, _⟩ := hv.ex
  have hsa : w.shape? vb = some (tA, cA.size) := by simp [World.shape?, hA]
  have hsb : w.shape? g = some (tB, cB.size) := by simp [World.shape?, hB]
  have hfa : w.frozen? ⟨vb, 0, none⟩ = false := by subst zA; simp [World.frozen?, hA]
  have hfe : w.frozen? ⟨vb, cA.size, none⟩ = false := by subst zA; simp [World.frozen?, hA]
  have hz : ∀ w, (sizeOf 74).run Tryz.prog w = .ok 3 w := Tryz.sizeOf74
  have hov : ∀ lb cb, (callFunc 56 #[.slice (some ⟨vb, 0, none⟩) 1 cap, .slice (some ⟨g, (i + 1) * 3, none⟩) lb cb]).run Tryz.prog w = .ok (.value (.bool false)) w := fun lb cb => by
    rw [run_callFunc_extern Tryz.func56 (by kernel_rfl) (by kernel_rfl) (by kernel_rfl) (e := Extern.SlicesOverlaps.overlaps #[22, 22] #[4]) (by kernel_rfl),
      Lib.run_overlaps_apart w 22 4 74 Tryz.underlying22 3 hz ⟨vb, 0, none⟩ ⟨g, (i + 1) * 3, none⟩ 1 cap lb cb hne tA tB cA.size cB.size hsa hsb (by omega) hfa hfe]
    rfl
  have hz2 : ¬ ((i : Int) = (l.length : Int)) := by omega
  have hw1 : IntKind.i64.wrap ((i : Int) + 1) = (i : Int) + 1 := by rw [IntKind.wrap_i64]; omega
  have hb1 : (0 : Int) ≤ (i : Int) + 1 := by omega
  have hin : (i : Int) ≤ (l.length : Int) := by omega
  have htn : ((i : Int) + 1).toNat = i + 1 := by omega
  have hb2 : ¬ (c = i + 1) := by omega
  have hb3 : (i : Int) ≤ (l.length : Int) + 1 := by omega
  have hb4 : ¬ (c = i) := by omega
  have hb5 : (l.length : Int) + 1 ≤ (c : Int) := by omega
  clear hsa hsb hfa hfe hz hA hB sA sB
  go_enter Tryz.func23, Tryz.ntmps23
  go_wp2_with (simp only [hov])
  go_region_law (refine step_copy_runI rfl _ _ 22 22 rfl _ _ (by simp [Act.eval, Act.put]) (by simp [Act.eval, Act.put]) (q1 _ _ _) ?_)
  go_wp2_with (at_builtin; refine wpList_copy_runI _ rfl _ _ 22 22 rfl _ _ rfl rfl (p1 _ _ _) ?_)
  go_ret
  exact ⟨g, c, rfl, hfin, .inl ⟨hroom, rfl, frm8_tr (S := fun k => k = g) ⟨q2.os, q2.tape, q2.output, q2.size, q2.block⟩ p2⟩⟩
set_option maxHeartbeats 4000000 in
theorem ins_grow {w : World} {vb vc : Nat} {x : Rp} (hv : RowR w vb vc [x]) (g c : Nat) (l : List Rp) (h : RowR w g c l) (i : Nat) (hi : i < l.length) (hroom : ¬ l.length + 1 ≤ c) (hs : l.length ≤ 1000000) (cap : Nat) :
    Calls Tryz.prog 23 #[.slice (some ⟨g, 0, none⟩) l.length c, .int .i64 i, .slice (some ⟨vb, 0, none⟩) 1 cap] w (InsQ w (some ⟨g, 0, none⟩) l.length c (l.take i ++ x :: l.drop i)) := by
  have hmx := h.max
  have hle := h.le
  have hc63 : c ≤ 9223372036854775807 := by unfold maxLen at hmx; omega
  have hgl := h.lt
  have hvl := hv.lt
  obtain ⟨i0, hi0, hz0, hz1, hz2⟩ := info_rep
  have hti : RowR w g c (l.take i) := by
    obtain ⟨⟨t, fz, cur, q1, q2, q3, q4⟩, p1, p2⟩ := h
    refine ⟨⟨t, fz, cur, q1, q2, q3, fun j y hy => ?_⟩, by simp; omega, p2⟩
    rw [List.getElem?_take] at hy
    split at hy
    · exact q4 j y hy
    · cases hy
  have hold : (Builtin.firstCells i0.size i (.slice (some ⟨g, 0, none⟩) i c)).run Tryz.prog w.drew = .ok (cellsR (l.take i)).toArray w.drew := by
    rw [hz1]; exact hti.first w.drew rfl i c (by simp; omega)
  have hkk : (l.length : Int) + 1 - (i : Int) = ((l.length + 1 - i : Nat) : Int) := by omega
  have hik : i + (l.length + 1 - i) = l.length + 1 := by omega
  have hrz : ∀ ty, (Builtin.append_ #[22, 3] ty #[.slice (some ⟨g, 0, none⟩) i c, .int .i64 ((l.length : Int) + 1 - (i : Int))]).run Tryz.prog w = .ok (.slice (some ⟨w.heap.size, 0, none⟩) (l.length + 1) (grownCap w (l.length + 1) c 74)) (w.drew.alloc (.cells ((cellsR (l.take i)).toArray ++ Builtin.zeroCells (Value.agg #[.string ⟨#[]⟩, .int .i64 0, .int .i64 0]).cells (l.length + 1 - i) ++ Builtin.zeroCells (Value.agg #[.string ⟨#[]⟩, .int .i64 0, .int .i64 0]).cells (grownCap w (l.length + 1) c 74 - (l.length + 1))) 74)) := fun ty => by
    have h := Lib.run_append_grow_zeros w 22 3 ty 74 i0 _ .i64 .i64 Tryz.underlying22 Tryz.underlying3 hi0 hz0 (some ⟨g, 0, none⟩) i c (cellsR (l.take i)) hold (l.length + 1 - i) (by omega) (by omega) (by omega) (by omega) (by rw [hz2]; omega) (by rw [hz2, hik]; exact growslice_fits (by omega) (by omega))
    rw [hik] at h
    rw [hkk]
    exact h
  have hGn : l.length + 1 ≤ grownCap w (l.length + 1) c 74 := grownCap_ge w _ _ _
  have hGm : grownCap w (l.length + 1) c 74 ≤ maxLen := grownCap_le_maxLen w (l.length + 1) c 74 (by unfold maxLen; omega)
  generalize hG : grownCap w (l.length + 1) c 74 = G at hrz hGn hGm
  have hG63 : G ≤ 9223372036854775807 := by unfold maxLen at hGm; omega
  have hrow : RowR (w.drew.alloc (.cells ((cellsR (l.take i)).toArray ++ Builtin.zeroCells (Value.agg #[.string ⟨#[]⟩, .int .i64 0, .int .i64 0]).cells (l.length + 1 - i) ++ Builtin.zeroCells (Value.agg #[.string ⟨#[]⟩, .int .i64 0, .int .i64 0]).cells (G - (l.length + 1))) 74)) w.heap.size G (l.take i ++ List.replicate (l.length + 1 - i) zR) :=
    rowR_new w.drew _ G _ _ ⟨G - (l.length + 1), by rw [Array.toList_append, Array.toList_append, zc_list, zc_list, cellsR_app, cellsR_app], by simp; omega⟩ hGm
  have hFn : Frm (fun _ => False) w (w.drew.alloc (.cells ((cellsR (l.take i)).toArray ++ Builtin.zeroCells (Value.agg #[.string ⟨#[]⟩, .int .i64 0, .int .i64 0]).cells (l.length + 1 - i) ++ Builtin.zeroCells (Value.agg #[.string ⟨#[]⟩, .int .i64 0, .int .i64 0]).cells (G - (l.length + 1))) 74)) := ⟨rfl, rfl, rfl, by show w.heap.size ≤ (w.drew.heap.push _).size; rw [Array.size_push]; exact Nat.le_succ _, fun j hj _ => Below.heap_alloc w.drew _ j hj⟩
  obtain ⟨W, hW⟩ : ∃ W, W = w.drew.alloc (.cells ((cellsR (l.take i)).toArray ++ Builtin.zeroCells (Value.agg #[.string ⟨#[]⟩, .int .i64 0, .int .i64 0]).cells (l.length + 1 - i) ++ Builtin.zeroCells (Value.agg #[.string ⟨#[]⟩, .int .i64 0, .int .i64 0]).cells (G - (l.length + 1))) 74) := ⟨_, rfl⟩
  rw [← hW] at hrz hrow hFn
  have hvW : RowR W vb vc [x] := hv.same (hFn.block vb hvl (by simp))
  have hgW : RowR W g c l := h.same (hFn.block g hgl (by simp))
  obtain ⟨w1, p1, p2, p3⟩ := copyR hrow i (by simp; omega) [x] (by simp; omega) ⟨vb, 0, none⟩ (by have := hvW.src 0; simpa using this) (l.length + 1 - i) 1 (by simp only [Nat.min_def, List.length_singleton]; split <;> omega)
  have e1 : (l.take i ++ List.replicate (l.length + 1 - i) zR).take i ++ [x] ++ (l.take i ++ List.replicate (l.length + 1 - i) zR).drop (i + [x].length) = l.take i ++ [x] ++ List.replicate (l.length - i) zR := by
    have q : (l.take i).length = i := by simp; omega
    rw [List.take_append_of_le_length (by omega), List.take_of_length_le (by omega), List.drop_append, List.drop_eq_nil_of_le (by simp; omega), List.nil_append, q, List.drop_replicate]
    congr 2
    simp; omega
  rw [e1] at p3
  have hg1 : RowR w1 g c l := hgW.same (p2.block g hgW.lt (by omega))
  have hg1d : RowR w1.drew g c l := hg1.same rfl
  obtain ⟨w2, s1, s2, s3⟩ := copyR (w := w1.drew) (p3.same rfl) (i + 1) (by simp; omega) (l.drop i) (by rw [List.length_drop]; omega) ⟨g, i * 3, none⟩ (hg1d.src i) (l.length - i) (l.length - i) (by rw [List.length_drop]; simp only [Nat.min_def]; split <;> omega)
  have hfin : RowR w2 w.heap.size G (l.take i ++ x :: l.drop i) := by
    have q : (l.take i ++ [x]).length = i + 1 := by simp; omega
    have e2 : (l.take i ++ [x] ++ List.replicate (l.length - i) zR).take (i + 1) = l.take i ++ [x] := by
      rw [List.take_append_of_le_length (by omega), List.take_of_length_le (by omega)]
    have e3 : (l.take i ++ [x] ++ List.replicate (l.length - i) zR).drop (i + 1 + (l.drop i).length) = [] := List.drop_eq_nil_of_le (by simp; omega)
    rw [e2, e3, List.append_nil, List.append_assoc, List.singleton_append] at s3
    exact s3
  have hFa : Frm (fun _ => False) w w2 := by
    refine ⟨s2.os.trans (p2.os.trans hFn.os), s2.tape.trans (p2.tape.trans hFn.tape), s2.output.trans (p2.output.trans hFn.output), Nat.le_trans hFn.size (Nat.le_trans p2.size s2.size), fun k hk hn => ?_⟩
    have k1 : k < W.heap.size := Nat.lt_of_lt_of_le hk hFn.size
    have k2 : k < w1.heap.size := Nat.lt_of_lt_of_le k1 p2.size
    exact (s2.block k k2 (by omega)).trans ((p2.block k k1 (by omega)).trans (hFn.block k hk hn))
  have hz2' : ¬ ((i : Int) = (l.length : Int)) := by omega
  have hz3 : (c : Int) < (l.length : Int) + 1 := by omega
  have hw1 : IntKind.i64.wrap ((i : Int) + 1) = (i : Int) + 1 := by rw [IntKind.wrap_i64]; omega
  have hb1 : (0 : Int) ≤ (i : Int) + 1 := by omega
  have hin : (i : Int) ≤ (l.length : Int) := by omega
  have htn : ((i : Int) + 1).toNat = i + 1 := by omega
  have hb3 : (i : Int) ≤ (l.length : Int) + 1 := by omega
  have hGi : ¬ (G = i) := by omega
  have hGim : ¬ (G = i + 1) := by omega
  have hci : ¬ (c = i) := by omega
  clear hkk hik hold hW hrow
  go_enter Tryz.func23, Tryz.ntmps23
  go_wp2_with (first
    | (at_builtin; refine Lib.wpList_append_run _ rfl _ _ _ _ rfl _ _ rfl rfl _ _ (hrz _) ?_)
    | (at_builtin; refine wpList_copy_runI _ rfl _ _ 22 22 rfl _ _ rfl rfl (p1 _ _ _) ?_))
  go_region_law (refine step_copy_runI rfl _ _ 22 22 rfl (.slice (some ⟨w.heap.size, (i + 1) * 3, none⟩) (l.length - i) (G - (i + 1))) (.slice (some ⟨g, i * 3, none⟩) (l.length - i) (c - i)) (by simp [Act.eval, Act.put]) (by simp [Act.eval, Act.put]) (s1 _ (G - (i + 1)) (c - i)) ?_)
  go_wp2
  go_ret
  exact ⟨w.heap.size, G, rfl, hfin, .inr ⟨Nat.le_refl _, hFa⟩⟩
end Go.Proofs.YtomnbknaanlmaaaGreatDoor
