/- apply.once, apply.Effects. -/
import Derived.Test.YtgmjhnijnpfkgaaText
namespace Go.Proofs.Ytgmjhnijnpfkgaa
open Go.RowKit

theorem strsT : SlT Try.prog 23 9 1 16 := SlT.mk' (z := .string ByteArray.empty) Try.underlying23 (by kernel_rfl) rfl (by decide)

def added (l : List ByteArray) (s : ByteArray) : List ByteArray := if 0 ≤ idxFrom 0 l s then l else l ++ [s]

/-- what 'once' leaves: the list in cell i of block g has the text; nothing else has changed but the list's own row -/
def OncePost (g i : Nat) (cs : Array Value) (base : Nat) (A : Option Addr) (l' : List ByteArray) (w : World) (e : Ending) (w' : World) : Prop :=
  e = .returned (.tuple #[]) ∧ ∃ A' n' c', Own w' base 9 1 A' n' c' (strs l') ∧ Blk w' g 25 (cs.setIfInBounds i (.slice A' n' c')) ∧
    Frm (fun k => k = g ∨ some k = blk A) w w' ∧ (blk A' = blk A ∨ ∃ q, w.heap.size ≤ q ∧ blk A' = some q)

theorem set_same {cs : Array Value} {i : Nat} {v : Value} (h : cs[i]? = some v) : cs.setIfInBounds i v = cs := by
  apply Array.ext_getElem?
  intro j
  rw [Array.getElem?_setIfInBounds]
  split
  · rename_i e
    subst e
    split
    · exact h.symm
    · rename_i hn
      rw [Array.getElem?_eq_none (by omega)] at h
      cases h
  · rfl

theorem own_add {w : World} {base : Nat} {A : Option Addr} {n c : Nat} {l : List ByteArray} {s : ByteArray} (h : Own w base 9 1 A (n + 1) c (strs l ++ [.string s])) (hx : ¬ 0 ≤ idxFrom 0 l s) : Own w base 9 1 A (n + 1) c (strs (added l s)) := by
  have : strs (added l s) = strs l ++ [.string s] := by simp [added, hx]
  rw [this]
  exact h

set_option maxHeartbeats 400000 in
set_option maxRecDepth 4000 in
theorem once (g i base : Nat) (cs : Array Value) (A : Option Addr) (n c : Nat) (l : List ByteArray) (s : ByteArray) (w : World)
    (hg : Blk w g 25 cs) (hi : cs[i]? = some (.slice A n c)) (hown : Own w base 9 1 A n c (strs l)) (hne : blk A ≠ some g) (hb : base ≤ w.heap.size) (hlen : n ≤ 1000000) :
    Calls Try.prog 41 #[.pointer (some ⟨g, i, none⟩), .string s] w (OncePost g i cs base A (added l s) w) := by
  have hgl := hg.lt
  have hcell : w.cell? ⟨g, i, none⟩ = some (.slice A n c) := by rw [hg.cell]; exact hi
  have hfz : w.frozen? ⟨g, i, none⟩ = false := hg.frz _
  have HG := Lib.hid hg
  have HI := Lib.hid hi
  have HO := Lib.hid hown
  have HN := Lib.hid hne
  clear hg hi hown hne
  by_cases hx : 0 ≤ idxFrom 0 l s
  · go_enter Try.func41, Try.ntmps41
    go_wp2_with (go_at_call 69; refine (scont _ _ _ l s _ HO.out.rd).mono ?_; rintro e w' ⟨rfl, rfl⟩)
    go_end0
    have e1 : added l s = l := if_pos hx
    exact ⟨rfl, A, n, c, by rw [e1]; exact HO.out, by rw [set_same HI.out]; exact HG.out, Frm.refl _ _, .inl rfl⟩
  · have hx1 : decide (0 ≤ idxFrom 0 l s) = false := by simpa using hx
    have HR := Lib.hid (show Rd (w.alloc (Obj.cells #[Value.string s] 9)) 1 (some ⟨w.heap.size, 0, none⟩) 1 1 [.string s] from ⟨rfl, by simp, by simp [maxLen], by simp [Value.oneCell'], fun _ => ⟨_, _, rfl, by simp, fun j u hu => by
      have := cell_one_new w (.string s) 9 j u hu
      rcases j with _ | j
      · exact this
      · simp at hu⟩⟩)
    go_enter Try.func41, Try.ntmps41
    go_wp2_with (first
      | (go_at_call 69; refine (scont _ _ _ l s _ HO.out.rd).mono ?_; rintro e w' ⟨rfl, rfl⟩)
      | (at_builtin
         refine wpList_apd (.tmp 13) (.tmp 15) rfl rfl rfl rfl strsT (HO.out.alloc _) HR.out (by unfold maxLen; omega) (by omega) (by simp; omega) ?_
         intro A1 c1 w1 hown1 hfr1 hb1
         have hg1 : Blk w1 g 25 cs := (hfr1.block g (by simp; omega) (by simpa using fun h => HN.out h.symm)).trans ((Below.heap_alloc w _ g hgl).trans HG.out)
         have hcell1 : w1.cell? ⟨g, i, none⟩ = some (.slice A n c) := by rw [hg1.cell]; exact HI.out
         have hfz1 : w1.frozen? ⟨g, i, none⟩ = false := hg1.frz _
         have HO1 := Lib.hid hown1
         have HF1 := Lib.hid hfr1
         have HB1 := Lib.hid hb1
         have HG1 := Lib.hid hg1
         clear hown1 hfr1 hb1 hg1))
    go_end0
    refine ⟨rfl, A1, n + 1, c1, ?_, HG1.out.set_ _ _, ?_, ?_⟩
    · refine own_add (HO1.out.keep fun g' hg' => Below.heap_setCell w1 _ _ g' ?_) (by omega)
      rintro rfl
      rcases HB1.out with h | h
      · exact HN.out (h.symm.trans hg')
      · rw [h] at hg'; simp at hg'; omega
    · exact (((Frm.refl _ w).alloc _).trans HF1.out (fun k hk _ => .inr hk)).setCell (.inl (.inl rfl)) _
    · rcases HB1.out with h | h
      · exact .inl h
      · exact .inr ⟨_, by simp, h⟩

structure Act where
  kind : Int
  text : ByteArray
  n : Int
def Act.cells (a : Act) : List Value := [.int .i64 a.kind, .string a.text, .int .i64 a.n]


/-- the code of an action's fault -/
def Act.bad (a : Act) : Int := if 4000 < (a.text.size : Int) then 1 else if a.kind < 1 ∨ 7 < a.kind then 4 else if a.kind = 6 ∧ (a.n < 0 ∨ 63 < a.n) then 3 else 0
/-- the first fault, with its place -/
def faultFrom (k : Nat) : List Act → Int × Int
  | [] => (0, 0)
  | a :: l => if a.bad = 0 then faultFrom (k + 1) l else (a.bad, k)

/-- what actions lead to: four lists (mailboxes, addresses, reasons, replies) and flags -/
structure Eff where
  X : Nat → List ByteArray
  f : Int
def Eff.zero : Eff := ⟨fun _ => [], 0⟩
def upd {α : Type} (X : Nat → α) (i : Nat) (v : α) : Nat → α := fun j => if j = i then v else X j
theorem upd_same {α : Type} (X : Nat → α) (i : Nat) (v : α) : upd X i v i = v := if_pos rfl
theorem upd_other {α : Type} (X : Nat → α) {i j : Nat} (v : α) (h : j ≠ i) : upd X i v j = X j := if_neg h
def inbox : ByteArray := ⟨#[105, 110, 98, 111, 120]⟩
def Eff.step (x : Eff) (a : Act) : Eff :=
  if a.kind = 1 then ⟨upd x.X 0 (added (x.X 0) inbox), x.f⟩
  else if a.kind = 2 then ⟨upd x.X 0 (added (x.X 0) a.text), x.f⟩
  else if a.kind = 4 then ⟨upd x.X 1 (added (x.X 1) a.text), x.f⟩
  else if a.kind = 5 then ⟨upd x.X 2 (added (x.X 2) a.text), x.f⟩
  else if a.kind = 7 then ⟨upd x.X 3 (added (x.X 3) a.text), x.f⟩
  else if a.kind = 6 then ⟨x.X, bits .or .i64 x.f a.n⟩
  else x
def effOf (l : List Act) : Eff × Int × Int :=
  if 300 < l.length then (Eff.zero, 2, -1) else if (faultFrom 0 l).1 = 0 then (l.foldl Eff.step Eff.zero, 0, 0) else (Eff.zero, faultFrom 0 l)

/-- a slice: its place, length, capacity -/
abbrev Sl := Option Addr × Nat × Nat
abbrev Sl.val (s : Sl) : Value := .slice s.1 s.2.1 s.2.2
abbrev Sl.nil : Sl := (none, 0, 0)
abbrev effVal (R : Nat → Sl) (f : Int) : Array Value := #[(R 0).val, (R 1).val, (R 2).val, (R 3).val, .int .i64 f]
def EffPost (r : Eff × Int × Int) (w : World) (e : Ending) (w' : World) : Prop :=
  ∃ R : Nat → Sl, e = .returned (.tuple #[.agg (effVal R r.1.f), .agg #[.int .i64 r.2.1, .int .i64 r.2.2]]) ∧ (∀ i, i < 4 → Rd w' 1 (R i).1 (R i).2.1 (R i).2.2 (strs (r.1.X i))) ∧ Bel w w'
theorem EffPost.err {r : Eff × Int × Int} {w w' : World} {c i : Int} (hr : r = (Eff.zero, c, i)) (hb : Bel w w') :
    EffPost r w (.returned (.tuple #[.agg #[.slice none 0 0, .slice none 0 0, .slice none 0 0, .slice none 0 0, .int .i64 0], .agg #[.int .i64 c, .int .i64 i]])) w' := by
  subst hr
  exact ⟨fun _ => Sl.nil, rfl, fun _ _ => Rd.nil, hb⟩

/-- the effect under way in block g, its lists in rows of their own -/
structure Rows4 (w : World) (base g : Nat) (R : Nat → Sl) (x : Eff) (m : Nat) : Prop where
  blk : Blk w g 25 (effVal R x.f)
  own : ∀ i, i < 4 → Own w base 9 1 (R i).1 (R i).2.1 (R i).2.2 (strs (x.X i))
  dis : ∀ i j, i < 4 → j < 4 → i ≠ j → ∀ q, Go.Proofs.Ytgmjhnijnpfkgaa.blk (R i).1 = some q → Go.Proofs.Ytgmjhnijnpfkgaa.blk (R j).1 ≠ some q
  cnt : ∀ i, i < 4 → (R i).2.1 ≤ m
  gb : g < base
theorem Rows4.frm {w w' : World} {base g m : Nat} {R : Nat → Sl} {x : Eff} (h : Rows4 w base g R x m) (hb : Bel w w') : Rows4 w' base g R x m :=
  ⟨h.blk.bel hb, fun i hi => (h.own i hi).bel hb, h.dis, h.cnt, h.gb⟩
theorem Rows4.more {w : World} {base g m m' : Nat} {R : Nat → Sl} {x : Eff} (h : Rows4 w base g R x m) (hm : m ≤ m') : Rows4 w base g R x m' :=
  ⟨h.blk, h.own, h.dis, fun i hi => Nat.le_trans (h.cnt i hi) hm, h.gb⟩
theorem Rows4.flag {w : World} {base g m : Nat} {R : Nat → Sl} {x : Eff} (h : Rows4 w base g R x m) (f : Int) : Rows4 (w.setCell ⟨g, 4, none⟩ (.int .i64 f)) base g R ⟨x.X, f⟩ m := by
  have h1 := h.blk.set_ 4 (.int .i64 f)
  refine ⟨h1, fun i hi => (h.own i hi).keep fun q hq => Below.heap_setCell w _ _ q ?_, h.dis, h.cnt, h.gb⟩
  have h2 := ((h.own i hi).lt hq).1
  have := h.gb
  show q ≠ g
  omega
theorem added_len (l : List ByteArray) (s : ByteArray) : (added l s).length ≤ l.length + 1 := by unfold added; split <;> simp
theorem own_count {w : World} {base : Nat} {A : Option Addr} {n c : Nat} {l : List ByteArray} (h : Own w base 9 1 A n c (strs l)) : l.length = n := h.rd.scount
theorem Rows4.once {w w' : World} {base g m i : Nat} {R : Nat → Sl} {x : Eff} {s : ByteArray} {e : Ending} (h : Rows4 w base g R x m) (hi : i < 4) (hp : OncePost g i (effVal R x.f) base (R i).1 (added (x.X i) s) w e w') :
    (∃ R', Rows4 w' base g R' ⟨upd x.X i (added (x.X i) s), x.f⟩ (m + 1)) ∧ Frm (fun q => q = g ∨ base ≤ q) w w' := by
  obtain ⟨_, A', n', c', ho, hb, hf, hk⟩ := hp
  have hfr : Frm (fun q => q = g ∨ base ≤ q) w w' := hf.mono fun k hk _ => by
    rcases hk with hk | hk
    · exact .inl hk
    · exact .inr ((h.own i hi).lt hk.symm).1
  refine ⟨⟨upd R i (A', n', c'), ?_, ?_, ?_, ?_, h.gb⟩, hfr⟩
  · have e : (effVal R x.f).setIfInBounds i (.slice A' n' c') = effVal (upd R i (A', n', c')) x.f := by
      have : i = 0 ∨ i = 1 ∨ i = 2 ∨ i = 3 := by omega
      rcases this with rfl | rfl | rfl | rfl <;> simp [effVal, upd, Sl.val]
    rw [← e]
    exact hb
  · intro j hj
    by_cases hji : j = i
    · subst hji
      simp only [upd_same]
      exact ho
    · simp only [upd_other _ _ hji]
      refine (h.own j hj).frm hf fun q hq hS => ?_
      rcases hS with hS | hS
      · have := ((h.own j hj).lt hq).1
        have := h.gb
        omega
      · exact h.dis j i hj hi hji q hq hS.symm
  · intro j k hj hk' hjk q hq hq'
    have fresh : ∀ j, j < 4 → j ≠ i → ∀ q, Go.Proofs.Ytgmjhnijnpfkgaa.blk (R j).1 = some q → Go.Proofs.Ytgmjhnijnpfkgaa.blk A' = some q → False := by
      intro j hj hji q h1 h2
      rcases hk with hk | ⟨p, hp, hk⟩
      · exact h.dis j i hj hi hji q h1 (hk.symm.trans h2)
      · rw [hk] at h2
        injection h2 with h2
        have := ((h.own j hj).lt h1).2
        omega
    by_cases hji : j = i
    · subst hji
      rw [upd_same] at hq
      rw [upd_other _ _ (Ne.symm hjk)] at hq'
      exact fresh k hk' (Ne.symm hjk) q hq' hq
    · rw [upd_other _ _ hji] at hq
      by_cases hki : k = i
      · subst hki
        rw [upd_same] at hq'
        exact fresh j hj hji q hq hq'
      · rw [upd_other _ _ hki] at hq'
        exact h.dis j k hj hk' hjk q hq hq'
  · intro j hj
    by_cases hji : j = i
    · subst hji
      rw [upd_same]
      have h1 := own_count ho
      have h2 := own_count (h.own j hj)
      have h3 := added_len (x.X j) s
      have h4 := h.cnt j hj
      show n' ≤ m + 1
      omega
    · rw [upd_other _ _ hji]
      exact Nat.le_succ_of_le (h.cnt j hj)


end Go.Proofs.Ytgmjhnijnpfkgaa
