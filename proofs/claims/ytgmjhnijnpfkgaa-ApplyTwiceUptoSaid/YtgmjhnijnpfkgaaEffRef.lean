/- the reference: Added, EffectOf. -/
import Derived.Test.YtgmjhnijnpfkgaaSameEff
namespace Go.Proofs.Ytgmjhnijnpfkgaa
open Go.RowKit

theorem idx_has (s : ByteArray) : ∀ (l : List ByteArray) (k : Nat), 0 ≤ idxFrom k l s ↔ hasB l s = true
  | [], _ => by simp [idxFrom, hasB]
  | t :: l, k => by
    unfold idxFrom hasB
    by_cases h : (s.toList == t.toList) = true
    · have h' : (t.toList == s.toList) = true := by simp at h ⊢; exact h.symm
      rw [if_pos h, if_pos h']
      simp
    · have h' : ¬ (t.toList == s.toList) = true := by simp at h ⊢; exact fun e => h e.symm
      rw [if_neg h, if_neg h']
      exact idx_has s l (k + 1)
theorem added_pos {l : List ByteArray} {s : ByteArray} (h : hasB l s = true) : added l s = l := by
  exact if_pos ((idx_has s l 0).2 h)
theorem added_neg {l : List ByteArray} {s : ByteArray} (h : hasB l s = false) : added l s = l ++ [s] := by
  exact if_neg (fun h0 => by rw [(idx_has s l 0).1 h0] at h; cases h)

def AddedPost (A : Option Addr) (l : List ByteArray) (w : World) (e : Ending) (w' : World) : Prop :=
  ∃ A' n' c', e = .returned (.slice A' n' c') ∧ Rd w' 1 A' n' c' (strs l) ∧ Bel w w' ∧ (A' = A ∨ ∀ q, blk A' = some q → w.heap.size ≤ q)

set_option maxHeartbeats 400000 in
set_option maxRecDepth 4000 in
theorem addedRef (A : Option Addr) (n c : Nat) (l : List ByteArray) (s : ByteArray) (w : World) (h : Rd w 1 A n c (strs l)) (hn : n ≤ 1000000) :
    Calls Try.prog 43 #[.slice A n c, .string s] w (AddedPost A (added l s) w) := by
  have H := Lib.hid h
  clear h
  by_cases hx : hasB l s = true
  · have E := Lib.hid (added_pos hx)
    go_enter Try.func43, Try.ntmps43
    go_wp2_with (go_at_call 18; refine (has _ _ _ l s _ H.out).mono ?_; rintro e w' ⟨rfl, rfl⟩)
    go_ret
    exact ⟨A, n, c, rfl, by rw [E.out]; exact H.out, Bel.refl _, .inl rfl⟩
  · have hx : hasB l s = false := by simpa using hx
    have E := Lib.hid (added_neg hx)
    go_enter Try.func43, Try.ntmps43
    go_wp2_with (first
      | (go_at_call 18; refine (has _ _ _ l s _ H.out).mono ?_; rintro e w' ⟨rfl, rfl⟩)
      | (at_builtin
         refine wpList_apd (.tmp 9) (.tmp 10) rfl rfl rfl rfl strsT (Own.new (base := w.heap.size) 1 0 #[] (Nat.le_refl _) rfl (Nat.zero_le _) (by simp)) (H.out.bel ((Bel.refl _).alloc _)) (by unfold maxLen; omega) (by omega) (by simp) ?_
         intro A1 c1 w1 hown1 hfr1 hb1
         simp only [Nat.zero_add, List.nil_append] at hown1
         have HO1 := Lib.hid hown1
         have HF1 := Lib.hid hfr1
         have HB1 := Lib.hid hb1
         clear hown1 hfr1 hb1)
      | (at_builtin
         refine wpList_apd (base := w.heap.size) (.tmp 11) (.tmp 13) rfl rfl rfl rfl strsT (HO1.out.alloc _) (Rd.new w1 1 1 _ #[.string s] rfl (by unfold maxLen; omega) (by simp [Value.oneCell'])) (by unfold maxLen; omega) (by omega) (by simp; have := HF1.out.size; simp at this; omega) ?_
         intro A2 c2 w2 hown2 hfr2 hb2
         have HO2 := Lib.hid hown2
         have HF2 := Lib.hid hfr2
         have HB2 := Lib.hid hb2
         clear hown2 hfr2 hb2))
    go_ret
    have hbw1 : Bel w w1 := by
      refine ((((Bel.refl w).alloc _).frm (fun q => w.heap.size ≤ q)).trans HF1.out fun q hq _ => ?_).bel (fun _ h => h)
      have : w.heap.size = q := by simpa [blk] using hq.symm
      omega
    refine ⟨A2, _, c2, rfl, ?_, ?_, .inr fun q hq => (HO2.out.lt hq).1⟩
    · rw [E.out]
      simpa using HO2.out.rd
    · refine (((hbw1.alloc _).frm (fun q => w.heap.size ≤ q)).trans HF2.out fun q hq _ => ?_).bel (fun _ h => h)
      exact (HO1.out.lt hq.symm).1
end Go.Proofs.Ytgmjhnijnpfkgaa
