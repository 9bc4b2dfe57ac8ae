/- More words: new rows at a place that is spelled otherwise. No program in sight. -/
import Derived.Test.YtgmjhnijnpfkgaaBase
namespace Go.Proofs.Ytgmjhnijnpfkgaa
open Go.RowKit
theorem Own.new' {w : World} {base e b : Nat} (k n : Nat) (cs : Array Value) (hw : w.heap.size = b) (hb : base ≤ b) (hs : cs.size = n * k) (hn : n ≤ maxLen) (h1 : ∀ u ∈ cs.toList, u.oneCell' = true) : Own (w.alloc (.cells cs e)) base e k (some ⟨b, 0, none⟩) n n cs.toList := by
  subst hw
  exact Own.new k n cs hb hs hn h1
theorem Rd.new' {w : World} {b : Nat} (k n : Nat) (t : TypeId) (cs : Array Value) (hw : w.heap.size = b) (hs : cs.size = n * k) (hn : n ≤ maxLen) (h1 : ∀ u ∈ cs.toList, u.oneCell' = true) : Rd (w.alloc (.cells cs t)) k (some ⟨b, 0, none⟩) n n cs.toList := by
  subst hw
  exact Rd.new w k n t cs hs hn h1
theorem Blk.new' {w : World} {b : Nat} (t : TypeId) (cs : Array Value) (hw : w.heap.size = b) : Blk (w.alloc (.cells cs t)) b t cs := by
  subst hw
  exact Blk.new w t cs
/-- an append to a row of one's own leaves what was there before base -/
theorem Bel.frm_own {a b c : World} {A : Option Addr} {base e k n cp : Nat} {xs : List Value} (h : Bel a b) (ho : Own b base e k A n cp xs) (hb : a.heap.size ≤ base) (hf : Frm (fun g => some g = blk A) b c) : Bel a c :=
  ((h.frm (fun q => a.heap.size ≤ q)).trans hf fun q hq _ => by have := (ho.lt hq.symm).1; omega).bel (fun _ h => h)
theorem Rd.frm {w w' : World} {k n c : Nat} {A : Option Addr} {xs : List Value} {S : Nat → Prop} (h : Rd w k A n c xs) (hf : Frm S w w') (hs : ∀ q, blk A = some q → ¬ S q) : Rd w' k A n c xs := by
  refine ⟨h.1, h.2.1, h.2.2.1, h.2.2.2.1, fun hn => ?_⟩
  obtain ⟨b, off, e, hlt, hc⟩ := h.2.2.2.2 hn
  exact ⟨b, off, e, Nat.lt_of_lt_of_le hlt hf.size, fun j u hu => (World.cell?_of_block (w := w) (a := ⟨b, off + j, none⟩) (hf.block b hlt (hs b (by rw [e]; rfl)))).trans (hc j u hu)⟩

end Go.Proofs.Ytgmjhnijnpfkgaa
