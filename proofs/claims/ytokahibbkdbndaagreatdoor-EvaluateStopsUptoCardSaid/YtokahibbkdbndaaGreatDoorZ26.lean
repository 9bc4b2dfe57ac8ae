/- A field folded; a header's checks. -/
import Derived.Test.YtokahibbkdbndaaGreatDoorZ25
namespace Go.Proofs.YtokahibbkdbndaaGreatDoor
open Go.RowKit
def foldP (n v : ByteArray) (r : (Nat × (Int × Int)) × List ByteArray) : Prop := r.1.1 = r.2.length ∧ r.1.1 ≤ 100001 ∧ szB r.2 ∧ (r.1.2.1 = 0 → fnameB n = true ∧ v.size ≤ 4000) ∧ (fnameB n = true → v.size = 0 → r.1.2.1 = 0)
theorem qhi (n v : ByteArray) : Ok (qgw n v) (foldP n v) := .via qgf (by
 unfold qgx
 refine qpt (ok_eq (qg9 n)) fun r0 hr0 => ?_
 subst hr0
 refine ok_br (fun hb => qpt (qfj _ _) fun r hr => qpu ?_) (fun hb => ?_)
 ·subst hr
  have hb : fnameB n = false := by simpa using hb
  exact ⟨rfl, by simp, (fun e he => by simp [EC.decL] at he), (fun h => by simp at h), (fun h => by rw [hb] at h; cases h)⟩
 ·have hb : fnameB n = true := by simpa using hb
  have hn : n.size ≤ 60 := by
   unfold fnameB at hb
   rw [Bool.and_eq_true, Bool.and_eq_true] at hb
   have := of_decide_eq_true hb.2.1
   omega
  refine ok_br (fun hv => qpt (qfj _ _) fun r hr => qpu ?_) (fun hv => ?_)
  ·subst hr
   have := of_decide_eq_true hv
   exact ⟨rfl, by simp, (fun e he => by simp [EC.decL] at he), (fun h => by simp at h), (fun _ h => by omega)⟩
  ·have hv4 : v.size ≤ 4000 := by have := of_decide_eq_false hv; omega
   refine qpt (q12e v (by omega)) fun r1 hr1 => ok_br (fun hb1 => qpt (qfj _ _) fun r hr => qpu ?_) (fun hb1 => ?_)
   ·subst hr
    exact ⟨rfl, by simp, (fun e he => by simp [EC.decL] at he), (fun h => by simp at h), (fun _ h => by rw [hr1 h] at hb1; cases hb1)⟩
   ·have hc2 : (ByteArray.mk (List.toArray [(58 : UInt8), (32 : UInt8)])).size = 2 := rfl
    have hsz : ((n ++ (ByteArray.mk (List.toArray [(58 : UInt8), (32 : UInt8)]))) ++ v).size = n.size + 2 + v.size := by rw [ByteArray.size_append, ByteArray.size_append, hc2]
    have hsz1 : (n ++ (ByteArray.mk (List.toArray [(58 : UInt8), (32 : UInt8)]))).size = n.size + 2 := by rw [ByteArray.size_append, hc2]
    rw [maxI, hc2, hsz1]
    refine ok_br (fun h => absurd (of_decide_eq_true h) (by omega)) (fun _ => ok_br (fun h => absurd (of_decide_eq_true h) (by omega)) (fun _ => ?_))
    have hw : IntKind.i64.wrap ((n.size : Int) + 2) = ((n.size + 2 : Nat) : Int) := by rw [wr_in (by omega)]; rfl
    rw [hw, qg]
    refine qpt (qh5 _ _ _ 0 [] (Nat.le_refl _) rfl (by rw [hsz]; omega) (by omega) (fun e he => by cases he)) ?_
    intro r hr
    have fin : ∀ (c d : Int) (s : ByteArray) (o : Nat) (l : List ByteArray), o = l.length → o ≤ 100000 → s.size ≤ 100000 → szB l → (n.size + 2 + v.size ≤ 78 → s.size ≤ 78 ∧ l = []) →
      Ok (Option.bind (qgg (o + 1) (o + 1) (((o + 1 : Nat)) : Int) 0 c d (l ++ [s])) fun r4 => Sum.elim (fun r5 => some ((r5.1.1, (r5.2.2.1, r5.2.2.2)), r5.2.1)) (fun r5 => Option.bind q6g fun r6 => some ((r5.1.2.1, (r6.1, r6.2)), r5.2.2)) r4) (foldP n v) := by
     intro c d s o l ho h1 h2 h3 h4
     have hl : (l ++ [s]).length = o + 1 := by simp [ho]
     have hz := qzo h3 h2
     have hwd := q12l (o + 1) c d (l ++ [s]) (by omega) (l ++ [s]).length 0 (by omega)
     rw [hl] at hwd
     refine qpt hwd ?_
     rintro (x | x) hx
     ·obtain ⟨x1, x2, x3, x4⟩ := hx
      refine qpu ⟨by rw [x1, x2]; rfl, by rw [x1]; omega, by rw [x2]; exact (fun e he => by cases he), (fun h => by rw [x3] at h; cases h), (fun _ h0 => absurd (fun e he => ?_) x4)⟩
      obtain ⟨g1, g2⟩ := h4 (by omega)
      subst g2
      have : e = s := by simpa using he
      rw [this]; omega
     ·obtain ⟨x1, x2⟩ := hx
      refine qpt qpl fun r6 hr6 => qpu ?_
      subst hr6
      exact ⟨by rw [x1, x2, hl], by rw [x1]; omega, by rw [x2]; exact hz, (fun _ => ⟨hb, hv4⟩), (fun _ _ => rfl)⟩
    rcases r with r | r
    ·obtain ⟨q1, q2, q3, q4, q5⟩ := hr
     simp only [flQ, Sum.elim_inl] at q1 q2 q3 q4 q5
     have hf := fin r.2.1.1 r.2.1.2 r.1.2.1 r.1.2.2.2.1 r.2.2 q1 q2 q3 q4 (fun h => by
      have := q5 (by rw [hsz]; omega)
      rw [Prod.mk.injEq, Prod.mk.injEq] at this
      rw [this.1, this.2.2]
      exact ⟨by rw [hsz]; omega, rfl⟩)
     show Ok (gdE _ _) _
     refine ok_gd (by simp [all_9]; omega) (ok_gd (by simp [EC.isL_encL, apd_9]) ?_)
     simp only [EC.decL_encL, EC.isL_encL, apd_9, gdE_if, if_true]
     exact hf
    ·obtain ⟨q1, q2, q3, q4, q5⟩ := hr
     simp only [flQ, Sum.elim_inr] at q1 q2 q3 q4 q5
     have hf := fin r.2.1.1 r.2.1.2 r.1.2.1 r.1.2.2.1 r.2.2 q1 q2 q3 q4 (fun h => by
      have := q5 (by rw [hsz]; omega)
      rw [Prod.mk.injEq, Prod.mk.injEq] at this
      rw [this.1, this.2.2]
      exact ⟨by rw [hsz]; omega, rfl⟩)
     show Ok (gdE _ _) _
     refine ok_gd (by simp [all_9]; omega) (ok_gd (by simp [EC.isL_encL, apd_9]) ?_)
     simp only [EC.decL_encL, EC.isL_encL, apd_9, gdE_if, if_true]
     exact hf)
def fieldB (x : S55) : Prop := fnameB x.Name = true ∧ x.Value.size ≤ 4000
theorem qkz (l : List S55) (hl : l.length ≤ 60) (c d : Int) : ∀ m k : Nat, k + m = l.length → Ok (qjz l l.length k c d) fun x => Sum.elim (fun r => r.2.1 ≠ 0) (fun _ => ∀ x ∈ l.drop k, fieldB x) x := by
 intro m
 induction m with
 | zero =>
  intro k hk
  refine .via qk1 ?_
  unfold qk6
  refine ok_br (fun h => ?_) (fun _ => ok_gd (by simp [EC.isL_encL]) (qpu ?_))
  ·have := of_decide_eq_true h
   omega
  ·rw [List.drop_eq_nil_of_le (by omega)]
   intro x hx; cases hx
 | succ m ih =>
  intro k hk
  have hlt : k < l.length := by omega
  have e2 : IntKind.i64.wrap ((k : Int) + 1) = ((k + 1 : Nat) : Int) := by rw [wr_in (by omega)]; rfl
  refine .via qk1 ?_
  unfold qk6
  simp only [EC.decL_encL, EC.isL_encL, EC.encL_length, isE_55, q4g, q4h, Int.toNat_natCast, e2]
  refine ok_br (fun h => ?_) (fun h => ?_)
  ·refine ok_gd (by simp) (ok_gd (by simp [hlt]) ?_)
   refine qpt (qhi _ _) fun r hr => ?_
   rw [qiz hlt] at hr
   refine qpt (ok_eq (qfi _ _)) fun r1 hr1 => ?_
   subst hr1
   refine ok_br (fun hb => qpt (qfj _ _) fun r2 hr2 => qpu ?_) (fun hb => ?_)
   ·subst hr2
    show r.1.2.1 ≠ 0
    simpa using hb
   ·have h0 : r.1.2.1 = 0 := by simpa using hb
    refine ok_gd rfl ((ih (k + 1) (by omega)).mono fun x hx => ?_)
    rcases x with x | x
    ·exact hx
    ·show ∀ y ∈ l.drop k, fieldB y
     rw [q99 hlt]
     intro y hy
     rcases List.mem_cons.1 hy with rfl | hy
     ·exact hr.2.2.2.1 h0
     ·exact hx y hy
  ·have := of_decide_eq_false h
   omega
def hvalP (l : List S55) (r : Int × Int) : Prop := r.1 = 0 → l.length ≤ 60 ∧ ∀ x ∈ l, fieldB x
theorem ql0 (l : List S55) : Ok (qk7 l) (hvalP l) := .via qjy (by
 unfold qk8
 simp only [EC.decL_encL, EC.isL_encL, EC.encL_length]
 refine ok_br (fun h => qpt (qfj _ _) fun r hr => qpu ?_) (fun h => ok_gd rfl ?_)
 ·subst hr
  intro h; cases h
 ·have hl : l.length ≤ 60 := by have := of_decide_eq_false h; omega
  refine qpt (qkz l hl 0 0 l.length 0 (by omega)) ?_
  rintro (r | r) hr
  ·exact qpu (fun h => absurd h hr)
  ·refine qpt qpl fun r2 hr2 => qpu ?_
   intro _
   exact ⟨hl, by rw [List.drop_zero] at hr; exact hr⟩)
theorem qkr (s : ByteArray) : Ok (qkd s) fun r => r = fnameB s := .via qkc (by
 unfold qke
 refine qpt (qhi _ _) fun r hr => ?_
 refine qpt (ok_eq (qfi _ _)) fun r1 hr1 => qpu ?_
 subst hr1
 obtain ⟨_, _, _, h1, h2⟩ := hr
 cases hb : fnameB s with
 | true => rw [h2 hb rfl]; rfl
 | false =>
  have : r.1.2.1 ≠ 0 := fun h => by rw [(h1 h).1] at hb; cases hb
  simpa using this)
end Go.Proofs.YtokahibbkdbndaaGreatDoor
namespace Go.Proofs.YtokahibbkdbndaaGreatDoor
open Go.RowKit
theorem qj8 (s p : ByteArray) : Ok (qz2 s p) fun _ => True := .via qz1 (by
 unfold qz3
 refine qpt (P := fun _ => True) (.via qzd ?_) fun r _ => qpu trivial
 unfold qzf
 refine ok_br (fun h => ok_gd ?_ (qpu trivial)) (fun _ => qpu trivial)
 simp at h ⊢
 exact h)
theorem qjg (s p : ByteArray) (hs : s.size ≤ 2000000) : Ok (qz8 s p) fun _ => True := .via qz7 (by
 unfold qz9
 refine qpt (P := fun _ => True) (.via qzj ?_) fun r _ => qpu trivial
 unfold qzl
 refine ok_br (fun h => ok_gd ?_ (qpu trivial)) (fun _ => qpu trivial)
 have h : (s.size : Int) ≥ (p.size : Int) := by simpa using h
 rw [wr_in (by omega)]
 simp
 omega)
theorem qp7 (s : ByteArray) : Ok (q6a s) fun _ => True := .via q69 (by
 unfold q6b
 refine ok_br (fun _ => ok_br (fun h => ?_) (fun _ => qpu trivial)) (fun _ => qpu trivial)
 have h : (s.size : Int) ≤ 60 := by simpa using h
 exact qpt (ok_eq (q2u s (by omega))) fun r _ => qpu trivial)
theorem q96 (s : ByteArray) : Ok (qaq s) fun r => r = true → s.size ≤ 60 := .via qap (by
 unfold qar
 refine ok_br (fun _ => ok_br (fun h => ?_) (fun _ => qpu (fun h => by cases h))) (fun _ => qpu (fun h => by cases h))
 have h : (s.size : Int) ≤ 60 := by simpa using h
 have hs : s.size ≤ 60 := by omega
 refine qpt (ok_eq (q1e s (by omega))) fun r _ => ?_
 refine ok_br (fun _ => qpt (qj8 _ _) fun r1 _ => ok_br (fun _ => qpt (qjg _ _ (by omega)) fun r2 _ => ok_br (fun _ => ?_) (fun _ => qpu (fun _ => hs))) (fun _ => qpu (fun _ => hs))) (fun _ => qpu (fun _ => hs))
 refine qpt (P := fun _ => True) ⟨_, by unfold contP; rw [if_pos (by omega)], trivial⟩ fun r3 _ => qpu (fun _ => hs))
theorem q8k (s sep : List UInt8) (h : (Lib.cut s sep).2.2 = true) : (Lib.cut s sep).1.length + sep.length + (Lib.cut s sep).2.1.length = s.length := by
 unfold Lib.cut at *
 split at h
 ·rename_i h0
  rw [if_pos h0]
  have := Lib.index_room s sep h0
  simp only [List.length_drop, List.length_take]
  omega
 ·cases h
theorem qyc (s : ByteArray) (hs : s.size ≤ 2000000) : Ok (qbm s) fun r => r.2.2 = true → s.size ≤ 121 := .via qbl (by
 unfold qbn
 have hc := q8k s.data.toList [64]
 refine qpt (P := fun r : ByteArray × ByteArray × Bool => r.2.2 = true → r.1.size + 1 + r.2.1.size = s.size) ⟨_, by unfold cutP; rw [if_pos (by omega)], fun h => ?_⟩ fun r hr => ?_
 ·have := hc h
  have e : s.data.toList.length = s.size := by rw [Array.length_toList]; rfl
  rw [e] at this
  exact this
 ·refine ok_br (fun hk => ?_) (fun _ => qpu (fun h => by cases h))
  have hk := hr (by simpa using hk)
  refine ok_br (fun _ => ok_br (fun h => ?_) (fun _ => qpu (fun h => by cases h))) (fun _ => qpu (fun h => by cases h))
  have h : (r.1.size : Int) ≤ 60 := by simpa using h
  refine qpt (ok_eq (q2d r.1 (by omega))) fun r1 _ => ok_br (fun _ => ?_) (fun _ => qpu (fun h => by cases h))
  exact qpt (q96 _) fun r2 h2 => qpu (fun h3 => by have := h2 h3; omega))
theorem qr (s : ByteArray) (hs : s.size ≤ 2000000) : Ok (qae s) fun r => r = true → s.size ≤ 121 := .via qad (by
 unfold qaf
 exact qpt (qyc s hs) fun r h => qpu h)
theorem qpo (n : Int) : Ok (qaw n) fun _ => True := .via qav (by
 unfold qax
 exact ok_br (fun _ => qpu trivial) (fun _ => qpu trivial))
theorem qlf (l : List S118) (hl : l.length ≤ 2000000) (f : ByteArray) (n : Int) : ∀ m k : Nat, k + m = l.length → Ok (ql7 l f n l.length k) fun _ => True := by
 intro m
 induction m with
 | zero =>
  intro k hk
  refine .via ql9 ?_
  unfold qle
  refine ok_br (fun h => ?_) (fun _ => ok_gd (by simp [EC.isL_encL]) (qpu trivial))
  have := of_decide_eq_true h
  omega
 | succ m ih =>
  intro k hk
  have hlt : k < l.length := by omega
  have e2 : IntKind.i64.wrap ((k : Int) + 1) = ((k + 1 : Nat) : Int) := by rw [wr_in (by omega)]; rfl
  refine .via ql9 ?_
  unfold qle
  simp only [EC.decL_encL, EC.isL_encL, EC.encL_length, qlv, q3o, q3p, Int.toNat_natCast, e2]
  refine ok_br (fun h => ?_) (fun h => ?_)
  ·refine ok_gd (by simp) (ok_gd (by simp [hlt]) ?_)
   refine qpt (P := fun _ => True) (.via qtf (qpu trivial)) fun r _ => ok_br (fun _ => qpu trivial) (fun _ => ok_gd rfl (ih (k + 1) (by omega)))
  ·have := of_decide_eq_false h
   omega
theorem qjd (l : List S118) (hl : l.length ≤ 2000000) (f : ByteArray) (n : Int) : Ok (qje l f n) fun _ => True := .via qjc (by
 unfold qjf
 simp only [EC.decL_encL, EC.isL_encL]
 refine ok_gd rfl (qpt (P := fun _ => True) (.via ql6 ?_) fun r _ => qpu trivial)
 unfold qlh
 simp only [EC.decL_encL, EC.isL_encL, EC.encL_length]
 refine ok_gd rfl (qpt (qlf l hl f n l.length 0 (by omega)) ?_)
 rintro (r | r) _
 ·exact qpu trivial
 ·exact qpu trivial)
theorem qti (l : List S118) (hl : l.length ≤ 2000000) (ha : ∀ x ∈ l, x.Address.size ≤ 2000000) (c d : Int) : ∀ m k : Nat, k + m = l.length → Ok (qb2 l l l.length k c d) fun x => Sum.elim (fun r => r.2.1 ≠ 0) (fun _ => ∀ x ∈ l.drop k, x.Address.size ≤ 121) x := by
 intro m
 induction m with
 | zero =>
  intro k hk
  refine .via qb4 ?_
  unfold qb9
  refine ok_br (fun h => ?_) (fun _ => ok_gd (by simp [EC.isL_encL]) (ok_gd (by simp [EC.isL_encL]) (qpu ?_)))
  ·have := of_decide_eq_true h
   omega
  ·rw [List.drop_eq_nil_of_le (by omega)]
   intro x hx; cases hx
 | succ m ih =>
  intro k hk
  have hlt : k < l.length := by omega
  have e2 : IntKind.i64.wrap ((k : Int) + 1) = ((k + 1 : Nat) : Int) := by rw [wr_in (by omega)]; rfl
  refine .via qb4 ?_
  unfold qb9
  simp only [EC.decL_encL, EC.isL_encL, EC.encL_length, qlv, q3o, q3p, q3b, Int.toNat_natCast, e2, qh, qf]
  refine ok_br (fun h => ?_) (fun h => ?_)
  ·refine ok_gd (by simp) (ok_gd (by simp [hlt]) ?_)
   rw [qiz hlt]
   refine qpt (qr _ (ha _ (List.getElem_mem hlt))) fun r0 hr0 => ok_br (fun _ => qpt (qfj _ _) fun r1 hr1 => qpu ?_) (fun hb => ?_)
   ·subst hr1
    intro h; cases h
   ·refine qpt (qpo _) fun r1 _ => ok_br (fun _ => qpt (qfj _ _) fun r2 hr2 => qpu ?_) (fun _ => ?_)
    ·subst hr2
     intro h; cases h
    ·refine ok_gd (by simp; omega) (ok_gd (by simp []) ?_)
     refine ok_gd rfl (qpt (qjd _ (by simp; omega) _ _) fun r2 _ => ok_br (fun _ => qpt (qfj _ _) fun r3 hr3 => qpu ?_) (fun _ => ok_gd rfl (ok_gd rfl ((ih (k + 1) (by omega)).mono fun x hx => ?_))))
     ·subst hr3
      intro h; cases h
     ·rcases x with x | x
      ·exact hx
      ·show ∀ y ∈ l.drop k, y.Address.size ≤ 121
       rw [q99 hlt]
       intro y hy
       rcases List.mem_cons.1 hy with rfl | hy
       ·exact hr0 (by simpa using hb)
       ·exact hx y hy
  ·have := of_decide_eq_false h
   omega
theorem qtj (l : List S118) (hl : l.length ≤ 2000000) (ha : ∀ x ∈ l, x.Address.size ≤ 2000000) : Ok (qba l) fun r => r.1 = 0 → ∀ x ∈ l, x.Address.size ≤ 121 := .via qb1 (by
 unfold qbb
 simp only [EC.decL_encL, EC.isL_encL, EC.encL_length]
 refine ok_gd rfl (ok_gd rfl (qpt (qti l hl ha 0 0 l.length 0 (by omega)) ?_))
 rintro (r | r) hr
 ·exact qpu (fun h => absurd h hr)
 ·refine qpt qpl fun r2 hr2 => qpu ?_
  intro _
  rw [List.drop_zero] at hr
  exact hr)
def envB (f : ByteArray) (l : List S118) : Prop := f.size ≤ 121 ∧ l.length ≤ 60 ∧ ∀ x ∈ l, x.Address.size ≤ 121
theorem env_ok (f : ByteArray) (l : List S118) (i : ByteArray) (hf : f.size ≤ 2000000) (hl : l.length ≤ 2000000) (ha : ∀ x ∈ l, x.Address.size ≤ 2000000) : Ok (qbs f l i) fun r => r.1 = 0 → envB f l := .via qbr (by
 unfold qbt
 simp only [EC.decL_encL, EC.isL_encL, EC.encL_length, em_def]
 have rest : f.size ≤ 121 → l.length ≤ 60 → Ok (brE ((!em i) == true) (Option.bind (q6a i) fun r0 => brE (!r0) (Option.bind (q5f 10 (-12)) fun r1 => some (r1.1, r1.2)) (gdE true <| Option.bind (qba l) fun r1 => some (r1.1, r1.2))) (gdE true <| Option.bind (qba l) fun r0 => some (r0.1, r0.2))) fun r => r.1 = 0 → envB f l := by
  intro h1 h2
  have fin : Ok (gdE true <| Option.bind (qba l) fun r0 => some (r0.1, r0.2)) fun r => r.1 = 0 → envB f l := ok_gd rfl (qpt (qtj l hl ha) fun r hr => qpu fun h => ⟨h1, h2, hr h⟩)
  refine ok_br (fun _ => qpt (qp7 _) fun r _ => ok_br (fun _ => qpt (qfj _ _) fun r1 hr1 => qpu ?_) (fun _ => fin)) (fun _ => fin)
  subst hr1
  intro h; cases h
 have bad : ∀ a b : Int, a ≠ 0 → Ok (Option.bind (q5f a b) fun r1 => some (r1.1, r1.2)) fun r => r.1 = 0 → envB f l := fun a b h0 => qpt (qfj _ _) fun r hr => qpu (by subst hr; exact fun h => absurd h h0)
 have rest2 : f.size ≤ 121 → Ok (brE (decide ((l.length : Int) < 1) == false) (brE (decide ((l.length : Int) > 60)) (Option.bind (q5f 2 (-11)) fun r1 => some (r1.1, r1.2)) (brE ((!em i) == true) (Option.bind (q6a i) fun r0 => brE (!r0) (Option.bind (q5f 10 (-12)) fun r1 => some (r1.1, r1.2)) (gdE true <| Option.bind (qba l) fun r1 => some (r1.1, r1.2))) (gdE true <| Option.bind (qba l) fun r0 => some (r0.1, r0.2)))) (Option.bind (q5f 2 (-11)) fun r1 => some (r1.1, r1.2))) fun r => r.1 = 0 → envB f l := fun h1 =>
  ok_br (fun _ => ok_br (fun _ => bad _ _ (by decide)) (fun h => rest h1 (by have := of_decide_eq_false h; omega))) (fun _ => bad _ _ (by decide))
 refine ok_br (fun _ => qpt (qr f hf) fun r hr => ok_br (fun _ => bad _ _ (by decide)) (fun h => rest2 (hr (by simpa using h)))) (fun h => rest2 ?_)
 have he : em f = true := by cases h2 : em f with | true => rfl | false => rw [h2] at h; cases h
 rw [q9v] at he
 have := of_decide_eq_true he
 omega)
end Go.Proofs.YtokahibbkdbndaaGreatDoor
namespace Go.Proofs.YtokahibbkdbndaaGreatDoor
open Go.RowKit
theorem nb_low (b : UInt8) : nb (lowB b) = lowI (nb b) := by
 have h := qno (nb_lt b).1 (nb_lt b).2
 unfold lowB ub
 generalize lowI (nb b) = c at h
 unfold nb
 rw [UInt8.toNat_ofNat']
 omega
theorem qg6 (c : Int) : fnB (lowI c) = fnB c := by
 unfold lowI fnB
 split
 ·rw [Bool.eq_iff_iff]
  simp
  omega
 ·rfl
theorem qg8 {a b : ByteArray} (h : lowL (L a) = lowL (L b)) : fnameB a = fnameB b := by
 have hl : (L a).length = (L b).length := by
  have := congrArg List.length h
  simpa [lowL] using this
 have hs : a.size = b.size := by rw [← L_len, ← L_len, hl]
 have hp : ∀ s : ByteArray, (L s).all q1t = (lowL (L s)).all q1t := by
  intro s
  unfold lowL
  rw [List.all_map]
  congr 1
  funext x
  show fnB (nb x) = fnB (nb (lowB x))
  rw [nb_low, qg6]
 unfold fnameB
 rw [q9v, q9v, hs, hp a, hp b, h]
def sm (n : ByteArray) (x : S55) : Bool := lowL (L x.Name) == lowL (L n)
def valsL (l : List S55) (n : ByteArray) : List ByteArray := (l.filter (sm n)).map fun x => x.Value
theorem q12d (l : List S55) (n : ByteArray) : (valsL l n).length ≤ l.length := by
 unfold valsL
 rw [List.length_map]
 exact List.length_filter_le _ _
theorem q12c (x : S55) (l : List S55) (n : ByteArray) : valsL (x :: l) n = if sm n x = true then x.Value :: valsL l n else valsL l n := by
 unfold valsL
 rw [List.filter_cons]
 split <;> rfl
theorem qj2 (l : List S55) (n : ByteArray) (hl : l.length ≤ 60) (hn : n.size ≤ 2000000) (hx : ∀ x ∈ l, x.Name.size ≤ 2000000) (c d : Int) : ∀ (m k : Nat) (acc : List ByteArray), k + m = l.length → acc.length ≤ k → Ok (qjm n acc.length l l.length k c d acc) fun x => x.2.2 = acc ++ valsL (l.drop k) n ∧ x.1.2.2.1 = x.2.2.length := by
 intro m
 induction m with
 | zero =>
  intro k acc hk ha
  refine .via qjo ?_
  unfold qjs
  simp only [EC.decL_encL, EC.isL_encL, EC.encL_length, all_9, apd_9, isE_55, q4g, q4h]
  refine ok_br (fun h => ?_) (fun _ => ok_gd rfl (ok_gd rfl (qpu ?_)))
  ·have := of_decide_eq_true h
   omega
  ·rw [List.drop_eq_nil_of_le (by omega)]
   exact ⟨(List.append_nil _).symm, rfl⟩
 | succ m ih =>
  intro k acc hk ha
  have hlt : k < l.length := by omega
  have e2 : IntKind.i64.wrap ((k : Int) + 1) = ((k + 1 : Nat) : Int) := by rw [wr_in (by omega)]; rfl
  refine .via qjo ?_
  unfold qjs
  simp only [EC.decL_encL, EC.isL_encL, EC.encL_length, all_9, apd_9, isE_55, q4g, q4h, Int.toNat_natCast, e2]
  refine ok_br (fun h => ?_) (fun h => ?_)
  ·refine ok_gd (by simp) (ok_gd (by simp [hlt]) ?_)
   rw [qiz hlt]
   have h1 := hx _ (List.getElem_mem hlt)
   refine qpt (ok_eq (same_s l[k].Name n (by omega) (by omega))) fun r hr => ?_
   rw [q99 hlt, q12c]
   refine ok_br (fun hb => ?_) (fun hb => ?_)
   ·rw [hr] at hb
    have hb : sm n l[k] = true := hb
    rw [if_pos hb]
    refine ok_gd (by simp; omega) (ok_gd rfl (ok_gd rfl ?_))
    have := ih (k + 1) (acc ++ [l[k].Value]) (by omega) (by simp; omega)
    rw [List.length_append] at this
    refine this.mono fun x h => ⟨by rw [h.1, List.append_assoc]; rfl, h.2⟩
   ·rw [hr] at hb
    have hb : sm n l[k] = false := hb
    rw [if_neg (by rw [hb]; decide)]
    exact ok_gd rfl (ok_gd rfl (ih (k + 1) acc (by omega) (by omega)))
  ·have := of_decide_eq_false h
   omega
theorem qg7 {n : ByteArray} (h : fnameB n = true) : n.size ≤ 60 := by
 unfold fnameB at h
 rw [Bool.and_eq_true, Bool.and_eq_true] at h
 have := of_decide_eq_true h.2.1
 omega
structure HdrOk (l : List S55) : Prop where
 val : ∃ i, qk7 l = some (0, i)
 len : l.length ≤ 60
 all : ∀ x ∈ l, fieldB x
theorem get_s {l : List S55} (h : HdrOk l) (n : ByteArray) (hn : n.size ≤ 2000000) : Ok (qjt l n) fun r => r.2 = valsL l n ∧ r.1.1 = r.2.length := .via qjl (by
 obtain ⟨i, hv⟩ := h.val
 have hval : Ok (qkj l n) fun r => (fnameB n = true → r.1 = 0) ∧ (fnameB n = false → r.1 ≠ 0) := .via qki (by
  unfold qkk
  simp only [EC.decL_encL, EC.isL_encL]
  refine ok_gd rfl (qpt (ok_eq hv) fun r hr => ?_)
  subst hr
  refine qpt (ok_eq (qfi _ _)) fun r1 hr1 => ?_
  subst hr1
  refine ok_br (fun h => by cases h) (fun _ => ?_)
  refine qpt (qkr n) fun r2 hr2 => ok_br (fun hb => qpt (qfj _ _) fun r3 hr3 => qpu ?_) (fun hb => qpt qpl fun r3 hr3 => qpu ?_)
  ·subst hr3
   refine ⟨fun h => ?_, fun _ => by decide⟩
   rw [hr2, h] at hb; cases hb
  ·subst hr3
   refine ⟨fun _ => rfl, fun h => ?_⟩
   rw [hr2, h] at hb; cases hb)
 unfold qju
 simp only [EC.decL_encL, EC.isL_encL, EC.encL_length, qg]
 refine ok_gd rfl (qpt hval fun r0 hr0 => qpt (ok_eq (qfi _ _)) fun r1 hr1 => ?_)
 subst hr1
 have hemp : fnameB n = false → valsL l n = [] := by
  intro hf
  unfold valsL
  have : l.filter (sm n) = [] := by
   rw [List.filter_eq_nil_iff]
   intro x hx hs
   have := qg8 (a := x.Name) (b := n) (by simpa [sm] using hs)
   rw [(h.all x hx).1, hf] at this
   cases this
  rw [this]; rfl
 refine ok_br (fun hb => qpu ?_) (fun hb => ?_)
 ·have hf : fnameB n = false := by
   cases hf : fnameB n with
   | true => rw [hr0.1 hf] at hb; cases hb
   | false => rfl
  exact ⟨(hemp hf).symm, rfl⟩
 ·refine ok_gd rfl (qpt (qj2 l n h.len hn (fun x hx => by have := qg7 (h.all x hx).1; omega) 0 0 l.length 0 [] (by omega) (by simp)) fun r2 hr2 => qpt qpl fun r3 hr3 => ok_gd rfl (qpu ?_))
  rw [List.drop_zero, List.nil_append] at hr2
  exact hr2)
end Go.Proofs.YtokahibbkdbndaaGreatDoor
namespace Go.Proofs.YtokahibbkdbndaaGreatDoor
open Go.RowKit
theorem bmap (s : ByteArray) : List.map (fun (b : UInt8) => [byteC b]) (Array.toList (ByteArray.data s)) = ec_5.encL (ints s) := q7e s
theorem qa5 {τ : Type} (e : EC τ) (a b : List τ) : e.encL a ++ e.encL b = e.encL (a ++ b) := by simp [EC.encL]
theorem q8f : ([[(C.int Go.IntKind.u8 (13 : Int))], [(C.int Go.IntKind.u8 (10 : Int))]] : List (List C)) = ec_5.encL [13, 10] := rfl
theorem qn6 (l : List S55) (t12 t13 : Int) (b0 : List S55) (b01 : List Int) (b2 : List ByteArray) (hb : b2.length ≤ 100001) (hz : szB b2) : ∀ (m k : Nat) (b1 : List Int), k + m = b2.length → b1.length + m * 100002 ≤ 1000000000000 →
  Ok (qot b1.length l t12 t13 b2.length b2.length k b0 b01 b1 b2) fun x => x.1.2.2.1 = l ∧ x.1.2.2.2.1 = t12 ∧ x.1.2.2.2.2.1 = t13 ∧ x.2.1 = (b0, b01) ∧ x.1.2.1 = x.2.2.1.length ∧ x.1.2.1 ≤ b1.length + m * 100002 := by
 intro m
 induction m with
 | zero =>
  intro k b1 hk hs
  refine .via qov ?_
  unfold qoz
  simp only [EC.decL_encL, EC.isL_encL, EC.encL_length, all_5, at_9_0]
  refine ok_br (fun h => ?_) (fun _ => ok_gd rfl (ok_gd rfl (ok_gd rfl (ok_gd rfl (ok_gd rfl (qpu ⟨rfl, rfl, rfl, rfl, rfl, by show b1.length ≤ _; omega⟩))))))
  have := of_decide_eq_true h
  omega
 | succ m ih =>
  intro k b1 hk hs
  have hlt : k < b2.length := by omega
  have e2 : IntKind.i64.wrap ((k : Int) + 1) = ((k + 1 : Nat) : Int) := by rw [wr_in (by omega)]; rfl
  refine .via qov ?_
  unfold qoz
  simp only [EC.decL_encL, EC.isL_encL, EC.encL_length, all_5, at_9_0, Int.toNat_natCast, e2]
  refine ok_br (fun h => ?_) (fun h => ?_)
  ·refine ok_gd (by simp; omega) (ok_gd (by rw [len_9 b2 k hlt]; simp [hlt]) (ok_gd (qlz b2 k hlt) ?_))
   rw [qiz hlt]
   have hsz := hz _ (List.getElem_mem hlt)
   have hil := qlo b2[k]
   simp only [bmap, q8f, qa5, EC.decL_encL, EC.isL_encL, EC.encL_length, all_5, hil]
   refine ok_gd (by simp; omega) (ok_gd (by simp; omega) (ok_gd rfl (ok_gd rfl (ok_gd rfl (ok_gd rfl (ok_gd rfl ?_))))))
   have hl2 : ((b1 ++ ints b2[k]) ++ [13, 10]).length = b1.length + b2[k].size + 2 := by simp [hil]; omega
   have := ih (k + 1) ((b1 ++ ints b2[k]) ++ [13, 10]) (by omega) (by rw [hl2]; omega)
   rw [hl2] at this
   refine this.mono fun x hx => ⟨hx.1, hx.2.1, hx.2.2.1, hx.2.2.2.1, hx.2.2.2.2.1, by have := hx.2.2.2.2.2; omega⟩
  ·have := of_decide_eq_false h
   omega
set_option maxRecDepth 100000 in
theorem qfl (l : List S55) (hl : l.length ≤ 60) (b0 : List S55) (b01 : List Int) : ∀ (m k : Nat) (b1 : List Int), k + m = l.length → b1.length + m * 10001000000 ≤ 900000000000 →
  Ok (qom b1.length l l.length k b0 b01 b1) fun x => x.2.1 = (b0, b01) ∧ x.1.2.1 = x.2.2.length ∧ x.1.2.1 ≤ 900000000000 := by
 intro m
 induction m with
 | zero =>
  intro k b1 hk hs
  refine .via qoo ?_
  unfold qos
  simp only [EC.decL_encL, EC.isL_encL, EC.encL_length, isE_55, q4g, q4h]
  refine ok_br (fun h => ?_) (fun _ => ok_gd rfl (ok_gd rfl (ok_gd rfl (ok_gd rfl (qpu ⟨rfl, rfl, by show b1.length ≤ _; omega⟩)))))
  have := of_decide_eq_true h
  omega
 | succ m ih =>
  intro k b1 hk hs
  have hlt : k < l.length := by omega
  have e2 : IntKind.i64.wrap ((k : Int) + 1) = ((k + 1 : Nat) : Int) := by rw [wr_in (by omega)]; rfl
  refine .via qoo ?_
  unfold qos
  simp only [EC.decL_encL, EC.isL_encL, EC.encL_length, isE_55, q4g, q4h, Int.toNat_natCast]
  refine ok_br (fun h => ?_) (fun h => ?_)
  ·refine ok_gd (by simp) (ok_gd (by simp [hlt]) ?_)
   rw [qiz hlt]
   refine qpt (qhi _ _) fun r hr => ?_
   obtain ⟨h1, h2, h3, _⟩ := hr
   rw [h1]
   rw [h1] at h2
   refine ok_gd rfl (ok_gd rfl (ok_gd rfl (ok_gd rfl (ok_gd rfl ?_))))
   have hz0 : 0 + r.2.length = r.2.length := Nat.zero_add _
   have hbig : b1.length + r.2.length * 100002 ≤ 1000000000000 := by
    have g1 : r.2.length * 100002 ≤ 10001000000 := Nat.le_trans (Nat.mul_le_mul_right 100002 h2) (by decide)
    have g2 : 10001000000 ≤ (m + 1) * 10001000000 := Nat.le_mul_of_pos_left _ (Nat.succ_pos m)
    exact Nat.le_trans (Nat.add_le_add_left (Nat.le_trans g1 g2) _) (Nat.le_trans hs (by decide))
   refine qpt (qn6 l l.length k b0 b01 r.2 h2 h3 r.2.length 0 b1 hz0 hbig) fun r1 hr1 => ?_
   obtain ⟨q1, q2, q3, q4, q5, q6⟩ := hr1
   rw [q1, q2, q3, q4, q5, e2]
   refine ok_gd rfl (ok_gd rfl (ok_gd rfl (ok_gd rfl ?_)))
   exact ih (k + 1) r1.2.2.1 (by omega) (by rw [← q5]; omega)
  ·have := of_decide_eq_false h
   omega
theorem q12t (l : List S55) (hl : l.length ≤ 60) (b : List Int) (hb : b.length ≤ 2000000) : Ok (qp0 l b) fun r => r.1 = r.2.length := .via qol (by
 unfold qp1
 simp only [EC.decL_encL, EC.isL_encL, EC.encL_length, all_5, qg]
 refine ok_gd rfl (ok_gd rfl (ok_gd rfl ?_))
 refine qpt (qfl l hl l b l.length 0 [] (by omega) (by simp; omega)) fun r hr => ?_
 obtain ⟨h1, h2, h3⟩ := hr
 rw [h1]
 simp only [q8f, qa5, EC.decL_encL, EC.isL_encL, EC.encL_length, all_5]
 refine ok_gd (by simp; omega) (ok_gd (by simp; omega) (ok_gd rfl (qpu ?_)))
 simp only [List.length_append, h2])
theorem q71 (b : List Int) (hb : b.length ≤ 2000000) : ∀ (m k : Nat) (c : Int), b.length - k ≤ m → k ≤ b.length + 2 → 0 ≤ c → c ≤ 998 → Ok (q4v b c k) fun _ => True := by
  intro m
  induction m with
  | zero =>
    intro k c hk hk2 h0 h1
    refine .via q4x ?_
    unfold q52
    simp only [EC.decL_encL, EC.isL_encL, EC.encL_length, isE_5, at_5_0]
    refine ok_br (fun h => ?_) (fun _ => ok_gd rfl (qpu trivial))
    have := of_decide_eq_true h
    omega
  | succ m ih =>
    intro k c hk hk2 h0 h1
    refine .via q4x ?_
    unfold q52
    have e2 : IntKind.i64.wrap ((k : Int) + 1) = ((k + 1 : Nat) : Int) := by rw [wr_in (by omega)]; rfl
    have e3 : IntKind.i64.wrap (((k + 1 : Nat) : Int) + 1) = ((k + 2 : Nat) : Int) := by rw [wr_in (by omega)]; omega
    have ec : IntKind.i64.wrap (c + 1) = c + 1 := wr_in (by omega)
    simp only [EC.decL_encL, EC.isL_encL, EC.encL_length, isE_5, at_5_0, Int.toNat_natCast, e2, e3, ec]
    refine ok_br (fun h => ?_) (fun _ => ok_gd rfl (qpu trivial))
    have hlt : k < b.length := by have := of_decide_eq_true h; omega
    have step : Ok (brE (decide (c + 1 > 998)) (some (.inl ((1 : Int), ()))) (gdE true <| q4v b (c + 1) ((k + 1 : Nat) : Int))) fun _ => True := ok_br (fun _ => qpu trivial) (fun h => ok_gd rfl (ih (k + 1) (c + 1) (by omega) (by omega) (by omega) (by have := of_decide_eq_false h; omega)))
    refine ok_gd (by simp) (ok_gd (by simp [hlt]) ?_)
    repeat' (first
      | exact qpu trivial
      | exact step
      | exact ok_gd rfl (ih (k + 2) 0 (by omega) (by omega) (by omega) (by omega))
      | (refine ok_gd ?_ ?_
         · first
             | (simp; done)
             | (simp; omega)
             | (simp_all; done)
             | (simp_all; omega))
      | (refine ok_br (fun _ => ?_) (fun _ => ?_)))
theorem q6z (b : List Int) (hb : b.length ≤ 2000000) : Ok (qog b) fun _ => True := .via qof (by
 unfold qoh
 simp only [EC.decL_encL, EC.isL_encL]
 have hbd : Ok (q53 b) fun _ => True := .via q4u (by
  unfold q54
  simp only [EC.decL_encL, EC.isL_encL]
  refine ok_gd rfl (qpt (q71 b hb b.length 0 0 (by omega) (by omega) (by omega) (by omega)) ?_)
  rintro (r | r) _
  ·exact qpu trivial
  ·exact qpu trivial)
 refine ok_gd rfl (qpt hbd fun r _ => ok_br (fun _ => qpt (qfj _ _) fun _ _ => qpu trivial) (fun _ => ok_br (fun _ => qpt (qfj _ _) fun _ _ => qpu trivial) (fun _ => qpt qpl fun _ _ => qpu trivial))))
theorem qp4 (l : List S55) (b : List Int) (hb : b.length ≤ 2000000) : Ok (qo4 l b) fun r => r.1 = 0 → HdrOk l := .via qo3 (by
 unfold qo5
 simp only [EC.decL_encL, EC.isL_encL]
 obtain ⟨r0, e0, p0⟩ := ql0 l
 refine ok_gd rfl (qpt (ok_eq e0) fun r hr => ?_)
 subst hr
 refine qpt (ok_eq (qfi _ _)) fun r1 hr1 => ?_
 subst hr1
 refine ok_br (fun hb => qpu fun h => ?_) (fun hb0 => ?_)
 ·rw [h] at hb; cases hb
 ·have h0 : r.1 = 0 := by simpa using hb0
  obtain ⟨hl, ha⟩ := p0 h0
  have hok : HdrOk l := ⟨⟨r.2, by rw [e0, ← h0]⟩, hl, ha⟩
  refine ok_gd rfl (ok_gd rfl (qpt (q12t l hl b hb) fun r2 _ => ok_br (fun _ => qpt (qfj _ _) fun _ _ => qpu fun _ => hok) (fun _ => ok_gd rfl (qpt (q6z b hb) fun _ _ => qpu fun _ => hok)))))
theorem qp5 (l : List S55) (b : List Int) (hb : b.length ≤ 2000000) : Ok (qoa l b) fun r => (r.1.2.1 = 0 → HdrOk l) ∧ r.1.1 = r.2.length := .via qo9 (by
 unfold qob
 simp only [EC.decL_encL, EC.isL_encL, qg]
 refine ok_gd rfl (ok_gd rfl (qpt (qp4 l b hb) fun r hr => qpt (ok_eq (qfi _ _)) fun r1 hr1 => ?_))
 subst hr1
 refine ok_br (fun hb => qpu ⟨hr, rfl⟩) (fun hb0 => ?_)
 have h0 : r.1 = 0 := by simpa using hb0
 have hok := hr h0
 exact ok_gd rfl (ok_gd rfl (qpt (q12t l hok.len b hb) fun r2 h2 => qpt qpl fun r3 _ => ok_gd rfl (qpu ⟨fun _ => hok, h2⟩))))
end Go.Proofs.YtokahibbkdbndaaGreatDoor
