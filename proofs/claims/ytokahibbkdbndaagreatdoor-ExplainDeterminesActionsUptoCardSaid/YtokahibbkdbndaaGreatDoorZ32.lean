/- ExplainDeterminesActions: the plain law. -/
import Derived.Test.YtokahibbkdbndaaGreatDoorZ30
import Derived.Test.YtokahibbkdbndaaGreatDoorZ31
import Derived.Test.YtokahibbkdbndaaGreatDoorZ01
import Derived.Test.YtokahibbkdbndaaGreatDoorChecked
import Derived.ProofKit
import Derived.OpenShut
import Derived.JoinedCond
import Derived.Deep.Slices
import Derived.Deep.Fields
import Derived.Lib.SmallJoins
import Derived.Test.YtokahibbkdbndaaGreatDoorZ29
import Derived.Test.YtokahibbkdbndaaGreatDoorRows
namespace Go.Proofs.YtokahibbkdbndaaGreatDoor
open Go.RowKit
def tupR (r : S50) : Int × Int × List S48 × ByteArray × Int × ByteArray × Int × List S50 × List S50 × Int × ByteArray × ByteArray × Int := (r.Kind, (r.Test_Kind, (r.Test_Tests, (r.Test_Name, (r.Test_Pattern, (r.Test_Text, (r.Test_N, (r.Then, (r.Else, (r.Act, (r.Name, (r.Text, r.N))))))))))))
def rulAt (s : List S50) : Prop := ∀ n : Nat, n < szL s → ∃ r, atL s n = some r ∧ q1b8 s n = some (tupR r, true)
theorem q1bu (s : List S50) (hl : s.length ≤ big) (ho : okL s) (hz : szL s ≤ 1000) (ih : ∀ r ∈ s, rulAt r.Then ∧ rulAt r.Else) :
  ∀ (m k n : Nat), k + m = s.length → n < szL (s.drop k) → n ≤ 1000 → ∃ r, atL (s.drop k) n = some r ∧ q1b0 s n k 0 0 0 noTx 0 noTx 0 0 0 0 noTx noTx 0 [] [] [] = some (.inl (((), true), tupR r)) := by
 intro m
 induction m with
 | zero =>
  intro k n hk h
  rw [List.drop_of_length_le (by omega)] at h
  simp [szL] at h
 | succ m ihm =>
  intro k n hk h hn
  have hlt : k < s.length := by omega
  have e1 : decide ((k : Int) < (s.length : Int)) = true := by simp; omega
  have e0 : decide ((0 : Int) ≤ (k : Int)) = true := by simp
  have e2 : IntKind.i64.wrap ((k : Int) + 1) = ((k + 1 : Nat) : Int) := wr_nat hlt (by unfold big at hl; omega)
  have hd2 : decide (k < s.length) = true := by simp [hlt]
  have hmem : s[k] ∈ s := List.getElem_mem hlt
  have hdr : szL (s.drop k) = szR s[k] + szL (s.drop (k + 1)) := by rw [q97 hlt]; rfl
  have hsz := szR_eq s[k]
  obtain ⟨_, ⟨ht1, ht2⟩, ⟨he1, he2⟩, _⟩ := (okR_eq s[k]).1 (qpa ho hmem)
  have hT := qz5 hmem
  have hE := qz4 hmem
  have hcT := q8c s[k].Then ht1 ht2
  have hcE := q8c s[k].Else he1 he2
  rw [wr_in (by omega)] at hcT hcE
  obtain ⟨iT, iE⟩ := ih s[k] hmem
  rw [q97 hlt, atL]
  rw [hdr] at h
  by_cases h0 : n = 0
  ·subst h0
   refine ⟨s[k], by rw [if_pos (by omega), atR_eq, if_pos rfl], q1b2 ?_⟩
   simp only [q1b7, brE_if, gdE_if, EC.decL_encL, EC.isL_encL, EC.encL_length, isE_50, q41, q42, q46, q47, q48, q49, q4a, q4b, q4c, q4d, q43, q44, q45, e1, e0, if_true, Int.toNat_natCast, hd2, Bool.and_self, qik hlt, Int.natCast_zero, beq_self_eq_true, tupR]
  ·have c0 : (((n : Nat) : Int) == 0) = false := by simp; omega
   have w1 : IntKind.i64.wrap (((n : Nat) : Int) - 1) = ((n - 1 : Nat) : Int) := by rw [wr_in (by omega)]; omega
   by_cases hTn : n - 1 < szL s[k].Then
   ·obtain ⟨r, r1, r2⟩ := iT (n - 1) hTn
    have c1 : decide (((n - 1 : Nat) : Int) < (szL s[k].Then : Int)) = true := decide_eq_true (by omega)
    refine ⟨r, by rw [if_pos (by omega), atR_eq, if_neg h0, if_pos hTn]; exact r1, q1b2 ?_⟩
    simp only [q1b7, brE_if, gdE_if, EC.decL_encL, EC.isL_encL, EC.encL_length, isE_50, q41, q42, q46, q47, q48, q49, q4a, q4b, q4c, q4d, q43, q44, q45, e1, e0, if_true, Int.toNat_natCast, hd2, Bool.and_self, qik hlt, c0, w1, hcT, Option.bind_some, c1, r2, Bool.false_eq_true, if_false, tupR]
   ·have c1 : decide (((n - 1 : Nat) : Int) < (szL s[k].Then : Int)) = false := decide_eq_false (by omega)
    have w2 : IntKind.i64.wrap (((n - 1 : Nat) : Int) - (szL s[k].Then : Int)) = ((n - 1 - szL s[k].Then : Nat) : Int) := by rw [wr_in (by omega)]; omega
    by_cases hEn : n - 1 - szL s[k].Then < szL s[k].Else
    ·obtain ⟨r, r1, r2⟩ := iE (n - 1 - szL s[k].Then) hEn
     have c2 : decide (((n - 1 - szL s[k].Then : Nat) : Int) < (szL s[k].Else : Int)) = true := decide_eq_true (by omega)
     refine ⟨r, by rw [if_pos (by omega), atR_eq, if_neg h0, if_neg hTn]; exact r1, q1b2 ?_⟩
     simp only [q1b7, brE_if, gdE_if, EC.decL_encL, EC.isL_encL, EC.encL_length, isE_50, q41, q42, q46, q47, q48, q49, q4a, q4b, q4c, q4d, q43, q44, q45, e1, e0, if_true, Int.toNat_natCast, hd2, Bool.and_self, qik hlt, c0, w1, hcT, hcE, Option.bind_some, c1, w2, c2, r2, Bool.false_eq_true, if_false, tupR]
    ·have c2 : decide (((n - 1 - szL s[k].Then : Nat) : Int) < (szL s[k].Else : Int)) = false := decide_eq_false (by omega)
     have w3 : IntKind.i64.wrap (((n - 1 - szL s[k].Then : Nat) : Int) - (szL s[k].Else : Int)) = ((n - szR s[k] : Nat) : Int) := by rw [wr_in (by omega)]; omega
     obtain ⟨r, r1, r2⟩ := ihm (k + 1) (n - szR s[k]) (by omega) (by omega) (by omega)
     refine ⟨r, by rw [if_neg (by omega)]; exact r1, q1b2 ?_⟩
     simp only [q1b7, brE_if, gdE_if, EC.decL_encL, EC.isL_encL, EC.encL_length, isE_50, q41, q42, q46, q47, q48, q49, q4a, q4b, q4c, q4d, q43, q44, q45, e1, e0, if_true, Int.toNat_natCast, hd2, Bool.and_self, qik hlt, c0, w1, hcT, hcE, Option.bind_some, c1, w2, c2, w3, Bool.false_eq_true, if_false, e2]
     exact r2
theorem q1bv : ∀ (q : Nat) (s : List S50), szL s = q → q ≤ 1000 → s.length ≤ big → okL s → rulAt s := by
 intro q
 induction q using Nat.strongRecOn with
 | _ q ih =>
  intro s hq hz hl ho n hn
  obtain ⟨r, r1, r2⟩ := q1bu s hl ho (by omega) (fun r hr => by
   have := (okR_eq r).1 (qpa ho hr)
   have hT := qz5 hr
   have hE := qz4 hr
   exact ⟨ih _ (hq ▸ hT) r.Then rfl (by omega) this.2.1.1 this.2.1.2, ih _ (hq ▸ hE) r.Else rfl (by omega) this.2.2.1.1 this.2.2.1.2⟩) s.length 0 n (by omega) (by rw [List.drop_zero]; exact hn) (by omega)
  rw [List.drop_zero] at r1
  refine ⟨r, r1, q1az ?_⟩
  rw [Int.natCast_zero] at r2
  unfold noTx at r2
  simp only [q1b9, gdE_if, qg, EC.decL_encL, EC.isL_encL, if_true, r2, Option.bind_some, Sum.elim_inl, tupR]
theorem q1ab (l : List S45) (hl : l.length ≤ 10000) : ∀ m k : Nat, k + m = l.length → q1bk l k = some (if ((l.drop k).any fun a => dB a.Kind) = true then .inl (l, ()) else .inr ((l, (((l.length : Nat) : Int), false)), ())) := by
 intro m
 induction m with
 | zero =>
  intro k hk
  have hk : k = l.length := by omega
  subst hk
  refine q1bm ?_
  rw [List.drop_length]
  simp only [q1br, brE_if, gdE_if, EC.decL_encL, EC.isL_encL, EC.encL_length, isE_45, q3u]
  simp
 | succ m ih =>
  intro k hk
  have hlt : k < l.length := by omega
  have e1 : decide ((k : Int) < (l.length : Int)) = true := by simp; omega
  have e0 : decide ((0 : Int) ≤ (k : Int)) = true := by simp
  have e2 : IntKind.i64.wrap ((k : Int) + 1) = ((k + 1 : Nat) : Int) := wr_nat hlt (by omega)
  have hd2 : decide (k < l.length) = true := by simp [hlt]
  refine q1bm ?_
  rw [q97 hlt, List.any_cons]
  cases hb : dB l[k].Kind with
  | true => simp only [q1br, brE_if, gdE_if, EC.decL_encL, EC.isL_encL, EC.encL_length, isE_45, q3u, e1, e0, if_true, Int.toNat_natCast, hd2, Bool.and_self, qik hlt, q1a7, hb, Option.bind_some, Bool.true_or]
  | false =>
   simp only [q1br, brE_if, gdE_if, EC.decL_encL, EC.isL_encL, EC.encL_length, isE_45, q3u, e1, e0, if_true, Int.toNat_natCast, hd2, Bool.and_self, qik hlt, q1a7, hb, Option.bind_some, Bool.false_eq_true, if_false, Bool.false_or, e2]
   exact ih (k + 1) (by omega)
theorem q1ac (l : List S45) (hl : l.length ≤ 10000) : q1bs l = some (finA l) := by
 have h := q1ab l hl l.length 0 (by omega)
 rw [Int.natCast_zero, List.drop_zero] at h
 have g1 : decide ((l.length + l.length / 4 + 192) * 32 ≤ 281474976710656) = true := decide_eq_true (by omega)
 have g2 : decide (l.length ≤ 9223372036854775807) = true := decide_eq_true (by omega)
 have g3 : decide ((l.length + 1 + (l.length + 1) / 4 + 192) * 32 ≤ 281474976710656) = true := decide_eq_true (by omega)
 have g4 : decide (l.length + 1 ≤ 9223372036854775807) = true := decide_eq_true (by omega)
 refine q1bj ?_
 unfold finA
 simp only [q1bt, gdE_if, EC.decL_encL, EC.isL_encL, EC.encL_length, all_45, apd_45, h, Option.bind_some]
 cases hb : (l.any fun a => dB a.Kind) with
 | true => simp only [if_true, Sum.elim_inl]
 | false =>
  simp only [Bool.false_eq_true, if_false, if_true, Sum.elim_inr, List.all_cons, List.all_nil, List.length_cons, List.length_nil, Nat.zero_add, beq_self_eq_true, Bool.and_self, g1, g2, g3, g4]
  rfl
theorem q1a8 (s : List S50) (hR : rulAt s) (a : List S45) (l : List S62) (hl : l.length ≤ 1000) (hx : ∀ x ∈ l, (0 : Int) ≤ x.Rule ∧ x.Rule < szL s) :
  ∀ (m k : Nat) (w : List S45), k + m = l.length → w.length ≤ k → q1am s l.length a.length w.length k l a w = some (.inr ((s, (l.length, (a.length, ((w ++ (l.drop k).flatMap (stA s 0)).length, (((l.length : Nat) : Int), false))))), (l, (a, w ++ (l.drop k).flatMap (stA s 0))))) := by
 intro m
 induction m with
 | zero =>
  intro k w hk hw
  have hk : k = l.length := by omega
  subst hk
  refine q1ao ?_
  rw [List.drop_length]
  simp only [q1at, brE_if, gdE_if, EC.decL_encL, EC.isL_encL, EC.encL_length, all_45, apd_45, q4g, q1a6]
  simp
 | succ m ih =>
  intro k w hk hw
  have hlt : k < l.length := by omega
  have e1 : decide ((k : Int) < (l.length : Int)) = true := by simp; omega
  have e0 : decide ((0 : Int) ≤ (k : Int)) = true := by simp
  have e2 : IntKind.i64.wrap ((k : Int) + 1) = ((k + 1 : Nat) : Int) := wr_nat hlt (by omega)
  have hd2 : decide (k < l.length) = true := by simp [hlt]
  have hlen : (((ec_62.encL l).getD k []).length == 3) = true := by rw [EC.getD_lt _ _ hlt]; rfl
  have hisP : isP [(K1.int Go.IntKind.i64)] 0 ((ec_62.encL l).getD k []) = true := by rw [EC.getD_lt _ _ hlt]; rfl
  have hisP2 : isP [K1.str] 2 ((ec_62.encL l).getD k []) = true := by rw [EC.getD_lt _ _ hlt]; rfl
  have g1 : decide ((w.length + 1 + (w.length + 1) / 4 + 192) * 32 ≤ 281474976710656) = true := decide_eq_true (by omega)
  have g2 : decide (w.length + 1 ≤ 9223372036854775807) = true := decide_eq_true (by omega)
  obtain ⟨x1, x2⟩ := hx l[k] (List.getElem_mem hlt)
  obtain ⟨n, hn⟩ : ∃ n : Nat, l[k].Rule = ((n : Nat) : Int) := ⟨l[k].Rule.toNat, by omega⟩
  obtain ⟨r, r1, r2⟩ := hR n (by omega)
  have hst : stA s 0 l[k] = if r.Kind = 2 then [⟨r.Act, l[k].Text, r.N⟩] else [] := by
   unfold stA
   rw [hn, Int.sub_zero, Int.toNat_natCast, r1]
  refine q1ao ?_
  rw [q97 hlt, List.flatMap_cons, hst]
  by_cases hk2 : r.Kind = 2
  ·have c2 : (r.Kind == 2) = true := by simpa using hk2
   have hi := ih (k + 1) (w ++ [⟨r.Act, l[k].Text, r.N⟩]) (by omega) (by simp; omega)
   rw [List.length_append, List.append_assoc] at hi
   rw [if_pos hk2]
   simp only [q1at, brE_if, gdE_if, EC.decL_encL, EC.isL_encL, EC.encL_length, all_45, apd_45, q4g, q1a6, e1, e0, if_true, Int.toNat_natCast, hd2, Bool.and_self, hlen, hisP, hisP2, qik hlt, hn, r2, tupR, Option.bind_some, Bool.not_true, Bool.false_eq_true, if_false, c2, List.all_cons, List.all_nil, List.length_cons, List.length_nil, Nat.zero_add, beq_self_eq_true, g1, g2, e2]
   exact hi
  ·have c2 : (r.Kind == 2) = false := by simpa using hk2
   have hi := ih (k + 1) w (by omega) (by omega)
   rw [if_neg hk2, List.nil_append]
   simp only [q1at, brE_if, gdE_if, EC.decL_encL, EC.isL_encL, EC.encL_length, all_45, apd_45, q4g, q1a6, e1, e0, if_true, Int.toNat_natCast, hd2, Bool.and_self, hlen, hisP, qik hlt, hn, r2, tupR, Option.bind_some, Bool.not_true, Bool.false_eq_true, if_false, c2, e2]
   exact hi
theorem runS_len'' {s : List S50} {f : ByteArray} {rc : List S118} {e : ByteArray} {fs : List S55} {bd : List Int} : (runS s f rc e fs bd).length ≤ 100 := by
 unfold runS
 by_cases hF : (runF s f rc e fs bd).1 = 0
 ·rw [if_neg (by simp [hF])]
  obtain ⟨h1, _, _⟩ := runF_0 hF
  obtain ⟨_, _, h3⟩ := q113 f rc fs bd h1
  have := (val_ok h1).2
  simp only [List.length_nil, Nat.zero_add] at h3
  omega
 ·rw [if_pos hF]; simp
theorem determLaw {s : List S50} {f : ByteArray} {rc : List S118} {bd : List Int} (h : MOk s f rc bd) (e : ByteArray) (fs : List S55) :
  q1au s f rc e fs bd = some true := by
 have hx := qf0 h e fs
 refine q1al ?_
 simp only [q1av, brE_if, gdE_if, qg, EC.decL_encL, EC.isL_encL, if_true, hx, Option.bind_some]
 by_cases hF : (runF s f rc e fs bd).1 = 0
 ·have c1 : ((runF s f rc e fs bd).1 != 0) = false := by simpa using hF
  obtain ⟨g1, g2, g3⟩ := runF_0 hF
  obtain ⟨hv, h100⟩ := val_ok g1
  have hR := q1bv _ s rfl (by omega) h.len h.ok
  obtain ⟨new, n1, n2, n3⟩ : actsOk s 0 [] [] (theRun s f rc fs bd) := q1a9 f rc fs _ _ s rfl 0 [] [] []
  rw [List.nil_append] at n1 n2
  have hS : runS s f rc e fs bd = new := by unfold runS; rw [if_neg (by simp [hF]), n1]
  have hA : runA s f rc e fs bd = finA (new.flatMap (stA s 0)) := by unfold runA; rw [if_neg (by simp [hF]), n2]
  have hlen : new.length ≤ 100 := by rw [← hS]; exact runS_len''
  have hal : (new.flatMap (stA s 0)).length ≤ 100 := by
   obtain ⟨_, h2, _⟩ := q113 f rc fs bd g1
   rw [n2] at h2
   simp only [List.length_nil, Nat.zero_add] at h2
   omega
  have hd := q1a8 s hR (runA s f rc e fs bd) new (by omega) (fun x hx => by have := n3 x hx; omega) new.length 0 [] (by omega) (by simp)
  rw [Int.natCast_zero, List.drop_zero, List.nil_append, List.length_nil] at hd
  have hfin := q1ac (new.flatMap (stA s 0)) (by omega)
  have hsame := q19h (finA (new.flatMap (stA s 0))) (by have := q1aa (new.flatMap (stA s 0)); omega)
  rw [hS]
  simp only [c1, Bool.false_eq_true, if_false, hd, Option.bind_some, Sum.elim_inr, hfin]
  rw [hA, hsame]
  simp only [Option.bind_some, beq_self_eq_true, if_true]
 ·have c1 : ((runF s f rc e fs bd).1 != 0) = true := by simpa using hF
  simp only [c1, if_true]
end Go.Proofs.YtokahibbkdbndaaGreatDoor
namespace Go.Proofs.YtokahibbkdbndaaGreatDoor
open Go.ChangeShapes Go.WideShapes Go.ChangeAt Go.RowKit Go.Deep
theorem qm : ownKnob Tryz.prog.godebug = none := by kernel_rfl
theorem ql : laidOutB Tryz.prog = true := by kernel_rfl
section
variable {H : Type} {enc : TypeId × Value → H} {P : Program}
theorem q119 (hl : laidOutB P = true) {W W' : World} (hb : Bel W W') : ∀ {ts : List TypeId} {vs : List Value} {ds : List (DataW H)} {ps : List MemPlace}, ts.all (fun t => P.readableRec t && decide (t < P.types.size)) = true →
  DataW.TrodAll enc P W 0 (fun _ => true) true ts vs ds ps → (∀ x ∈ ps, x.block < W.heap.size) → DataW.TrodAll enc P W' 0 (fun b => decide (b < W.heap.size)) true ts vs ds ps
 | [], [], [], _, _, h, _ => h
 | [], [], _ :: _, _, _, h, _ => h.elim
 | [], _ :: _, _, _, _, h, _ => h.elim
 | _ :: _, [], _, _, _, h, _ => h.elim
 | _ :: _, _ :: _, [], _, _, h, _ => h.elim
 | t :: ts, v :: vs, d :: ds, ps, hr, h, hlt => by
  obtain ⟨p, q, h1, h2, rfl⟩ := h
  simp only [List.all_cons, Bool.and_eq_true, decide_eq_true_eq] at hr
  exact ⟨p, q, Below.trod hl hr.1.1 hr.1.2 h1 hb (fun x hx => hlt x (List.mem_append_left _ hx)), q119 hl hb hr.2 h2 (fun x hx => hlt x (List.mem_append_right _ hx)), rfl⟩
theorem qmf {fn : Func} {s : ChangeSpec} {W W' : World} {args : Array Value} {ds gs : List (DataW H)} {before : List MemPlace} {tb : TypeId} (hl : laidOutB P = true)
  (hr : fn.params.toList.all (fun t => P.readableRec t && decide (t < P.types.size)) = true) (hrt : fn.resultTypes = #[tb]) (htb : P.underlying tb = some .bool) (hvars : s.vars = [])
  (hfn : s.fn H ds = { results := [.lit (.bool true)], args := ds })
  (hW : DataW.Whole enc P fn.params.toList s.vars false W args.toList ds gs before) (hb : Bel W W') : s.post enc P fn false true false false W args (.bool true) W' := by
 have hW' := hW
 have hlt : ∀ x ∈ before, x.block < W.heap.size := fun x hx => hW.lt x hx
 obtain ⟨p, q, hA, hV, rfl, hfz, hnd⟩ := hW
 rw [hvars] at hV
 obtain ⟨rfl, rfl⟩ := trodVars_none hV
 have e : s.fn H (ds ++ []) = { results := [.lit (.bool true)], args := ds } := by rw [List.append_nil]; exact hfn
 refine ⟨ds, [], p ++ [], [], p, [], hW', ?_, ?_, ?_, hb.frame _, fun h => by cases h⟩
 ·rw [e, hrt]
  exact trodAll_mk1 (shut_bool htb true)
 ·rw [e]
  exact q119 hl hb hr hA (fun x hx => hlt x (by simpa using hx))
 ·rw [e, hvars]
  rfl
end
end Go.Proofs.YtokahibbkdbndaaGreatDoor
namespace Go.Proofs.YtokahibbkdbndaaGreatDoor
open Go.ChangeShapes Go.WideShapes Go.ChangeAt Go.RowKit Go.Deep
theorem q76 {H : Type} (d : DataW H) : 1 ≤ Rows.uptoBulk d := by
 cases d with
 | lit l => cases l <;> simp [Rows.uptoBulk]
 | nil => simp [Rows.uptoBulk]
 | ptr d => simp [Rows.uptoBulk]
 | slice elems spare => simp [Rows.uptoBulk]
 | agg parts => simp [Rows.uptoBulk]
 | iface t d => simp [Rows.uptoBulk]
 | map entries => simp [Rows.uptoBulk]
 | held h => simp [Rows.uptoBulk]
theorem q74 {H : Type} : ∀ l : List (DataW H), l.length ≤ Rows.uptoBulkAll l
 | [] => by simp
 | x :: r => by have := q76 x; have := q74 r; simp only [Rows.uptoBulkAll, List.length_cons]; omega
theorem q75 {H : Type} {d : DataW H} : ∀ {l : List (DataW H)}, d ∈ l → Rows.uptoBulk d ≤ Rows.uptoBulkAll l
 | x :: r, h => by
  simp only [Rows.uptoBulkAll]
  rcases List.mem_cons.1 h with rfl | h
  ·omega
  ·have := q75 h; omega
theorem q77 {H : Type} {l : List (DataW H)} (hk : Rows.uptoSmall H l = true) : Rows.uptoBulkAll l ≤ 1048576 := of_decide_eq_true hk
def Zw (w : World) : ZMap := fun b o => w.cell? ⟨b, o, none⟩
def RepL (Z : ZMap) : List Value → List C → Prop
 | [], [] => True
 | u :: us, x :: xs => RepC Z u x ∧ RepL Z us xs
 | _, _ => False
theorem RepL.len {Z : ZMap} : ∀ {us : List Value} {xs : List C}, RepL Z us xs → us.length = xs.length
 | [], [], _ => rfl
 | u :: us, x :: xs, h => by simp [RepL.len h.2]
 | [], _ :: _, h => h.elim
 | _ :: _, [], h => h.elim
theorem RepL.get {Z : ZMap} : ∀ {us : List Value} {xs : List C}, RepL Z us xs → ∀ (i : Nat) u x, us[i]? = some u → xs[i]? = some x → RepC Z u x
 | [], [], _, i, u, x, h, _ => by simp at h
 | u :: us, x :: xs, h, i, u', x', h1, h2 => by
  cases i with
  | zero => simp at h1 h2; subst h1 h2; exact h.1
  | succ i => simp at h1 h2; exact RepL.get h.2 i u' x' h1 h2
 | [], _ :: _, h, _, _, _, _, _ => h.elim
 | _ :: _, [], h, _, _, _, _, _ => h.elim
theorem RepL.agg {Z Y : ZMap} {m : Nat → Option Value} {us : List Value} {xs : List C} (h : RepL Z us xs) : Rep Z Y m (.agg us.toArray) (.agg (xs.map .c)) := by
 refine .agg _ _ (by simp [h.len]) ?_ ?_
 ·intro u hu
  obtain ⟨i, hi, rfl⟩ := List.getElem_of_mem (by simpa using hu)
  have hx : i < xs.length := by rw [← h.len]; exact hi
  exact (h.get i _ _ (List.getElem?_eq_getElem hi) (List.getElem?_eq_getElem hx)).one
 ·intro i u x hu hx
  rw [List.getElem?_map] at hx
  cases hy : xs[i]? with
  | none => rw [hy] at hx; cases hx
  | some y =>
   rw [hy] at hx
   injection hx with hx; subst hx
   exact .c (h.get i u y (by simpa using hu) hy)
theorem qfq {α : Type} {k : Nat} : ∀ {css : List (List α)}, (∀ cs ∈ css, cs.length = k) → ∀ (i j : Nat) cs, css[i]? = some cs → j < k → css.flatten[i * k + j]? = cs[j]?
 | [], _, i, j, cs, h, _ => by simp at h
 | c :: css, hk, i, j, cs, h, hj => by
  have hc : c.length = k := hk c (by simp)
  cases i with
  | zero =>
   simp at h; subst h
   rw [List.flatten_cons, List.getElem?_append_left (by omega)]
   simp
  | succ i =>
   simp at h
   rw [List.flatten_cons, List.getElem?_append_right (by rw [hc, Nat.add_mul]; omega), ← qfq (fun d hd => hk d (by simp [hd])) i j cs h hj]
   congr 1
   rw [hc, Nat.add_mul]; omega
theorem rd_rep {w : World} {k n c : Nat} {A : Option Addr} {css : List (List Value)} {es : List (List C)} (hr : Rd w k A n c css.flatten) (hn : css.length = n) (hN : A = none → c = 0) (hk : 0 < k) (hcs : ∀ cs ∈ css, cs.length = k) (hl : es.length = css.length)
  (he : ∀ (i : Nat) cs e, css[i]? = some cs → es[i]? = some e → RepL (Zw w) cs e) : RepC (Zw w) (.slice A n c) (.sl es) := by
 have helen : ∀ e ∈ es, e.length = k := fun e hm => by
  obtain ⟨i, hi, rfl⟩ := List.getElem_of_mem hm
  have hx : i < css.length := by omega
  rw [← (he i _ _ (List.getElem?_eq_getElem hx) (List.getElem?_eq_getElem hi)).len]
  exact hcs _ (List.getElem_mem hx)
 by_cases h0 : es = []
 ·subst h0
  have : n = 0 := by rw [← hn, ← hl]; rfl
  exact .sl A n c k 0 0 (fun _ => .nilFunc) [] (by simp [this]) hr.le hr.2.2.1 (by simp) (by simp) (by simp) (by simp) hN
 ·have hn0 : 0 < n * k := by
   have : 0 < es.length := List.length_pos_iff.2 h0
   exact Nat.mul_pos (by omega) hk
  obtain ⟨b, off, hA, _, hcell⟩ := hr.place hn0
  have hget : ∀ (i : Nat) (e : List C) (j : Nat) (x : C), es[i]? = some e → e[j]? = some x → ∃ u, css.flatten[i * k + j]? = some u ∧ RepC (Zw w) u x := by
   intro i e j x h1 h2
   have hi : i < css.length := by
    have := (List.getElem?_eq_some_iff.1 h1).1
    omega
   have hj : j < k := by
    rw [← helen e (List.mem_of_getElem? h1)]
    exact (List.getElem?_eq_some_iff.1 h2).1
   have hcl := hcs _ (List.getElem_mem hi)
   have hu : css[i][j]? = some (css[i][j]'(by omega)) := List.getElem?_eq_getElem _
   exact ⟨_, by rw [qfq hcs i j css[i] (List.getElem?_eq_getElem hi) hj, hu], (he i _ e (List.getElem?_eq_getElem hi) h1).get j _ x hu h2⟩
  refine .sl A n c k b off (fun j => (css.flatten[j]?).getD .nilFunc) es (by omega) hr.le hr.2.2.1 helen (fun _ => hA) ?_ ?_ hN
  ·intro i e j x h1 h2
   obtain ⟨u, hu, _⟩ := hget i e j x h1 h2
   simp only [hu, Option.getD_some]
   exact hcell _ _ hu
  ·intro i e j x h1 h2
   obtain ⟨u, hu, hr'⟩ := hget i e j x h1 h2
   simp only [hu, Option.getD_some]
   exact hr'
theorem qp0 {H : Type} {enc : TypeId × Value → H} {P : Program} {w : World} {base : Nat} {spare : Nat → Bool} {held : Bool} {t e : TypeId} {fuel n c : Nat} {A : Option Addr} {x : DataW H × List MemPlace} (ht : P.underlying t = some (.slice e))
  (h : DataW.trod enc P w base spare held fuel t [.slice A n c] = some x) : A = none → c = 0 := by
 intro hA
 subst hA
 rcases open_slice ht h with ⟨hcs, _⟩ | ⟨a, len, cap, m, n', D, Pl, hcs, _⟩
 ·injection hcs with hcs
  injection hcs
 ·injection hcs with hcs
  injection hcs with h1
  cases h1
section
variable {H : Type} {enc : TypeId × Value → H} {P : Program}
theorem qpq {w : World} {base : Nat} {spare : Nat → Bool} {held : Bool} {t e : TypeId} {k fuel : Nat} {v : Value} {x : DataW H × List MemPlace} (ht : P.underlying t = some (.slice e)) (hC : P.cellsOf e = k) (hk : 0 < k)
  (h : DataW.trod enc P w base spare held fuel t [v] = some x) (hone : ∀ fuel cs y, Rows.uptoBulk y.1 < Rows.uptoBulk x.1 → DataW.trod enc P w base spare held fuel e cs = some y → ∀ u ∈ cs, u.oneCell' = true) :
  ∃ A n c css ds, v = .slice A n c ∧ Rd w k A n c (List.flatten css) ∧ css.length = n ∧ ds.length = n ∧ Rows.uptoBulkAll ds + 1 ≤ Rows.uptoBulk x.1 ∧ ∀ (i : Nat) cs d, css[i]? = some cs → ds[i]? = some d → cs.length = k ∧ ∃ fuel pl, DataW.trod enc P w base spare held fuel e cs = some (d, pl) := by
 rcases open_slice ht h with ⟨hcs, _⟩ | ⟨a, len, cap, m, n, D, Pl, hcs, _, hl, hm, hmm, hxx, hi⟩
 ·injection hcs with hcs
  exact ⟨none, 0, 0, [], [], hcs, Rd.nil, rfl, rfl, by have := q76 x.1; simp only [Rows.uptoBulkAll]; omega, by simp⟩
 ·injection hcs with hcs
  have hlm : len ≤ m := by rw [hmm]; split <;> omega
  have hsum : Rows.uptoBulkAll ((List.range len).map D) + 1 ≤ Rows.uptoBulk x.1 := by rw [hxx]; simp only [Rows.uptoBulk]; omega
  have hDb : ∀ i, i < len → Rows.uptoBulk (D i) < Rows.uptoBulk x.1 := fun i hi' => by
   have := q75 (List.mem_map.2 ⟨i, List.mem_range.2 hi', rfl⟩ : D i ∈ (List.range len).map D)
   omega
  have hex : ∀ i, i < len → ∃ cs', w.cells? base (a.add (i * k)) k = some cs' ∧ DataW.trod enc P w base spare held n e cs' = some (D i, Pl i) := fun i hi' => by
   have := hi i (by omega)
   rwa [hC] at this
  obtain ⟨C, hCC⟩ := choose_lt (α := List Value) (p := fun i cs' => w.cells? base (a.add (i * k)) k = some cs' ∧ DataW.trod enc P w base spare held n e cs' = some (D i, Pl i)) hex
  have hlen : ∀ i, i < len → (C i).length = k := fun i hi' => (World.cells?_some (hCC i hi').1).2.1
  have hcell : ∀ i, i < len → ∀ j, j < k → w.cell? (a.add (i * k + j)) = (C i)[j]? := fun i hi' j hj => by
   have := (World.cells?_some (hCC i hi').1).2.2 j hj
   rwa [Go.Deep.add_add] at this
  have hfl : ∀ m', m' ≤ len → (((List.range m').map C).flatten).length = m' * k := by
   intro m' hm'
   induction m' with
   | zero => simp
   | succ m' ih =>
    rw [List.range_succ, List.map_append, List.flatten_append, List.length_append, ih (by omega)]
    simp [hlen m' (by omega), Nat.add_mul]
  have hget : ∀ m', m' ≤ len → ∀ i j, i < m' → j < k → (((List.range m').map C).flatten)[i * k + j]? = (C i)[j]? := by
   intro m' hm'
   induction m' with
   | zero => intro i j hi'; omega
   | succ m' ih =>
    intro i j hi' hj
    rw [List.range_succ, List.map_append, List.flatten_append]
    rcases Nat.lt_or_ge i m' with h' | h'
    ·rw [List.getElem?_append_left (by
      rw [hfl m' (by omega)]
      have : (i + 1) * k ≤ m' * k := Nat.mul_le_mul_right k h'
      rw [Nat.add_mul] at this
      omega)]
     exact ih (by omega) i j h' hj
    ·have : i = m' := by omega
     subst this
     rw [List.getElem?_append_right (by rw [hfl i (by omega)]; omega), hfl i (by omega)]
     simp
  refine ⟨some a, len, cap, (List.range len).map C, (List.range len).map D, hcs, ⟨by rw [hfl len (Nat.le_refl _)], hl, hm, ?_, ?_⟩, by simp, by simp, hsum, ?_⟩
  ·intro u hu
   obtain ⟨cs, hcs', hu'⟩ := List.mem_flatten.1 hu
   obtain ⟨i, hi', rfl⟩ := List.mem_map.1 hcs'
   exact hone n _ _ (hDb i (by simpa using hi')) (hCC i (by simpa using hi')).2 u hu'
  ·intro hpos
   have hl0 : 0 < len := Nat.pos_of_mul_pos_right hpos
   have h00 := hcell 0 hl0 0 hk
   have hc0 : (C 0)[0]? = some ((C 0)[0]'(by rw [hlen 0 hl0]; exact hk)) := List.getElem?_eq_getElem _
   rw [hc0] at h00
   have hadd : (a.add (0 * k + 0)) = a := by simp [Addr.add]
   rw [hadd] at h00
   obtain ⟨b, off, spot⟩ := a
   have hsp : spot = none := by
    cases spot with
    | none => rfl
    | some s =>
     unfold World.cell? at h00
     split at h00 <;> simp at h00
   subst hsp
   refine ⟨b, off, rfl, ?_, ?_⟩
   ·rcases Nat.lt_or_ge b w.heap.size with hlt | hge
    ·exact hlt
    ·unfold World.cell? at h00
     rw [Array.getElem?_eq_none hge] at h00
     cases h00
   ·intro j u hu
    have hjl : j < len * k := by
     rw [← hfl len (Nat.le_refl _)]
     rcases Nat.lt_or_ge j ((List.range len).map C).flatten.length with h' | h'
     ·exact h'
     ·rw [List.getElem?_eq_none h'] at hu; cases hu
    have hdm : j / k * k + j % k = j := by rw [Nat.mul_comm]; exact Nat.div_add_mod j k
    have hdl : j / k < len := (Nat.div_lt_iff_lt_mul hk).2 hjl
    have h1 := hcell (j / k) hdl (j % k) (Nat.mod_lt _ hk)
    have h2 := hget len (Nat.le_refl _) (j / k) (j % k) hdl (Nat.mod_lt _ hk)
    rw [hdm] at h1 h2
    rw [h2] at hu
    rw [hu] at h1
    rw [← h1]
    unfold Addr.add
    split
    ·rename_i h0; subst h0; rfl
    ·rfl
  ·intro i cs d h1 h2
   have hi' : i < len := by
    have := (List.getElem?_eq_some_iff.1 h1).1
    simpa using this
   rw [List.getElem?_map, List.getElem?_range hi'] at h1 h2
   simp only [Option.map_some, Option.some.injEq] at h1 h2
   subst h1 h2
   exact ⟨hlen i hi', n, _, (hCC i hi').2⟩
end
def All2 {α β : Type} (R : α → β → Prop) : List α → List β → Prop
 | [], [] => True
 | a :: l, b :: m => R a b ∧ All2 R l m
 | _, _ => False
theorem qx {α β : Type} {R : α → β → Prop} : ∀ {l : List α} {m : List β}, l.length = m.length → (∀ (i : Nat) a b, l[i]? = some a → m[i]? = some b → R a b) → All2 R l m
 | [], [], _, _ => trivial
 | a :: l, b :: m, h, hR => ⟨hR 0 a b rfl rfl, qx (by simpa using h) fun i x y hx hy => hR (i + 1) x y hx hy⟩
 | [], _ :: _, h, _ => by cases h
 | _ :: _, [], h, _ => by cases h
theorem qtc {H : Type} {enc : TypeId × Value → H} {w : World} {t e : TypeId} {k fuel : Nat} {v : Value} {x : DataW H × List MemPlace} {τ : Type} (E : EC τ) (R : τ → DataW H → Prop) (ht : Tryz.prog.underlying t = some (.slice e)) (hC : Tryz.prog.cellsOf e = k) (hk : 0 < k)
  (h : DataW.trod enc Tryz.prog w 0 (fun _ => true) true fuel t [v] = some x)
  (hE : ∀ fuel cs y, Rows.uptoBulk y.1 < Rows.uptoBulk x.1 → DataW.trod enc Tryz.prog w 0 (fun _ => true) true fuel e cs = some y → ∃ a : τ, RepL (Zw w) cs (E.enc a) ∧ R a y.1) :
  ∃ (l : List τ) (ds : List (DataW H)), RepC (Zw w) v (.sl (E.encL l)) ∧ Rows.uptoBulkAll ds + 1 ≤ Rows.uptoBulk x.1 ∧ All2 R l ds := by
 obtain ⟨A, n, c, css, ds, hv, hr, hn, hn', hsum, hcs⟩ := qpq ht hC hk h (fun fuel cs y hb hy u hu => by
  obtain ⟨a, ha, _⟩ := hE fuel cs y hb hy
  obtain ⟨i, hi, rfl⟩ := List.getElem_of_mem hu
  have hx : i < (E.enc a).length := by rw [← ha.len]; exact hi
  exact (ha.get i _ _ (List.getElem?_eq_getElem hi) (List.getElem?_eq_getElem hx)).one)
 subst hv
 haveI : Inhabited τ := ⟨E.dec []⟩
 have hall : ∀ i, i < css.length → ∃ a : τ, (∀ cs, css[i]? = some cs → RepL (Zw w) cs (E.enc a)) ∧ (∀ d, ds[i]? = some d → R a d) := fun i hi => by
  have hi' : i < ds.length := by omega
  obtain ⟨_, fuel, pl, hy⟩ := hcs i _ _ (List.getElem?_eq_getElem hi) (List.getElem?_eq_getElem hi')
  have hb := q75 (List.getElem_mem hi')
  obtain ⟨a, ha, hra⟩ := hE fuel _ _ (by show Rows.uptoBulk ds[i] < _; omega) hy
  exact ⟨a, fun cs h => by rw [List.getElem?_eq_getElem hi] at h; injection h with h; subst h; exact ha, fun d h => by rw [List.getElem?_eq_getElem hi'] at h; injection h with h; subst h; exact hra⟩
 obtain ⟨F, hF⟩ := choose_lt (α := τ) (n := css.length) hall
 refine ⟨(List.range css.length).map F, ds, rd_rep hr hn (qp0 ht h) hk (fun cs hc => by
  obtain ⟨i, hi, rfl⟩ := List.getElem_of_mem hc
  exact (hcs i _ _ (List.getElem?_eq_getElem hi) (List.getElem?_eq_getElem (show i < ds.length by omega))).1) (by simp [EC.encL]) ?_, hsum, qx (by simp; omega) ?_⟩
 ·intro i cs e h1 h2
  have hi : i < css.length := (List.getElem?_eq_some_iff.1 h1).1
  rw [EC.encL, List.getElem?_map, List.getElem?_map, List.getElem?_range hi] at h2
  simp only [Option.map_some, Option.some.injEq] at h2
  subst h2
  exact (hF i hi).1 cs h1
 ·intro i a d h1 h2
  have hi : i < css.length := by have := (List.getElem?_eq_some_iff.1 h1).1; simpa using this
  rw [List.getElem?_map, List.getElem?_range hi] at h1
  simp only [Option.map_some, Option.some.injEq] at h1
  subst h1
  exact (hF i hi).2 d h2
end Go.Proofs.YtokahibbkdbndaaGreatDoor
