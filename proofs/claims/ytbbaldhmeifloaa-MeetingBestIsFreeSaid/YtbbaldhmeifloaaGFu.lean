/- Functions of the program as plain functions: made by program from the machine. -/
import Derived.Test.YtbbaldhmeifloaaGB
namespace Go.Proofs.Ytbbaldhmeifloaa
open Go.RowKit
set_option maxRecDepth 100000
def ubad_ca : Cod (List V) (Int × Int) := (lOne (vAgg (lCons (vC (cInt .i64)) (lOne (vC (cInt .i64))))))
def ubad_cr : Cod (V × List B) Bool := (cFstU (cPair (vC cBool) lNil))
noncomputable def ubad_s (p_From : Int) (p_To : Int) : Option Bool := fS Try.prog lv X0 67 ubad_ca ubad_cr (p_From, p_To)
noncomputable def ubad_t (p_From : Int) (p_To : Int) : Option Bool :=
  (some (decide (p_From ≥ p_To)))
theorem ubad_eq {p_From : Int} {p_To : Int} {r : Bool} (h : ubad_t p_From p_To = some r) : ubad_s p_From p_To = some r :=
  fS_tree (es := tab0) (hs := []) [] Try.func67 rfl (by kernel_rfl) rfl (by kernel_rfl) (by kernel_rfl) trivial trivial (by kernel_rfl) h
noncomputable def ubad_e : Ent Try.prog lv X0 := entS Try.prog lv X0 67 [] ubad_ca ubad_cr (fun x => ubad_s x.1 x.2) (fun _ _ h => fS_call h)
noncomputable def tab_ubad : List (Ent Try.prog lv X0) := ubad_e :: tab0
structure S58 where
  From : Int
  To : Int
def ec_58 : EC S58 where
  enc x := [.int .i64 x.From, .int .i64 x.To]
  dec c := ⟨intOf (c.getD 0 .ne), intOf (c.getD 1 .ne)⟩
  is c := isE [.int .i64, .int .i64] 0 c
  enc_dec h := decE_eq h
  dec_enc x := by rfl
  is_enc x := by simp [isE, isK]
theorem enc_58 (x : S58) : ec_58.enc x = [.int .i64 x.From, .int .i64 x.To] := rfl
theorem isE_58 (xs : List S58) (n : Nat) : isE [.int .i64, .int .i64] 0 ((ec_58.encL xs).getD n []) = decide (n < xs.length) := by
  by_cases h : n < xs.length
  · simp only [EC.getD_lt _ _ h]; simp [enc_58, isE, isK, h]
  · simp only [EC.getD_ge _ _ (Nat.not_lt.1 h)]; simp [isE, isK, h]
theorem at_58_0 (xs : List S58) (n : Nat) : intOf (((ec_58.encL xs).getD n []).getD 0 .ne) = (xs.getD n (ec_58.dec [])).From := by
  by_cases h : n < xs.length
  · simp only [EC.getD_lt _ _ h]; simp [enc_58, h, intOf, List.getD_eq_getElem?_getD]
  · simp only [EC.getD_ge _ _ (Nat.not_lt.1 h)]; simp [Nat.not_lt.1 h, ec_58, intOf, List.getD_eq_getElem?_getD]
theorem at_58_1 (xs : List S58) (n : Nat) : intOf (((ec_58.encL xs).getD n []).getD 1 .ne) = (xs.getD n (ec_58.dec [])).To := by
  by_cases h : n < xs.length
  · simp only [EC.getD_lt _ _ h]; simp [enc_58, h, intOf, List.getD_eq_getElem?_getD]
  · simp only [EC.getD_ge _ _ (Nat.not_lt.1 h)]; simp [Nat.not_lt.1 h, ec_58, intOf, List.getD_eq_getElem?_getD]
theorem lit_58 (a0 : Int) (a1 : Int) : ([.int .i64 a0, .int .i64 a1] : List C) = ec_58.enc (⟨a0, a1⟩ : S58) := rfl
theorem apd_58 (xs : List S58) (a0 : Int) (a1 : Int) : ec_58.encL xs ++ [[.int .i64 a0, .int .i64 a1]] = ec_58.encL (xs ++ [(⟨a0, a1⟩ : S58)]) := by rw [lit_58]; simp [EC.encL]
theorem len_58 (xs : List S58) (n : Nat) (h : n < xs.length) : ((ec_58.encL xs).getD n []).length = 2 := by rw [EC.getD_lt _ _ h]; rfl
theorem all_58 (xs : List S58) : (ec_58.encL xs).all (fun (el : List C) => el.length == 2) = true := by induction xs with | nil => rfl | cons x xs ih => first | (simp [EC.encL, enc_58]; done) | simpa [EC.encL, enc_58] using ih
theorem set_58_0_2 (xs : List S58) (n : Nat) (a0 : Int) (a1 : Int) : (ec_58.encL xs).set n (splice ((ec_58.encL xs).getD n []) 0 [.int .i64 a0, .int .i64 a1]) = ec_58.encL (xs.set n ({ xs.getD n (ec_58.dec []) with From := a0, To := a1 })) := by
  by_cases h : n < xs.length
  · rw [EC.getD_lt _ _ h]; simp [EC.encL, List.map_set, enc_58, splice]
  · simp [EC.encL, List.set_eq_of_length_le, Nat.not_lt.1 h]
theorem set_58_0_1 (xs : List S58) (n : Nat) (a0 : Int) : (ec_58.encL xs).set n (splice ((ec_58.encL xs).getD n []) 0 [.int .i64 a0]) = ec_58.encL (xs.set n ({ xs.getD n (ec_58.dec []) with From := a0 })) := by
  by_cases h : n < xs.length
  · rw [EC.getD_lt _ _ h]; simp [EC.encL, List.map_set, enc_58, splice, List.getD_eq_getElem?_getD, h]
  · simp [EC.encL, List.set_eq_of_length_le, Nat.not_lt.1 h]
theorem set_58_1_1 (xs : List S58) (n : Nat) (a1 : Int) : (ec_58.encL xs).set n (splice ((ec_58.encL xs).getD n []) 1 [.int .i64 a1]) = ec_58.encL (xs.set n ({ xs.getD n (ec_58.dec []) with To := a1 })) := by
  by_cases h : n < xs.length
  · rw [EC.getD_lt _ _ h]; simp [EC.encL, List.map_set, enc_58, splice, List.getD_eq_getElem?_getD, h]
  · simp [EC.encL, List.set_eq_of_length_le, Nat.not_lt.1 h]
def uidx_ca : Cod (List V) ((List S58) × Unit) := (lCons (vC (cSl ec_58)) (lOne (vFn 67 lNil)))
def uidx_l2_s : SC (((List S58) × Unit × Int × Int) × Unit) := sLS [0, 1, 7, 8] (lCons (vC (cSl ec_58)) (lCons (vFn 67 lNil) (lCons (vC (cInt .i64)) (lOne (vC (cInt .i64)))))) lNil [] [] (by decide) (fun _ => rfl)
def uidx_l2_o2 : SC (((List S58) × Unit × Int × Int × Bool) × Unit) := sLS [0, 1, 7, 8, 9] (lCons (vC (cSl ec_58)) (lCons (vFn 67 lNil) (lCons (vC (cInt .i64)) (lCons (vC (cInt .i64)) (lOne (vC cBool)))))) lNil [] [] (by decide) (fun _ => rfl)
def uidx_l2_o1 : SC (Int × Unit) := sLS [4] (lOne (vC (cInt .i64))) lNil [] [] (by decide) (fun _ => rfl)
def uidx_l2_o : OC ((Int × Unit) ⊕ (((List S58) × Unit × Int × Int × Bool) × Unit)) := oOr 1 uidx_l2_o1 (oAt 2 uidx_l2_o2) (fun x => (by decide : (2 : Nat) ≠ 1))
noncomputable def uidx_l2 (s : (List S58)) (t7 : Int) (t8 : Int) : Option ((Int × Unit) ⊕ (((List S58) × Unit × Int × Int × Bool) × Unit)) := lS Try.prog lv X0 86 19 (getLoop (cdF Try.f86) 2) uidx_l2_s uidx_l2_o ((s, (), t7, t8), ())
noncomputable def uidx_l2_t (s : (List S58)) (t7 : Int) (t8 : Int) : Option ((Int × Unit) ⊕ (((List S58) × Unit × Int × Int × Bool) × Unit)) :=
  (brE (decide (t8 < t7))
  (gdE (decide ((0 : Int) ≤ t8)) <|
    (gdE ((decide ((Int.toNat t8) < (List.length (EC.encL ec_58 s)))) && (isE [(K1.int Go.IntKind.i64), (K1.int Go.IntKind.i64)] (0 : Nat) (List.getD (EC.encL ec_58 s) (Int.toNat t8) []))) <|
      (Option.bind (ubad_s (intOf (List.getD (List.getD (EC.encL ec_58 s) (Int.toNat t8) []) (0 : Nat) C.ne)) (intOf (List.getD (List.getD (EC.encL ec_58 s) (Int.toNat t8) []) (1 : Nat) C.ne))) fun r0 =>
        (brE r0
          (some (.inl (t8, ())))
          (gdE (EC.isL ec_58 (EC.encL ec_58 s)) <|
            (uidx_l2 (EC.decL ec_58 (EC.encL ec_58 s)) t7 (Go.IntKind.wrap Go.IntKind.i64 (t8 + (1 : Int)))))))))
  (gdE (EC.isL ec_58 (EC.encL ec_58 s)) <|
    (some (.inr (((EC.decL ec_58 (EC.encL ec_58 s)), ((), (t7, (t8, false)))), ())))))
theorem uidx_l2_eq {s : (List S58)} {t7 : Int} {t8 : Int} {r : ((Int × Unit) ⊕ (((List S58) × Unit × Int × Int × Bool) × Unit))} (h : uidx_l2_t s t7 t8 = some r) : uidx_l2 s t7 t8 = some r :=
  lS_tree (es := tab_ubad) (hs := []) [] (by kernel_rfl) trivial trivial (by kernel_rfl) h
noncomputable def uidx_l2_e : LEnt Try.prog lv X0 86 19 := lentS Try.prog lv X0 2 (getLoop (cdF Try.f86) 2) uidx_l2_s uidx_l2_o (fun x => uidx_l2 x.1.1 x.1.2.2.1 x.1.2.2.2) (fun _ _ h => lS_from h)
def uidx_cr : Cod (V × List B) Int := (cFstU (cPair (vC (cInt .i64)) lNil))
noncomputable def uidx_s (s : (List S58)) : Option Int := fS Try.prog lv X0 86 uidx_ca uidx_cr (s, ())
noncomputable def uidx_t (s : (List S58)) : Option Int :=
  (gdE (EC.isL ec_58 (EC.encL ec_58 s)) <|
  (Option.bind (uidx_l2 (EC.decL ec_58 (EC.encL ec_58 s)) (((List.length (EC.encL ec_58 s)) : Nat) : Int) (0 : Int)) fun r0 =>
    (Sum.elim (fun r1 => (some (r1).1))
      (fun r1 => (some (-1 : Int))) r0)))
theorem uidx_eq {s : (List S58)} {r : Int} (h : uidx_t s = some r) : uidx_s s = some r :=
  fS_tree (es := tab_ubad) (hs := []) [uidx_l2_e] Try.func86 rfl (by kernel_rfl) rfl (by kernel_rfl) (by kernel_rfl) ⟨⟨_, rfl, rfl⟩, trivial⟩ trivial (by kernel_rfl) h
noncomputable def uidx_e : Ent Try.prog lv X0 := entS Try.prog lv X0 86 [67] uidx_ca uidx_cr (fun x => uidx_s x.1) (fun _ _ h => fS_call h)
noncomputable def tab_uidx : List (Ent Try.prog lv X0) := uidx_e :: tab_ubad
def uclone_ca : Cod (List V) (List S58) := (lOne (vC (cSl ec_58)))
def uclone_cr : Cod (V × List B) (Nat × (List S58)) := (cPair (vRow 0) (lOne (bRow ec_58)))
noncomputable def uclone_s (s : (List S58)) : Option (Nat × (List S58)) := fS Try.prog lv X0 66 uclone_ca uclone_cr s
noncomputable def uclone_t (s : (List S58)) : Option (Nat × (List S58)) :=
  (gdE (!(List.isEmpty (EC.encL ec_58 s))) <|
  (gdE ((((List.all (EC.encL ec_58 s) (fun (el : (List C)) => ((List.length el) == (2 : Nat)))) && (List.all [] (fun (el : (List C)) => ((List.length el) == (2 : Nat))))) && (decide ((((((0 : Nat) + (List.length (EC.encL ec_58 s))) + (((0 : Nat) + (List.length (EC.encL ec_58 s))) / (4 : Nat))) + (192 : Nat)) * (16 : Nat)) ≤ (281474976710656 : Nat)))) && (decide (((0 : Nat) + (List.length (EC.encL ec_58 s))) ≤ (9223372036854775807 : Nat)))) <|
    (gdE (EC.isL ec_58 ([] ++ (EC.encL ec_58 s))) <|
      (some (((0 : Nat) + (List.length (EC.encL ec_58 s))), (EC.decL ec_58 ([] ++ (EC.encL ec_58 s))))))))
theorem uclone_eq {s : (List S58)} {r : (Nat × (List S58))} (h : uclone_t s = some r) : uclone_s s = some r := by
  cases s with
  | nil => exact nomatch (show (none : Option (Nat × (List S58))) = some r from h)
  | cons x xs => exact fS_tree (es := tab_uidx) (hs := []) [] Try.func66 rfl (by kernel_rfl) rfl (by kernel_rfl) (by kernel_rfl) trivial trivial (by kernel_rfl) h
theorem uclone_nil : uclone_s [] = some (0, []) := fS_of (r := (0, [])) (by unfold Call callD; rfl)
noncomputable def uclone_e : Ent Try.prog lv X0 := entS Try.prog lv X0 66 [] uclone_ca uclone_cr (fun x => uclone_s x) (fun _ _ h => fS_call h)
noncomputable def tab_uclone : List (Ent Try.prog lv X0) := uclone_e :: tab_uidx
def udel_l5_s : SC ((Nat × Unit × Int × Int) × (List S58)) := sLS [0, 1, 5, 6] (lCons (vRow 0) (lCons (vFn 67 lNil) (lCons (vC (cInt .i64)) (lOne (vC (cInt .i64)))))) (lOne (oSome (bRow ec_58))) [false] [] (by decide) (fun _ => rfl)
def udel_l5_o2 : SC ((Nat × Unit × Int × Int × Bool) × (List S58)) := sLS [0, 1, 5, 6, 19] (lCons (vRow 0) (lCons (vFn 67 lNil) (lCons (vC (cInt .i64)) (lCons (vC (cInt .i64)) (lOne (vC cBool)))))) (lOne (oSome (bRow ec_58))) [false] [] (by decide) (fun _ => rfl)
def udel_l5_o : OC ((Nat × Unit × Int × Int × Bool) × (List S58)) := oAt 2 udel_l5_o2
noncomputable def udel_l5 (s : Nat) (i : Int) (j : Int) (b0 : (List S58)) : Option ((Nat × Unit × Int × Int × Bool) × (List S58)) := lS Try.prog lv X0 65 42 (getLoop (cdF Try.f65) 5) udel_l5_s udel_l5_o ((s, (), i, j), b0)
noncomputable def udel_l5_t (s : Nat) (i : Int) (j : Int) (b0 : (List S58)) : Option ((Nat × Unit × Int × Int × Bool) × (List S58)) :=
  (brE (decide (j < ((s : Nat) : Int)))
  (gdE ((decide ((0 : Int) ≤ j)) && (decide (j < ((s : Nat) : Int)))) <|
    (gdE ((decide ((Int.toNat j) < (List.length (EC.encL ec_58 b0)))) && ((List.length (List.getD (EC.encL ec_58 b0) (Int.toNat j) [])) == (2 : Nat))) <|
      (gdE (isP [(K1.int Go.IntKind.i64), (K1.int Go.IntKind.i64)] (0 : Nat) (List.getD (EC.encL ec_58 b0) (Int.toNat j) [])) <|
        (Option.bind (ubad_s (intOf (List.getD (List.getD (EC.encL ec_58 b0) (Int.toNat j) []) (0 : Nat) C.ne)) (intOf (List.getD (List.getD (EC.encL ec_58 b0) (Int.toNat j) []) (1 : Nat) C.ne))) fun r0 =>
          (brE (!r0)
            (gdE ((decide ((0 : Int) ≤ i)) && (decide (i < ((s : Nat) : Int)))) <|
              (gdE ((decide ((Int.toNat i) < (List.length (EC.encL ec_58 b0)))) && ((List.length (List.getD (EC.encL ec_58 b0) (Int.toNat i) [])) == (2 : Nat))) <|
                (gdE (EC.isL ec_58 (List.set (EC.encL ec_58 b0) (Int.toNat i) (splice (List.getD (EC.encL ec_58 b0) (Int.toNat i) []) (0 : Nat) [(C.int Go.IntKind.i64 (intOf (List.getD (List.getD (EC.encL ec_58 b0) (Int.toNat j) []) (0 : Nat) C.ne))), (C.int Go.IntKind.i64 (intOf (List.getD (List.getD (EC.encL ec_58 b0) (Int.toNat j) []) (1 : Nat) C.ne)))]))) <|
                  (udel_l5 s (Go.IntKind.wrap Go.IntKind.i64 (i + (1 : Int))) (Go.IntKind.wrap Go.IntKind.i64 (j + (1 : Int))) (EC.decL ec_58 (List.set (EC.encL ec_58 b0) (Int.toNat i) (splice (List.getD (EC.encL ec_58 b0) (Int.toNat i) []) (0 : Nat) [(C.int Go.IntKind.i64 (intOf (List.getD (List.getD (EC.encL ec_58 b0) (Int.toNat j) []) (0 : Nat) C.ne))), (C.int Go.IntKind.i64 (intOf (List.getD (List.getD (EC.encL ec_58 b0) (Int.toNat j) []) (1 : Nat) C.ne)))])))))))
            (gdE (EC.isL ec_58 (EC.encL ec_58 b0)) <|
              (udel_l5 s i (Go.IntKind.wrap Go.IntKind.i64 (j + (1 : Int))) (EC.decL ec_58 (EC.encL ec_58 b0)))))))))
  (gdE (EC.isL ec_58 (EC.encL ec_58 b0)) <|
    (some ((s, ((), (i, (j, false)))), (EC.decL ec_58 (EC.encL ec_58 b0))))))
theorem udel_l5_eq {s : Nat} {i : Int} {j : Int} {b0 : (List S58)} {r : ((Nat × Unit × Int × Int × Bool) × (List S58))} (h : udel_l5_t s i j b0 = some r) : udel_l5 s i j b0 = some r :=
  lS_tree (es := tab_uclone) (hs := []) [] (by kernel_rfl) trivial trivial (by kernel_rfl) h
noncomputable def udel_l5_e : LEnt Try.prog lv X0 65 42 := lentS Try.prog lv X0 5 (getLoop (cdF Try.f65) 5) udel_l5_s udel_l5_o (fun x => udel_l5 x.1.1 x.1.2.2.1 x.1.2.2.2 x.2) (fun _ _ h => lS_from h)
def union_l5_s : SC ((Nat × (List S58) × Int × Int) × (List S58)) := sLS [3, 12, 13, 14] (lCons (vRow 0) (lCons (vC (cSl ec_58)) (lCons (vC (cInt .i64)) (lOne (vC (cInt .i64)))))) (lOne (oSome (bRow ec_58))) [false] [] (by decide) (fun _ => rfl)
def union_l5_o2 : SC ((Nat × (List S58) × Int × Int × Bool) × (List S58)) := sLS [3, 12, 13, 14, 15] (lCons (vRow 0) (lCons (vC (cSl ec_58)) (lCons (vC (cInt .i64)) (lCons (vC (cInt .i64)) (lOne (vC cBool)))))) (lOne (oSome (bRow ec_58))) [false] [] (by decide) (fun _ => rfl)
def union_l5_o : OC ((Nat × (List S58) × Int × Int × Bool) × (List S58)) := oAt 2 union_l5_o2
noncomputable def union_l5 (out : Nat) (t12 : (List S58)) (t13 : Int) (t14 : Int) (b0 : (List S58)) : Option ((Nat × (List S58) × Int × Int × Bool) × (List S58)) := lS Try.prog lv X0 44 51 (getLoop (cdF Try.f44) 5) union_l5_s union_l5_o ((out, t12, t13, t14), b0)
noncomputable def union_l5_t (out : Nat) (t12 : (List S58)) (t13 : Int) (t14 : Int) (b0 : (List S58)) : Option ((Nat × (List S58) × Int × Int × Bool) × (List S58)) :=
  (brE (decide (t14 < t13))
  (gdE (decide ((0 : Int) ≤ t14)) <|
    (gdE ((decide ((Int.toNat t14) < (List.length (EC.encL ec_58 t12)))) && (isE [(K1.int Go.IntKind.i64), (K1.int Go.IntKind.i64)] (0 : Nat) (List.getD (EC.encL ec_58 t12) (Int.toNat t14) []))) <|
      (brE ((decide ((Go.IntKind.wrap Go.IntKind.i64 (((out : Nat) : Int) - (1 : Int))) ≥ (0 : Int))) == true)
        (gdE ((decide ((0 : Int) ≤ (Go.IntKind.wrap Go.IntKind.i64 (((out : Nat) : Int) - (1 : Int))))) && (decide ((Go.IntKind.wrap Go.IntKind.i64 (((out : Nat) : Int) - (1 : Int))) < ((out : Nat) : Int)))) <|
          (gdE ((decide ((Int.toNat (Go.IntKind.wrap Go.IntKind.i64 (((out : Nat) : Int) - (1 : Int)))) < (List.length (EC.encL ec_58 b0)))) && ((List.length (List.getD (EC.encL ec_58 b0) (Int.toNat (Go.IntKind.wrap Go.IntKind.i64 (((out : Nat) : Int) - (1 : Int)))) [])) == (2 : Nat))) <|
            (gdE (isP [(K1.int Go.IntKind.i64)] (1 : Nat) (List.getD (EC.encL ec_58 b0) (Int.toNat (Go.IntKind.wrap Go.IntKind.i64 (((out : Nat) : Int) - (1 : Int)))) [])) <|
              (brE (decide ((intOf (List.getD (List.getD (EC.encL ec_58 t12) (Int.toNat t14) []) (0 : Nat) C.ne)) ≤ (intOf (List.getD (List.getD (EC.encL ec_58 b0) (Int.toNat (Go.IntKind.wrap Go.IntKind.i64 (((out : Nat) : Int) - (1 : Int)))) []) (1 : Nat) C.ne))))
                (gdE ((decide ((0 : Int) ≤ (Go.IntKind.wrap Go.IntKind.i64 (((out : Nat) : Int) - (1 : Int))))) && (decide ((Go.IntKind.wrap Go.IntKind.i64 (((out : Nat) : Int) - (1 : Int))) < ((out : Nat) : Int)))) <|
                  (gdE ((decide ((Int.toNat (Go.IntKind.wrap Go.IntKind.i64 (((out : Nat) : Int) - (1 : Int)))) < (List.length (EC.encL ec_58 b0)))) && ((List.length (List.getD (EC.encL ec_58 b0) (Int.toNat (Go.IntKind.wrap Go.IntKind.i64 (((out : Nat) : Int) - (1 : Int)))) [])) == (2 : Nat))) <|
                    (gdE (isP [(K1.int Go.IntKind.i64)] (1 : Nat) (List.getD (EC.encL ec_58 b0) (Int.toNat (Go.IntKind.wrap Go.IntKind.i64 (((out : Nat) : Int) - (1 : Int)))) [])) <|
                      (gdE ((decide ((0 : Int) ≤ (Go.IntKind.wrap Go.IntKind.i64 (((out : Nat) : Int) - (1 : Int))))) && (decide ((Go.IntKind.wrap Go.IntKind.i64 (((out : Nat) : Int) - (1 : Int))) < ((out : Nat) : Int)))) <|
                        (gdE ((decide ((Int.toNat (Go.IntKind.wrap Go.IntKind.i64 (((out : Nat) : Int) - (1 : Int)))) < (List.length (EC.encL ec_58 b0)))) && ((List.length (List.getD (EC.encL ec_58 b0) (Int.toNat (Go.IntKind.wrap Go.IntKind.i64 (((out : Nat) : Int) - (1 : Int)))) [])) == (2 : Nat))) <|
                          (gdE (EC.isL ec_58 (EC.encL ec_58 t12)) <|
                            (gdE (EC.isL ec_58 (List.set (EC.encL ec_58 b0) (Int.toNat (Go.IntKind.wrap Go.IntKind.i64 (((out : Nat) : Int) - (1 : Int)))) (splice (List.getD (EC.encL ec_58 b0) (Int.toNat (Go.IntKind.wrap Go.IntKind.i64 (((out : Nat) : Int) - (1 : Int)))) []) (1 : Nat) [(C.int Go.IntKind.i64 (ite (true = true) (ite ((intOf (List.getD (List.getD (EC.encL ec_58 b0) (Int.toNat (Go.IntKind.wrap Go.IntKind.i64 (((out : Nat) : Int) - (1 : Int)))) []) (1 : Nat) C.ne)) < (intOf (List.getD (List.getD (EC.encL ec_58 t12) (Int.toNat t14) []) (1 : Nat) C.ne))) (intOf (List.getD (List.getD (EC.encL ec_58 t12) (Int.toNat t14) []) (1 : Nat) C.ne)) (intOf (List.getD (List.getD (EC.encL ec_58 b0) (Int.toNat (Go.IntKind.wrap Go.IntKind.i64 (((out : Nat) : Int) - (1 : Int)))) []) (1 : Nat) C.ne))) (ite ((intOf (List.getD (List.getD (EC.encL ec_58 t12) (Int.toNat t14) []) (1 : Nat) C.ne)) < (intOf (List.getD (List.getD (EC.encL ec_58 b0) (Int.toNat (Go.IntKind.wrap Go.IntKind.i64 (((out : Nat) : Int) - (1 : Int)))) []) (1 : Nat) C.ne))) (intOf (List.getD (List.getD (EC.encL ec_58 t12) (Int.toNat t14) []) (1 : Nat) C.ne)) (intOf (List.getD (List.getD (EC.encL ec_58 b0) (Int.toNat (Go.IntKind.wrap Go.IntKind.i64 (((out : Nat) : Int) - (1 : Int)))) []) (1 : Nat) C.ne)))))]))) <|
                              (union_l5 out (EC.decL ec_58 (EC.encL ec_58 t12)) t13 (Go.IntKind.wrap Go.IntKind.i64 (t14 + (1 : Int))) (EC.decL ec_58 (List.set (EC.encL ec_58 b0) (Int.toNat (Go.IntKind.wrap Go.IntKind.i64 (((out : Nat) : Int) - (1 : Int)))) (splice (List.getD (EC.encL ec_58 b0) (Int.toNat (Go.IntKind.wrap Go.IntKind.i64 (((out : Nat) : Int) - (1 : Int)))) []) (1 : Nat) [(C.int Go.IntKind.i64 (ite (true = true) (ite ((intOf (List.getD (List.getD (EC.encL ec_58 b0) (Int.toNat (Go.IntKind.wrap Go.IntKind.i64 (((out : Nat) : Int) - (1 : Int)))) []) (1 : Nat) C.ne)) < (intOf (List.getD (List.getD (EC.encL ec_58 t12) (Int.toNat t14) []) (1 : Nat) C.ne))) (intOf (List.getD (List.getD (EC.encL ec_58 t12) (Int.toNat t14) []) (1 : Nat) C.ne)) (intOf (List.getD (List.getD (EC.encL ec_58 b0) (Int.toNat (Go.IntKind.wrap Go.IntKind.i64 (((out : Nat) : Int) - (1 : Int)))) []) (1 : Nat) C.ne))) (ite ((intOf (List.getD (List.getD (EC.encL ec_58 t12) (Int.toNat t14) []) (1 : Nat) C.ne)) < (intOf (List.getD (List.getD (EC.encL ec_58 b0) (Int.toNat (Go.IntKind.wrap Go.IntKind.i64 (((out : Nat) : Int) - (1 : Int)))) []) (1 : Nat) C.ne))) (intOf (List.getD (List.getD (EC.encL ec_58 t12) (Int.toNat t14) []) (1 : Nat) C.ne)) (intOf (List.getD (List.getD (EC.encL ec_58 b0) (Int.toNat (Go.IntKind.wrap Go.IntKind.i64 (((out : Nat) : Int) - (1 : Int)))) []) (1 : Nat) C.ne)))))])))))))))))
                (gdE ((((List.all [[(C.int Go.IntKind.i64 (intOf (List.getD (List.getD (EC.encL ec_58 t12) (Int.toNat t14) []) (0 : Nat) C.ne))), (C.int Go.IntKind.i64 (intOf (List.getD (List.getD (EC.encL ec_58 t12) (Int.toNat t14) []) (1 : Nat) C.ne)))]] (fun (el : (List C)) => ((List.length el) == (2 : Nat)))) && (List.all (EC.encL ec_58 b0) (fun (el : (List C)) => ((List.length el) == (2 : Nat))))) && (decide (((((out + (List.length [[(C.int Go.IntKind.i64 (intOf (List.getD (List.getD (EC.encL ec_58 t12) (Int.toNat t14) []) (0 : Nat) C.ne))), (C.int Go.IntKind.i64 (intOf (List.getD (List.getD (EC.encL ec_58 t12) (Int.toNat t14) []) (1 : Nat) C.ne)))]])) + ((out + (List.length [[(C.int Go.IntKind.i64 (intOf (List.getD (List.getD (EC.encL ec_58 t12) (Int.toNat t14) []) (0 : Nat) C.ne))), (C.int Go.IntKind.i64 (intOf (List.getD (List.getD (EC.encL ec_58 t12) (Int.toNat t14) []) (1 : Nat) C.ne)))]])) / (4 : Nat))) + (192 : Nat)) * (16 : Nat)) ≤ (281474976710656 : Nat)))) && (decide ((out + (List.length [[(C.int Go.IntKind.i64 (intOf (List.getD (List.getD (EC.encL ec_58 t12) (Int.toNat t14) []) (0 : Nat) C.ne))), (C.int Go.IntKind.i64 (intOf (List.getD (List.getD (EC.encL ec_58 t12) (Int.toNat t14) []) (1 : Nat) C.ne)))]])) ≤ (9223372036854775807 : Nat)))) <|
                  (gdE (EC.isL ec_58 (EC.encL ec_58 t12)) <|
                    (gdE (EC.isL ec_58 ((EC.encL ec_58 b0) ++ [[(C.int Go.IntKind.i64 (intOf (List.getD (List.getD (EC.encL ec_58 t12) (Int.toNat t14) []) (0 : Nat) C.ne))), (C.int Go.IntKind.i64 (intOf (List.getD (List.getD (EC.encL ec_58 t12) (Int.toNat t14) []) (1 : Nat) C.ne)))]])) <|
                      (union_l5 (out + (List.length [[(C.int Go.IntKind.i64 (intOf (List.getD (List.getD (EC.encL ec_58 t12) (Int.toNat t14) []) (0 : Nat) C.ne))), (C.int Go.IntKind.i64 (intOf (List.getD (List.getD (EC.encL ec_58 t12) (Int.toNat t14) []) (1 : Nat) C.ne)))]])) (EC.decL ec_58 (EC.encL ec_58 t12)) t13 (Go.IntKind.wrap Go.IntKind.i64 (t14 + (1 : Int))) (EC.decL ec_58 ((EC.encL ec_58 b0) ++ [[(C.int Go.IntKind.i64 (intOf (List.getD (List.getD (EC.encL ec_58 t12) (Int.toNat t14) []) (0 : Nat) C.ne))), (C.int Go.IntKind.i64 (intOf (List.getD (List.getD (EC.encL ec_58 t12) (Int.toNat t14) []) (1 : Nat) C.ne)))]]))))))))))
        (gdE ((((List.all [[(C.int Go.IntKind.i64 (intOf (List.getD (List.getD (EC.encL ec_58 t12) (Int.toNat t14) []) (0 : Nat) C.ne))), (C.int Go.IntKind.i64 (intOf (List.getD (List.getD (EC.encL ec_58 t12) (Int.toNat t14) []) (1 : Nat) C.ne)))]] (fun (el : (List C)) => ((List.length el) == (2 : Nat)))) && (List.all (EC.encL ec_58 b0) (fun (el : (List C)) => ((List.length el) == (2 : Nat))))) && (decide (((((out + (List.length [[(C.int Go.IntKind.i64 (intOf (List.getD (List.getD (EC.encL ec_58 t12) (Int.toNat t14) []) (0 : Nat) C.ne))), (C.int Go.IntKind.i64 (intOf (List.getD (List.getD (EC.encL ec_58 t12) (Int.toNat t14) []) (1 : Nat) C.ne)))]])) + ((out + (List.length [[(C.int Go.IntKind.i64 (intOf (List.getD (List.getD (EC.encL ec_58 t12) (Int.toNat t14) []) (0 : Nat) C.ne))), (C.int Go.IntKind.i64 (intOf (List.getD (List.getD (EC.encL ec_58 t12) (Int.toNat t14) []) (1 : Nat) C.ne)))]])) / (4 : Nat))) + (192 : Nat)) * (16 : Nat)) ≤ (281474976710656 : Nat)))) && (decide ((out + (List.length [[(C.int Go.IntKind.i64 (intOf (List.getD (List.getD (EC.encL ec_58 t12) (Int.toNat t14) []) (0 : Nat) C.ne))), (C.int Go.IntKind.i64 (intOf (List.getD (List.getD (EC.encL ec_58 t12) (Int.toNat t14) []) (1 : Nat) C.ne)))]])) ≤ (9223372036854775807 : Nat)))) <|
          (gdE (EC.isL ec_58 (EC.encL ec_58 t12)) <|
            (gdE (EC.isL ec_58 ((EC.encL ec_58 b0) ++ [[(C.int Go.IntKind.i64 (intOf (List.getD (List.getD (EC.encL ec_58 t12) (Int.toNat t14) []) (0 : Nat) C.ne))), (C.int Go.IntKind.i64 (intOf (List.getD (List.getD (EC.encL ec_58 t12) (Int.toNat t14) []) (1 : Nat) C.ne)))]])) <|
              (union_l5 (out + (List.length [[(C.int Go.IntKind.i64 (intOf (List.getD (List.getD (EC.encL ec_58 t12) (Int.toNat t14) []) (0 : Nat) C.ne))), (C.int Go.IntKind.i64 (intOf (List.getD (List.getD (EC.encL ec_58 t12) (Int.toNat t14) []) (1 : Nat) C.ne)))]])) (EC.decL ec_58 (EC.encL ec_58 t12)) t13 (Go.IntKind.wrap Go.IntKind.i64 (t14 + (1 : Int))) (EC.decL ec_58 ((EC.encL ec_58 b0) ++ [[(C.int Go.IntKind.i64 (intOf (List.getD (List.getD (EC.encL ec_58 t12) (Int.toNat t14) []) (0 : Nat) C.ne))), (C.int Go.IntKind.i64 (intOf (List.getD (List.getD (EC.encL ec_58 t12) (Int.toNat t14) []) (1 : Nat) C.ne)))]])))))))))
  (gdE (EC.isL ec_58 (EC.encL ec_58 t12)) <|
    (gdE (EC.isL ec_58 (EC.encL ec_58 b0)) <|
      (some ((out, ((EC.decL ec_58 (EC.encL ec_58 t12)), (t13, (t14, false)))), (EC.decL ec_58 (EC.encL ec_58 b0)))))))
theorem union_l5_eq {out : Nat} {t12 : (List S58)} {t13 : Int} {t14 : Int} {b0 : (List S58)} {r : ((Nat × (List S58) × Int × Int × Bool) × (List S58))} (h : union_l5_t out t12 t13 t14 b0 = some r) : union_l5 out t12 t13 t14 b0 = some r :=
  lS_tree (es := tab_uclone) (hs := []) [] (by kernel_rfl) trivial trivial (by kernel_rfl) h
noncomputable def union_l5_e : LEnt Try.prog lv X0 44 51 := lentS Try.prog lv X0 5 (getLoop (cdF Try.f44) 5) union_l5_s union_l5_o (fun x => union_l5 x.1.1 x.1.2.1 x.1.2.2.1 x.1.2.2.2 x.2) (fun _ _ h => lS_from h)
def union_g3_s : SC ((List S58) × Unit) := sLS [0] (lOne (vC (cSl ec_58))) lNil [] [] (by decide) (fun _ => rfl)
def union_g3_o1 : SC (Nat × (List S58)) := sLS [2] (lOne (vRow 0)) (lOne (oSome (bRow ec_58))) [false] [] (by decide) (fun _ => rfl)
def union_g3_o : OC (Nat × (List S58)) := oAt 1 union_g3_o1
noncomputable def union_g3 (l : (List S58)) : Option (Nat × (List S58)) := gS Try.prog lv X0 44 51 (getSeg (cdF Try.f44) 3) union_g3_s union_g3_o (l, ())
noncomputable def union_g3_t (l : (List S58)) : Option (Nat × (List S58)) :=
  (gdE (EC.isL ec_58 (EC.encL ec_58 l)) <|
  (Option.bind (union_l5 (0 : Nat) (EC.decL ec_58 (EC.encL ec_58 l)) (((List.length (EC.encL ec_58 l)) : Nat) : Int) (0 : Int) (EC.decL ec_58 [])) fun r0 =>
    (gdE (EC.isL ec_58 (EC.encL ec_58 (r0).2)) <|
      (some (((r0).1).1, (EC.decL ec_58 (EC.encL ec_58 (r0).2)))))))
theorem union_g3_eq {l : (List S58)} {r : (Nat × (List S58))} (h : union_g3_t l = some r) : union_g3 l = some r :=
  gS_tree (es := tab_uclone) (hs := []) [union_l5_e] (by kernel_rfl) ⟨⟨_, rfl, rfl⟩, trivial⟩ trivial (by kernel_rfl) h
noncomputable def union_g3_e : LEnt Try.prog lv X0 44 51 := gentS Try.prog lv X0 3 (getSeg (cdF Try.f44) 3) (by kernel_rfl) union_g3_s union_g3_o (fun x => union_g3 x.1) (fun _ _ h => gS_from h)
end Go.Proofs.Ytbbaldhmeifloaa
