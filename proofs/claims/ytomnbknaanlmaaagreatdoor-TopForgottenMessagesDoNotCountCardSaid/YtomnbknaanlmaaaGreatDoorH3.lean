/- Functions of the program asx plain functions: made by program from the machine. -/
import Derived.Test.YtomnbknaanlmaaaGreatDoorZ11
namespace Go.Proofs.YtomnbknaanlmaaaGreatDoor
open Go.RowKit
set_option maxRecDepth 100000
noncomputable section
def classify_distance_ca : Cod (List V) Int := (lOne (vC (cInt .i64)))
def classify_distance_cr : Cod (V × List B) Int := (cFstU (cPair (vC (cInt .i64)) lNil))
def classify_distance_s (n : Int) : Option Int := fS Tryz.prog lv X0 29 classify_distance_ca classify_distance_cr n
def classify_distance_t (n : Int) : Option Int :=
 (some (ite (true = true) (ite ((IntKind.wrap .i64 (n - (500 : Int))) < (IntKind.wrap .i64 ((500 : Int) - n))) (IntKind.wrap .i64 ((500 : Int) - n)) (IntKind.wrap .i64 (n - (500 : Int)))) (ite ((IntKind.wrap .i64 ((500 : Int) - n)) < (IntKind.wrap .i64 (n - (500 : Int)))) (IntKind.wrap .i64 ((500 : Int) - n)) (IntKind.wrap .i64 (n - (500 : Int))))))
theorem classify_distance_eq {n : Int} {r : Int} (h : classify_distance_t n = some r) : classify_distance_s n = some r :=
  fS_tree (es := tab_classify_Forget) (hs := htab_sd3) [] Tryz.func29 rfl (by kernel_rfl) rfl (by kernel_rfl) (by kernel_rfl) trivial trivial (by kernel_rfl) h
def classify_distance_e : Ent Tryz.prog lv X0 := entS Tryz.prog lv X0 29 [] classify_distance_ca classify_distance_cr (fun x => classify_distance_s x) (fun _ _ h => fS_call h)
def tab_classify_distance : List (Ent Tryz.prog lv X0) := classify_distance_e :: tab_classify_Forget
def classify_Score_1_ca : Cod (List V) (Int × Int) := (lCons (vC (cInt .i64)) (lOne (vC (cInt .i64))))
def classify_Score_1_cr : Cod (V × List B) Int := (cFstU (cPair (vC (cInt .i64)) lNil))
def classify_Score_1_s (a : Int) (b : Int) : Option Int := fS Tryz.prog lv X0 28 classify_Score_1_ca classify_Score_1_cr (a, b)
def classify_Score_1_t (a : Int) (b : Int) : Option Int :=
 (Option.bind (classify_distance_s b) fun r0 =>
 (Option.bind (classify_distance_s a) fun r1 =>
 (some (IntKind.wrap .i64 (r0 - r1)))))
theorem classify_Score_1_eq {a : Int} {b : Int} {r : Int} (h : classify_Score_1_t a b = some r) : classify_Score_1_s a b = some r :=
  fS_tree (es := tab_classify_distance) (hs := htab_sd3) [] Tryz.func28 rfl (by kernel_rfl) rfl (by kernel_rfl) (by kernel_rfl) trivial trivial (by kernel_rfl) h
def classify_Score_1_e : Ent Tryz.prog lv X0 := entS Tryz.prog lv X0 28 [] classify_Score_1_ca classify_Score_1_cr (fun x => classify_Score_1_s x.1 x.2) (fun _ _ h => fS_call h)
def tab_classify_Score_1 : List (Ent Tryz.prog lv X0) := classify_Score_1_e :: tab_classify_distance
def ec_3 : EC Int where
  enc x := [.int .i64 x]
  dec c := intOf (c.getD 0 .ne)
  is c := isE [.int .i64] 0 c
  enc_dec h := decE_eq h
  dec_enc x := by rfl
  is_enc x := by simp [isE, isK]
theorem enc_3 (x : Int) : ec_3.enc x = [.int .i64 x] := rfl
theorem isE_3 (xs : List Int) (n : Nat) : isE [.int .i64] 0 ((ec_3.encL xs).getD n []) = decide (n < xs.length) := by
  by_cases h : n < xs.length
  · simp only [EC.getD_lt _ _ h]; simp [enc_3, isE, isK, h]
  · simp only [EC.getD_ge _ _ (Nat.not_lt.1 h)]; simp [isE, isK, h]
theorem at_3_0 (xs : List Int) (n : Nat) : intOf (((ec_3.encL xs).getD n []).getD 0 .ne) = (xs.getD n (ec_3.dec [])) := by
  by_cases h : n < xs.length
  · simp only [EC.getD_lt _ _ h]; simp [enc_3, h, intOf, List.getD_eq_getElem?_getD]
  · simp only [EC.getD_ge _ _ (Nat.not_lt.1 h)]; simp [Nat.not_lt.1 h, ec_3, intOf, List.getD_eq_getElem?_getD]
theorem lit_3 (a0 : Int) : ([.int .i64 a0] : List C) = ec_3.enc a0 := rfl
theorem apd_3 (xs : List Int) (a0 : Int) : ec_3.encL xs ++ [[.int .i64 a0]] = ec_3.encL (xs ++ [a0]) := by rw [lit_3]; simp [EC.encL]
theorem all_3 (xs : List Int) : (ec_3.encL xs).all (fun (el : List C) => el.length == 1) = true := by induction xs with | nil => rfl | cons x xs ih => first | (simp [EC.encL, enc_3]; done) | simpa [EC.encL, enc_3] using ih
def classify_Score_ca : Cod (List V) ((Int × Int × (List S74)) × (List ByteArray)) := (lCons (vAgg (lCons (vC (cInt .i64)) (lCons (vC (cInt .i64)) (lOne (vC (cSl ec_74)))))) (lOne (vC (cSl ec_9))))
def classify_Score_l6_s : SC ((Unit × Unit × Nat × (List ByteArray) × Int × Int) × ((Int × Int × (List S74)) × (Int × Int) × (List Int))) := sLS [2, 5, 7, 23, 24, 25] (lCons (vPtr 0 0) (lCons (vPtr 1 0) (lCons (vRow 2) (lCons (vC (cSl ec_9)) (lCons (vC (cInt .i64)) (lOne (vC (cInt .i64)))))))) (lCons (oSome (bBox (lCons (vC (cInt .i64)) (lCons (vC (cInt .i64)) (lOne (vC (cSl ec_74))))))) (lCons (oSome (bBox (lCons (vC (cInt .i64)) (lOne (vC (cInt .i64)))))) (lOne (oSome (bRow ec_3))))) [false, false, false] [] (by decide) (fun _ => rfl)
def classify_Score_l6_o2 : SC ((Unit × Unit × Nat × (List ByteArray) × Int × Int × Bool) × ((Int × Int × (List S74)) × (Int × Int) × (List Int))) := sLS [2, 5, 7, 23, 24, 25, 26] (lCons (vPtr 0 0) (lCons (vPtr 1 0) (lCons (vRow 2) (lCons (vC (cSl ec_9)) (lCons (vC (cInt .i64)) (lCons (vC (cInt .i64)) (lOne (vC cBool)))))))) (lCons (oSome (bBox (lCons (vC (cInt .i64)) (lCons (vC (cInt .i64)) (lOne (vC (cSl ec_74))))))) (lCons (oSome (bBox (lCons (vC (cInt .i64)) (lOne (vC (cInt .i64)))))) (lOne (oSome (bRow ec_3))))) [false, false, false] [] (by decide) (fun _ => rfl)
def classify_Score_l6_o : OC ((Unit × Unit × Nat × (List ByteArray) × Int × Int × Bool) × ((Int × Int × (List S74)) × (Int × Int) × (List Int))) := oAt 2 classify_Score_l6_o2
def classify_Score_l6 (ratios : Nat) (t23 : (List ByteArray)) (t24 : Int) (t25 : Int) (b0 : Int) (b0_1 : Int) (b0_2 : (List S74)) (b1 : Int) (b1_1 : Int) (b2 : (List Int)) : Option ((Unit × Unit × Nat × (List ByteArray) × Int × Int × Bool) × ((Int × Int × (List S74)) × (Int × Int) × (List Int))) := lS Tryz.prog lv X0 8 93 (getLoop (cdF Tryz.f8) 6) classify_Score_l6_s classify_Score_l6_o (((), (), ratios, t23, t24, t25), ((b0, b0_1, b0_2), (b1, b1_1), b2))
def classify_Score_l6_t (ratios : Nat) (t23 : (List ByteArray)) (t24 : Int) (t25 : Int) (b0 : Int) (b0_1 : Int) (b0_2 : (List S74)) (b1 : Int) (b1_1 : Int) (b2 : (List Int)) : Option ((Unit × Unit × Nat × (List ByteArray) × Int × Int × Bool) × ((Int × Int × (List S74)) × (Int × Int) × (List Int))) :=
 (brE (decide (t25 < t24))
 (gdE (decide ((0 : Int) ≤ t25)) <|
 (gdE ((decide ((Int.toNat t25) < (List.length (EC.encL ec_9 t23)))) && (isE [K1.str] (0 : Nat) (List.getD (EC.encL ec_9 t23) (Int.toNat t25) []))) <|
 (gdE (EC.isL ec_74 (EC.encL ec_74 b0_2)) <|
 (Option.bind (classify_find_s (EC.decL ec_74 (EC.encL ec_74 b0_2)) (strOf (List.getD (List.getD (EC.encL ec_9 t23) (Int.toNat t25) []) (0 : Nat) C.ne))) fun r0 =>
 (brE (r0).2
 (gdE (decide ((0 : Int) ≤ (r0).1)) <|
 (gdE ((decide ((Int.toNat (r0).1) < (List.length (EC.encL ec_74 b0_2)))) && (isE [K1.str, (K1.int Go.IntKind.i64), (K1.int Go.IntKind.i64)] (0 : Nat) (List.getD (EC.encL ec_74 b0_2) (Int.toNat (r0).1) []))) <|
 (gdE (decide ((0 : Int) ≤ (r0).1)) <|
 (gdE ((decide ((Int.toNat (r0).1) < (List.length (EC.encL ec_74 b0_2)))) && (isE [K1.str, (K1.int Go.IntKind.i64), (K1.int Go.IntKind.i64)] (0 : Nat) (List.getD (EC.encL ec_74 b0_2) (Int.toNat (r0).1) []))) <|
 (brE ((IntKind.wrap .i64 ((IntKind.wrap .i64 ((intOf (List.getD (List.getD (EC.encL ec_74 b0_2) (Int.toNat (r0).1) []) (2 : Nat) C.ne)) * (IntKind.wrap .i64 (b0 + (1 : Int))))) + (IntKind.wrap .i64 ((intOf (List.getD (List.getD (EC.encL ec_74 b0_2) (Int.toNat (r0).1) []) (1 : Nat) C.ne)) * (IntKind.wrap .i64 (b0_1 + (1 : Int))))))) == 0)
 none
 (gdE ((((List.all [[(C.int Go.IntKind.i64 (IntKind.wrap .i64 (Int.tdiv (IntKind.wrap .i64 ((1000 : Int) * (IntKind.wrap .i64 ((intOf (List.getD (List.getD (EC.encL ec_74 b0_2) (Int.toNat (r0).1) []) (2 : Nat) C.ne)) * (IntKind.wrap .i64 (b0 + (1 : Int))))))) (IntKind.wrap .i64 ((IntKind.wrap .i64 ((intOf (List.getD (List.getD (EC.encL ec_74 b0_2) (Int.toNat (r0).1) []) (2 : Nat) C.ne)) * (IntKind.wrap .i64 (b0 + (1 : Int))))) + (IntKind.wrap .i64 ((intOf (List.getD (List.getD (EC.encL ec_74 b0_2) (Int.toNat (r0).1) []) (1 : Nat) C.ne)) * (IntKind.wrap .i64 (b0_1 + (1 : Int))))))))))]] (fun (el : (List C)) => ((List.length el) == (1 : Nat)))) && (List.all (EC.encL ec_3 b2) (fun (el : (List C)) => ((List.length el) == (1 : Nat))))) && (decide (((((ratios + (List.length [[(C.int Go.IntKind.i64 (IntKind.wrap .i64 (Int.tdiv (IntKind.wrap .i64 ((1000 : Int) * (IntKind.wrap .i64 ((intOf (List.getD (List.getD (EC.encL ec_74 b0_2) (Int.toNat (r0).1) []) (2 : Nat) C.ne)) * (IntKind.wrap .i64 (b0 + (1 : Int))))))) (IntKind.wrap .i64 ((IntKind.wrap .i64 ((intOf (List.getD (List.getD (EC.encL ec_74 b0_2) (Int.toNat (r0).1) []) (2 : Nat) C.ne)) * (IntKind.wrap .i64 (b0 + (1 : Int))))) + (IntKind.wrap .i64 ((intOf (List.getD (List.getD (EC.encL ec_74 b0_2) (Int.toNat (r0).1) []) (1 : Nat) C.ne)) * (IntKind.wrap .i64 (b0_1 + (1 : Int))))))))))]])) + ((ratios + (List.length [[(C.int Go.IntKind.i64 (IntKind.wrap .i64 (Int.tdiv (IntKind.wrap .i64 ((1000 : Int) * (IntKind.wrap .i64 ((intOf (List.getD (List.getD (EC.encL ec_74 b0_2) (Int.toNat (r0).1) []) (2 : Nat) C.ne)) * (IntKind.wrap .i64 (b0 + (1 : Int))))))) (IntKind.wrap .i64 ((IntKind.wrap .i64 ((intOf (List.getD (List.getD (EC.encL ec_74 b0_2) (Int.toNat (r0).1) []) (2 : Nat) C.ne)) * (IntKind.wrap .i64 (b0 + (1 : Int))))) + (IntKind.wrap .i64 ((intOf (List.getD (List.getD (EC.encL ec_74 b0_2) (Int.toNat (r0).1) []) (1 : Nat) C.ne)) * (IntKind.wrap .i64 (b0_1 + (1 : Int))))))))))]])) / (4 : Nat))) + (192 : Nat)) * (8 : Nat)) ≤ (281474976710656 : Nat)))) && (decide ((ratios + (List.length [[(C.int Go.IntKind.i64 (IntKind.wrap .i64 (Int.tdiv (IntKind.wrap .i64 ((1000 : Int) * (IntKind.wrap .i64 ((intOf (List.getD (List.getD (EC.encL ec_74 b0_2) (Int.toNat (r0).1) []) (2 : Nat) C.ne)) * (IntKind.wrap .i64 (b0 + (1 : Int))))))) (IntKind.wrap .i64 ((IntKind.wrap .i64 ((intOf (List.getD (List.getD (EC.encL ec_74 b0_2) (Int.toNat (r0).1) []) (2 : Nat) C.ne)) * (IntKind.wrap .i64 (b0 + (1 : Int))))) + (IntKind.wrap .i64 ((intOf (List.getD (List.getD (EC.encL ec_74 b0_2) (Int.toNat (r0).1) []) (1 : Nat) C.ne)) * (IntKind.wrap .i64 (b0_1 + (1 : Int))))))))))]])) ≤ (9223372036854775807 : Nat)))) <|
 (gdE (EC.isL ec_9 (EC.encL ec_9 t23)) <|
 (gdE (EC.isL ec_74 (EC.encL ec_74 b0_2)) <|
 (gdE (EC.isL ec_3 ((EC.encL ec_3 b2) ++ [[(C.int Go.IntKind.i64 (IntKind.wrap .i64 (Int.tdiv (IntKind.wrap .i64 ((1000 : Int) * (IntKind.wrap .i64 ((intOf (List.getD (List.getD (EC.encL ec_74 b0_2) (Int.toNat (r0).1) []) (2 : Nat) C.ne)) * (IntKind.wrap .i64 (b0 + (1 : Int))))))) (IntKind.wrap .i64 ((IntKind.wrap .i64 ((intOf (List.getD (List.getD (EC.encL ec_74 b0_2) (Int.toNat (r0).1) []) (2 : Nat) C.ne)) * (IntKind.wrap .i64 (b0 + (1 : Int))))) + (IntKind.wrap .i64 ((intOf (List.getD (List.getD (EC.encL ec_74 b0_2) (Int.toNat (r0).1) []) (1 : Nat) C.ne)) * (IntKind.wrap .i64 (b0_1 + (1 : Int))))))))))]])) <|
 (classify_Score_l6 (ratios + (List.length [[(C.int Go.IntKind.i64 (IntKind.wrap .i64 (Int.tdiv (IntKind.wrap .i64 ((1000 : Int) * (IntKind.wrap .i64 ((intOf (List.getD (List.getD (EC.encL ec_74 b0_2) (Int.toNat (r0).1) []) (2 : Nat) C.ne)) * (IntKind.wrap .i64 (b0 + (1 : Int))))))) (IntKind.wrap .i64 ((IntKind.wrap .i64 ((intOf (List.getD (List.getD (EC.encL ec_74 b0_2) (Int.toNat (r0).1) []) (2 : Nat) C.ne)) * (IntKind.wrap .i64 (b0 + (1 : Int))))) + (IntKind.wrap .i64 ((intOf (List.getD (List.getD (EC.encL ec_74 b0_2) (Int.toNat (r0).1) []) (1 : Nat) C.ne)) * (IntKind.wrap .i64 (b0_1 + (1 : Int))))))))))]])) (EC.decL ec_9 (EC.encL ec_9 t23)) t24 (IntKind.wrap .i64 (t25 + (1 : Int))) b0 b0_1 (EC.decL ec_74 (EC.encL ec_74 b0_2)) b1 b1_1 (EC.decL ec_3 ((EC.encL ec_3 b2) ++ [[(C.int Go.IntKind.i64 (IntKind.wrap .i64 (Int.tdiv (IntKind.wrap .i64 ((1000 : Int) * (IntKind.wrap .i64 ((intOf (List.getD (List.getD (EC.encL ec_74 b0_2) (Int.toNat (r0).1) []) (2 : Nat) C.ne)) * (IntKind.wrap .i64 (b0 + (1 : Int))))))) (IntKind.wrap .i64 ((IntKind.wrap .i64 ((intOf (List.getD (List.getD (EC.encL ec_74 b0_2) (Int.toNat (r0).1) []) (2 : Nat) C.ne)) * (IntKind.wrap .i64 (b0 + (1 : Int))))) + (IntKind.wrap .i64 ((intOf (List.getD (List.getD (EC.encL ec_74 b0_2) (Int.toNat (r0).1) []) (1 : Nat) C.ne)) * (IntKind.wrap .i64 (b0_1 + (1 : Int))))))))))]]))))))))))))
 (gdE (EC.isL ec_9 (EC.encL ec_9 t23)) <|
 (gdE (EC.isL ec_74 (EC.encL ec_74 b0_2)) <|
 (gdE (EC.isL ec_3 (EC.encL ec_3 b2)) <|
 (classify_Score_l6 ratios (EC.decL ec_9 (EC.encL ec_9 t23)) t24 (IntKind.wrap .i64 (t25 + (1 : Int))) b0 b0_1 (EC.decL ec_74 (EC.encL ec_74 b0_2)) b1 b1_1 (EC.decL ec_3 (EC.encL ec_3 b2)))))))))))
 (gdE (EC.isL ec_9 (EC.encL ec_9 t23)) <|
 (gdE (EC.isL ec_74 (EC.encL ec_74 b0_2)) <|
 (gdE (EC.isL ec_3 (EC.encL ec_3 b2)) <|
 (some (((), ((), (ratios, ((EC.decL ec_9 (EC.encL ec_9 t23)), (t24, (t25, false)))))), ((b0, (b0_1, (EC.decL ec_74 (EC.encL ec_74 b0_2)))), ((b1, b1_1), (EC.decL ec_3 (EC.encL ec_3 b2))))))))))
theorem classify_Score_l6_eq {ratios : Nat} {t23 : (List ByteArray)} {t24 : Int} {t25 : Int} {b0 : Int} {b0_1 : Int} {b0_2 : (List S74)} {b1 : Int} {b1_1 : Int} {b2 : (List Int)} {r : ((Unit × Unit × Nat × (List ByteArray) × Int × Int × Bool) × ((Int × Int × (List S74)) × (Int × Int) × (List Int)))} (h : classify_Score_l6_t ratios t23 t24 t25 b0 b0_1 b0_2 b1 b1_1 b2 = some r) : classify_Score_l6 ratios t23 t24 t25 b0 b0_1 b0_2 b1 b1_1 b2 = some r :=
  lS_tree (es := tab_classify_Score_1) (hs := htab_sd3) [] (by kernel_rfl) trivial trivial (by kernel_rfl) h
def classify_Score_l6_e : LEnt Tryz.prog lv X0 8 93 := lentS Tryz.prog lv X0 6 (getLoop (cdF Tryz.f8) 6) classify_Score_l6_s classify_Score_l6_o (fun x => classify_Score_l6 x.1.2.2.1 x.1.2.2.2.1 x.1.2.2.2.2.1 x.1.2.2.2.2.2 x.2.1.1 x.2.1.2.1 x.2.1.2.2 x.2.2.1.1 x.2.2.1.2 x.2.2.2) (fun _ _ h => lS_from h)
def slices_SortStableFunc_h1_s : SC ((Nat × Unit) × (List Int)) := sLS [0, 1] (lCons (vRow 0) (lOne (vFn 28 lNil))) (lOne (oSome (bRow ec_3))) [false] [0] (by decide) (fun _ => rfl)
def slices_SortStableFunc_h1_q : SC (Unit × (List Int)) := sLS [] lNil (lOne (oSome (bRow ec_3))) [false] [0] (by decide) (fun _ => rfl)
def slices_SortStableFunc_h1_o : HC (Unit × (Unit × (List Int))) := hPair (vTup lNil) slices_SortStableFunc_h1_q
def slices_SortStableFunc_h1 (x : Nat) (b0 : (List Int)) : Option (Unit × (Unit × (List Int))) := hS Tryz.prog lv X0 27 slices_SortStableFunc_h1_s slices_SortStableFunc_h1_o ((x, ()), b0)
def slices_SortStableFunc_h1_e : HEnt Tryz.prog lv X0 := hentS Tryz.prog lv X0 27 [0, 2, 0, 1, 6, 28, 0, 2, 0] slices_SortStableFunc_h1_s slices_SortStableFunc_h1_o (fun x => slices_SortStableFunc_h1 x.1.1 x.2) (fun _ _ h => hS_from h)
def htab_slices_SortStableFunc_h1 : List (HEnt Tryz.prog lv X0) := slices_SortStableFunc_h1_e :: htab_sd3
def slices_stableCmpFunc_h2_s : SC ((Nat × Int × Unit) × (List Int)) := sLS [0, 1, 2] (lCons (vRow 0) (lCons (vC (cInt .i64)) (lOne (vFn 28 lNil)))) (lOne (oSome (bRow ec_3))) [false] [0] (by decide) (fun _ => rfl)
def slices_stableCmpFunc_h2_q : SC (Unit × (List Int)) := sLS [] lNil (lOne (oSome (bRow ec_3))) [false] [0] (by decide) (fun _ => rfl)
def slices_stableCmpFunc_h2_o : HC (Unit × (Unit × (List Int))) := hPair (vTup lNil) slices_stableCmpFunc_h2_q
def slices_stableCmpFunc_h2 (data : Nat) (n : Int) (b0 : (List Int)) : Option (Unit × (Unit × (List Int))) := hS Tryz.prog lv X0 60 slices_stableCmpFunc_h2_s slices_stableCmpFunc_h2_o ((data, n, ()), b0)
def slices_stableCmpFunc_h2_e : HEnt Tryz.prog lv X0 := hentS Tryz.prog lv X0 60 [0, 2, 0, 1, 1, 1, 2, 6, 28, 0, 2, 0] slices_stableCmpFunc_h2_s slices_stableCmpFunc_h2_o (fun x => slices_stableCmpFunc_h2 x.1.1 x.1.2.1 x.2) (fun _ _ h => hS_from h)
def htab_slices_stableCmpFunc_h2 : List (HEnt Tryz.prog lv X0) := slices_stableCmpFunc_h2_e :: htab_slices_SortStableFunc_h1
def slices_insertionSortCmpFunc_h3_s : SC ((Nat × Int × Int × Unit) × (List Int)) := sLS [0, 1, 2, 3] (lCons (vRow 0) (lCons (vC (cInt .i64)) (lCons (vC (cInt .i64)) (lOne (vFn 28 lNil))))) (lOne (oSome (bRow ec_3))) [false] [0] (by decide) (fun _ => rfl)
def slices_insertionSortCmpFunc_h3_l4_s : SC ((Nat × Int × Int × Unit × Int × Int) × (List Int)) := sLS [0, 1, 2, 3, 8, 9] (lCons (vRow 0) (lCons (vC (cInt .i64)) (lCons (vC (cInt .i64)) (lCons (vFn 28 lNil) (lCons (vC (cInt .i64)) (lOne (vC (cInt .i64)))))))) (lOne (oSome (bRow ec_3))) [false] [0] (by decide) (fun _ => rfl)
def slices_insertionSortCmpFunc_h3_l4_o4 : SC ((Nat × Int × Int × Unit × Int × Int × Bool) × (List Int)) := sLS [0, 1, 2, 3, 8, 9, 34] (lCons (vRow 0) (lCons (vC (cInt .i64)) (lCons (vC (cInt .i64)) (lCons (vFn 28 lNil) (lCons (vC (cInt .i64)) (lCons (vC (cInt .i64)) (lOne (vC cBool)))))))) (lOne (oSome (bRow ec_3))) [false] [0] (by decide) (fun _ => rfl)
def slices_insertionSortCmpFunc_h3_l4_o : OC ((Nat × Int × Int × Unit × Int × Int × Bool) × (List Int)) := oAt 4 slices_insertionSortCmpFunc_h3_l4_o4
def slices_insertionSortCmpFunc_h3_l4 (data : Nat) (a : Int) (b : Int) (i : Int) (j : Int) (b0 : (List Int)) : Option ((Nat × Int × Int × Unit × Int × Int × Bool) × (List Int)) := lS Tryz.prog lv X0 101 53 (getLoop (cdF Tryz.f101) 4) slices_insertionSortCmpFunc_h3_l4_s slices_insertionSortCmpFunc_h3_l4_o ((data, a, b, (), i, j), b0)
def slices_insertionSortCmpFunc_h3_l4_t (data : Nat) (a : Int) (b : Int) (i : Int) (j : Int) (b0 : (List Int)) : Option ((Nat × Int × Int × Unit × Int × Int × Bool) × (List Int)) :=
 (brE ((decide (j > a)) == true)
 (gdE ((decide ((0 : Int) ≤ j)) && (decide (j < ((data : Nat) : Int)))) <|
 (gdE ((decide ((Int.toNat j) < (List.length (EC.encL ec_3 b0)))) && ((List.length (List.getD (EC.encL ec_3 b0) (Int.toNat j) [])) == (1 : Nat))) <|
 (gdE (isP [(K1.int Go.IntKind.i64)] (0 : Nat) (List.getD (EC.encL ec_3 b0) (Int.toNat j) [])) <|
 (gdE ((decide ((0 : Int) ≤ (IntKind.wrap .i64 (j - (1 : Int))))) && (decide ((IntKind.wrap .i64 (j - (1 : Int))) < ((data : Nat) : Int)))) <|
 (gdE ((decide ((Int.toNat (IntKind.wrap .i64 (j - (1 : Int)))) < (List.length (EC.encL ec_3 b0)))) && ((List.length (List.getD (EC.encL ec_3 b0) (Int.toNat (IntKind.wrap .i64 (j - (1 : Int)))) [])) == (1 : Nat))) <|
 (gdE (isP [(K1.int Go.IntKind.i64)] (0 : Nat) (List.getD (EC.encL ec_3 b0) (Int.toNat (IntKind.wrap .i64 (j - (1 : Int)))) [])) <|
 (Option.bind (classify_Score_1_s (intOf (List.getD (List.getD (EC.encL ec_3 b0) (Int.toNat j) []) (0 : Nat) C.ne)) (intOf (List.getD (List.getD (EC.encL ec_3 b0) (Int.toNat (IntKind.wrap .i64 (j - (1 : Int)))) []) (0 : Nat) C.ne))) fun r0 =>
 (brE (decide (r0 < (0 : Int)))
 (gdE ((decide ((0 : Int) ≤ (IntKind.wrap .i64 (j - (1 : Int))))) && (decide ((IntKind.wrap .i64 (j - (1 : Int))) < ((data : Nat) : Int)))) <|
 (gdE ((decide ((Int.toNat (IntKind.wrap .i64 (j - (1 : Int)))) < (List.length (EC.encL ec_3 b0)))) && ((List.length (List.getD (EC.encL ec_3 b0) (Int.toNat (IntKind.wrap .i64 (j - (1 : Int)))) [])) == (1 : Nat))) <|
 (gdE (isP [(K1.int Go.IntKind.i64)] (0 : Nat) (List.getD (EC.encL ec_3 b0) (Int.toNat (IntKind.wrap .i64 (j - (1 : Int)))) [])) <|
 (gdE ((decide ((0 : Int) ≤ j)) && (decide (j < ((data : Nat) : Int)))) <|
 (gdE ((decide ((Int.toNat j) < (List.length (EC.encL ec_3 b0)))) && ((List.length (List.getD (EC.encL ec_3 b0) (Int.toNat j) [])) == (1 : Nat))) <|
 (gdE (isP [(K1.int Go.IntKind.i64)] (0 : Nat) (List.getD (EC.encL ec_3 b0) (Int.toNat j) [])) <|
 (gdE ((decide ((0 : Int) ≤ j)) && (decide (j < ((data : Nat) : Int)))) <|
 (gdE ((decide ((Int.toNat j) < (List.length (EC.encL ec_3 b0)))) && ((List.length (List.getD (EC.encL ec_3 b0) (Int.toNat j) [])) == (1 : Nat))) <|
 (gdE ((decide ((0 : Int) ≤ (IntKind.wrap .i64 (j - (1 : Int))))) && (decide ((IntKind.wrap .i64 (j - (1 : Int))) < ((data : Nat) : Int)))) <|
 (gdE ((decide ((Int.toNat (IntKind.wrap .i64 (j - (1 : Int)))) < (List.length (List.set (EC.encL ec_3 b0) (Int.toNat j) (splice (List.getD (EC.encL ec_3 b0) (Int.toNat j) []) (0 : Nat) [(C.int Go.IntKind.i64 (intOf (List.getD (List.getD (EC.encL ec_3 b0) (Int.toNat (IntKind.wrap .i64 (j - (1 : Int)))) []) (0 : Nat) C.ne)))]))))) && ((List.length (List.getD (List.set (EC.encL ec_3 b0) (Int.toNat j) (splice (List.getD (EC.encL ec_3 b0) (Int.toNat j) []) (0 : Nat) [(C.int Go.IntKind.i64 (intOf (List.getD (List.getD (EC.encL ec_3 b0) (Int.toNat (IntKind.wrap .i64 (j - (1 : Int)))) []) (0 : Nat) C.ne)))])) (Int.toNat (IntKind.wrap .i64 (j - (1 : Int)))) [])) == (1 : Nat))) <|
 (gdE (EC.isL ec_3 (List.set (List.set (EC.encL ec_3 b0) (Int.toNat j) (splice (List.getD (EC.encL ec_3 b0) (Int.toNat j) []) (0 : Nat) [(C.int Go.IntKind.i64 (intOf (List.getD (List.getD (EC.encL ec_3 b0) (Int.toNat (IntKind.wrap .i64 (j - (1 : Int)))) []) (0 : Nat) C.ne)))])) (Int.toNat (IntKind.wrap .i64 (j - (1 : Int)))) (splice (List.getD (List.set (EC.encL ec_3 b0) (Int.toNat j) (splice (List.getD (EC.encL ec_3 b0) (Int.toNat j) []) (0 : Nat) [(C.int Go.IntKind.i64 (intOf (List.getD (List.getD (EC.encL ec_3 b0) (Int.toNat (IntKind.wrap .i64 (j - (1 : Int)))) []) (0 : Nat) C.ne)))])) (Int.toNat (IntKind.wrap .i64 (j - (1 : Int)))) []) (0 : Nat) [(C.int Go.IntKind.i64 (intOf (List.getD (List.getD (EC.encL ec_3 b0) (Int.toNat j) []) (0 : Nat) C.ne)))]))) <|
 (slices_insertionSortCmpFunc_h3_l4 data a b i (IntKind.wrap .i64 (j - (1 : Int))) (EC.decL ec_3 (List.set (List.set (EC.encL ec_3 b0) (Int.toNat j) (splice (List.getD (EC.encL ec_3 b0) (Int.toNat j) []) (0 : Nat) [(C.int Go.IntKind.i64 (intOf (List.getD (List.getD (EC.encL ec_3 b0) (Int.toNat (IntKind.wrap .i64 (j - (1 : Int)))) []) (0 : Nat) C.ne)))])) (Int.toNat (IntKind.wrap .i64 (j - (1 : Int)))) (splice (List.getD (List.set (EC.encL ec_3 b0) (Int.toNat j) (splice (List.getD (EC.encL ec_3 b0) (Int.toNat j) []) (0 : Nat) [(C.int Go.IntKind.i64 (intOf (List.getD (List.getD (EC.encL ec_3 b0) (Int.toNat (IntKind.wrap .i64 (j - (1 : Int)))) []) (0 : Nat) C.ne)))])) (Int.toNat (IntKind.wrap .i64 (j - (1 : Int)))) []) (0 : Nat) [(C.int Go.IntKind.i64 (intOf (List.getD (List.getD (EC.encL ec_3 b0) (Int.toNat j) []) (0 : Nat) C.ne)))])))))))))))))))
 (gdE (EC.isL ec_3 (EC.encL ec_3 b0)) <|
 (some ((data, (a, (b, ((), (i, (j, false)))))), (EC.decL ec_3 (EC.encL ec_3 b0)))))))))))))
 (gdE (EC.isL ec_3 (EC.encL ec_3 b0)) <|
 (some ((data, (a, (b, ((), (i, (j, false)))))), (EC.decL ec_3 (EC.encL ec_3 b0))))))
theorem slices_insertionSortCmpFunc_h3_l4_eq {data : Nat} {a : Int} {b : Int} {i : Int} {j : Int} {b0 : (List Int)} {r : ((Nat × Int × Int × Unit × Int × Int × Bool) × (List Int))} (h : slices_insertionSortCmpFunc_h3_l4_t data a b i j b0 = some r) : slices_insertionSortCmpFunc_h3_l4 data a b i j b0 = some r :=
  lS_tree (es := tab_classify_Score_1) (hs := htab_slices_stableCmpFunc_h2) [] (by kernel_rfl) trivial trivial (by kernel_rfl) h
def slices_insertionSortCmpFunc_h3_l4_e : LEnt Tryz.prog lv X0 101 53 := lentS Tryz.prog lv X0 4 (getLoop (cdF Tryz.f101) 4) slices_insertionSortCmpFunc_h3_l4_s slices_insertionSortCmpFunc_h3_l4_o (fun x => slices_insertionSortCmpFunc_h3_l4 x.1.1 x.1.2.1 x.1.2.2.1 x.1.2.2.2.2.1 x.1.2.2.2.2.2 x.2) (fun _ _ h => lS_from h)
def slices_insertionSortCmpFunc_h3_l1_s : SC ((Nat × Int × Int × Unit × Int) × (List Int)) := sLS [0, 1, 2, 3, 8] (lCons (vRow 0) (lCons (vC (cInt .i64)) (lCons (vC (cInt .i64)) (lCons (vFn 28 lNil) (lOne (vC (cInt .i64))))))) (lOne (oSome (bRow ec_3))) [false] [0] (by decide) (fun _ => rfl)
def slices_insertionSortCmpFunc_h3_l1_o2 : SC ((Nat × Int × Int × Unit × Int × Bool) × (List Int)) := sLS [0, 1, 2, 3, 8, 14] (lCons (vRow 0) (lCons (vC (cInt .i64)) (lCons (vC (cInt .i64)) (lCons (vFn 28 lNil) (lCons (vC (cInt .i64)) (lOne (vC cBool))))))) (lOne (oSome (bRow ec_3))) [false] [0] (by decide) (fun _ => rfl)
def slices_insertionSortCmpFunc_h3_l1_o : OC ((Nat × Int × Int × Unit × Int × Bool) × (List Int)) := oAt 2 slices_insertionSortCmpFunc_h3_l1_o2
def slices_insertionSortCmpFunc_h3_l1 (data : Nat) (a : Int) (b : Int) (i : Int) (b0 : (List Int)) : Option ((Nat × Int × Int × Unit × Int × Bool) × (List Int)) := lS Tryz.prog lv X0 101 53 (getLoop (cdF Tryz.f101) 1) slices_insertionSortCmpFunc_h3_l1_s slices_insertionSortCmpFunc_h3_l1_o ((data, a, b, (), i), b0)
def slices_insertionSortCmpFunc_h3_l1_t (data : Nat) (a : Int) (b : Int) (i : Int) (b0 : (List Int)) : Option ((Nat × Int × Int × Unit × Int × Bool) × (List Int)) :=
 (brE (decide (i < b))
 (gdE (EC.isL ec_3 (EC.encL ec_3 b0)) <|
 (Option.bind (slices_insertionSortCmpFunc_h3_l4 data a b i i (EC.decL ec_3 (EC.encL ec_3 b0))) fun r0 =>
 (gdE (EC.isL ec_3 (EC.encL ec_3 (r0).2)) <|
 (slices_insertionSortCmpFunc_h3_l1 ((r0).1).1 (((r0).1).2).1 ((((r0).1).2).2).1 (IntKind.wrap .i64 (((((((r0).1).2).2).2).2).1 + (1 : Int))) (EC.decL ec_3 (EC.encL ec_3 (r0).2))))))
 (gdE (EC.isL ec_3 (EC.encL ec_3 b0)) <|
 (some ((data, (a, (b, ((), (i, false))))), (EC.decL ec_3 (EC.encL ec_3 b0))))))
theorem slices_insertionSortCmpFunc_h3_l1_eq {data : Nat} {a : Int} {b : Int} {i : Int} {b0 : (List Int)} {r : ((Nat × Int × Int × Unit × Int × Bool) × (List Int))} (h : slices_insertionSortCmpFunc_h3_l1_t data a b i b0 = some r) : slices_insertionSortCmpFunc_h3_l1 data a b i b0 = some r :=
  lS_tree (es := tab_classify_Score_1) (hs := htab_slices_stableCmpFunc_h2) [slices_insertionSortCmpFunc_h3_l4_e] (by kernel_rfl) ⟨⟨_, rfl, rfl⟩, trivial⟩ trivial (by kernel_rfl) h
def slices_insertionSortCmpFunc_h3_l1_e : LEnt Tryz.prog lv X0 101 53 := lentS Tryz.prog lv X0 1 (getLoop (cdF Tryz.f101) 1) slices_insertionSortCmpFunc_h3_l1_s slices_insertionSortCmpFunc_h3_l1_o (fun x => slices_insertionSortCmpFunc_h3_l1 x.1.1 x.1.2.1 x.1.2.2.1 x.1.2.2.2.2 x.2) (fun _ _ h => lS_from h)
def slices_insertionSortCmpFunc_h3_q : SC (Unit × (List Int)) := sLS [] lNil (lOne (oSome (bRow ec_3))) [false] [0] (by decide) (fun _ => rfl)
def slices_insertionSortCmpFunc_h3_o : HC (Unit × (Unit × (List Int))) := hPair (vTup lNil) slices_insertionSortCmpFunc_h3_q
def slices_insertionSortCmpFunc_h3 (data : Nat) (a : Int) (b : Int) (b0 : (List Int)) : Option (Unit × (Unit × (List Int))) := hS Tryz.prog lv X0 101 slices_insertionSortCmpFunc_h3_s slices_insertionSortCmpFunc_h3_o ((data, a, b, ()), b0)
def slices_insertionSortCmpFunc_h3_t (data : Nat) (a : Int) (b : Int) (b0 : (List Int)) : Option (Unit × (Unit × (List Int))) :=
 (gdE (EC.isL ec_3 (EC.encL ec_3 b0)) <|
 (Option.bind (slices_insertionSortCmpFunc_h3_l1 data a b (IntKind.wrap .i64 (a + (1 : Int))) (EC.decL ec_3 (EC.encL ec_3 b0))) fun r0 =>
 (gdE (EC.isL ec_3 (EC.encL ec_3 (r0).2)) <|
 (some ((), ((), (EC.decL ec_3 (EC.encL ec_3 (r0).2))))))))
theorem slices_insertionSortCmpFunc_h3_eq {data : Nat} {a : Int} {b : Int} {b0 : (List Int)} {r : (Unit × (Unit × (List Int)))} (h : slices_insertionSortCmpFunc_h3_t data a b b0 = some r) : slices_insertionSortCmpFunc_h3 data a b b0 = some r :=
  hS_tree (fn := Tryz.f101) (es := tab_classify_Score_1) (hs := htab_slices_stableCmpFunc_h2) [slices_insertionSortCmpFunc_h3_l1_e] (by kernel_rfl) rfl (by kernel_rfl) (by kernel_rfl) ⟨⟨_, rfl, rfl⟩, trivial⟩ trivial (by kernel_rfl) h
def slices_insertionSortCmpFunc_h3_e : HEnt Tryz.prog lv X0 := hentS Tryz.prog lv X0 101 [0, 2, 0, 1, 1, 1, 2, 1, 1, 3, 6, 28, 0, 2, 0] slices_insertionSortCmpFunc_h3_s slices_insertionSortCmpFunc_h3_o (fun x => slices_insertionSortCmpFunc_h3 x.1.1 x.1.2.1 x.1.2.2.1 x.2) (fun _ _ h => hS_from h)
def htab_slices_insertionSortCmpFunc_h3 : List (HEnt Tryz.prog lv X0) := slices_insertionSortCmpFunc_h3_e :: htab_slices_stableCmpFunc_h2
def slices_stableCmpFunc_h2_l2_s : SC ((Nat × Int × Unit × Int × Int × Int) × (List Int)) := sLS [0, 1, 2, 6, 7, 8] (lCons (vRow 0) (lCons (vC (cInt .i64)) (lCons (vFn 28 lNil) (lCons (vC (cInt .i64)) (lCons (vC (cInt .i64)) (lOne (vC (cInt .i64)))))))) (lOne (oSome (bRow ec_3))) [false] [0] (by decide) (fun _ => rfl)
def slices_stableCmpFunc_h2_l2_o2 : SC ((Nat × Int × Unit × Int × Int × Int × Bool) × (List Int)) := sLS [0, 1, 2, 6, 7, 8, 13] (lCons (vRow 0) (lCons (vC (cInt .i64)) (lCons (vFn 28 lNil) (lCons (vC (cInt .i64)) (lCons (vC (cInt .i64)) (lCons (vC (cInt .i64)) (lOne (vC cBool)))))))) (lOne (oSome (bRow ec_3))) [false] [0] (by decide) (fun _ => rfl)
def slices_stableCmpFunc_h2_l2_o : OC ((Nat × Int × Unit × Int × Int × Int × Bool) × (List Int)) := oAt 2 slices_stableCmpFunc_h2_l2_o2
def slices_stableCmpFunc_h2_l2 (data : Nat) (n : Int) (blockSize : Int) (a : Int) (b : Int) (b0 : (List Int)) : Option ((Nat × Int × Unit × Int × Int × Int × Bool) × (List Int)) := lS Tryz.prog lv X0 60 63 (getLoop (cdF Tryz.f60) 2) slices_stableCmpFunc_h2_l2_s slices_stableCmpFunc_h2_l2_o ((data, n, (), blockSize, a, b), b0)
def slices_stableCmpFunc_h2_l2_t (data : Nat) (n : Int) (blockSize : Int) (a : Int) (b : Int) (b0 : (List Int)) : Option ((Nat × Int × Unit × Int × Int × Int × Bool) × (List Int)) :=
 (brE (decide (b ≤ n))
 (gdE (EC.isL ec_3 (EC.encL ec_3 b0)) <|
 (Option.bind (slices_insertionSortCmpFunc_h3 data a b (EC.decL ec_3 (EC.encL ec_3 b0))) fun r0 =>
 (gdE (EC.isL ec_3 (EC.encL ec_3 ((r0).2).2)) <|
 (slices_stableCmpFunc_h2_l2 data n blockSize b (IntKind.wrap .i64 (b + blockSize)) (EC.decL ec_3 (EC.encL ec_3 ((r0).2).2))))))
 (gdE (EC.isL ec_3 (EC.encL ec_3 b0)) <|
 (some ((data, (n, ((), (blockSize, (a, (b, false)))))), (EC.decL ec_3 (EC.encL ec_3 b0))))))
theorem slices_stableCmpFunc_h2_l2_eq {data : Nat} {n : Int} {blockSize : Int} {a : Int} {b : Int} {b0 : (List Int)} {r : ((Nat × Int × Unit × Int × Int × Int × Bool) × (List Int))} (h : slices_stableCmpFunc_h2_l2_t data n blockSize a b b0 = some r) : slices_stableCmpFunc_h2_l2 data n blockSize a b b0 = some r :=
  lS_tree (es := tab_classify_Score_1) (hs := htab_slices_insertionSortCmpFunc_h3) [] (by kernel_rfl) trivial trivial (by kernel_rfl) h
def slices_stableCmpFunc_h2_l2_e : LEnt Tryz.prog lv X0 60 63 := lentS Tryz.prog lv X0 2 (getLoop (cdF Tryz.f60) 2) slices_stableCmpFunc_h2_l2_s slices_stableCmpFunc_h2_l2_o (fun x => slices_stableCmpFunc_h2_l2 x.1.1 x.1.2.1 x.1.2.2.2.1 x.1.2.2.2.2.1 x.1.2.2.2.2.2 x.2) (fun _ _ h => lS_from h)
def slices_symMergeCmpFunc_h4_s : SC ((Nat × Int × Int × Int × Unit) × (List Int)) := sLS [0, 1, 2, 3, 4] (lCons (vRow 0) (lCons (vC (cInt .i64)) (lCons (vC (cInt .i64)) (lCons (vC (cInt .i64)) (lOne (vFn 28 lNil)))))) (lOne (oSome (bRow ec_3))) [false] [0] (by decide) (fun _ => rfl)
def slices_symMergeCmpFunc_h4_q : SC (Unit × (List Int)) := sLS [] lNil (lOne (oSome (bRow ec_3))) [false] [0] (by decide) (fun _ => rfl)
def slices_symMergeCmpFunc_h4_o : HC (Unit × (Unit × (List Int))) := hPair (vTup lNil) slices_symMergeCmpFunc_h4_q
def slices_symMergeCmpFunc_h4 (data : Nat) (a : Int) (m_ : Int) (b : Int) (b0 : (List Int)) : Option (Unit × (Unit × (List Int))) := hS Tryz.prog lv X0 102 slices_symMergeCmpFunc_h4_s slices_symMergeCmpFunc_h4_o ((data, a, m_, b, ()), b0)
def slices_symMergeCmpFunc_h4_e : HEnt Tryz.prog lv X0 := hentS Tryz.prog lv X0 102 [0, 2, 0, 1, 1, 1, 2, 1, 1, 3, 1, 1, 4, 6, 28, 0, 2, 0] slices_symMergeCmpFunc_h4_s slices_symMergeCmpFunc_h4_o (fun x => slices_symMergeCmpFunc_h4 x.1.1 x.1.2.1 x.1.2.2.1 x.1.2.2.2.1 x.2) (fun _ _ h => hS_from h)
def htab_slices_symMergeCmpFunc_h4 : List (HEnt Tryz.prog lv X0) := slices_symMergeCmpFunc_h4_e :: htab_slices_insertionSortCmpFunc_h3
def slices_symMergeCmpFunc_h4_l3_s : SC ((Nat × Int × Unit × Int × Int) × (List Int)) := sLS [0, 1, 4, 10, 11] (lCons (vRow 0) (lCons (vC (cInt .i64)) (lCons (vFn 28 lNil) (lCons (vC (cInt .i64)) (lOne (vC (cInt .i64))))))) (lOne (oSome (bRow ec_3))) [false] [0] (by decide) (fun _ => rfl)
def slices_symMergeCmpFunc_h4_l3_o2 : SC ((Nat × Int × Unit × Int × Int × Bool) × (List Int)) := sLS [0, 1, 4, 10, 11, 33] (lCons (vRow 0) (lCons (vC (cInt .i64)) (lCons (vFn 28 lNil) (lCons (vC (cInt .i64)) (lCons (vC (cInt .i64)) (lOne (vC cBool))))))) (lOne (oSome (bRow ec_3))) [false] [0] (by decide) (fun _ => rfl)
def slices_symMergeCmpFunc_h4_l3_o : OC ((Nat × Int × Unit × Int × Int × Bool) × (List Int)) := oAt 2 slices_symMergeCmpFunc_h4_l3_o2
def slices_symMergeCmpFunc_h4_l3 (data : Nat) (a : Int) (i : Int) (j : Int) (b0 : (List Int)) : Option ((Nat × Int × Unit × Int × Int × Bool) × (List Int)) := lS Tryz.prog lv X0 102 220 (getLoop (cdF Tryz.f102) 3) slices_symMergeCmpFunc_h4_l3_s slices_symMergeCmpFunc_h4_l3_o ((data, a, (), i, j), b0)
def slices_symMergeCmpFunc_h4_l3_t (data : Nat) (a : Int) (i : Int) (j : Int) (b0 : (List Int)) : Option ((Nat × Int × Unit × Int × Int × Bool) × (List Int)) :=
 (brE (decide (i < j))
 (gdE ((decide ((0 : Int) ≤ (IntKind.wrap .i64 (Int.fdiv (IntKind.wrap .u64 (IntKind.wrap .i64 (i + j))) ((2 : Int) ^ (Min.min (Int.toNat (1 : Int)) (Go.IntKind.bits Go.IntKind.u64))))))) && (decide ((IntKind.wrap .i64 (Int.fdiv (IntKind.wrap .u64 (IntKind.wrap .i64 (i + j))) ((2 : Int) ^ (Min.min (Int.toNat (1 : Int)) (Go.IntKind.bits Go.IntKind.u64))))) < ((data : Nat) : Int)))) <|
 (gdE ((decide ((Int.toNat (IntKind.wrap .i64 (Int.fdiv (IntKind.wrap .u64 (IntKind.wrap .i64 (i + j))) ((2 : Int) ^ (Min.min (Int.toNat (1 : Int)) (Go.IntKind.bits Go.IntKind.u64)))))) < (List.length (EC.encL ec_3 b0)))) && ((List.length (List.getD (EC.encL ec_3 b0) (Int.toNat (IntKind.wrap .i64 (Int.fdiv (IntKind.wrap .u64 (IntKind.wrap .i64 (i + j))) ((2 : Int) ^ (Min.min (Int.toNat (1 : Int)) (Go.IntKind.bits Go.IntKind.u64)))))) [])) == (1 : Nat))) <|
 (gdE (isP [(K1.int Go.IntKind.i64)] (0 : Nat) (List.getD (EC.encL ec_3 b0) (Int.toNat (IntKind.wrap .i64 (Int.fdiv (IntKind.wrap .u64 (IntKind.wrap .i64 (i + j))) ((2 : Int) ^ (Min.min (Int.toNat (1 : Int)) (Go.IntKind.bits Go.IntKind.u64)))))) [])) <|
 (gdE ((decide ((0 : Int) ≤ a)) && (decide (a < ((data : Nat) : Int)))) <|
 (gdE ((decide ((Int.toNat a) < (List.length (EC.encL ec_3 b0)))) && ((List.length (List.getD (EC.encL ec_3 b0) (Int.toNat a) [])) == (1 : Nat))) <|
 (gdE (isP [(K1.int Go.IntKind.i64)] (0 : Nat) (List.getD (EC.encL ec_3 b0) (Int.toNat a) [])) <|
 (Option.bind (classify_Score_1_s (intOf (List.getD (List.getD (EC.encL ec_3 b0) (Int.toNat (IntKind.wrap .i64 (Int.fdiv (IntKind.wrap .u64 (IntKind.wrap .i64 (i + j))) ((2 : Int) ^ (Min.min (Int.toNat (1 : Int)) (Go.IntKind.bits Go.IntKind.u64)))))) []) (0 : Nat) C.ne)) (intOf (List.getD (List.getD (EC.encL ec_3 b0) (Int.toNat a) []) (0 : Nat) C.ne))) fun r0 =>
 (brE (decide (r0 < (0 : Int)))
 (gdE (EC.isL ec_3 (EC.encL ec_3 b0)) <|
 (slices_symMergeCmpFunc_h4_l3 data a (IntKind.wrap .i64 ((IntKind.wrap .i64 (Int.fdiv (IntKind.wrap .u64 (IntKind.wrap .i64 (i + j))) ((2 : Int) ^ (Min.min (Int.toNat (1 : Int)) (Go.IntKind.bits Go.IntKind.u64))))) + (1 : Int))) j (EC.decL ec_3 (EC.encL ec_3 b0))))
 (gdE (EC.isL ec_3 (EC.encL ec_3 b0)) <|
 (slices_symMergeCmpFunc_h4_l3 data a i (IntKind.wrap .i64 (Int.fdiv (IntKind.wrap .u64 (IntKind.wrap .i64 (i + j))) ((2 : Int) ^ (Min.min (Int.toNat (1 : Int)) (Go.IntKind.bits Go.IntKind.u64))))) (EC.decL ec_3 (EC.encL ec_3 b0))))))))))))
 (gdE (EC.isL ec_3 (EC.encL ec_3 b0)) <|
 (some ((data, (a, ((), (i, (j, false))))), (EC.decL ec_3 (EC.encL ec_3 b0))))))
theorem slices_symMergeCmpFunc_h4_l3_eq {data : Nat} {a : Int} {i : Int} {j : Int} {b0 : (List Int)} {r : ((Nat × Int × Unit × Int × Int × Bool) × (List Int))} (h : slices_symMergeCmpFunc_h4_l3_t data a i j b0 = some r) : slices_symMergeCmpFunc_h4_l3 data a i j b0 = some r :=
  lS_tree (es := tab_classify_Score_1) (hs := htab_slices_symMergeCmpFunc_h4) [] (by kernel_rfl) trivial trivial (by kernel_rfl) h
def slices_symMergeCmpFunc_h4_l3_e : LEnt Tryz.prog lv X0 102 220 := lentS Tryz.prog lv X0 3 (getLoop (cdF Tryz.f102) 3) slices_symMergeCmpFunc_h4_l3_s slices_symMergeCmpFunc_h4_l3_o (fun x => slices_symMergeCmpFunc_h4_l3 x.1.1 x.1.2.1 x.1.2.2.2.1 x.1.2.2.2.2 x.2) (fun _ _ h => lS_from h)
def slices_symMergeCmpFunc_h4_l9_s : SC ((Nat × Int × Int) × (List Int)) := sLS [0, 10, 13] (lCons (vRow 0) (lCons (vC (cInt .i64)) (lOne (vC (cInt .i64))))) (lOne (oSome (bRow ec_3))) [false] [0] (by decide) (fun _ => rfl)
def slices_symMergeCmpFunc_h4_l9_o4 : SC ((Nat × Int × Int × Bool) × (List Int)) := sLS [0, 10, 13, 58] (lCons (vRow 0) (lCons (vC (cInt .i64)) (lCons (vC (cInt .i64)) (lOne (vC cBool))))) (lOne (oSome (bRow ec_3))) [false] [0] (by decide) (fun _ => rfl)
def slices_symMergeCmpFunc_h4_l9_o : OC ((Nat × Int × Int × Bool) × (List Int)) := oAt 4 slices_symMergeCmpFunc_h4_l9_o4
def slices_symMergeCmpFunc_h4_l9 (data : Nat) (i : Int) (k : Int) (b0 : (List Int)) : Option ((Nat × Int × Int × Bool) × (List Int)) := lS Tryz.prog lv X0 102 220 (getLoop (cdF Tryz.f102) 9) slices_symMergeCmpFunc_h4_l9_s slices_symMergeCmpFunc_h4_l9_o ((data, i, k), b0)
def slices_symMergeCmpFunc_h4_l9_t (data : Nat) (i : Int) (k : Int) (b0 : (List Int)) : Option ((Nat × Int × Int × Bool) × (List Int)) :=
 (brE (decide (k < (IntKind.wrap .i64 (i - (1 : Int)))))
 (gdE ((decide ((0 : Int) ≤ (IntKind.wrap .i64 (k + (1 : Int))))) && (decide ((IntKind.wrap .i64 (k + (1 : Int))) < ((data : Nat) : Int)))) <|
 (gdE ((decide ((Int.toNat (IntKind.wrap .i64 (k + (1 : Int)))) < (List.length (EC.encL ec_3 b0)))) && ((List.length (List.getD (EC.encL ec_3 b0) (Int.toNat (IntKind.wrap .i64 (k + (1 : Int)))) [])) == (1 : Nat))) <|
 (gdE (isP [(K1.int Go.IntKind.i64)] (0 : Nat) (List.getD (EC.encL ec_3 b0) (Int.toNat (IntKind.wrap .i64 (k + (1 : Int)))) [])) <|
 (gdE ((decide ((0 : Int) ≤ k)) && (decide (k < ((data : Nat) : Int)))) <|
 (gdE ((decide ((Int.toNat k) < (List.length (EC.encL ec_3 b0)))) && ((List.length (List.getD (EC.encL ec_3 b0) (Int.toNat k) [])) == (1 : Nat))) <|
 (gdE (isP [(K1.int Go.IntKind.i64)] (0 : Nat) (List.getD (EC.encL ec_3 b0) (Int.toNat k) [])) <|
 (gdE ((decide ((0 : Int) ≤ k)) && (decide (k < ((data : Nat) : Int)))) <|
 (gdE ((decide ((Int.toNat k) < (List.length (EC.encL ec_3 b0)))) && ((List.length (List.getD (EC.encL ec_3 b0) (Int.toNat k) [])) == (1 : Nat))) <|
 (gdE ((decide ((0 : Int) ≤ (IntKind.wrap .i64 (k + (1 : Int))))) && (decide ((IntKind.wrap .i64 (k + (1 : Int))) < ((data : Nat) : Int)))) <|
 (gdE ((decide ((Int.toNat (IntKind.wrap .i64 (k + (1 : Int)))) < (List.length (List.set (EC.encL ec_3 b0) (Int.toNat k) (splice (List.getD (EC.encL ec_3 b0) (Int.toNat k) []) (0 : Nat) [(C.int Go.IntKind.i64 (intOf (List.getD (List.getD (EC.encL ec_3 b0) (Int.toNat (IntKind.wrap .i64 (k + (1 : Int)))) []) (0 : Nat) C.ne)))]))))) && ((List.length (List.getD (List.set (EC.encL ec_3 b0) (Int.toNat k) (splice (List.getD (EC.encL ec_3 b0) (Int.toNat k) []) (0 : Nat) [(C.int Go.IntKind.i64 (intOf (List.getD (List.getD (EC.encL ec_3 b0) (Int.toNat (IntKind.wrap .i64 (k + (1 : Int)))) []) (0 : Nat) C.ne)))])) (Int.toNat (IntKind.wrap .i64 (k + (1 : Int)))) [])) == (1 : Nat))) <|
 (gdE (EC.isL ec_3 (List.set (List.set (EC.encL ec_3 b0) (Int.toNat k) (splice (List.getD (EC.encL ec_3 b0) (Int.toNat k) []) (0 : Nat) [(C.int Go.IntKind.i64 (intOf (List.getD (List.getD (EC.encL ec_3 b0) (Int.toNat (IntKind.wrap .i64 (k + (1 : Int)))) []) (0 : Nat) C.ne)))])) (Int.toNat (IntKind.wrap .i64 (k + (1 : Int)))) (splice (List.getD (List.set (EC.encL ec_3 b0) (Int.toNat k) (splice (List.getD (EC.encL ec_3 b0) (Int.toNat k) []) (0 : Nat) [(C.int Go.IntKind.i64 (intOf (List.getD (List.getD (EC.encL ec_3 b0) (Int.toNat (IntKind.wrap .i64 (k + (1 : Int)))) []) (0 : Nat) C.ne)))])) (Int.toNat (IntKind.wrap .i64 (k + (1 : Int)))) []) (0 : Nat) [(C.int Go.IntKind.i64 (intOf (List.getD (List.getD (EC.encL ec_3 b0) (Int.toNat k) []) (0 : Nat) C.ne)))]))) <|
 (slices_symMergeCmpFunc_h4_l9 data i (IntKind.wrap .i64 (k + (1 : Int))) (EC.decL ec_3 (List.set (List.set (EC.encL ec_3 b0) (Int.toNat k) (splice (List.getD (EC.encL ec_3 b0) (Int.toNat k) []) (0 : Nat) [(C.int Go.IntKind.i64 (intOf (List.getD (List.getD (EC.encL ec_3 b0) (Int.toNat (IntKind.wrap .i64 (k + (1 : Int)))) []) (0 : Nat) C.ne)))])) (Int.toNat (IntKind.wrap .i64 (k + (1 : Int)))) (splice (List.getD (List.set (EC.encL ec_3 b0) (Int.toNat k) (splice (List.getD (EC.encL ec_3 b0) (Int.toNat k) []) (0 : Nat) [(C.int Go.IntKind.i64 (intOf (List.getD (List.getD (EC.encL ec_3 b0) (Int.toNat (IntKind.wrap .i64 (k + (1 : Int)))) []) (0 : Nat) C.ne)))])) (Int.toNat (IntKind.wrap .i64 (k + (1 : Int)))) []) (0 : Nat) [(C.int Go.IntKind.i64 (intOf (List.getD (List.getD (EC.encL ec_3 b0) (Int.toNat k) []) (0 : Nat) C.ne)))])))))))))))))))
 (gdE (EC.isL ec_3 (EC.encL ec_3 b0)) <|
 (some ((data, (i, (k, false))), (EC.decL ec_3 (EC.encL ec_3 b0))))))
theorem slices_symMergeCmpFunc_h4_l9_eq {data : Nat} {i : Int} {k : Int} {b0 : (List Int)} {r : ((Nat × Int × Int × Bool) × (List Int))} (h : slices_symMergeCmpFunc_h4_l9_t data i k b0 = some r) : slices_symMergeCmpFunc_h4_l9 data i k b0 = some r :=
  lS_tree (es := tab_classify_Score_1) (hs := htab_slices_symMergeCmpFunc_h4) [] (by kernel_rfl) trivial trivial (by kernel_rfl) h
def slices_symMergeCmpFunc_h4_l9_e : LEnt Tryz.prog lv X0 102 220 := lentS Tryz.prog lv X0 9 (getLoop (cdF Tryz.f102) 9) slices_symMergeCmpFunc_h4_l9_s slices_symMergeCmpFunc_h4_l9_o (fun x => slices_symMergeCmpFunc_h4_l9 x.1.1 x.1.2.1 x.1.2.2 x.2) (fun _ _ h => lS_from h)
def slices_symMergeCmpFunc_h4_l15_s : SC ((Nat × Int × Unit × Int × Int) × (List Int)) := sLS [0, 2, 4, 14, 15] (lCons (vRow 0) (lCons (vC (cInt .i64)) (lCons (vFn 28 lNil) (lCons (vC (cInt .i64)) (lOne (vC (cInt .i64))))))) (lOne (oSome (bRow ec_3))) [false] [0] (by decide) (fun _ => rfl)
def slices_symMergeCmpFunc_h4_l15_o6 : SC ((Nat × Int × Unit × Int × Int × Bool) × (List Int)) := sLS [0, 2, 4, 14, 15, 85] (lCons (vRow 0) (lCons (vC (cInt .i64)) (lCons (vFn 28 lNil) (lCons (vC (cInt .i64)) (lCons (vC (cInt .i64)) (lOne (vC cBool))))))) (lOne (oSome (bRow ec_3))) [false] [0] (by decide) (fun _ => rfl)
def slices_symMergeCmpFunc_h4_l15_o : OC ((Nat × Int × Unit × Int × Int × Bool) × (List Int)) := oAt 6 slices_symMergeCmpFunc_h4_l15_o6
def slices_symMergeCmpFunc_h4_l15 (data : Nat) (m_ : Int) (i : Int) (j : Int) (b0 : (List Int)) : Option ((Nat × Int × Unit × Int × Int × Bool) × (List Int)) := lS Tryz.prog lv X0 102 220 (getLoop (cdF Tryz.f102) 15) slices_symMergeCmpFunc_h4_l15_s slices_symMergeCmpFunc_h4_l15_o ((data, m_, (), i, j), b0)
def slices_symMergeCmpFunc_h4_l15_t (data : Nat) (m_ : Int) (i : Int) (j : Int) (b0 : (List Int)) : Option ((Nat × Int × Unit × Int × Int × Bool) × (List Int)) :=
 (brE (decide (i < j))
 (gdE ((decide ((0 : Int) ≤ m_)) && (decide (m_ < ((data : Nat) : Int)))) <|
 (gdE ((decide ((Int.toNat m_) < (List.length (EC.encL ec_3 b0)))) && ((List.length (List.getD (EC.encL ec_3 b0) (Int.toNat m_) [])) == (1 : Nat))) <|
 (gdE (isP [(K1.int Go.IntKind.i64)] (0 : Nat) (List.getD (EC.encL ec_3 b0) (Int.toNat m_) [])) <|
 (gdE ((decide ((0 : Int) ≤ (IntKind.wrap .i64 (Int.fdiv (IntKind.wrap .u64 (IntKind.wrap .i64 (i + j))) ((2 : Int) ^ (Min.min (Int.toNat (1 : Int)) (Go.IntKind.bits Go.IntKind.u64))))))) && (decide ((IntKind.wrap .i64 (Int.fdiv (IntKind.wrap .u64 (IntKind.wrap .i64 (i + j))) ((2 : Int) ^ (Min.min (Int.toNat (1 : Int)) (Go.IntKind.bits Go.IntKind.u64))))) < ((data : Nat) : Int)))) <|
 (gdE ((decide ((Int.toNat (IntKind.wrap .i64 (Int.fdiv (IntKind.wrap .u64 (IntKind.wrap .i64 (i + j))) ((2 : Int) ^ (Min.min (Int.toNat (1 : Int)) (Go.IntKind.bits Go.IntKind.u64)))))) < (List.length (EC.encL ec_3 b0)))) && ((List.length (List.getD (EC.encL ec_3 b0) (Int.toNat (IntKind.wrap .i64 (Int.fdiv (IntKind.wrap .u64 (IntKind.wrap .i64 (i + j))) ((2 : Int) ^ (Min.min (Int.toNat (1 : Int)) (Go.IntKind.bits Go.IntKind.u64)))))) [])) == (1 : Nat))) <|
 (gdE (isP [(K1.int Go.IntKind.i64)] (0 : Nat) (List.getD (EC.encL ec_3 b0) (Int.toNat (IntKind.wrap .i64 (Int.fdiv (IntKind.wrap .u64 (IntKind.wrap .i64 (i + j))) ((2 : Int) ^ (Min.min (Int.toNat (1 : Int)) (Go.IntKind.bits Go.IntKind.u64)))))) [])) <|
 (Option.bind (classify_Score_1_s (intOf (List.getD (List.getD (EC.encL ec_3 b0) (Int.toNat m_) []) (0 : Nat) C.ne)) (intOf (List.getD (List.getD (EC.encL ec_3 b0) (Int.toNat (IntKind.wrap .i64 (Int.fdiv (IntKind.wrap .u64 (IntKind.wrap .i64 (i + j))) ((2 : Int) ^ (Min.min (Int.toNat (1 : Int)) (Go.IntKind.bits Go.IntKind.u64)))))) []) (0 : Nat) C.ne))) fun r0 =>
 (brE (!(decide (r0 < (0 : Int))))
 (gdE (EC.isL ec_3 (EC.encL ec_3 b0)) <|
 (slices_symMergeCmpFunc_h4_l15 data m_ (IntKind.wrap .i64 ((IntKind.wrap .i64 (Int.fdiv (IntKind.wrap .u64 (IntKind.wrap .i64 (i + j))) ((2 : Int) ^ (Min.min (Int.toNat (1 : Int)) (Go.IntKind.bits Go.IntKind.u64))))) + (1 : Int))) j (EC.decL ec_3 (EC.encL ec_3 b0))))
 (gdE (EC.isL ec_3 (EC.encL ec_3 b0)) <|
 (slices_symMergeCmpFunc_h4_l15 data m_ i (IntKind.wrap .i64 (Int.fdiv (IntKind.wrap .u64 (IntKind.wrap .i64 (i + j))) ((2 : Int) ^ (Min.min (Int.toNat (1 : Int)) (Go.IntKind.bits Go.IntKind.u64))))) (EC.decL ec_3 (EC.encL ec_3 b0))))))))))))
 (gdE (EC.isL ec_3 (EC.encL ec_3 b0)) <|
 (some ((data, (m_, ((), (i, (j, false))))), (EC.decL ec_3 (EC.encL ec_3 b0))))))
theorem slices_symMergeCmpFunc_h4_l15_eq {data : Nat} {m_ : Int} {i : Int} {j : Int} {b0 : (List Int)} {r : ((Nat × Int × Unit × Int × Int × Bool) × (List Int))} (h : slices_symMergeCmpFunc_h4_l15_t data m_ i j b0 = some r) : slices_symMergeCmpFunc_h4_l15 data m_ i j b0 = some r :=
  lS_tree (es := tab_classify_Score_1) (hs := htab_slices_symMergeCmpFunc_h4) [] (by kernel_rfl) trivial trivial (by kernel_rfl) h
def slices_symMergeCmpFunc_h4_l15_e : LEnt Tryz.prog lv X0 102 220 := lentS Tryz.prog lv X0 15 (getLoop (cdF Tryz.f102) 15) slices_symMergeCmpFunc_h4_l15_s slices_symMergeCmpFunc_h4_l15_o (fun x => slices_symMergeCmpFunc_h4_l15 x.1.1 x.1.2.1 x.1.2.2.2.1 x.1.2.2.2.2 x.2) (fun _ _ h => lS_from h)
def slices_symMergeCmpFunc_h4_l21_s : SC ((Nat × Int × Int) × (List Int)) := sLS [0, 14, 17] (lCons (vRow 0) (lCons (vC (cInt .i64)) (lOne (vC (cInt .i64))))) (lOne (oSome (bRow ec_3))) [false] [0] (by decide) (fun _ => rfl)
def slices_symMergeCmpFunc_h4_l21_o8 : SC ((Nat × Int × Int × Bool) × (List Int)) := sLS [0, 14, 17, 110] (lCons (vRow 0) (lCons (vC (cInt .i64)) (lCons (vC (cInt .i64)) (lOne (vC cBool))))) (lOne (oSome (bRow ec_3))) [false] [0] (by decide) (fun _ => rfl)
def slices_symMergeCmpFunc_h4_l21_o : OC ((Nat × Int × Int × Bool) × (List Int)) := oAt 8 slices_symMergeCmpFunc_h4_l21_o8
def slices_symMergeCmpFunc_h4_l21 (data : Nat) (i : Int) (k : Int) (b0 : (List Int)) : Option ((Nat × Int × Int × Bool) × (List Int)) := lS Tryz.prog lv X0 102 220 (getLoop (cdF Tryz.f102) 21) slices_symMergeCmpFunc_h4_l21_s slices_symMergeCmpFunc_h4_l21_o ((data, i, k), b0)
def slices_symMergeCmpFunc_h4_l21_t (data : Nat) (i : Int) (k : Int) (b0 : (List Int)) : Option ((Nat × Int × Int × Bool) × (List Int)) :=
 (brE (decide (k > i))
 (gdE ((decide ((0 : Int) ≤ (IntKind.wrap .i64 (k - (1 : Int))))) && (decide ((IntKind.wrap .i64 (k - (1 : Int))) < ((data : Nat) : Int)))) <|
 (gdE ((decide ((Int.toNat (IntKind.wrap .i64 (k - (1 : Int)))) < (List.length (EC.encL ec_3 b0)))) && ((List.length (List.getD (EC.encL ec_3 b0) (Int.toNat (IntKind.wrap .i64 (k - (1 : Int)))) [])) == (1 : Nat))) <|
 (gdE (isP [(K1.int Go.IntKind.i64)] (0 : Nat) (List.getD (EC.encL ec_3 b0) (Int.toNat (IntKind.wrap .i64 (k - (1 : Int)))) [])) <|
 (gdE ((decide ((0 : Int) ≤ k)) && (decide (k < ((data : Nat) : Int)))) <|
 (gdE ((decide ((Int.toNat k) < (List.length (EC.encL ec_3 b0)))) && ((List.length (List.getD (EC.encL ec_3 b0) (Int.toNat k) [])) == (1 : Nat))) <|
 (gdE (isP [(K1.int Go.IntKind.i64)] (0 : Nat) (List.getD (EC.encL ec_3 b0) (Int.toNat k) [])) <|
 (gdE ((decide ((0 : Int) ≤ k)) && (decide (k < ((data : Nat) : Int)))) <|
 (gdE ((decide ((Int.toNat k) < (List.length (EC.encL ec_3 b0)))) && ((List.length (List.getD (EC.encL ec_3 b0) (Int.toNat k) [])) == (1 : Nat))) <|
 (gdE ((decide ((0 : Int) ≤ (IntKind.wrap .i64 (k - (1 : Int))))) && (decide ((IntKind.wrap .i64 (k - (1 : Int))) < ((data : Nat) : Int)))) <|
 (gdE ((decide ((Int.toNat (IntKind.wrap .i64 (k - (1 : Int)))) < (List.length (List.set (EC.encL ec_3 b0) (Int.toNat k) (splice (List.getD (EC.encL ec_3 b0) (Int.toNat k) []) (0 : Nat) [(C.int Go.IntKind.i64 (intOf (List.getD (List.getD (EC.encL ec_3 b0) (Int.toNat (IntKind.wrap .i64 (k - (1 : Int)))) []) (0 : Nat) C.ne)))]))))) && ((List.length (List.getD (List.set (EC.encL ec_3 b0) (Int.toNat k) (splice (List.getD (EC.encL ec_3 b0) (Int.toNat k) []) (0 : Nat) [(C.int Go.IntKind.i64 (intOf (List.getD (List.getD (EC.encL ec_3 b0) (Int.toNat (IntKind.wrap .i64 (k - (1 : Int)))) []) (0 : Nat) C.ne)))])) (Int.toNat (IntKind.wrap .i64 (k - (1 : Int)))) [])) == (1 : Nat))) <|
 (gdE (EC.isL ec_3 (List.set (List.set (EC.encL ec_3 b0) (Int.toNat k) (splice (List.getD (EC.encL ec_3 b0) (Int.toNat k) []) (0 : Nat) [(C.int Go.IntKind.i64 (intOf (List.getD (List.getD (EC.encL ec_3 b0) (Int.toNat (IntKind.wrap .i64 (k - (1 : Int)))) []) (0 : Nat) C.ne)))])) (Int.toNat (IntKind.wrap .i64 (k - (1 : Int)))) (splice (List.getD (List.set (EC.encL ec_3 b0) (Int.toNat k) (splice (List.getD (EC.encL ec_3 b0) (Int.toNat k) []) (0 : Nat) [(C.int Go.IntKind.i64 (intOf (List.getD (List.getD (EC.encL ec_3 b0) (Int.toNat (IntKind.wrap .i64 (k - (1 : Int)))) []) (0 : Nat) C.ne)))])) (Int.toNat (IntKind.wrap .i64 (k - (1 : Int)))) []) (0 : Nat) [(C.int Go.IntKind.i64 (intOf (List.getD (List.getD (EC.encL ec_3 b0) (Int.toNat k) []) (0 : Nat) C.ne)))]))) <|
 (slices_symMergeCmpFunc_h4_l21 data i (IntKind.wrap .i64 (k - (1 : Int))) (EC.decL ec_3 (List.set (List.set (EC.encL ec_3 b0) (Int.toNat k) (splice (List.getD (EC.encL ec_3 b0) (Int.toNat k) []) (0 : Nat) [(C.int Go.IntKind.i64 (intOf (List.getD (List.getD (EC.encL ec_3 b0) (Int.toNat (IntKind.wrap .i64 (k - (1 : Int)))) []) (0 : Nat) C.ne)))])) (Int.toNat (IntKind.wrap .i64 (k - (1 : Int)))) (splice (List.getD (List.set (EC.encL ec_3 b0) (Int.toNat k) (splice (List.getD (EC.encL ec_3 b0) (Int.toNat k) []) (0 : Nat) [(C.int Go.IntKind.i64 (intOf (List.getD (List.getD (EC.encL ec_3 b0) (Int.toNat (IntKind.wrap .i64 (k - (1 : Int)))) []) (0 : Nat) C.ne)))])) (Int.toNat (IntKind.wrap .i64 (k - (1 : Int)))) []) (0 : Nat) [(C.int Go.IntKind.i64 (intOf (List.getD (List.getD (EC.encL ec_3 b0) (Int.toNat k) []) (0 : Nat) C.ne)))])))))))))))))))
 (gdE (EC.isL ec_3 (EC.encL ec_3 b0)) <|
 (some ((data, (i, (k, false))), (EC.decL ec_3 (EC.encL ec_3 b0))))))
theorem slices_symMergeCmpFunc_h4_l21_eq {data : Nat} {i : Int} {k : Int} {b0 : (List Int)} {r : ((Nat × Int × Int × Bool) × (List Int))} (h : slices_symMergeCmpFunc_h4_l21_t data i k b0 = some r) : slices_symMergeCmpFunc_h4_l21 data i k b0 = some r :=
  lS_tree (es := tab_classify_Score_1) (hs := htab_slices_symMergeCmpFunc_h4) [] (by kernel_rfl) trivial trivial (by kernel_rfl) h
def slices_symMergeCmpFunc_h4_l21_e : LEnt Tryz.prog lv X0 102 220 := lentS Tryz.prog lv X0 21 (getLoop (cdF Tryz.f102) 21) slices_symMergeCmpFunc_h4_l21_s slices_symMergeCmpFunc_h4_l21_o (fun x => slices_symMergeCmpFunc_h4_l21 x.1.1 x.1.2.1 x.1.2.2 x.2) (fun _ _ h => lS_from h)
def slices_symMergeCmpFunc_h4_l33_s : SC ((Nat × Int × Int × Int × Unit × Int × Int × Int × Int × Int) × (List Int)) := sLS [0, 1, 2, 3, 4, 18, 19, 20, 21, 22] (lCons (vRow 0) (lCons (vC (cInt .i64)) (lCons (vC (cInt .i64)) (lCons (vC (cInt .i64)) (lCons (vFn 28 lNil) (lCons (vC (cInt .i64)) (lCons (vC (cInt .i64)) (lCons (vC (cInt .i64)) (lCons (vC (cInt .i64)) (lOne (vC (cInt .i64)))))))))))) (lOne (oSome (bRow ec_3))) [false] [0] (by decide) (fun _ => rfl)
def slices_symMergeCmpFunc_h4_l33_o10 : SC ((Nat × Int × Int × Int × Unit × Int × Int × Int × Int × Int × Bool) × (List Int)) := sLS [0, 1, 2, 3, 4, 18, 19, 20, 21, 22, 151] (lCons (vRow 0) (lCons (vC (cInt .i64)) (lCons (vC (cInt .i64)) (lCons (vC (cInt .i64)) (lCons (vFn 28 lNil) (lCons (vC (cInt .i64)) (lCons (vC (cInt .i64)) (lCons (vC (cInt .i64)) (lCons (vC (cInt .i64)) (lCons (vC (cInt .i64)) (lOne (vC cBool)))))))))))) (lOne (oSome (bRow ec_3))) [false] [0] (by decide) (fun _ => rfl)
def slices_symMergeCmpFunc_h4_l33_o : OC ((Nat × Int × Int × Int × Unit × Int × Int × Int × Int × Int × Bool) × (List Int)) := oAt 10 slices_symMergeCmpFunc_h4_l33_o10
def slices_symMergeCmpFunc_h4_l33 (data : Nat) (a : Int) (m_ : Int) (b : Int) (mid : Int) (n : Int) (start : Int) (r_ : Int) (p : Int) (b0 : (List Int)) : Option ((Nat × Int × Int × Int × Unit × Int × Int × Int × Int × Int × Bool) × (List Int)) := lS Tryz.prog lv X0 102 220 (getLoop (cdF Tryz.f102) 33) slices_symMergeCmpFunc_h4_l33_s slices_symMergeCmpFunc_h4_l33_o ((data, a, m_, b, (), mid, n, start, r_, p), b0)
def slices_symMergeCmpFunc_h4_l33_t (data : Nat) (a : Int) (m_ : Int) (b : Int) (mid : Int) (n : Int) (start : Int) (r_ : Int) (p : Int) (b0 : (List Int)) : Option ((Nat × Int × Int × Int × Unit × Int × Int × Int × Int × Int × Bool) × (List Int)) :=
 (brE (decide (start < r_))
 (gdE ((decide ((0 : Int) ≤ (IntKind.wrap .i64 (p - (IntKind.wrap .i64 (Int.fdiv (IntKind.wrap .u64 (IntKind.wrap .i64 (start + r_))) ((2 : Int) ^ (Min.min (Int.toNat (1 : Int)) (Go.IntKind.bits Go.IntKind.u64))))))))) && (decide ((IntKind.wrap .i64 (p - (IntKind.wrap .i64 (Int.fdiv (IntKind.wrap .u64 (IntKind.wrap .i64 (start + r_))) ((2 : Int) ^ (Min.min (Int.toNat (1 : Int)) (Go.IntKind.bits Go.IntKind.u64))))))) < ((data : Nat) : Int)))) <|
 (gdE ((decide ((Int.toNat (IntKind.wrap .i64 (p - (IntKind.wrap .i64 (Int.fdiv (IntKind.wrap .u64 (IntKind.wrap .i64 (start + r_))) ((2 : Int) ^ (Min.min (Int.toNat (1 : Int)) (Go.IntKind.bits Go.IntKind.u64)))))))) < (List.length (EC.encL ec_3 b0)))) && ((List.length (List.getD (EC.encL ec_3 b0) (Int.toNat (IntKind.wrap .i64 (p - (IntKind.wrap .i64 (Int.fdiv (IntKind.wrap .u64 (IntKind.wrap .i64 (start + r_))) ((2 : Int) ^ (Min.min (Int.toNat (1 : Int)) (Go.IntKind.bits Go.IntKind.u64)))))))) [])) == (1 : Nat))) <|
 (gdE (isP [(K1.int Go.IntKind.i64)] (0 : Nat) (List.getD (EC.encL ec_3 b0) (Int.toNat (IntKind.wrap .i64 (p - (IntKind.wrap .i64 (Int.fdiv (IntKind.wrap .u64 (IntKind.wrap .i64 (start + r_))) ((2 : Int) ^ (Min.min (Int.toNat (1 : Int)) (Go.IntKind.bits Go.IntKind.u64)))))))) [])) <|
 (gdE ((decide ((0 : Int) ≤ (IntKind.wrap .i64 (Int.fdiv (IntKind.wrap .u64 (IntKind.wrap .i64 (start + r_))) ((2 : Int) ^ (Min.min (Int.toNat (1 : Int)) (Go.IntKind.bits Go.IntKind.u64))))))) && (decide ((IntKind.wrap .i64 (Int.fdiv (IntKind.wrap .u64 (IntKind.wrap .i64 (start + r_))) ((2 : Int) ^ (Min.min (Int.toNat (1 : Int)) (Go.IntKind.bits Go.IntKind.u64))))) < ((data : Nat) : Int)))) <|
 (gdE ((decide ((Int.toNat (IntKind.wrap .i64 (Int.fdiv (IntKind.wrap .u64 (IntKind.wrap .i64 (start + r_))) ((2 : Int) ^ (Min.min (Int.toNat (1 : Int)) (Go.IntKind.bits Go.IntKind.u64)))))) < (List.length (EC.encL ec_3 b0)))) && ((List.length (List.getD (EC.encL ec_3 b0) (Int.toNat (IntKind.wrap .i64 (Int.fdiv (IntKind.wrap .u64 (IntKind.wrap .i64 (start + r_))) ((2 : Int) ^ (Min.min (Int.toNat (1 : Int)) (Go.IntKind.bits Go.IntKind.u64)))))) [])) == (1 : Nat))) <|
 (gdE (isP [(K1.int Go.IntKind.i64)] (0 : Nat) (List.getD (EC.encL ec_3 b0) (Int.toNat (IntKind.wrap .i64 (Int.fdiv (IntKind.wrap .u64 (IntKind.wrap .i64 (start + r_))) ((2 : Int) ^ (Min.min (Int.toNat (1 : Int)) (Go.IntKind.bits Go.IntKind.u64)))))) [])) <|
 (Option.bind (classify_Score_1_s (intOf (List.getD (List.getD (EC.encL ec_3 b0) (Int.toNat (IntKind.wrap .i64 (p - (IntKind.wrap .i64 (Int.fdiv (IntKind.wrap .u64 (IntKind.wrap .i64 (start + r_))) ((2 : Int) ^ (Min.min (Int.toNat (1 : Int)) (Go.IntKind.bits Go.IntKind.u64)))))))) []) (0 : Nat) C.ne)) (intOf (List.getD (List.getD (EC.encL ec_3 b0) (Int.toNat (IntKind.wrap .i64 (Int.fdiv (IntKind.wrap .u64 (IntKind.wrap .i64 (start + r_))) ((2 : Int) ^ (Min.min (Int.toNat (1 : Int)) (Go.IntKind.bits Go.IntKind.u64)))))) []) (0 : Nat) C.ne))) fun r0 =>
 (brE (!(decide (r0 < (0 : Int))))
 (gdE (EC.isL ec_3 (EC.encL ec_3 b0)) <|
 (slices_symMergeCmpFunc_h4_l33 data a m_ b mid n (IntKind.wrap .i64 ((IntKind.wrap .i64 (Int.fdiv (IntKind.wrap .u64 (IntKind.wrap .i64 (start + r_))) ((2 : Int) ^ (Min.min (Int.toNat (1 : Int)) (Go.IntKind.bits Go.IntKind.u64))))) + (1 : Int))) r_ p (EC.decL ec_3 (EC.encL ec_3 b0))))
 (gdE (EC.isL ec_3 (EC.encL ec_3 b0)) <|
 (slices_symMergeCmpFunc_h4_l33 data a m_ b mid n start (IntKind.wrap .i64 (Int.fdiv (IntKind.wrap .u64 (IntKind.wrap .i64 (start + r_))) ((2 : Int) ^ (Min.min (Int.toNat (1 : Int)) (Go.IntKind.bits Go.IntKind.u64))))) p (EC.decL ec_3 (EC.encL ec_3 b0))))))))))))
 (gdE (EC.isL ec_3 (EC.encL ec_3 b0)) <|
 (some ((data, (a, (m_, (b, ((), (mid, (n, (start, (r_, (p, false)))))))))), (EC.decL ec_3 (EC.encL ec_3 b0))))))
theorem slices_symMergeCmpFunc_h4_l33_eq {data : Nat} {a : Int} {m_ : Int} {b : Int} {mid : Int} {n : Int} {start : Int} {r_ : Int} {p : Int} {b0 : (List Int)} {r : ((Nat × Int × Int × Int × Unit × Int × Int × Int × Int × Int × Bool) × (List Int))} (h : slices_symMergeCmpFunc_h4_l33_t data a m_ b mid n start r_ p b0 = some r) : slices_symMergeCmpFunc_h4_l33 data a m_ b mid n start r_ p b0 = some r :=
  lS_tree (es := tab_classify_Score_1) (hs := htab_slices_symMergeCmpFunc_h4) [] (by kernel_rfl) trivial trivial (by kernel_rfl) h
def slices_symMergeCmpFunc_h4_l33_e : LEnt Tryz.prog lv X0 102 220 := lentS Tryz.prog lv X0 33 (getLoop (cdF Tryz.f102) 33) slices_symMergeCmpFunc_h4_l33_s slices_symMergeCmpFunc_h4_l33_o (fun x => slices_symMergeCmpFunc_h4_l33 x.1.1 x.1.2.1 x.1.2.2.1 x.1.2.2.2.1 x.1.2.2.2.2.2.1 x.1.2.2.2.2.2.2.1 x.1.2.2.2.2.2.2.2.1 x.1.2.2.2.2.2.2.2.2.1 x.1.2.2.2.2.2.2.2.2.2 x.2) (fun _ _ h => lS_from h)
def slices_rotateCmpFunc_h5_s : SC ((Nat × Int × Int × Int × Unit) × (List Int)) := sLS [0, 1, 2, 3, 4] (lCons (vRow 0) (lCons (vC (cInt .i64)) (lCons (vC (cInt .i64)) (lCons (vC (cInt .i64)) (lOne (vFn 28 lNil)))))) (lOne (oSome (bRow ec_3))) [false] [0] (by decide) (fun _ => rfl)
def slices_swapRangeCmpFunc_h6_s : SC ((Nat × Int × Int × Int × Unit) × (List Int)) := sLS [0, 1, 2, 3, 4] (lCons (vRow 0) (lCons (vC (cInt .i64)) (lCons (vC (cInt .i64)) (lCons (vC (cInt .i64)) (lOne (vFn 28 lNil)))))) (lOne (oSome (bRow ec_3))) [false] [0] (by decide) (fun _ => rfl)
def slices_swapRangeCmpFunc_h6_l1_s : SC ((Nat × Int × Int × Int × Int) × (List Int)) := sLS [0, 1, 2, 3, 10] (lCons (vRow 0) (lCons (vC (cInt .i64)) (lCons (vC (cInt .i64)) (lCons (vC (cInt .i64)) (lOne (vC (cInt .i64))))))) (lOne (oSome (bRow ec_3))) [false] [0] (by decide) (fun _ => rfl)
def slices_swapRangeCmpFunc_h6_l1_o2 : SC ((Nat × Int × Int × Int × Int × Bool) × (List Int)) := sLS [0, 1, 2, 3, 10, 13] (lCons (vRow 0) (lCons (vC (cInt .i64)) (lCons (vC (cInt .i64)) (lCons (vC (cInt .i64)) (lCons (vC (cInt .i64)) (lOne (vC cBool))))))) (lOne (oSome (bRow ec_3))) [false] [0] (by decide) (fun _ => rfl)
def slices_swapRangeCmpFunc_h6_l1_o : OC ((Nat × Int × Int × Int × Int × Bool) × (List Int)) := oAt 2 slices_swapRangeCmpFunc_h6_l1_o2
def slices_swapRangeCmpFunc_h6_l1 (data : Nat) (a : Int) (b : Int) (n : Int) (i : Int) (b0 : (List Int)) : Option ((Nat × Int × Int × Int × Int × Bool) × (List Int)) := lS Tryz.prog lv X0 183 38 (getLoop (cdF Tryz.f183) 1) slices_swapRangeCmpFunc_h6_l1_s slices_swapRangeCmpFunc_h6_l1_o ((data, a, b, n, i), b0)
def slices_swapRangeCmpFunc_h6_l1_t (data : Nat) (a : Int) (b : Int) (n : Int) (i : Int) (b0 : (List Int)) : Option ((Nat × Int × Int × Int × Int × Bool) × (List Int)) :=
 (brE (decide (i < n))
 (gdE ((decide ((0 : Int) ≤ (IntKind.wrap .i64 (b + i)))) && (decide ((IntKind.wrap .i64 (b + i)) < ((data : Nat) : Int)))) <|
 (gdE ((decide ((Int.toNat (IntKind.wrap .i64 (b + i))) < (List.length (EC.encL ec_3 b0)))) && ((List.length (List.getD (EC.encL ec_3 b0) (Int.toNat (IntKind.wrap .i64 (b + i))) [])) == (1 : Nat))) <|
 (gdE (isP [(K1.int Go.IntKind.i64)] (0 : Nat) (List.getD (EC.encL ec_3 b0) (Int.toNat (IntKind.wrap .i64 (b + i))) [])) <|
 (gdE ((decide ((0 : Int) ≤ (IntKind.wrap .i64 (a + i)))) && (decide ((IntKind.wrap .i64 (a + i)) < ((data : Nat) : Int)))) <|
 (gdE ((decide ((Int.toNat (IntKind.wrap .i64 (a + i))) < (List.length (EC.encL ec_3 b0)))) && ((List.length (List.getD (EC.encL ec_3 b0) (Int.toNat (IntKind.wrap .i64 (a + i))) [])) == (1 : Nat))) <|
 (gdE (isP [(K1.int Go.IntKind.i64)] (0 : Nat) (List.getD (EC.encL ec_3 b0) (Int.toNat (IntKind.wrap .i64 (a + i))) [])) <|
 (gdE ((decide ((0 : Int) ≤ (IntKind.wrap .i64 (a + i)))) && (decide ((IntKind.wrap .i64 (a + i)) < ((data : Nat) : Int)))) <|
 (gdE ((decide ((Int.toNat (IntKind.wrap .i64 (a + i))) < (List.length (EC.encL ec_3 b0)))) && ((List.length (List.getD (EC.encL ec_3 b0) (Int.toNat (IntKind.wrap .i64 (a + i))) [])) == (1 : Nat))) <|
 (gdE ((decide ((0 : Int) ≤ (IntKind.wrap .i64 (b + i)))) && (decide ((IntKind.wrap .i64 (b + i)) < ((data : Nat) : Int)))) <|
 (gdE ((decide ((Int.toNat (IntKind.wrap .i64 (b + i))) < (List.length (List.set (EC.encL ec_3 b0) (Int.toNat (IntKind.wrap .i64 (a + i))) (splice (List.getD (EC.encL ec_3 b0) (Int.toNat (IntKind.wrap .i64 (a + i))) []) (0 : Nat) [(C.int Go.IntKind.i64 (intOf (List.getD (List.getD (EC.encL ec_3 b0) (Int.toNat (IntKind.wrap .i64 (b + i))) []) (0 : Nat) C.ne)))]))))) && ((List.length (List.getD (List.set (EC.encL ec_3 b0) (Int.toNat (IntKind.wrap .i64 (a + i))) (splice (List.getD (EC.encL ec_3 b0) (Int.toNat (IntKind.wrap .i64 (a + i))) []) (0 : Nat) [(C.int Go.IntKind.i64 (intOf (List.getD (List.getD (EC.encL ec_3 b0) (Int.toNat (IntKind.wrap .i64 (b + i))) []) (0 : Nat) C.ne)))])) (Int.toNat (IntKind.wrap .i64 (b + i))) [])) == (1 : Nat))) <|
 (gdE (EC.isL ec_3 (List.set (List.set (EC.encL ec_3 b0) (Int.toNat (IntKind.wrap .i64 (a + i))) (splice (List.getD (EC.encL ec_3 b0) (Int.toNat (IntKind.wrap .i64 (a + i))) []) (0 : Nat) [(C.int Go.IntKind.i64 (intOf (List.getD (List.getD (EC.encL ec_3 b0) (Int.toNat (IntKind.wrap .i64 (b + i))) []) (0 : Nat) C.ne)))])) (Int.toNat (IntKind.wrap .i64 (b + i))) (splice (List.getD (List.set (EC.encL ec_3 b0) (Int.toNat (IntKind.wrap .i64 (a + i))) (splice (List.getD (EC.encL ec_3 b0) (Int.toNat (IntKind.wrap .i64 (a + i))) []) (0 : Nat) [(C.int Go.IntKind.i64 (intOf (List.getD (List.getD (EC.encL ec_3 b0) (Int.toNat (IntKind.wrap .i64 (b + i))) []) (0 : Nat) C.ne)))])) (Int.toNat (IntKind.wrap .i64 (b + i))) []) (0 : Nat) [(C.int Go.IntKind.i64 (intOf (List.getD (List.getD (EC.encL ec_3 b0) (Int.toNat (IntKind.wrap .i64 (a + i))) []) (0 : Nat) C.ne)))]))) <|
 (slices_swapRangeCmpFunc_h6_l1 data a b n (IntKind.wrap .i64 (i + (1 : Int))) (EC.decL ec_3 (List.set (List.set (EC.encL ec_3 b0) (Int.toNat (IntKind.wrap .i64 (a + i))) (splice (List.getD (EC.encL ec_3 b0) (Int.toNat (IntKind.wrap .i64 (a + i))) []) (0 : Nat) [(C.int Go.IntKind.i64 (intOf (List.getD (List.getD (EC.encL ec_3 b0) (Int.toNat (IntKind.wrap .i64 (b + i))) []) (0 : Nat) C.ne)))])) (Int.toNat (IntKind.wrap .i64 (b + i))) (splice (List.getD (List.set (EC.encL ec_3 b0) (Int.toNat (IntKind.wrap .i64 (a + i))) (splice (List.getD (EC.encL ec_3 b0) (Int.toNat (IntKind.wrap .i64 (a + i))) []) (0 : Nat) [(C.int Go.IntKind.i64 (intOf (List.getD (List.getD (EC.encL ec_3 b0) (Int.toNat (IntKind.wrap .i64 (b + i))) []) (0 : Nat) C.ne)))])) (Int.toNat (IntKind.wrap .i64 (b + i))) []) (0 : Nat) [(C.int Go.IntKind.i64 (intOf (List.getD (List.getD (EC.encL ec_3 b0) (Int.toNat (IntKind.wrap .i64 (a + i))) []) (0 : Nat) C.ne)))])))))))))))))))
 (gdE (EC.isL ec_3 (EC.encL ec_3 b0)) <|
 (some ((data, (a, (b, (n, (i, false))))), (EC.decL ec_3 (EC.encL ec_3 b0))))))
theorem slices_swapRangeCmpFunc_h6_l1_eq {data : Nat} {a : Int} {b : Int} {n : Int} {i : Int} {b0 : (List Int)} {r : ((Nat × Int × Int × Int × Int × Bool) × (List Int))} (h : slices_swapRangeCmpFunc_h6_l1_t data a b n i b0 = some r) : slices_swapRangeCmpFunc_h6_l1 data a b n i b0 = some r :=
  lS_tree (es := tab_classify_Score_1) (hs := htab_slices_symMergeCmpFunc_h4) [] (by kernel_rfl) trivial trivial (by kernel_rfl) h
def slices_swapRangeCmpFunc_h6_l1_e : LEnt Tryz.prog lv X0 183 38 := lentS Tryz.prog lv X0 1 (getLoop (cdF Tryz.f183) 1) slices_swapRangeCmpFunc_h6_l1_s slices_swapRangeCmpFunc_h6_l1_o (fun x => slices_swapRangeCmpFunc_h6_l1 x.1.1 x.1.2.1 x.1.2.2.1 x.1.2.2.2.1 x.1.2.2.2.2 x.2) (fun _ _ h => lS_from h)
def slices_swapRangeCmpFunc_h6_q : SC (Unit × (List Int)) := sLS [] lNil (lOne (oSome (bRow ec_3))) [false] [0] (by decide) (fun _ => rfl)
def slices_swapRangeCmpFunc_h6_o : HC (Unit × (Unit × (List Int))) := hPair (vTup lNil) slices_swapRangeCmpFunc_h6_q
def slices_swapRangeCmpFunc_h6 (data : Nat) (a : Int) (b : Int) (n : Int) (b0 : (List Int)) : Option (Unit × (Unit × (List Int))) := hS Tryz.prog lv X0 183 slices_swapRangeCmpFunc_h6_s slices_swapRangeCmpFunc_h6_o ((data, a, b, n, ()), b0)
def slices_swapRangeCmpFunc_h6_t (data : Nat) (a : Int) (b : Int) (n : Int) (b0 : (List Int)) : Option (Unit × (Unit × (List Int))) :=
 (gdE (EC.isL ec_3 (EC.encL ec_3 b0)) <|
 (Option.bind (slices_swapRangeCmpFunc_h6_l1 data a b n (0 : Int) (EC.decL ec_3 (EC.encL ec_3 b0))) fun r0 =>
 (gdE (EC.isL ec_3 (EC.encL ec_3 (r0).2)) <|
 (some ((), ((), (EC.decL ec_3 (EC.encL ec_3 (r0).2))))))))
theorem slices_swapRangeCmpFunc_h6_eq {data : Nat} {a : Int} {b : Int} {n : Int} {b0 : (List Int)} {r : (Unit × (Unit × (List Int)))} (h : slices_swapRangeCmpFunc_h6_t data a b n b0 = some r) : slices_swapRangeCmpFunc_h6 data a b n b0 = some r :=
  hS_tree (fn := Tryz.f183) (es := tab_classify_Score_1) (hs := htab_slices_symMergeCmpFunc_h4) [slices_swapRangeCmpFunc_h6_l1_e] (by kernel_rfl) rfl (by kernel_rfl) (by kernel_rfl) ⟨⟨_, rfl, rfl⟩, trivial⟩ trivial (by kernel_rfl) h
def slices_swapRangeCmpFunc_h6_e : HEnt Tryz.prog lv X0 := hentS Tryz.prog lv X0 183 [0, 2, 0, 1, 1, 1, 2, 1, 1, 3, 1, 1, 4, 6, 28, 0, 2, 0] slices_swapRangeCmpFunc_h6_s slices_swapRangeCmpFunc_h6_o (fun x => slices_swapRangeCmpFunc_h6 x.1.1 x.1.2.1 x.1.2.2.1 x.1.2.2.2.1 x.2) (fun _ _ h => hS_from h)
def htab_slices_swapRangeCmpFunc_h6 : List (HEnt Tryz.prog lv X0) := slices_swapRangeCmpFunc_h6_e :: htab_slices_symMergeCmpFunc_h4
def slices_rotateCmpFunc_h5_l2_s : SC ((Nat × Int × Unit × Int × Int) × (List Int)) := sLS [0, 2, 4, 10, 11] (lCons (vRow 0) (lCons (vC (cInt .i64)) (lCons (vFn 28 lNil) (lCons (vC (cInt .i64)) (lOne (vC (cInt .i64))))))) (lOne (oSome (bRow ec_3))) [false] [0] (by decide) (fun _ => rfl)
def slices_rotateCmpFunc_h5_l2_o2 : SC ((Nat × Int × Unit × Int × Int × Bool) × (List Int)) := sLS [0, 2, 4, 10, 11, 20] (lCons (vRow 0) (lCons (vC (cInt .i64)) (lCons (vFn 28 lNil) (lCons (vC (cInt .i64)) (lCons (vC (cInt .i64)) (lOne (vC cBool))))))) (lOne (oSome (bRow ec_3))) [false] [0] (by decide) (fun _ => rfl)
def slices_rotateCmpFunc_h5_l2_o : OC ((Nat × Int × Unit × Int × Int × Bool) × (List Int)) := oAt 2 slices_rotateCmpFunc_h5_l2_o2
def slices_rotateCmpFunc_h5_l2 (data : Nat) (m_ : Int) (i : Int) (j : Int) (b0 : (List Int)) : Option ((Nat × Int × Unit × Int × Int × Bool) × (List Int)) := lS Tryz.prog lv X0 146 58 (getLoop (cdF Tryz.f146) 2) slices_rotateCmpFunc_h5_l2_s slices_rotateCmpFunc_h5_l2_o ((data, m_, (), i, j), b0)
def slices_rotateCmpFunc_h5_l2_t (data : Nat) (m_ : Int) (i : Int) (j : Int) (b0 : (List Int)) : Option ((Nat × Int × Unit × Int × Int × Bool) × (List Int)) :=
 (brE (i != j)
 (brE (decide (i > j))
 (gdE (EC.isL ec_3 (EC.encL ec_3 b0)) <|
 (Option.bind (slices_swapRangeCmpFunc_h6 data (IntKind.wrap .i64 (m_ - i)) m_ j (EC.decL ec_3 (EC.encL ec_3 b0))) fun r0 =>
 (gdE (EC.isL ec_3 (EC.encL ec_3 ((r0).2).2)) <|
 (slices_rotateCmpFunc_h5_l2 data m_ (IntKind.wrap .i64 (i - j)) j (EC.decL ec_3 (EC.encL ec_3 ((r0).2).2))))))
 (gdE (EC.isL ec_3 (EC.encL ec_3 b0)) <|
 (Option.bind (slices_swapRangeCmpFunc_h6 data (IntKind.wrap .i64 (m_ - i)) (IntKind.wrap .i64 ((IntKind.wrap .i64 (m_ + j)) - i)) i (EC.decL ec_3 (EC.encL ec_3 b0))) fun r0 =>
 (gdE (EC.isL ec_3 (EC.encL ec_3 ((r0).2).2)) <|
 (slices_rotateCmpFunc_h5_l2 data m_ i (IntKind.wrap .i64 (j - i)) (EC.decL ec_3 (EC.encL ec_3 ((r0).2).2)))))))
 (gdE (EC.isL ec_3 (EC.encL ec_3 b0)) <|
 (some ((data, (m_, ((), (i, (j, false))))), (EC.decL ec_3 (EC.encL ec_3 b0))))))
theorem slices_rotateCmpFunc_h5_l2_eq {data : Nat} {m_ : Int} {i : Int} {j : Int} {b0 : (List Int)} {r : ((Nat × Int × Unit × Int × Int × Bool) × (List Int))} (h : slices_rotateCmpFunc_h5_l2_t data m_ i j b0 = some r) : slices_rotateCmpFunc_h5_l2 data m_ i j b0 = some r :=
  lS_tree (es := tab_classify_Score_1) (hs := htab_slices_swapRangeCmpFunc_h6) [] (by kernel_rfl) trivial trivial (by kernel_rfl) h
def slices_rotateCmpFunc_h5_l2_e : LEnt Tryz.prog lv X0 146 58 := lentS Tryz.prog lv X0 2 (getLoop (cdF Tryz.f146) 2) slices_rotateCmpFunc_h5_l2_s slices_rotateCmpFunc_h5_l2_o (fun x => slices_rotateCmpFunc_h5_l2 x.1.1 x.1.2.1 x.1.2.2.2.1 x.1.2.2.2.2 x.2) (fun _ _ h => lS_from h)
def slices_rotateCmpFunc_h5_q : SC (Unit × (List Int)) := sLS [] lNil (lOne (oSome (bRow ec_3))) [false] [0] (by decide) (fun _ => rfl)
def slices_rotateCmpFunc_h5_o : HC (Unit × (Unit × (List Int))) := hPair (vTup lNil) slices_rotateCmpFunc_h5_q
def slices_rotateCmpFunc_h5 (data : Nat) (a : Int) (m_ : Int) (b : Int) (b0 : (List Int)) : Option (Unit × (Unit × (List Int))) := hS Tryz.prog lv X0 146 slices_rotateCmpFunc_h5_s slices_rotateCmpFunc_h5_o ((data, a, m_, b, ()), b0)
def slices_rotateCmpFunc_h5_t (data : Nat) (a : Int) (m_ : Int) (b : Int) (b0 : (List Int)) : Option (Unit × (Unit × (List Int))) :=
 (gdE (EC.isL ec_3 (EC.encL ec_3 b0)) <|
 (Option.bind (slices_rotateCmpFunc_h5_l2 data m_ (IntKind.wrap .i64 (m_ - a)) (IntKind.wrap .i64 (b - m_)) (EC.decL ec_3 (EC.encL ec_3 b0))) fun r0 =>
 (gdE (EC.isL ec_3 (EC.encL ec_3 (r0).2)) <|
 (Option.bind (slices_swapRangeCmpFunc_h6 ((r0).1).1 (IntKind.wrap .i64 ((((r0).1).2).1 - (((((r0).1).2).2).2).1)) (((r0).1).2).1 (((((r0).1).2).2).2).1 (EC.decL ec_3 (EC.encL ec_3 (r0).2))) fun r1 =>
 (gdE (EC.isL ec_3 (EC.encL ec_3 ((r1).2).2)) <|
 (some ((), ((), (EC.decL ec_3 (EC.encL ec_3 ((r1).2).2))))))))))
theorem slices_rotateCmpFunc_h5_eq {data : Nat} {a : Int} {m_ : Int} {b : Int} {b0 : (List Int)} {r : (Unit × (Unit × (List Int)))} (h : slices_rotateCmpFunc_h5_t data a m_ b b0 = some r) : slices_rotateCmpFunc_h5 data a m_ b b0 = some r :=
  hS_tree (fn := Tryz.f146) (es := tab_classify_Score_1) (hs := htab_slices_swapRangeCmpFunc_h6) [slices_rotateCmpFunc_h5_l2_e] (by kernel_rfl) rfl (by kernel_rfl) (by kernel_rfl) ⟨⟨_, rfl, rfl⟩, trivial⟩ trivial (by kernel_rfl) h
def slices_rotateCmpFunc_h5_e : HEnt Tryz.prog lv X0 := hentS Tryz.prog lv X0 146 [0, 2, 0, 1, 1, 1, 2, 1, 1, 3, 1, 1, 4, 6, 28, 0, 2, 0] slices_rotateCmpFunc_h5_s slices_rotateCmpFunc_h5_o (fun x => slices_rotateCmpFunc_h5 x.1.1 x.1.2.1 x.1.2.2.1 x.1.2.2.2.1 x.2) (fun _ _ h => hS_from h)
def htab_slices_rotateCmpFunc_h5 : List (HEnt Tryz.prog lv X0) := slices_rotateCmpFunc_h5_e :: htab_slices_swapRangeCmpFunc_h6
def slices_symMergeCmpFunc_h4_t (data : Nat) (a : Int) (m_ : Int) (b : Int) (b0 : (List Int)) : Option (Unit × (Unit × (List Int))) :=
 (brE ((IntKind.wrap .i64 (m_ - a)) == 1)
 (gdE (EC.isL ec_3 (EC.encL ec_3 b0)) <|
 (Option.bind (slices_symMergeCmpFunc_h4_l3 data a m_ b (EC.decL ec_3 (EC.encL ec_3 b0))) fun r0 =>
 (gdE (EC.isL ec_3 (EC.encL ec_3 (r0).2)) <|
 (Option.bind (slices_symMergeCmpFunc_h4_l9 ((r0).1).1 (((((r0).1).2).2).2).1 (((r0).1).2).1 (EC.decL ec_3 (EC.encL ec_3 (r0).2))) fun r1 =>
 (gdE (EC.isL ec_3 (EC.encL ec_3 (r1).2)) <|
 (some ((), ((), (EC.decL ec_3 (EC.encL ec_3 (r1).2))))))))))
 (brE ((IntKind.wrap .i64 (b - m_)) == 1)
 (gdE (EC.isL ec_3 (EC.encL ec_3 b0)) <|
 (Option.bind (slices_symMergeCmpFunc_h4_l15 data m_ a m_ (EC.decL ec_3 (EC.encL ec_3 b0))) fun r0 =>
 (gdE (EC.isL ec_3 (EC.encL ec_3 (r0).2)) <|
 (Option.bind (slices_symMergeCmpFunc_h4_l21 ((r0).1).1 (((((r0).1).2).2).2).1 (((r0).1).2).1 (EC.decL ec_3 (EC.encL ec_3 (r0).2))) fun r1 =>
 (gdE (EC.isL ec_3 (EC.encL ec_3 (r1).2)) <|
 (some ((), ((), (EC.decL ec_3 (EC.encL ec_3 (r1).2))))))))))
 (brE (decide (m_ > (IntKind.wrap .i64 (Int.fdiv (IntKind.wrap .u64 (IntKind.wrap .i64 (a + b))) ((2 : Int) ^ (Min.min (Int.toNat (1 : Int)) (Go.IntKind.bits Go.IntKind.u64)))))))
 (gdE (EC.isL ec_3 (EC.encL ec_3 b0)) <|
 (Option.bind (slices_symMergeCmpFunc_h4_l33 data a m_ b (IntKind.wrap .i64 (Int.fdiv (IntKind.wrap .u64 (IntKind.wrap .i64 (a + b))) ((2 : Int) ^ (Min.min (Int.toNat (1 : Int)) (Go.IntKind.bits Go.IntKind.u64))))) (IntKind.wrap .i64 ((IntKind.wrap .i64 (Int.fdiv (IntKind.wrap .u64 (IntKind.wrap .i64 (a + b))) ((2 : Int) ^ (Min.min (Int.toNat (1 : Int)) (Go.IntKind.bits Go.IntKind.u64))))) + m_)) (IntKind.wrap .i64 ((IntKind.wrap .i64 ((IntKind.wrap .i64 (Int.fdiv (IntKind.wrap .u64 (IntKind.wrap .i64 (a + b))) ((2 : Int) ^ (Min.min (Int.toNat (1 : Int)) (Go.IntKind.bits Go.IntKind.u64))))) + m_)) - b)) (IntKind.wrap .i64 (Int.fdiv (IntKind.wrap .u64 (IntKind.wrap .i64 (a + b))) ((2 : Int) ^ (Min.min (Int.toNat (1 : Int)) (Go.IntKind.bits Go.IntKind.u64))))) (IntKind.wrap .i64 ((IntKind.wrap .i64 ((IntKind.wrap .i64 (Int.fdiv (IntKind.wrap .u64 (IntKind.wrap .i64 (a + b))) ((2 : Int) ^ (Min.min (Int.toNat (1 : Int)) (Go.IntKind.bits Go.IntKind.u64))))) + m_)) - (1 : Int))) (EC.decL ec_3 (EC.encL ec_3 b0))) fun r0 =>
 (brE ((decide ((((((((((r0).1).2).2).2).2).2).2).2).1 < ((((r0).1).2).2).1)) == true)
 (brE (decide (((((r0).1).2).2).1 < (IntKind.wrap .i64 (((((((((r0).1).2).2).2).2).2).2).1 - (((((((((r0).1).2).2).2).2).2).2).2).1))))
 (gdE (EC.isL ec_3 (EC.encL ec_3 (r0).2)) <|
 (Option.bind (slices_rotateCmpFunc_h5 ((r0).1).1 (((((((((r0).1).2).2).2).2).2).2).2).1 ((((r0).1).2).2).1 (IntKind.wrap .i64 (((((((((r0).1).2).2).2).2).2).2).1 - (((((((((r0).1).2).2).2).2).2).2).2).1)) (EC.decL ec_3 (EC.encL ec_3 (r0).2))) fun r1 =>
 (brE ((decide ((((r0).1).2).1 < (((((((((r0).1).2).2).2).2).2).2).2).1)) == true)
 (brE (decide ((((((((((r0).1).2).2).2).2).2).2).2).1 < (((((((r0).1).2).2).2).2).2).1))
 (gdE (EC.isL ec_3 (EC.encL ec_3 ((r1).2).2)) <|
 (Option.bind (slices_symMergeCmpFunc_h4 ((r0).1).1 (((r0).1).2).1 (((((((((r0).1).2).2).2).2).2).2).2).1 (((((((r0).1).2).2).2).2).2).1 (EC.decL ec_3 (EC.encL ec_3 ((r1).2).2))) fun r2 =>
 (brE ((decide ((((((((r0).1).2).2).2).2).2).1 < (IntKind.wrap .i64 (((((((((r0).1).2).2).2).2).2).2).1 - (((((((((r0).1).2).2).2).2).2).2).2).1)))) == true)
 (brE (decide ((IntKind.wrap .i64 (((((((((r0).1).2).2).2).2).2).2).1 - (((((((((r0).1).2).2).2).2).2).2).2).1)) < (((((r0).1).2).2).2).1))
 (gdE (EC.isL ec_3 (EC.encL ec_3 ((r2).2).2)) <|
 (Option.bind (slices_symMergeCmpFunc_h4 ((r0).1).1 (((((((r0).1).2).2).2).2).2).1 (IntKind.wrap .i64 (((((((((r0).1).2).2).2).2).2).2).1 - (((((((((r0).1).2).2).2).2).2).2).2).1)) (((((r0).1).2).2).2).1 (EC.decL ec_3 (EC.encL ec_3 ((r2).2).2))) fun r3 =>
 (gdE (EC.isL ec_3 (EC.encL ec_3 ((r3).2).2)) <|
 (some ((), ((), (EC.decL ec_3 (EC.encL ec_3 ((r3).2).2))))))))
 (gdE (EC.isL ec_3 (EC.encL ec_3 ((r2).2).2)) <|
 (some ((), ((), (EC.decL ec_3 (EC.encL ec_3 ((r2).2).2)))))))
 (gdE (EC.isL ec_3 (EC.encL ec_3 ((r2).2).2)) <|
 (some ((), ((), (EC.decL ec_3 (EC.encL ec_3 ((r2).2).2)))))))))
 (brE ((decide ((((((((r0).1).2).2).2).2).2).1 < (IntKind.wrap .i64 (((((((((r0).1).2).2).2).2).2).2).1 - (((((((((r0).1).2).2).2).2).2).2).2).1)))) == true)
 (brE (decide ((IntKind.wrap .i64 (((((((((r0).1).2).2).2).2).2).2).1 - (((((((((r0).1).2).2).2).2).2).2).2).1)) < (((((r0).1).2).2).2).1))
 (gdE (EC.isL ec_3 (EC.encL ec_3 ((r1).2).2)) <|
 (Option.bind (slices_symMergeCmpFunc_h4 ((r0).1).1 (((((((r0).1).2).2).2).2).2).1 (IntKind.wrap .i64 (((((((((r0).1).2).2).2).2).2).2).1 - (((((((((r0).1).2).2).2).2).2).2).2).1)) (((((r0).1).2).2).2).1 (EC.decL ec_3 (EC.encL ec_3 ((r1).2).2))) fun r2 =>
 (gdE (EC.isL ec_3 (EC.encL ec_3 ((r2).2).2)) <|
 (some ((), ((), (EC.decL ec_3 (EC.encL ec_3 ((r2).2).2))))))))
 (gdE (EC.isL ec_3 (EC.encL ec_3 ((r1).2).2)) <|
 (some ((), ((), (EC.decL ec_3 (EC.encL ec_3 ((r1).2).2)))))))
 (gdE (EC.isL ec_3 (EC.encL ec_3 ((r1).2).2)) <|
 (some ((), ((), (EC.decL ec_3 (EC.encL ec_3 ((r1).2).2))))))))
 (brE ((decide ((((((((r0).1).2).2).2).2).2).1 < (IntKind.wrap .i64 (((((((((r0).1).2).2).2).2).2).2).1 - (((((((((r0).1).2).2).2).2).2).2).2).1)))) == true)
 (brE (decide ((IntKind.wrap .i64 (((((((((r0).1).2).2).2).2).2).2).1 - (((((((((r0).1).2).2).2).2).2).2).2).1)) < (((((r0).1).2).2).2).1))
 (gdE (EC.isL ec_3 (EC.encL ec_3 ((r1).2).2)) <|
 (Option.bind (slices_symMergeCmpFunc_h4 ((r0).1).1 (((((((r0).1).2).2).2).2).2).1 (IntKind.wrap .i64 (((((((((r0).1).2).2).2).2).2).2).1 - (((((((((r0).1).2).2).2).2).2).2).2).1)) (((((r0).1).2).2).2).1 (EC.decL ec_3 (EC.encL ec_3 ((r1).2).2))) fun r2 =>
 (gdE (EC.isL ec_3 (EC.encL ec_3 ((r2).2).2)) <|
 (some ((), ((), (EC.decL ec_3 (EC.encL ec_3 ((r2).2).2))))))))
 (gdE (EC.isL ec_3 (EC.encL ec_3 ((r1).2).2)) <|
 (some ((), ((), (EC.decL ec_3 (EC.encL ec_3 ((r1).2).2)))))))
 (gdE (EC.isL ec_3 (EC.encL ec_3 ((r1).2).2)) <|
 (some ((), ((), (EC.decL ec_3 (EC.encL ec_3 ((r1).2).2))))))))))
 (brE ((decide ((((r0).1).2).1 < (((((((((r0).1).2).2).2).2).2).2).2).1)) == true)
 (brE (decide ((((((((((r0).1).2).2).2).2).2).2).2).1 < (((((((r0).1).2).2).2).2).2).1))
 (gdE (EC.isL ec_3 (EC.encL ec_3 (r0).2)) <|
 (Option.bind (slices_symMergeCmpFunc_h4 ((r0).1).1 (((r0).1).2).1 (((((((((r0).1).2).2).2).2).2).2).2).1 (((((((r0).1).2).2).2).2).2).1 (EC.decL ec_3 (EC.encL ec_3 (r0).2))) fun r1 =>
 (brE ((decide ((((((((r0).1).2).2).2).2).2).1 < (IntKind.wrap .i64 (((((((((r0).1).2).2).2).2).2).2).1 - (((((((((r0).1).2).2).2).2).2).2).2).1)))) == true)
 (brE (decide ((IntKind.wrap .i64 (((((((((r0).1).2).2).2).2).2).2).1 - (((((((((r0).1).2).2).2).2).2).2).2).1)) < (((((r0).1).2).2).2).1))
 (gdE (EC.isL ec_3 (EC.encL ec_3 ((r1).2).2)) <|
 (Option.bind (slices_symMergeCmpFunc_h4 ((r0).1).1 (((((((r0).1).2).2).2).2).2).1 (IntKind.wrap .i64 (((((((((r0).1).2).2).2).2).2).2).1 - (((((((((r0).1).2).2).2).2).2).2).2).1)) (((((r0).1).2).2).2).1 (EC.decL ec_3 (EC.encL ec_3 ((r1).2).2))) fun r2 =>
 (gdE (EC.isL ec_3 (EC.encL ec_3 ((r2).2).2)) <|
 (some ((), ((), (EC.decL ec_3 (EC.encL ec_3 ((r2).2).2))))))))
 (gdE (EC.isL ec_3 (EC.encL ec_3 ((r1).2).2)) <|
 (some ((), ((), (EC.decL ec_3 (EC.encL ec_3 ((r1).2).2)))))))
 (gdE (EC.isL ec_3 (EC.encL ec_3 ((r1).2).2)) <|
 (some ((), ((), (EC.decL ec_3 (EC.encL ec_3 ((r1).2).2)))))))))
 (brE ((decide ((((((((r0).1).2).2).2).2).2).1 < (IntKind.wrap .i64 (((((((((r0).1).2).2).2).2).2).2).1 - (((((((((r0).1).2).2).2).2).2).2).2).1)))) == true)
 (brE (decide ((IntKind.wrap .i64 (((((((((r0).1).2).2).2).2).2).2).1 - (((((((((r0).1).2).2).2).2).2).2).2).1)) < (((((r0).1).2).2).2).1))
 (gdE (EC.isL ec_3 (EC.encL ec_3 (r0).2)) <|
 (Option.bind (slices_symMergeCmpFunc_h4 ((r0).1).1 (((((((r0).1).2).2).2).2).2).1 (IntKind.wrap .i64 (((((((((r0).1).2).2).2).2).2).2).1 - (((((((((r0).1).2).2).2).2).2).2).2).1)) (((((r0).1).2).2).2).1 (EC.decL ec_3 (EC.encL ec_3 (r0).2))) fun r1 =>
 (gdE (EC.isL ec_3 (EC.encL ec_3 ((r1).2).2)) <|
 (some ((), ((), (EC.decL ec_3 (EC.encL ec_3 ((r1).2).2))))))))
 (gdE (EC.isL ec_3 (EC.encL ec_3 (r0).2)) <|
 (some ((), ((), (EC.decL ec_3 (EC.encL ec_3 (r0).2)))))))
 (gdE (EC.isL ec_3 (EC.encL ec_3 (r0).2)) <|
 (some ((), ((), (EC.decL ec_3 (EC.encL ec_3 (r0).2))))))))
 (brE ((decide ((((((((r0).1).2).2).2).2).2).1 < (IntKind.wrap .i64 (((((((((r0).1).2).2).2).2).2).2).1 - (((((((((r0).1).2).2).2).2).2).2).2).1)))) == true)
 (brE (decide ((IntKind.wrap .i64 (((((((((r0).1).2).2).2).2).2).2).1 - (((((((((r0).1).2).2).2).2).2).2).2).1)) < (((((r0).1).2).2).2).1))
 (gdE (EC.isL ec_3 (EC.encL ec_3 (r0).2)) <|
 (Option.bind (slices_symMergeCmpFunc_h4 ((r0).1).1 (((((((r0).1).2).2).2).2).2).1 (IntKind.wrap .i64 (((((((((r0).1).2).2).2).2).2).2).1 - (((((((((r0).1).2).2).2).2).2).2).2).1)) (((((r0).1).2).2).2).1 (EC.decL ec_3 (EC.encL ec_3 (r0).2))) fun r1 =>
 (gdE (EC.isL ec_3 (EC.encL ec_3 ((r1).2).2)) <|
 (some ((), ((), (EC.decL ec_3 (EC.encL ec_3 ((r1).2).2))))))))
 (gdE (EC.isL ec_3 (EC.encL ec_3 (r0).2)) <|
 (some ((), ((), (EC.decL ec_3 (EC.encL ec_3 (r0).2)))))))
 (gdE (EC.isL ec_3 (EC.encL ec_3 (r0).2)) <|
 (some ((), ((), (EC.decL ec_3 (EC.encL ec_3 (r0).2)))))))))
 (brE ((decide ((((r0).1).2).1 < (((((((((r0).1).2).2).2).2).2).2).2).1)) == true)
 (brE (decide ((((((((((r0).1).2).2).2).2).2).2).2).1 < (((((((r0).1).2).2).2).2).2).1))
 (gdE (EC.isL ec_3 (EC.encL ec_3 (r0).2)) <|
 (Option.bind (slices_symMergeCmpFunc_h4 ((r0).1).1 (((r0).1).2).1 (((((((((r0).1).2).2).2).2).2).2).2).1 (((((((r0).1).2).2).2).2).2).1 (EC.decL ec_3 (EC.encL ec_3 (r0).2))) fun r1 =>
 (brE ((decide ((((((((r0).1).2).2).2).2).2).1 < (IntKind.wrap .i64 (((((((((r0).1).2).2).2).2).2).2).1 - (((((((((r0).1).2).2).2).2).2).2).2).1)))) == true)
 (brE (decide ((IntKind.wrap .i64 (((((((((r0).1).2).2).2).2).2).2).1 - (((((((((r0).1).2).2).2).2).2).2).2).1)) < (((((r0).1).2).2).2).1))
 (gdE (EC.isL ec_3 (EC.encL ec_3 ((r1).2).2)) <|
 (Option.bind (slices_symMergeCmpFunc_h4 ((r0).1).1 (((((((r0).1).2).2).2).2).2).1 (IntKind.wrap .i64 (((((((((r0).1).2).2).2).2).2).2).1 - (((((((((r0).1).2).2).2).2).2).2).2).1)) (((((r0).1).2).2).2).1 (EC.decL ec_3 (EC.encL ec_3 ((r1).2).2))) fun r2 =>
 (gdE (EC.isL ec_3 (EC.encL ec_3 ((r2).2).2)) <|
 (some ((), ((), (EC.decL ec_3 (EC.encL ec_3 ((r2).2).2))))))))
 (gdE (EC.isL ec_3 (EC.encL ec_3 ((r1).2).2)) <|
 (some ((), ((), (EC.decL ec_3 (EC.encL ec_3 ((r1).2).2)))))))
 (gdE (EC.isL ec_3 (EC.encL ec_3 ((r1).2).2)) <|
 (some ((), ((), (EC.decL ec_3 (EC.encL ec_3 ((r1).2).2)))))))))
 (brE ((decide ((((((((r0).1).2).2).2).2).2).1 < (IntKind.wrap .i64 (((((((((r0).1).2).2).2).2).2).2).1 - (((((((((r0).1).2).2).2).2).2).2).2).1)))) == true)
 (brE (decide ((IntKind.wrap .i64 (((((((((r0).1).2).2).2).2).2).2).1 - (((((((((r0).1).2).2).2).2).2).2).2).1)) < (((((r0).1).2).2).2).1))
 (gdE (EC.isL ec_3 (EC.encL ec_3 (r0).2)) <|
 (Option.bind (slices_symMergeCmpFunc_h4 ((r0).1).1 (((((((r0).1).2).2).2).2).2).1 (IntKind.wrap .i64 (((((((((r0).1).2).2).2).2).2).2).1 - (((((((((r0).1).2).2).2).2).2).2).2).1)) (((((r0).1).2).2).2).1 (EC.decL ec_3 (EC.encL ec_3 (r0).2))) fun r1 =>
 (gdE (EC.isL ec_3 (EC.encL ec_3 ((r1).2).2)) <|
 (some ((), ((), (EC.decL ec_3 (EC.encL ec_3 ((r1).2).2))))))))
 (gdE (EC.isL ec_3 (EC.encL ec_3 (r0).2)) <|
 (some ((), ((), (EC.decL ec_3 (EC.encL ec_3 (r0).2)))))))
 (gdE (EC.isL ec_3 (EC.encL ec_3 (r0).2)) <|
 (some ((), ((), (EC.decL ec_3 (EC.encL ec_3 (r0).2))))))))
 (brE ((decide ((((((((r0).1).2).2).2).2).2).1 < (IntKind.wrap .i64 (((((((((r0).1).2).2).2).2).2).2).1 - (((((((((r0).1).2).2).2).2).2).2).2).1)))) == true)
 (brE (decide ((IntKind.wrap .i64 (((((((((r0).1).2).2).2).2).2).2).1 - (((((((((r0).1).2).2).2).2).2).2).2).1)) < (((((r0).1).2).2).2).1))
 (gdE (EC.isL ec_3 (EC.encL ec_3 (r0).2)) <|
 (Option.bind (slices_symMergeCmpFunc_h4 ((r0).1).1 (((((((r0).1).2).2).2).2).2).1 (IntKind.wrap .i64 (((((((((r0).1).2).2).2).2).2).2).1 - (((((((((r0).1).2).2).2).2).2).2).2).1)) (((((r0).1).2).2).2).1 (EC.decL ec_3 (EC.encL ec_3 (r0).2))) fun r1 =>
 (gdE (EC.isL ec_3 (EC.encL ec_3 ((r1).2).2)) <|
 (some ((), ((), (EC.decL ec_3 (EC.encL ec_3 ((r1).2).2))))))))
 (gdE (EC.isL ec_3 (EC.encL ec_3 (r0).2)) <|
 (some ((), ((), (EC.decL ec_3 (EC.encL ec_3 (r0).2)))))))
 (gdE (EC.isL ec_3 (EC.encL ec_3 (r0).2)) <|
 (some ((), ((), (EC.decL ec_3 (EC.encL ec_3 (r0).2)))))))))))
 (gdE (EC.isL ec_3 (EC.encL ec_3 b0)) <|
 (Option.bind (slices_symMergeCmpFunc_h4_l33 data a m_ b (IntKind.wrap .i64 (Int.fdiv (IntKind.wrap .u64 (IntKind.wrap .i64 (a + b))) ((2 : Int) ^ (Min.min (Int.toNat (1 : Int)) (Go.IntKind.bits Go.IntKind.u64))))) (IntKind.wrap .i64 ((IntKind.wrap .i64 (Int.fdiv (IntKind.wrap .u64 (IntKind.wrap .i64 (a + b))) ((2 : Int) ^ (Min.min (Int.toNat (1 : Int)) (Go.IntKind.bits Go.IntKind.u64))))) + m_)) a m_ (IntKind.wrap .i64 ((IntKind.wrap .i64 ((IntKind.wrap .i64 (Int.fdiv (IntKind.wrap .u64 (IntKind.wrap .i64 (a + b))) ((2 : Int) ^ (Min.min (Int.toNat (1 : Int)) (Go.IntKind.bits Go.IntKind.u64))))) + m_)) - (1 : Int))) (EC.decL ec_3 (EC.encL ec_3 b0))) fun r0 =>
 (brE ((decide ((((((((((r0).1).2).2).2).2).2).2).2).1 < ((((r0).1).2).2).1)) == true)
 (brE (decide (((((r0).1).2).2).1 < (IntKind.wrap .i64 (((((((((r0).1).2).2).2).2).2).2).1 - (((((((((r0).1).2).2).2).2).2).2).2).1))))
 (gdE (EC.isL ec_3 (EC.encL ec_3 (r0).2)) <|
 (Option.bind (slices_rotateCmpFunc_h5 ((r0).1).1 (((((((((r0).1).2).2).2).2).2).2).2).1 ((((r0).1).2).2).1 (IntKind.wrap .i64 (((((((((r0).1).2).2).2).2).2).2).1 - (((((((((r0).1).2).2).2).2).2).2).2).1)) (EC.decL ec_3 (EC.encL ec_3 (r0).2))) fun r1 =>
 (brE ((decide ((((r0).1).2).1 < (((((((((r0).1).2).2).2).2).2).2).2).1)) == true)
 (brE (decide ((((((((((r0).1).2).2).2).2).2).2).2).1 < (((((((r0).1).2).2).2).2).2).1))
 (gdE (EC.isL ec_3 (EC.encL ec_3 ((r1).2).2)) <|
 (Option.bind (slices_symMergeCmpFunc_h4 ((r0).1).1 (((r0).1).2).1 (((((((((r0).1).2).2).2).2).2).2).2).1 (((((((r0).1).2).2).2).2).2).1 (EC.decL ec_3 (EC.encL ec_3 ((r1).2).2))) fun r2 =>
 (brE ((decide ((((((((r0).1).2).2).2).2).2).1 < (IntKind.wrap .i64 (((((((((r0).1).2).2).2).2).2).2).1 - (((((((((r0).1).2).2).2).2).2).2).2).1)))) == true)
 (brE (decide ((IntKind.wrap .i64 (((((((((r0).1).2).2).2).2).2).2).1 - (((((((((r0).1).2).2).2).2).2).2).2).1)) < (((((r0).1).2).2).2).1))
 (gdE (EC.isL ec_3 (EC.encL ec_3 ((r2).2).2)) <|
 (Option.bind (slices_symMergeCmpFunc_h4 ((r0).1).1 (((((((r0).1).2).2).2).2).2).1 (IntKind.wrap .i64 (((((((((r0).1).2).2).2).2).2).2).1 - (((((((((r0).1).2).2).2).2).2).2).2).1)) (((((r0).1).2).2).2).1 (EC.decL ec_3 (EC.encL ec_3 ((r2).2).2))) fun r3 =>
 (gdE (EC.isL ec_3 (EC.encL ec_3 ((r3).2).2)) <|
 (some ((), ((), (EC.decL ec_3 (EC.encL ec_3 ((r3).2).2))))))))
 (gdE (EC.isL ec_3 (EC.encL ec_3 ((r2).2).2)) <|
 (some ((), ((), (EC.decL ec_3 (EC.encL ec_3 ((r2).2).2)))))))
 (gdE (EC.isL ec_3 (EC.encL ec_3 ((r2).2).2)) <|
 (some ((), ((), (EC.decL ec_3 (EC.encL ec_3 ((r2).2).2)))))))))
 (brE ((decide ((((((((r0).1).2).2).2).2).2).1 < (IntKind.wrap .i64 (((((((((r0).1).2).2).2).2).2).2).1 - (((((((((r0).1).2).2).2).2).2).2).2).1)))) == true)
 (brE (decide ((IntKind.wrap .i64 (((((((((r0).1).2).2).2).2).2).2).1 - (((((((((r0).1).2).2).2).2).2).2).2).1)) < (((((r0).1).2).2).2).1))
 (gdE (EC.isL ec_3 (EC.encL ec_3 ((r1).2).2)) <|
 (Option.bind (slices_symMergeCmpFunc_h4 ((r0).1).1 (((((((r0).1).2).2).2).2).2).1 (IntKind.wrap .i64 (((((((((r0).1).2).2).2).2).2).2).1 - (((((((((r0).1).2).2).2).2).2).2).2).1)) (((((r0).1).2).2).2).1 (EC.decL ec_3 (EC.encL ec_3 ((r1).2).2))) fun r2 =>
 (gdE (EC.isL ec_3 (EC.encL ec_3 ((r2).2).2)) <|
 (some ((), ((), (EC.decL ec_3 (EC.encL ec_3 ((r2).2).2))))))))
 (gdE (EC.isL ec_3 (EC.encL ec_3 ((r1).2).2)) <|
 (some ((), ((), (EC.decL ec_3 (EC.encL ec_3 ((r1).2).2)))))))
 (gdE (EC.isL ec_3 (EC.encL ec_3 ((r1).2).2)) <|
 (some ((), ((), (EC.decL ec_3 (EC.encL ec_3 ((r1).2).2))))))))
 (brE ((decide ((((((((r0).1).2).2).2).2).2).1 < (IntKind.wrap .i64 (((((((((r0).1).2).2).2).2).2).2).1 - (((((((((r0).1).2).2).2).2).2).2).2).1)))) == true)
 (brE (decide ((IntKind.wrap .i64 (((((((((r0).1).2).2).2).2).2).2).1 - (((((((((r0).1).2).2).2).2).2).2).2).1)) < (((((r0).1).2).2).2).1))
 (gdE (EC.isL ec_3 (EC.encL ec_3 ((r1).2).2)) <|
 (Option.bind (slices_symMergeCmpFunc_h4 ((r0).1).1 (((((((r0).1).2).2).2).2).2).1 (IntKind.wrap .i64 (((((((((r0).1).2).2).2).2).2).2).1 - (((((((((r0).1).2).2).2).2).2).2).2).1)) (((((r0).1).2).2).2).1 (EC.decL ec_3 (EC.encL ec_3 ((r1).2).2))) fun r2 =>
 (gdE (EC.isL ec_3 (EC.encL ec_3 ((r2).2).2)) <|
 (some ((), ((), (EC.decL ec_3 (EC.encL ec_3 ((r2).2).2))))))))
 (gdE (EC.isL ec_3 (EC.encL ec_3 ((r1).2).2)) <|
 (some ((), ((), (EC.decL ec_3 (EC.encL ec_3 ((r1).2).2)))))))
 (gdE (EC.isL ec_3 (EC.encL ec_3 ((r1).2).2)) <|
 (some ((), ((), (EC.decL ec_3 (EC.encL ec_3 ((r1).2).2))))))))))
 (brE ((decide ((((r0).1).2).1 < (((((((((r0).1).2).2).2).2).2).2).2).1)) == true)
 (brE (decide ((((((((((r0).1).2).2).2).2).2).2).2).1 < (((((((r0).1).2).2).2).2).2).1))
 (gdE (EC.isL ec_3 (EC.encL ec_3 (r0).2)) <|
 (Option.bind (slices_symMergeCmpFunc_h4 ((r0).1).1 (((r0).1).2).1 (((((((((r0).1).2).2).2).2).2).2).2).1 (((((((r0).1).2).2).2).2).2).1 (EC.decL ec_3 (EC.encL ec_3 (r0).2))) fun r1 =>
 (brE ((decide ((((((((r0).1).2).2).2).2).2).1 < (IntKind.wrap .i64 (((((((((r0).1).2).2).2).2).2).2).1 - (((((((((r0).1).2).2).2).2).2).2).2).1)))) == true)
 (brE (decide ((IntKind.wrap .i64 (((((((((r0).1).2).2).2).2).2).2).1 - (((((((((r0).1).2).2).2).2).2).2).2).1)) < (((((r0).1).2).2).2).1))
 (gdE (EC.isL ec_3 (EC.encL ec_3 ((r1).2).2)) <|
 (Option.bind (slices_symMergeCmpFunc_h4 ((r0).1).1 (((((((r0).1).2).2).2).2).2).1 (IntKind.wrap .i64 (((((((((r0).1).2).2).2).2).2).2).1 - (((((((((r0).1).2).2).2).2).2).2).2).1)) (((((r0).1).2).2).2).1 (EC.decL ec_3 (EC.encL ec_3 ((r1).2).2))) fun r2 =>
 (gdE (EC.isL ec_3 (EC.encL ec_3 ((r2).2).2)) <|
 (some ((), ((), (EC.decL ec_3 (EC.encL ec_3 ((r2).2).2))))))))
 (gdE (EC.isL ec_3 (EC.encL ec_3 ((r1).2).2)) <|
 (some ((), ((), (EC.decL ec_3 (EC.encL ec_3 ((r1).2).2)))))))
 (gdE (EC.isL ec_3 (EC.encL ec_3 ((r1).2).2)) <|
 (some ((), ((), (EC.decL ec_3 (EC.encL ec_3 ((r1).2).2)))))))))
 (brE ((decide ((((((((r0).1).2).2).2).2).2).1 < (IntKind.wrap .i64 (((((((((r0).1).2).2).2).2).2).2).1 - (((((((((r0).1).2).2).2).2).2).2).2).1)))) == true)
 (brE (decide ((IntKind.wrap .i64 (((((((((r0).1).2).2).2).2).2).2).1 - (((((((((r0).1).2).2).2).2).2).2).2).1)) < (((((r0).1).2).2).2).1))
 (gdE (EC.isL ec_3 (EC.encL ec_3 (r0).2)) <|
 (Option.bind (slices_symMergeCmpFunc_h4 ((r0).1).1 (((((((r0).1).2).2).2).2).2).1 (IntKind.wrap .i64 (((((((((r0).1).2).2).2).2).2).2).1 - (((((((((r0).1).2).2).2).2).2).2).2).1)) (((((r0).1).2).2).2).1 (EC.decL ec_3 (EC.encL ec_3 (r0).2))) fun r1 =>
 (gdE (EC.isL ec_3 (EC.encL ec_3 ((r1).2).2)) <|
 (some ((), ((), (EC.decL ec_3 (EC.encL ec_3 ((r1).2).2))))))))
 (gdE (EC.isL ec_3 (EC.encL ec_3 (r0).2)) <|
 (some ((), ((), (EC.decL ec_3 (EC.encL ec_3 (r0).2)))))))
 (gdE (EC.isL ec_3 (EC.encL ec_3 (r0).2)) <|
 (some ((), ((), (EC.decL ec_3 (EC.encL ec_3 (r0).2))))))))
 (brE ((decide ((((((((r0).1).2).2).2).2).2).1 < (IntKind.wrap .i64 (((((((((r0).1).2).2).2).2).2).2).1 - (((((((((r0).1).2).2).2).2).2).2).2).1)))) == true)
 (brE (decide ((IntKind.wrap .i64 (((((((((r0).1).2).2).2).2).2).2).1 - (((((((((r0).1).2).2).2).2).2).2).2).1)) < (((((r0).1).2).2).2).1))
 (gdE (EC.isL ec_3 (EC.encL ec_3 (r0).2)) <|
 (Option.bind (slices_symMergeCmpFunc_h4 ((r0).1).1 (((((((r0).1).2).2).2).2).2).1 (IntKind.wrap .i64 (((((((((r0).1).2).2).2).2).2).2).1 - (((((((((r0).1).2).2).2).2).2).2).2).1)) (((((r0).1).2).2).2).1 (EC.decL ec_3 (EC.encL ec_3 (r0).2))) fun r1 =>
 (gdE (EC.isL ec_3 (EC.encL ec_3 ((r1).2).2)) <|
 (some ((), ((), (EC.decL ec_3 (EC.encL ec_3 ((r1).2).2))))))))
 (gdE (EC.isL ec_3 (EC.encL ec_3 (r0).2)) <|
 (some ((), ((), (EC.decL ec_3 (EC.encL ec_3 (r0).2)))))))
 (gdE (EC.isL ec_3 (EC.encL ec_3 (r0).2)) <|
 (some ((), ((), (EC.decL ec_3 (EC.encL ec_3 (r0).2)))))))))
 (brE ((decide ((((r0).1).2).1 < (((((((((r0).1).2).2).2).2).2).2).2).1)) == true)
 (brE (decide ((((((((((r0).1).2).2).2).2).2).2).2).1 < (((((((r0).1).2).2).2).2).2).1))
 (gdE (EC.isL ec_3 (EC.encL ec_3 (r0).2)) <|
 (Option.bind (slices_symMergeCmpFunc_h4 ((r0).1).1 (((r0).1).2).1 (((((((((r0).1).2).2).2).2).2).2).2).1 (((((((r0).1).2).2).2).2).2).1 (EC.decL ec_3 (EC.encL ec_3 (r0).2))) fun r1 =>
 (brE ((decide ((((((((r0).1).2).2).2).2).2).1 < (IntKind.wrap .i64 (((((((((r0).1).2).2).2).2).2).2).1 - (((((((((r0).1).2).2).2).2).2).2).2).1)))) == true)
 (brE (decide ((IntKind.wrap .i64 (((((((((r0).1).2).2).2).2).2).2).1 - (((((((((r0).1).2).2).2).2).2).2).2).1)) < (((((r0).1).2).2).2).1))
 (gdE (EC.isL ec_3 (EC.encL ec_3 ((r1).2).2)) <|
 (Option.bind (slices_symMergeCmpFunc_h4 ((r0).1).1 (((((((r0).1).2).2).2).2).2).1 (IntKind.wrap .i64 (((((((((r0).1).2).2).2).2).2).2).1 - (((((((((r0).1).2).2).2).2).2).2).2).1)) (((((r0).1).2).2).2).1 (EC.decL ec_3 (EC.encL ec_3 ((r1).2).2))) fun r2 =>
 (gdE (EC.isL ec_3 (EC.encL ec_3 ((r2).2).2)) <|
 (some ((), ((), (EC.decL ec_3 (EC.encL ec_3 ((r2).2).2))))))))
 (gdE (EC.isL ec_3 (EC.encL ec_3 ((r1).2).2)) <|
 (some ((), ((), (EC.decL ec_3 (EC.encL ec_3 ((r1).2).2)))))))
 (gdE (EC.isL ec_3 (EC.encL ec_3 ((r1).2).2)) <|
 (some ((), ((), (EC.decL ec_3 (EC.encL ec_3 ((r1).2).2)))))))))
 (brE ((decide ((((((((r0).1).2).2).2).2).2).1 < (IntKind.wrap .i64 (((((((((r0).1).2).2).2).2).2).2).1 - (((((((((r0).1).2).2).2).2).2).2).2).1)))) == true)
 (brE (decide ((IntKind.wrap .i64 (((((((((r0).1).2).2).2).2).2).2).1 - (((((((((r0).1).2).2).2).2).2).2).2).1)) < (((((r0).1).2).2).2).1))
 (gdE (EC.isL ec_3 (EC.encL ec_3 (r0).2)) <|
 (Option.bind (slices_symMergeCmpFunc_h4 ((r0).1).1 (((((((r0).1).2).2).2).2).2).1 (IntKind.wrap .i64 (((((((((r0).1).2).2).2).2).2).2).1 - (((((((((r0).1).2).2).2).2).2).2).2).1)) (((((r0).1).2).2).2).1 (EC.decL ec_3 (EC.encL ec_3 (r0).2))) fun r1 =>
 (gdE (EC.isL ec_3 (EC.encL ec_3 ((r1).2).2)) <|
 (some ((), ((), (EC.decL ec_3 (EC.encL ec_3 ((r1).2).2))))))))
 (gdE (EC.isL ec_3 (EC.encL ec_3 (r0).2)) <|
 (some ((), ((), (EC.decL ec_3 (EC.encL ec_3 (r0).2)))))))
 (gdE (EC.isL ec_3 (EC.encL ec_3 (r0).2)) <|
 (some ((), ((), (EC.decL ec_3 (EC.encL ec_3 (r0).2))))))))
 (brE ((decide ((((((((r0).1).2).2).2).2).2).1 < (IntKind.wrap .i64 (((((((((r0).1).2).2).2).2).2).2).1 - (((((((((r0).1).2).2).2).2).2).2).2).1)))) == true)
 (brE (decide ((IntKind.wrap .i64 (((((((((r0).1).2).2).2).2).2).2).1 - (((((((((r0).1).2).2).2).2).2).2).2).1)) < (((((r0).1).2).2).2).1))
 (gdE (EC.isL ec_3 (EC.encL ec_3 (r0).2)) <|
 (Option.bind (slices_symMergeCmpFunc_h4 ((r0).1).1 (((((((r0).1).2).2).2).2).2).1 (IntKind.wrap .i64 (((((((((r0).1).2).2).2).2).2).2).1 - (((((((((r0).1).2).2).2).2).2).2).2).1)) (((((r0).1).2).2).2).1 (EC.decL ec_3 (EC.encL ec_3 (r0).2))) fun r1 =>
 (gdE (EC.isL ec_3 (EC.encL ec_3 ((r1).2).2)) <|
 (some ((), ((), (EC.decL ec_3 (EC.encL ec_3 ((r1).2).2))))))))
 (gdE (EC.isL ec_3 (EC.encL ec_3 (r0).2)) <|
 (some ((), ((), (EC.decL ec_3 (EC.encL ec_3 (r0).2)))))))
 (gdE (EC.isL ec_3 (EC.encL ec_3 (r0).2)) <|
 (some ((), ((), (EC.decL ec_3 (EC.encL ec_3 (r0).2))))))))))))))
theorem slices_symMergeCmpFunc_h4_eq {data : Nat} {a : Int} {m_ : Int} {b : Int} {b0 : (List Int)} {r : (Unit × (Unit × (List Int)))} (h : slices_symMergeCmpFunc_h4_t data a m_ b b0 = some r) : slices_symMergeCmpFunc_h4 data a m_ b b0 = some r :=
  hS_tree (fn := Tryz.f102) (es := tab_classify_Score_1) (hs := htab_slices_rotateCmpFunc_h5) [slices_symMergeCmpFunc_h4_l3_e, slices_symMergeCmpFunc_h4_l9_e, slices_symMergeCmpFunc_h4_l15_e, slices_symMergeCmpFunc_h4_l21_e, slices_symMergeCmpFunc_h4_l33_e] (by kernel_rfl) rfl (by kernel_rfl) (by kernel_rfl) ⟨⟨_, rfl, rfl⟩, ⟨_, rfl, rfl⟩, ⟨_, rfl, rfl⟩, ⟨_, rfl, rfl⟩, ⟨_, rfl, rfl⟩, trivial⟩ trivial (by kernel_rfl) h
def slices_stableCmpFunc_h2_l9_s : SC ((Nat × Int × Unit × Int × Int × Int) × (List Int)) := sLS [0, 1, 2, 6, 7, 8] (lCons (vRow 0) (lCons (vC (cInt .i64)) (lCons (vFn 28 lNil) (lCons (vC (cInt .i64)) (lCons (vC (cInt .i64)) (lOne (vC (cInt .i64)))))))) (lOne (oSome (bRow ec_3))) [false] [0] (by decide) (fun _ => rfl)
def slices_stableCmpFunc_h2_l9_o6 : SC ((Nat × Int × Unit × Int × Int × Int × Bool) × (List Int)) := sLS [0, 1, 2, 6, 7, 8, 35] (lCons (vRow 0) (lCons (vC (cInt .i64)) (lCons (vFn 28 lNil) (lCons (vC (cInt .i64)) (lCons (vC (cInt .i64)) (lCons (vC (cInt .i64)) (lOne (vC cBool)))))))) (lOne (oSome (bRow ec_3))) [false] [0] (by decide) (fun _ => rfl)
def slices_stableCmpFunc_h2_l9_o : OC ((Nat × Int × Unit × Int × Int × Int × Bool) × (List Int)) := oAt 6 slices_stableCmpFunc_h2_l9_o6
def slices_stableCmpFunc_h2_l9 (data : Nat) (n : Int) (blockSize : Int) (a : Int) (b : Int) (b0 : (List Int)) : Option ((Nat × Int × Unit × Int × Int × Int × Bool) × (List Int)) := lS Tryz.prog lv X0 60 63 (getLoop (cdF Tryz.f60) 9) slices_stableCmpFunc_h2_l9_s slices_stableCmpFunc_h2_l9_o ((data, n, (), blockSize, a, b), b0)
def slices_stableCmpFunc_h2_l9_t (data : Nat) (n : Int) (blockSize : Int) (a : Int) (b : Int) (b0 : (List Int)) : Option ((Nat × Int × Unit × Int × Int × Int × Bool) × (List Int)) :=
 (brE (decide (b ≤ n))
 (gdE (EC.isL ec_3 (EC.encL ec_3 b0)) <|
 (Option.bind (slices_symMergeCmpFunc_h4 data a (IntKind.wrap .i64 (a + blockSize)) b (EC.decL ec_3 (EC.encL ec_3 b0))) fun r0 =>
 (gdE (EC.isL ec_3 (EC.encL ec_3 ((r0).2).2)) <|
 (slices_stableCmpFunc_h2_l9 data n blockSize b (IntKind.wrap .i64 (b + (IntKind.wrap .i64 ((2 : Int) * blockSize)))) (EC.decL ec_3 (EC.encL ec_3 ((r0).2).2))))))
 (gdE (EC.isL ec_3 (EC.encL ec_3 b0)) <|
 (some ((data, (n, ((), (blockSize, (a, (b, false)))))), (EC.decL ec_3 (EC.encL ec_3 b0))))))
theorem slices_stableCmpFunc_h2_l9_eq {data : Nat} {n : Int} {blockSize : Int} {a : Int} {b : Int} {b0 : (List Int)} {r : ((Nat × Int × Unit × Int × Int × Int × Bool) × (List Int))} (h : slices_stableCmpFunc_h2_l9_t data n blockSize a b b0 = some r) : slices_stableCmpFunc_h2_l9 data n blockSize a b b0 = some r :=
  lS_tree (es := tab_classify_Score_1) (hs := htab_slices_rotateCmpFunc_h5) [] (by kernel_rfl) trivial trivial (by kernel_rfl) h
def slices_stableCmpFunc_h2_l9_e : LEnt Tryz.prog lv X0 60 63 := lentS Tryz.prog lv X0 9 (getLoop (cdF Tryz.f60) 9) slices_stableCmpFunc_h2_l9_s slices_stableCmpFunc_h2_l9_o (fun x => slices_stableCmpFunc_h2_l9 x.1.1 x.1.2.1 x.1.2.2.2.1 x.1.2.2.2.2.1 x.1.2.2.2.2.2 x.2) (fun _ _ h => lS_from h)
def slices_stableCmpFunc_h2_l7_s : SC ((Nat × Int × Unit × Int) × (List Int)) := sLS [0, 1, 2, 6] (lCons (vRow 0) (lCons (vC (cInt .i64)) (lCons (vFn 28 lNil) (lOne (vC (cInt .i64)))))) (lOne (oSome (bRow ec_3))) [false] [0] (by decide) (fun _ => rfl)
def slices_stableCmpFunc_h2_l7_o4 : SC ((Nat × Int × Unit × Int × Bool) × (List Int)) := sLS [0, 1, 2, 6, 30] (lCons (vRow 0) (lCons (vC (cInt .i64)) (lCons (vFn 28 lNil) (lCons (vC (cInt .i64)) (lOne (vC cBool)))))) (lOne (oSome (bRow ec_3))) [false] [0] (by decide) (fun _ => rfl)
def slices_stableCmpFunc_h2_l7_o : OC ((Nat × Int × Unit × Int × Bool) × (List Int)) := oAt 4 slices_stableCmpFunc_h2_l7_o4
def slices_stableCmpFunc_h2_l7 (data : Nat) (n : Int) (blockSize : Int) (b0 : (List Int)) : Option ((Nat × Int × Unit × Int × Bool) × (List Int)) := lS Tryz.prog lv X0 60 63 (getLoop (cdF Tryz.f60) 7) slices_stableCmpFunc_h2_l7_s slices_stableCmpFunc_h2_l7_o ((data, n, (), blockSize), b0)
def slices_stableCmpFunc_h2_l7_t (data : Nat) (n : Int) (blockSize : Int) (b0 : (List Int)) : Option ((Nat × Int × Unit × Int × Bool) × (List Int)) :=
 (brE (decide (blockSize < n))
 (gdE (EC.isL ec_3 (EC.encL ec_3 b0)) <|
 (Option.bind (slices_stableCmpFunc_h2_l9 data n blockSize (0 : Int) (IntKind.wrap .i64 ((2 : Int) * blockSize)) (EC.decL ec_3 (EC.encL ec_3 b0))) fun r0 =>
 (brE (decide ((IntKind.wrap .i64 (((((((r0).1).2).2).2).2).1 + (((((r0).1).2).2).2).1)) < (((r0).1).2).1))
 (gdE (EC.isL ec_3 (EC.encL ec_3 (r0).2)) <|
 (Option.bind (slices_symMergeCmpFunc_h4 ((r0).1).1 ((((((r0).1).2).2).2).2).1 (IntKind.wrap .i64 (((((((r0).1).2).2).2).2).1 + (((((r0).1).2).2).2).1)) (((r0).1).2).1 (EC.decL ec_3 (EC.encL ec_3 (r0).2))) fun r1 =>
 (gdE (EC.isL ec_3 (EC.encL ec_3 ((r1).2).2)) <|
 (slices_stableCmpFunc_h2_l7 ((r0).1).1 (((r0).1).2).1 (IntKind.wrap .i64 ((((((r0).1).2).2).2).1 * (2 : Int))) (EC.decL ec_3 (EC.encL ec_3 ((r1).2).2))))))
 (gdE (EC.isL ec_3 (EC.encL ec_3 (r0).2)) <|
 (slices_stableCmpFunc_h2_l7 ((r0).1).1 (((r0).1).2).1 (IntKind.wrap .i64 ((((((r0).1).2).2).2).1 * (2 : Int))) (EC.decL ec_3 (EC.encL ec_3 (r0).2)))))))
 (gdE (EC.isL ec_3 (EC.encL ec_3 b0)) <|
 (some ((data, (n, ((), (blockSize, false)))), (EC.decL ec_3 (EC.encL ec_3 b0))))))
theorem slices_stableCmpFunc_h2_l7_eq {data : Nat} {n : Int} {blockSize : Int} {b0 : (List Int)} {r : ((Nat × Int × Unit × Int × Bool) × (List Int))} (h : slices_stableCmpFunc_h2_l7_t data n blockSize b0 = some r) : slices_stableCmpFunc_h2_l7 data n blockSize b0 = some r :=
  lS_tree (es := tab_classify_Score_1) (hs := htab_slices_rotateCmpFunc_h5) [slices_stableCmpFunc_h2_l9_e] (by kernel_rfl) ⟨⟨_, rfl, rfl⟩, trivial⟩ trivial (by kernel_rfl) h
def slices_stableCmpFunc_h2_l7_e : LEnt Tryz.prog lv X0 60 63 := lentS Tryz.prog lv X0 7 (getLoop (cdF Tryz.f60) 7) slices_stableCmpFunc_h2_l7_s slices_stableCmpFunc_h2_l7_o (fun x => slices_stableCmpFunc_h2_l7 x.1.1 x.1.2.1 x.1.2.2.2 x.2) (fun _ _ h => lS_from h)
def slices_stableCmpFunc_h2_t (data : Nat) (n : Int) (b0 : (List Int)) : Option (Unit × (Unit × (List Int))) :=
 (gdE (EC.isL ec_3 (EC.encL ec_3 b0)) <|
 (Option.bind (slices_stableCmpFunc_h2_l2 data n (20 : Int) (0 : Int) (20 : Int) (EC.decL ec_3 (EC.encL ec_3 b0))) fun r0 =>
 (gdE (EC.isL ec_3 (EC.encL ec_3 (r0).2)) <|
 (Option.bind (slices_insertionSortCmpFunc_h3 ((r0).1).1 ((((((r0).1).2).2).2).2).1 (((r0).1).2).1 (EC.decL ec_3 (EC.encL ec_3 (r0).2))) fun r1 =>
 (gdE (EC.isL ec_3 (EC.encL ec_3 ((r1).2).2)) <|
 (Option.bind (slices_stableCmpFunc_h2_l7 ((r0).1).1 (((r0).1).2).1 (((((r0).1).2).2).2).1 (EC.decL ec_3 (EC.encL ec_3 ((r1).2).2))) fun r2 =>
 (gdE (EC.isL ec_3 (EC.encL ec_3 (r2).2)) <|
 (some ((), ((), (EC.decL ec_3 (EC.encL ec_3 (r2).2))))))))))))
theorem slices_stableCmpFunc_h2_eq {data : Nat} {n : Int} {b0 : (List Int)} {r : (Unit × (Unit × (List Int)))} (h : slices_stableCmpFunc_h2_t data n b0 = some r) : slices_stableCmpFunc_h2 data n b0 = some r :=
  hS_tree (fn := Tryz.f60) (es := tab_classify_Score_1) (hs := htab_slices_rotateCmpFunc_h5) [slices_stableCmpFunc_h2_l2_e, slices_stableCmpFunc_h2_l7_e] (by kernel_rfl) rfl (by kernel_rfl) (by kernel_rfl) ⟨⟨_, rfl, rfl⟩, ⟨_, rfl, rfl⟩, trivial⟩ trivial (by kernel_rfl) h
def slices_SortStableFunc_h1_t (x : Nat) (b0 : (List Int)) : Option (Unit × (Unit × (List Int))) :=
 (gdE (EC.isL ec_3 (EC.encL ec_3 b0)) <|
 (Option.bind (slices_stableCmpFunc_h2 x ((x : Nat) : Int) (EC.decL ec_3 (EC.encL ec_3 b0))) fun r0 =>
 (gdE (EC.isL ec_3 (EC.encL ec_3 ((r0).2).2)) <|
 (some ((), ((), (EC.decL ec_3 (EC.encL ec_3 ((r0).2).2))))))))
theorem slices_SortStableFunc_h1_eq {x : Nat} {b0 : (List Int)} {r : (Unit × (Unit × (List Int)))} (h : slices_SortStableFunc_h1_t x b0 = some r) : slices_SortStableFunc_h1 x b0 = some r :=
  hS_tree (fn := Tryz.f27) (es := tab_classify_Score_1) (hs := htab_slices_rotateCmpFunc_h5) [] (by kernel_rfl) rfl (by kernel_rfl) (by kernel_rfl) trivial trivial (by kernel_rfl) h
def classify_Score_l19_s : SC ((Unit × (List Int) × Int × (List Int) × Int × Int) × (Int × Int)) := sLS [5, 7, 14, 78, 79, 80] (lCons (vPtr 0 0) (lCons (vC (cSl ec_3)) (lCons (vC (cInt .i64)) (lCons (vC (cSl ec_3)) (lCons (vC (cInt .i64)) (lOne (vC (cInt .i64)))))))) (lOne (oSome (bBox (lCons (vC (cInt .i64)) (lOne (vC (cInt .i64))))))) [false] [] (by decide) (fun _ => rfl)
def classify_Score_l19_o4 : SC ((Unit × (List Int) × Int × (List Int) × Int × Int × Bool) × (Int × Int)) := sLS [5, 7, 14, 78, 79, 80, 81] (lCons (vPtr 0 0) (lCons (vC (cSl ec_3)) (lCons (vC (cInt .i64)) (lCons (vC (cSl ec_3)) (lCons (vC (cInt .i64)) (lCons (vC (cInt .i64)) (lOne (vC cBool)))))))) (lOne (oSome (bBox (lCons (vC (cInt .i64)) (lOne (vC (cInt .i64))))))) [false] [] (by decide) (fun _ => rfl)
def classify_Score_l19_o : OC ((Unit × (List Int) × Int × (List Int) × Int × Int × Bool) × (Int × Int)) := oAt 4 classify_Score_l19_o4
def classify_Score_l19 (ratios : (List Int)) (sum : Int) (t78 : (List Int)) (t79 : Int) (t80 : Int) (b0 : Int) (b0_1 : Int) : Option ((Unit × (List Int) × Int × (List Int) × Int × Int × Bool) × (Int × Int)) := lS Tryz.prog lv X0 8 93 (getLoop (cdF Tryz.f8) 19) classify_Score_l19_s classify_Score_l19_o (((), ratios, sum, t78, t79, t80), (b0, b0_1))
def classify_Score_l19_t (ratios : (List Int)) (sum : Int) (t78 : (List Int)) (t79 : Int) (t80 : Int) (b0 : Int) (b0_1 : Int) : Option ((Unit × (List Int) × Int × (List Int) × Int × Int × Bool) × (Int × Int)) :=
 (brE (decide (t80 < t79))
 (gdE (decide ((0 : Int) ≤ t80)) <|
 (gdE ((decide ((Int.toNat t80) < (List.length (EC.encL ec_3 t78)))) && (isE [(K1.int Go.IntKind.i64)] (0 : Nat) (List.getD (EC.encL ec_3 t78) (Int.toNat t80) []))) <|
 (gdE (EC.isL ec_3 (EC.encL ec_3 ratios)) <|
 (gdE (EC.isL ec_3 (EC.encL ec_3 t78)) <|
 (classify_Score_l19 (EC.decL ec_3 (EC.encL ec_3 ratios)) (IntKind.wrap .i64 (sum + (intOf (List.getD (List.getD (EC.encL ec_3 t78) (Int.toNat t80) []) (0 : Nat) C.ne)))) (EC.decL ec_3 (EC.encL ec_3 t78)) t79 (IntKind.wrap .i64 (t80 + (1 : Int))) b0 b0_1)))))
 (gdE (EC.isL ec_3 (EC.encL ec_3 ratios)) <|
 (gdE (EC.isL ec_3 (EC.encL ec_3 t78)) <|
 (some (((), ((EC.decL ec_3 (EC.encL ec_3 ratios)), (sum, ((EC.decL ec_3 (EC.encL ec_3 t78)), (t79, (t80, false)))))), (b0, b0_1))))))
theorem classify_Score_l19_eq {ratios : (List Int)} {sum : Int} {t78 : (List Int)} {t79 : Int} {t80 : Int} {b0 : Int} {b0_1 : Int} {r : ((Unit × (List Int) × Int × (List Int) × Int × Int × Bool) × (Int × Int))} (h : classify_Score_l19_t ratios sum t78 t79 t80 b0 b0_1 = some r) : classify_Score_l19 ratios sum t78 t79 t80 b0 b0_1 = some r :=
  lS_tree (es := tab_classify_Score_1) (hs := htab_slices_rotateCmpFunc_h5) [] (by kernel_rfl) trivial trivial (by kernel_rfl) h
def classify_Score_l19_e : LEnt Tryz.prog lv X0 8 93 := lentS Tryz.prog lv X0 19 (getLoop (cdF Tryz.f8) 19) classify_Score_l19_s classify_Score_l19_o (fun x => classify_Score_l19 x.1.2.1 x.1.2.2.1 x.1.2.2.2.1 x.1.2.2.2.2.1 x.1.2.2.2.2.2 x.2.1 x.2.2) (fun _ _ h => lS_from h)
def classify_Score_cr : Cod (V × List B) (Int × (Int × Int)) := (cFstU (cPair (vTup (lCons (vC (cInt .i64)) (lOne (vAgg (lCons (vC (cInt .i64)) (lOne (vC (cInt .i64)))))))) lNil))
def classify_Score_s (w_Good : Int) (w_Junk : Int) (w_Tokens : (List S74)) (tokens : (List ByteArray)) : Option (Int × (Int × Int)) := fS Tryz.prog lv X0 8 classify_Score_ca classify_Score_cr ((w_Good, w_Junk, w_Tokens), tokens)
def classify_Score_t (w_Good : Int) (w_Junk : Int) (w_Tokens : (List S74)) (tokens : (List ByteArray)) : Option (Int × (Int × Int)) :=
 (gdE (EC.isL ec_74 (EC.encL ec_74 w_Tokens)) <|
 (gdE (EC.isL ec_9 (EC.encL ec_9 tokens)) <|
 (Option.bind (classify_common_s w_Good w_Junk (EC.decL ec_74 (EC.encL ec_74 w_Tokens)) (EC.decL ec_9 (EC.encL ec_9 tokens))) fun r0 =>
 (Option.bind (basic_Failed_s (r0).1 (r0).2) fun r1 =>
 (brE r1
 (some ((0 : Int), ((r0).1, (r0).2)))
 (gdE (EC.isL ec_9 (EC.encL ec_9 tokens)) <|
 (gdE (EC.isL ec_74 (EC.encL ec_74 w_Tokens)) <|
 (Option.bind (classify_Score_l6 (0 : Nat) (EC.decL ec_9 (EC.encL ec_9 tokens)) (((List.length (EC.encL ec_9 tokens)) : Nat) : Int) (0 : Int) w_Good w_Junk (EC.decL ec_74 (EC.encL ec_74 w_Tokens)) (0 : Int) (0 : Int) (EC.decL ec_3 [])) fun r2 =>
 (brE (((((((r2).1).2).2).1 : Nat) : Int) == 0)
 (Option.bind basic_None_s fun r3 =>
 (some ((500 : Int), ((r3).1, (r3).2))))
 (gdE (EC.isL ec_3 (EC.encL ec_3 (((r2).2).2).2)) <|
 (Option.bind (slices_SortStableFunc_h1 ((((r2).1).2).2).1 (EC.decL ec_3 (EC.encL ec_3 (((r2).2).2).2))) fun r3 =>
 (gdE ((decide ((0 : Int) ≤ (ite (false = true) (ite (((((((r2).1).2).2).1 : Nat) : Int) < (15 : Int)) (15 : Int) ((((((r2).1).2).2).1 : Nat) : Int)) (ite ((15 : Int) < ((((((r2).1).2).2).1 : Nat) : Int)) (15 : Int) ((((((r2).1).2).2).1 : Nat) : Int))))) && (decide ((ite (false = true) (ite (((((((r2).1).2).2).1 : Nat) : Int) < (15 : Int)) (15 : Int) ((((((r2).1).2).2).1 : Nat) : Int)) (ite ((15 : Int) < ((((((r2).1).2).2).1 : Nat) : Int)) (15 : Int) ((((((r2).1).2).2).1 : Nat) : Int))) ≤ (((List.length (EC.encL ec_3 ((r3).2).2)) : Nat) : Int)))) <|
 (gdE (List.all (EC.encL ec_3 ((r3).2).2) (fun (el : (List C)) => ((List.length el) == (1 : Nat)))) <|
 (gdE (EC.isL ec_3 (List.take ((Int.toNat (ite (false = true) (ite (((((((r2).1).2).2).1 : Nat) : Int) < (15 : Int)) (15 : Int) ((((((r2).1).2).2).1 : Nat) : Int)) (ite ((15 : Int) < ((((((r2).1).2).2).1 : Nat) : Int)) (15 : Int) ((((((r2).1).2).2).1 : Nat) : Int)))) - (0 : Nat)) (List.drop (0 : Nat) (EC.encL ec_3 ((r3).2).2)))) <|
 (gdE (EC.isL ec_3 (List.take ((Int.toNat (ite (false = true) (ite (((((((r2).1).2).2).1 : Nat) : Int) < (15 : Int)) (15 : Int) ((((((r2).1).2).2).1 : Nat) : Int)) (ite ((15 : Int) < ((((((r2).1).2).2).1 : Nat) : Int)) (15 : Int) ((((((r2).1).2).2).1 : Nat) : Int)))) - (0 : Nat)) (List.drop (0 : Nat) (EC.encL ec_3 ((r3).2).2)))) <|
 (Option.bind (classify_Score_l19 (EC.decL ec_3 (List.take ((Int.toNat (ite (false = true) (ite (((((((r2).1).2).2).1 : Nat) : Int) < (15 : Int)) (15 : Int) ((((((r2).1).2).2).1 : Nat) : Int)) (ite ((15 : Int) < ((((((r2).1).2).2).1 : Nat) : Int)) (15 : Int) ((((((r2).1).2).2).1 : Nat) : Int)))) - (0 : Nat)) (List.drop (0 : Nat) (EC.encL ec_3 ((r3).2).2)))) (0 : Int) (EC.decL ec_3 (List.take ((Int.toNat (ite (false = true) (ite (((((((r2).1).2).2).1 : Nat) : Int) < (15 : Int)) (15 : Int) ((((((r2).1).2).2).1 : Nat) : Int)) (ite ((15 : Int) < ((((((r2).1).2).2).1 : Nat) : Int)) (15 : Int) ((((((r2).1).2).2).1 : Nat) : Int)))) - (0 : Nat)) (List.drop (0 : Nat) (EC.encL ec_3 ((r3).2).2)))) (((List.length (List.take ((Int.toNat (ite (false = true) (ite (((((((r2).1).2).2).1 : Nat) : Int) < (15 : Int)) (15 : Int) ((((((r2).1).2).2).1 : Nat) : Int)) (ite ((15 : Int) < ((((((r2).1).2).2).1 : Nat) : Int)) (15 : Int) ((((((r2).1).2).2).1 : Nat) : Int)))) - (0 : Nat)) (List.drop (0 : Nat) (EC.encL ec_3 ((r3).2).2)))) : Nat) : Int) (0 : Int) ((((r2).2).2).1).1 ((((r2).2).2).1).2) fun r4 =>
 (brE ((((List.length (EC.encL ec_3 (((r4).1).2).1)) : Nat) : Int) == 0)
 none
 (Option.bind basic_None_s fun r5 =>
 (some ((IntKind.wrap .i64 (Int.tdiv ((((r4).1).2).2).1 (((List.length (EC.encL ec_3 (((r4).1).2).1)) : Nat) : Int))), ((r5).1, (r5).2)))))))))))))))))))))
theorem classify_Score_eq {w_Good : Int} {w_Junk : Int} {w_Tokens : (List S74)} {tokens : (List ByteArray)} {r : (Int × (Int × Int))} (h : classify_Score_t w_Good w_Junk w_Tokens tokens = some r) : classify_Score_s w_Good w_Junk w_Tokens tokens = some r :=
  fS_tree (es := tab_classify_Score_1) (hs := htab_slices_rotateCmpFunc_h5) [classify_Score_l6_e, classify_Score_l19_e] Tryz.func8 rfl (by kernel_rfl) rfl (by kernel_rfl) (by kernel_rfl) ⟨⟨_, rfl, rfl⟩, ⟨_, rfl, rfl⟩, trivial⟩ trivial (by kernel_rfl) h
def classify_Score_e : Ent Tryz.prog lv X0 := entS Tryz.prog lv X0 8 [] classify_Score_ca classify_Score_cr (fun x => classify_Score_s x.1.1 x.1.2.1 x.1.2.2 x.2) (fun _ _ h => fS_call h)
def tab_classify_Score : List (Ent Tryz.prog lv X0) := classify_Score_e :: tab_classify_Score_1
end
end Go.Proofs.YtomnbknaanlmaaaGreatDoor
