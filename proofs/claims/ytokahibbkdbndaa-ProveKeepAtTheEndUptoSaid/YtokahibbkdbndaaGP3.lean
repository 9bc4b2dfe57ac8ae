/- Functions of the program as plain functions: made by program from the machine. -/
import Derived.Test.YtokahibbkdbndaaGP2
namespace Go.Proofs.Ytokahibbkdbndaa
open Go.RowKit
set_option maxRecDepth 100000
noncomputable section
def ec_22 : EC (List S44) where
  enc x := [.sl (ec_44.encL x)]
  dec c := ec_44.decL (slOf (c.getD 0 .ne))
  is c := isE [.sl] 0 c && ec_44.isL (slOf (c.getD 0 .ne))
  enc_dec h := by
    simp only [Bool.and_eq_true] at h
    have h0 := decE_eq h.1
    simp only [decE, decC] at h0
    simp only [EC.encL_decL _ h.2]
    exact h0
  dec_enc x := by simp [slOf]
  is_enc x := by simp [isE, isK, slOf]
theorem enc_22 (x : (List S44)) : ec_22.enc x = [.sl (ec_44.encL x)] := rfl
theorem isE_22 (xs : List (List S44)) (n : Nat) : isE [.sl] 0 ((ec_22.encL xs).getD n []) = decide (n < xs.length) := by
  by_cases h : n < xs.length
  · simp only [EC.getD_lt _ _ h]; simp [enc_22, isE, isK, h]
  · simp only [EC.getD_ge _ _ (Nat.not_lt.1 h)]; simp [isE, isK, h]
theorem at_22_0 (xs : List (List S44)) (n : Nat) : slOf (((ec_22.encL xs).getD n []).getD 0 .ne) = ec_44.encL (xs.getD n (ec_22.dec [])) := by
  by_cases h : n < xs.length
  · simp only [EC.getD_lt _ _ h]; simp [enc_22, h, slOf, List.getD_eq_getElem?_getD]
  · simp only [EC.getD_ge _ _ (Nat.not_lt.1 h)]; simp [Nat.not_lt.1 h, ec_22, slOf, List.getD_eq_getElem?_getD, EC.decL, EC.encL]
theorem lit_22 (a0 : (List S44)) : ([.sl (ec_44.encL a0)] : List C) = ec_22.enc a0 := rfl
theorem apd_22 (xs : List (List S44)) (a0 : (List S44)) : ec_22.encL xs ++ [[.sl (ec_44.encL a0)]] = ec_22.encL (xs ++ [a0]) := by rw [lit_22]; simp [EC.encL]
theorem len_22 (xs : List (List S44)) (n : Nat) (h : n < xs.length) : ((ec_22.encL xs).getD n []).length = 1 := by rw [EC.getD_lt _ _ h]; rfl
theorem all_22 (xs : List (List S44)) : (ec_22.encL xs).all (fun (el : List C) => el.length == 1) = true := by induction xs with | nil => rfl | cons x xs ih => first | (simp [EC.encL, enc_22]; done) | simpa [EC.encL, enc_22] using ih
theorem set_22_0_1 (xs : List (List S44)) (n : Nat) (a0 : (List S44)) : (ec_22.encL xs).set n (splice ((ec_22.encL xs).getD n []) 0 [.sl (ec_44.encL a0)]) = ec_22.encL (xs.set n (a0)) := by
  by_cases h : n < xs.length
  · rw [EC.getD_lt _ _ h]; simp [EC.encL, List.map_set, enc_22, splice]
  · simp [EC.encL, List.set_eq_of_length_le, Nat.not_lt.1 h]
def rules_Validate_ca : Cod (List V) (List S44) := (lOne (vC (cSl ec_44)))
def rules_Validate_1_h2_s : SC (((List S44) × Int × Unit × Unit) × (Int × (Unit × Unit))) := sLS [0, 1, 2, 3] (lCons (vC (cSl ec_44)) (lCons (vC (cInt .i64)) (lCons (vPtr 0 0) (lOne (vPtr 1 0))))) (lCons (oSome (bBox (lOne (vC (cInt .i64))))) (lOne (oSome (bBox (lOne (vFn 36 (lCons (vPtr 0 0) (lOne (vPtr 1 0))))))))) [false, false] [0, 1] (by decide) (fun _ => rfl)
def rules_Validate_1_h2_q : SC ((Int × Int) × (Int × (Unit × Unit))) := sLS [0] (lOne (vAgg (lCons (vC (cInt .i64)) (lOne (vC (cInt .i64)))))) (lCons (oSome (bBox (lOne (vC (cInt .i64))))) (lOne (oSome (bBox (lOne (vFn 36 (lCons (vPtr 0 0) (lOne (vPtr 1 0))))))))) [false, false] [0, 1] (by decide) (fun _ => rfl)
def rules_Validate_1_h2_o : HC ((Int × Int) × ((Int × Int) × (Int × (Unit × Unit)))) := hPair (vAgg (lCons (vC (cInt .i64)) (lOne (vC (cInt .i64))))) rules_Validate_1_h2_q
def rules_Validate_1_h2 (l : (List S44)) (depth : Int) (b0 : Int) : Option ((Int × Int) × ((Int × Int) × (Int × (Unit × Unit)))) := hS Try.prog lv X0 36 rules_Validate_1_h2_s rules_Validate_1_h2_o ((l, depth, (), ()), (b0, ((), ())))
def rules_Validate_1_h2_e : HEnt Try.prog lv X0 := hentS Try.prog lv X0 36 [0, 1, 4, 1, 1, 1, 2, 3, 0, 0, 3, 3, 1, 0, 1, 1, 1, 1, 1, 1, 6, 36, 2, 3, 0, 0, 3, 1, 0, 0, 1] rules_Validate_1_h2_s rules_Validate_1_h2_o (fun x => rules_Validate_1_h2 x.1.1 x.1.2.1 x.2.1) (fun _ _ h => hS_from h)
def htab_rules_Validate_1_h2 : List (HEnt Try.prog lv X0) := rules_Validate_1_h2_e :: htab_api_Test__h1
def rules_Validate_1_h2_l11_s : SC ((Int × Unit × Unit × Unit × (List S44) × Int × Int × Nat × Int × Int) × (Int × (Unit × Unit) × (Int × Int) × (List (List S44)))) := sLS [1, 2, 3, 6, 13, 14, 15, 36, 37, 38] (lCons (vC (cInt .i64)) (lCons (vPtr 0 0) (lCons (vPtr 1 0) (lCons (vPtr 2 0) (lCons (vC (cSl ec_44)) (lCons (vC (cInt .i64)) (lCons (vC (cInt .i64)) (lCons (vRow 3) (lCons (vC (cInt .i64)) (lOne (vC (cInt .i64)))))))))))) (lCons (oSome (bBox (lOne (vC (cInt .i64))))) (lCons (oSome (bBox (lOne (vFn 36 (lCons (vPtr 0 0) (lOne (vPtr 1 0))))))) (lCons (oSome (bBox (lCons (vC (cInt .i64)) (lOne (vC (cInt .i64)))))) (lOne (oSome (bRow ec_22)))))) [false, false, false, false] [0, 1] (by decide) (fun _ => rfl)
def rules_Validate_1_h2_l11_o4 : SC ((Int × Unit × Unit × Unit × (List S44) × Int × Int × Nat × Int × Int × Bool) × (Int × (Unit × Unit) × (Int × Int) × (List (List S44)))) := sLS [1, 2, 3, 6, 13, 14, 15, 36, 37, 38, 39] (lCons (vC (cInt .i64)) (lCons (vPtr 0 0) (lCons (vPtr 1 0) (lCons (vPtr 2 0) (lCons (vC (cSl ec_44)) (lCons (vC (cInt .i64)) (lCons (vC (cInt .i64)) (lCons (vRow 3) (lCons (vC (cInt .i64)) (lCons (vC (cInt .i64)) (lOne (vC cBool)))))))))))) (lCons (oSome (bBox (lOne (vC (cInt .i64))))) (lCons (oSome (bBox (lOne (vFn 36 (lCons (vPtr 0 0) (lOne (vPtr 1 0))))))) (lCons (oSome (bBox (lCons (vC (cInt .i64)) (lOne (vC (cInt .i64)))))) (lOne (oSome (bRow ec_22)))))) [false, false, false, false] [0, 1] (by decide) (fun _ => rfl)
def rules_Validate_1_h2_l11_o1 : SC (Unit × ((Int × Int) × Int × (Unit × Unit))) := sLS [6] (lOne (vPtr 0 0)) (lCons (oSome (bBox (lCons (vC (cInt .i64)) (lOne (vC (cInt .i64)))))) (lCons (oSome (bBox (lOne (vC (cInt .i64))))) (lOne (oSome (bBox (lOne (vFn 36 (lCons (vPtr 1 0) (lOne (vPtr 2 0)))))))))) [false, false, false] [1, 2] (by decide) (fun _ => rfl)
def rules_Validate_1_h2_l11_o : OC ((Unit × ((Int × Int) × Int × (Unit × Unit))) ⊕ ((Int × Unit × Unit × Unit × (List S44) × Int × Int × Nat × Int × Int × Bool) × (Int × (Unit × Unit) × (Int × Int) × (List (List S44))))) := oOr 1 rules_Validate_1_h2_l11_o1 (oAt 4 rules_Validate_1_h2_l11_o4) (fun x => (by decide : (4 : Nat) ≠ 1))
def rules_Validate_1_h2_l11 (depth : Int) (t13 : (List S44)) (t14 : Int) (t15 : Int) (t36 : Nat) (t37 : Int) (t38 : Int) (b0 : Int) (b2 : Int) (b2_1 : Int) (b3 : (List (List S44))) : Option ((Unit × ((Int × Int) × Int × (Unit × Unit))) ⊕ ((Int × Unit × Unit × Unit × (List S44) × Int × Int × Nat × Int × Int × Bool) × (Int × (Unit × Unit) × (Int × Int) × (List (List S44))))) := lS Try.prog lv X0 36 53 (getLoop (cdF Try.f36) 11) rules_Validate_1_h2_l11_s rules_Validate_1_h2_l11_o ((depth, (), (), (), t13, t14, t15, t36, t37, t38), (b0, ((), ()), (b2, b2_1), b3))
def rules_Validate_1_h2_l11_t (depth : Int) (t13 : (List S44)) (t14 : Int) (t15 : Int) (t36 : Nat) (t37 : Int) (t38 : Int) (b0 : Int) (b2 : Int) (b2_1 : Int) (b3 : (List (List S44))) : Option ((Unit × ((Int × Int) × Int × (Unit × Unit))) ⊕ ((Int × Unit × Unit × Unit × (List S44) × Int × Int × Nat × Int × Int × Bool) × (Int × (Unit × Unit) × (Int × Int) × (List (List S44))))) :=
  (brE (decide (t38 < t37))
  (gdE ((decide ((0 : Int) ≤ t38)) && (decide (t38 < ((t36 : Nat) : Int)))) <|
    (gdE ((decide ((Int.toNat t38) < (List.length (EC.encL ec_22 b3)))) && ((List.length (List.getD (EC.encL ec_22 b3) (Int.toNat t38) [])) == (1 : Nat))) <|
      (gdE (isP [K1.sl] (0 : Nat) (List.getD (EC.encL ec_22 b3) (Int.toNat t38) [])) <|
        (gdE (EC.isL ec_44 (slOf (List.getD (List.getD (EC.encL ec_22 b3) (Int.toNat t38) []) (0 : Nat) C.ne))) <|
          (Option.bind (rules_Validate_1_h2 (EC.decL ec_44 (slOf (List.getD (List.getD (EC.encL ec_22 b3) (Int.toNat t38) []) (0 : Nat) C.ne))) (Go.IntKind.wrap Go.IntKind.i64 (depth + (1 : Int))) b0) fun r0 =>
            (Option.bind (basic_Failed_s ((r0).1).1 ((r0).1).2) fun r1 =>
              (brE r1
                (some (.inl ((), ((((r0).1).1, ((r0).1).2), ((((r0).2).2).1, ((), ()))))))
                (gdE (EC.isL ec_44 (EC.encL ec_44 t13)) <|
                  (gdE (EC.isL ec_22 (EC.encL ec_22 b3)) <|
                    (rules_Validate_1_h2_l11 depth (EC.decL ec_44 (EC.encL ec_44 t13)) t14 t15 t36 t37 (Go.IntKind.wrap Go.IntKind.i64 (t38 + (1 : Int))) (((r0).2).2).1 b2 b2_1 (EC.decL ec_22 (EC.encL ec_22 b3))))))))))))
  (gdE (EC.isL ec_44 (EC.encL ec_44 t13)) <|
    (gdE (EC.isL ec_22 (EC.encL ec_22 b3)) <|
      (some (.inr ((depth, ((), ((), ((), ((EC.decL ec_44 (EC.encL ec_44 t13)), (t14, (t15, (t36, (t37, (t38, false)))))))))), (b0, (((), ()), ((b2, b2_1), (EC.decL ec_22 (EC.encL ec_22 b3)))))))))))
theorem rules_Validate_1_h2_l11_eq {depth : Int} {t13 : (List S44)} {t14 : Int} {t15 : Int} {t36 : Nat} {t37 : Int} {t38 : Int} {b0 : Int} {b2 : Int} {b2_1 : Int} {b3 : (List (List S44))} {r : ((Unit × ((Int × Int) × Int × (Unit × Unit))) ⊕ ((Int × Unit × Unit × Unit × (List S44) × Int × Int × Nat × Int × Int × Bool) × (Int × (Unit × Unit) × (Int × Int) × (List (List S44)))))} (h : rules_Validate_1_h2_l11_t depth t13 t14 t15 t36 t37 t38 b0 b2 b2_1 b3 = some r) : rules_Validate_1_h2_l11 depth t13 t14 t15 t36 t37 t38 b0 b2 b2_1 b3 = some r :=
  lS_tree (es := tab_rules_rule) (hs := htab_rules_Validate_1_h2) [] (by kernel_rfl) trivial trivial (by kernel_rfl) h
def rules_Validate_1_h2_l11_e : LEnt Try.prog lv X0 36 53 := lentS Try.prog lv X0 11 (getLoop (cdF Try.f36) 11) rules_Validate_1_h2_l11_s rules_Validate_1_h2_l11_o (fun x => rules_Validate_1_h2_l11 x.1.1 x.1.2.2.2.2.1 x.1.2.2.2.2.2.1 x.1.2.2.2.2.2.2.1 x.1.2.2.2.2.2.2.2.1 x.1.2.2.2.2.2.2.2.2.1 x.1.2.2.2.2.2.2.2.2.2 x.2.1 x.2.2.2.1.1 x.2.2.2.1.2 x.2.2.2.2) (fun _ _ h => lS_from h)
def rules_Validate_1_h2_l2_s : SC ((Int × Unit × Unit × Unit × (List S44) × Int × Int) × (Int × (Unit × Unit) × (Int × Int))) := sLS [1, 2, 3, 6, 13, 14, 15] (lCons (vC (cInt .i64)) (lCons (vPtr 0 0) (lCons (vPtr 1 0) (lCons (vPtr 2 0) (lCons (vC (cSl ec_44)) (lCons (vC (cInt .i64)) (lOne (vC (cInt .i64))))))))) (lCons (oSome (bBox (lOne (vC (cInt .i64))))) (lCons (oSome (bBox (lOne (vFn 36 (lCons (vPtr 0 0) (lOne (vPtr 1 0))))))) (lOne (oSome (bBox (lCons (vC (cInt .i64)) (lOne (vC (cInt .i64))))))))) [false, false, false] [0, 1] (by decide) (fun _ => rfl)
def rules_Validate_1_h2_l2_o2 : SC ((Int × Unit × Unit × Unit × (List S44) × Int × Int × Bool) × (Int × (Unit × Unit) × (Int × Int))) := sLS [1, 2, 3, 6, 13, 14, 15, 16] (lCons (vC (cInt .i64)) (lCons (vPtr 0 0) (lCons (vPtr 1 0) (lCons (vPtr 2 0) (lCons (vC (cSl ec_44)) (lCons (vC (cInt .i64)) (lCons (vC (cInt .i64)) (lOne (vC cBool))))))))) (lCons (oSome (bBox (lOne (vC (cInt .i64))))) (lCons (oSome (bBox (lOne (vFn 36 (lCons (vPtr 0 0) (lOne (vPtr 1 0))))))) (lOne (oSome (bBox (lCons (vC (cInt .i64)) (lOne (vC (cInt .i64))))))))) [false, false, false] [0, 1] (by decide) (fun _ => rfl)
def rules_Validate_1_h2_l2_o1 : SC (Unit × ((Int × Int) × Int × (Unit × Unit))) := sLS [6] (lOne (vPtr 0 0)) (lCons (oSome (bBox (lCons (vC (cInt .i64)) (lOne (vC (cInt .i64)))))) (lCons (oSome (bBox (lOne (vC (cInt .i64))))) (lOne (oSome (bBox (lOne (vFn 36 (lCons (vPtr 1 0) (lOne (vPtr 2 0)))))))))) [false, false, false] [1, 2] (by decide) (fun _ => rfl)
def rules_Validate_1_h2_l2_o : OC ((Unit × ((Int × Int) × Int × (Unit × Unit))) ⊕ ((Int × Unit × Unit × Unit × (List S44) × Int × Int × Bool) × (Int × (Unit × Unit) × (Int × Int)))) := oOr 1 rules_Validate_1_h2_l2_o1 (oAt 2 rules_Validate_1_h2_l2_o2) (fun x => (by decide : (2 : Nat) ≠ 1))
def rules_Validate_1_h2_l2 (depth : Int) (t13 : (List S44)) (t14 : Int) (t15 : Int) (b0 : Int) (b2 : Int) (b2_1 : Int) : Option ((Unit × ((Int × Int) × Int × (Unit × Unit))) ⊕ ((Int × Unit × Unit × Unit × (List S44) × Int × Int × Bool) × (Int × (Unit × Unit) × (Int × Int)))) := lS Try.prog lv X0 36 53 (getLoop (cdF Try.f36) 2) rules_Validate_1_h2_l2_s rules_Validate_1_h2_l2_o ((depth, (), (), (), t13, t14, t15), (b0, ((), ()), (b2, b2_1)))
def rules_Validate_1_h2_l2_t (depth : Int) (t13 : (List S44)) (t14 : Int) (t15 : Int) (b0 : Int) (b2 : Int) (b2_1 : Int) : Option ((Unit × ((Int × Int) × Int × (Unit × Unit))) ⊕ ((Int × Unit × Unit × Unit × (List S44) × Int × Int × Bool) × (Int × (Unit × Unit) × (Int × Int)))) :=
  (brE (decide (t15 < t14))
  (gdE (decide ((0 : Int) ≤ t15)) <|
    (gdE ((decide ((Int.toNat t15) < (List.length (EC.encL ec_44 t13)))) && (isE [(K1.int Go.IntKind.i64), (K1.int Go.IntKind.i64), K1.sl, K1.str, (K1.int Go.IntKind.i64), K1.str, (K1.int Go.IntKind.i64), K1.sl, K1.sl, (K1.int Go.IntKind.i64), K1.str, K1.str, (K1.int Go.IntKind.i64)] (0 : Nat) (List.getD (EC.encL ec_44 t13) (Int.toNat t15) []))) <|
      (brE (b0 == (100 : Int))
        (Option.bind (basic_Fault_s (2 : Int) (-(1 : Int))) fun r0 =>
          (some (.inl ((), (((r0).1, (r0).2), (b0, ((), ())))))))
        (gdE (EC.isL ec_42 (slOf (List.getD (List.getD (EC.encL ec_44 t13) (Int.toNat t15) []) (2 : Nat) C.ne))) <|
          (gdE (EC.isL ec_44 (slOf (List.getD (List.getD (EC.encL ec_44 t13) (Int.toNat t15) []) (7 : Nat) C.ne))) <|
            (gdE (EC.isL ec_44 (slOf (List.getD (List.getD (EC.encL ec_44 t13) (Int.toNat t15) []) (8 : Nat) C.ne))) <|
              (Option.bind (rules_rule_s (intOf (List.getD (List.getD (EC.encL ec_44 t13) (Int.toNat t15) []) (0 : Nat) C.ne)) (intOf (List.getD (List.getD (EC.encL ec_44 t13) (Int.toNat t15) []) (1 : Nat) C.ne)) (EC.decL ec_42 (slOf (List.getD (List.getD (EC.encL ec_44 t13) (Int.toNat t15) []) (2 : Nat) C.ne))) (strOf (List.getD (List.getD (EC.encL ec_44 t13) (Int.toNat t15) []) (3 : Nat) C.ne)) (intOf (List.getD (List.getD (EC.encL ec_44 t13) (Int.toNat t15) []) (4 : Nat) C.ne)) (strOf (List.getD (List.getD (EC.encL ec_44 t13) (Int.toNat t15) []) (5 : Nat) C.ne)) (intOf (List.getD (List.getD (EC.encL ec_44 t13) (Int.toNat t15) []) (6 : Nat) C.ne)) (EC.decL ec_44 (slOf (List.getD (List.getD (EC.encL ec_44 t13) (Int.toNat t15) []) (7 : Nat) C.ne))) (EC.decL ec_44 (slOf (List.getD (List.getD (EC.encL ec_44 t13) (Int.toNat t15) []) (8 : Nat) C.ne))) (intOf (List.getD (List.getD (EC.encL ec_44 t13) (Int.toNat t15) []) (9 : Nat) C.ne)) (strOf (List.getD (List.getD (EC.encL ec_44 t13) (Int.toNat t15) []) (10 : Nat) C.ne)) (strOf (List.getD (List.getD (EC.encL ec_44 t13) (Int.toNat t15) []) (11 : Nat) C.ne)) (intOf (List.getD (List.getD (EC.encL ec_44 t13) (Int.toNat t15) []) (12 : Nat) C.ne)) depth) fun r0 =>
                (brE (r0 != (0 : Int))
                  (Option.bind (basic_Fault_s r0 b0) fun r1 =>
                    (some (.inl ((), (((r1).1, (r1).2), (b0, ((), ())))))))
                  (gdE (EC.isL ec_44 (EC.encL ec_44 t13)) <|
                    (gdE (EC.isL ec_22 [[(C.sl (slOf (List.getD (List.getD (EC.encL ec_44 t13) (Int.toNat t15) []) (7 : Nat) C.ne)))], [(C.sl (slOf (List.getD (List.getD (EC.encL ec_44 t13) (Int.toNat t15) []) (8 : Nat) C.ne)))]]) <|
                      (Option.bind (rules_Validate_1_h2_l11 depth (EC.decL ec_44 (EC.encL ec_44 t13)) t14 t15 (2 : Nat) (((2 : Nat) : Nat) : Int) (0 : Int) (Go.IntKind.wrap Go.IntKind.i64 (b0 + (1 : Int))) b2 b2_1 (EC.decL ec_22 [[(C.sl (slOf (List.getD (List.getD (EC.encL ec_44 t13) (Int.toNat t15) []) (7 : Nat) C.ne)))], [(C.sl (slOf (List.getD (List.getD (EC.encL ec_44 t13) (Int.toNat t15) []) (8 : Nat) C.ne)))]])) fun r1 =>
                        (Sum.elim (fun r2 => (some (.inl ((), (((((r2).2).1).1, (((r2).2).1).2), ((((r2).2).2).1, ((), ())))))))
                          (fun r2 => (gdE (EC.isL ec_44 (EC.encL ec_44 ((((((r2).1).2).2).2).2).1)) <|
                            (rules_Validate_1_h2_l2 ((r2).1).1 (EC.decL ec_44 (EC.encL ec_44 ((((((r2).1).2).2).2).2).1)) (((((((r2).1).2).2).2).2).2).1 (Go.IntKind.wrap Go.IntKind.i64 (((((((((r2).1).2).2).2).2).2).2).1 + (1 : Int))) ((r2).2).1 (((((r2).2).2).2).1).1 (((((r2).2).2).2).1).2))) r1))))))))))))
  (gdE (EC.isL ec_44 (EC.encL ec_44 t13)) <|
    (some (.inr ((depth, ((), ((), ((), ((EC.decL ec_44 (EC.encL ec_44 t13)), (t14, (t15, false))))))), (b0, (((), ()), (b2, b2_1))))))))
theorem rules_Validate_1_h2_l2_eq {depth : Int} {t13 : (List S44)} {t14 : Int} {t15 : Int} {b0 : Int} {b2 : Int} {b2_1 : Int} {r : ((Unit × ((Int × Int) × Int × (Unit × Unit))) ⊕ ((Int × Unit × Unit × Unit × (List S44) × Int × Int × Bool) × (Int × (Unit × Unit) × (Int × Int))))} (h : rules_Validate_1_h2_l2_t depth t13 t14 t15 b0 b2 b2_1 = some r) : rules_Validate_1_h2_l2 depth t13 t14 t15 b0 b2 b2_1 = some r :=
  lS_tree (es := tab_rules_rule) (hs := htab_rules_Validate_1_h2) [rules_Validate_1_h2_l11_e] (by kernel_rfl) ⟨⟨_, rfl, rfl⟩, trivial⟩ trivial (by kernel_rfl) h
def rules_Validate_1_h2_l2_e : LEnt Try.prog lv X0 36 53 := lentS Try.prog lv X0 2 (getLoop (cdF Try.f36) 2) rules_Validate_1_h2_l2_s rules_Validate_1_h2_l2_o (fun x => rules_Validate_1_h2_l2 x.1.1 x.1.2.2.2.2.1 x.1.2.2.2.2.2.1 x.1.2.2.2.2.2.2 x.2.1 x.2.2.2.1 x.2.2.2.2) (fun _ _ h => lS_from h)
def rules_Validate_1_h2_t (l : (List S44)) (depth : Int) (b0 : Int) : Option ((Int × Int) × ((Int × Int) × (Int × (Unit × Unit)))) :=
  (gdE (EC.isL ec_44 (EC.encL ec_44 l)) <|
  (Option.bind (rules_Validate_1_h2_l2 depth (EC.decL ec_44 (EC.encL ec_44 l)) (((List.length (EC.encL ec_44 l)) : Nat) : Int) (0 : Int) b0 (0 : Int) (0 : Int)) fun r0 =>
    (Sum.elim (fun r1 => (some (((((r1).2).1).1, (((r1).2).1).2), (((((r1).2).1).1, (((r1).2).1).2), ((((r1).2).2).1, ((), ()))))))
      (fun r1 => (Option.bind basic_None_s fun r2 =>
        (some (((r2).1, (r2).2), (((r2).1, (r2).2), (((r1).2).1, ((), ()))))))) r0)))
theorem rules_Validate_1_h2_eq {l : (List S44)} {depth : Int} {b0 : Int} {r : ((Int × Int) × ((Int × Int) × (Int × (Unit × Unit))))} (h : rules_Validate_1_h2_t l depth b0 = some r) : rules_Validate_1_h2 l depth b0 = some r :=
  hS_tree (fn := Try.f36) (es := tab_rules_rule) (hs := htab_rules_Validate_1_h2) [rules_Validate_1_h2_l2_e] (by kernel_rfl) rfl (by kernel_rfl) ⟨⟨_, rfl, rfl⟩, trivial⟩ trivial (by kernel_rfl) h
def rules_Validate_cr : Cod (V × List B) (Int × Int) := (cFstU (cPair (vAgg (lCons (vC (cInt .i64)) (lOne (vC (cInt .i64))))) lNil))
def rules_Validate_s (s : (List S44)) : Option (Int × Int) := fS Try.prog lv X0 26 rules_Validate_ca rules_Validate_cr s
def rules_Validate_t (s : (List S44)) : Option (Int × Int) :=
  (gdE (EC.isL ec_44 (EC.encL ec_44 s)) <|
  (Option.bind (rules_Validate_1_h2 (EC.decL ec_44 (EC.encL ec_44 s)) (1 : Int) (0 : Int)) fun r0 =>
    (some (((r0).1).1, ((r0).1).2))))
theorem rules_Validate_eq {s : (List S44)} {r : (Int × Int)} (h : rules_Validate_t s = some r) : rules_Validate_s s = some r :=
  fS_tree (es := tab_rules_rule) (hs := htab_rules_Validate_1_h2) [] Try.func26 rfl (by kernel_rfl) rfl (by kernel_rfl) (by kernel_rfl) trivial trivial (by kernel_rfl) h
def rules_Validate_e : Ent Try.prog lv X0 := entS Try.prog lv X0 26 [] rules_Validate_ca rules_Validate_cr (fun x => rules_Validate_s x) (fun _ _ h => fS_call h)
def tab_rules_Validate : List (Ent Try.prog lv X0) := rules_Validate_e :: tab_rules_rule
def ec_4 : EC Bool where
  enc x := [.bool x]
  dec c := boolOf (c.getD 0 .ne)
  is c := isE [.bool] 0 c
  enc_dec h := decE_eq h
  dec_enc x := by rfl
  is_enc x := by simp [isE, isK]
theorem enc_4 (x : Bool) : ec_4.enc x = [.bool x] := rfl
theorem isE_4 (xs : List Bool) (n : Nat) : isE [.bool] 0 ((ec_4.encL xs).getD n []) = decide (n < xs.length) := by
  by_cases h : n < xs.length
  · simp only [EC.getD_lt _ _ h]; simp [enc_4, isE, isK, h]
  · simp only [EC.getD_ge _ _ (Nat.not_lt.1 h)]; simp [isE, isK, h]
theorem at_4_0 (xs : List Bool) (n : Nat) : boolOf (((ec_4.encL xs).getD n []).getD 0 .ne) = (xs.getD n (ec_4.dec [])) := by
  by_cases h : n < xs.length
  · simp only [EC.getD_lt _ _ h]; simp [enc_4, h, boolOf, List.getD_eq_getElem?_getD]
  · simp only [EC.getD_ge _ _ (Nat.not_lt.1 h)]; simp [Nat.not_lt.1 h, ec_4, boolOf, List.getD_eq_getElem?_getD]
theorem lit_4 (a0 : Bool) : ([.bool a0] : List C) = ec_4.enc a0 := rfl
theorem apd_4 (xs : List Bool) (a0 : Bool) : ec_4.encL xs ++ [[.bool a0]] = ec_4.encL (xs ++ [a0]) := by rw [lit_4]; simp [EC.encL]
theorem len_4 (xs : List Bool) (n : Nat) (h : n < xs.length) : ((ec_4.encL xs).getD n []).length = 1 := by rw [EC.getD_lt _ _ h]; rfl
theorem all_4 (xs : List Bool) : (ec_4.encL xs).all (fun (el : List C) => el.length == 1) = true := by induction xs with | nil => rfl | cons x xs ih => first | (simp [EC.encL, enc_4]; done) | simpa [EC.encL, enc_4] using ih
theorem set_4_0_1 (xs : List Bool) (n : Nat) (a0 : Bool) : (ec_4.encL xs).set n (splice ((ec_4.encL xs).getD n []) 0 [.bool a0]) = ec_4.encL (xs.set n (a0)) := by
  by_cases h : n < xs.length
  · rw [EC.getD_lt _ _ h]; simp [EC.encL, List.map_set, enc_4, splice]
  · simp [EC.encL, List.set_eq_of_length_le, Nat.not_lt.1 h]
def prove_Reachable_ca : Cod (List V) (List S44) := (lOne (vC (cSl ec_44)))
def prove_all_h3_s : SC (((List S44) × Unit) × Unit) := sLS [0, 1] (lCons (vC (cSl ec_44)) (lOne (vFn 19 lNil))) lNil [] [] (by decide) (fun _ => rfl)
def prove_all_h3_q : SC ((Nat × (Int × Int)) × (List Bool)) := sLS [0, 1] (lCons (vRow 0) (lOne (vAgg (lCons (vC (cInt .i64)) (lOne (vC (cInt .i64))))))) (lOne (oSome (bRow ec_4))) [false] [] (by decide) (fun _ => rfl)
def prove_all_h3_o : HC ((Nat × (Int × Int)) × ((Nat × (Int × Int)) × (List Bool))) := hPair (vTup (lCons (vRow 0) (lOne (vAgg (lCons (vC (cInt .i64)) (lOne (vC (cInt .i64)))))))) prove_all_h3_q
def prove_all_h3 (s : (List S44)) : Option ((Nat × (Int × Int)) × ((Nat × (Int × Int)) × (List Bool))) := hS Try.prog lv X0 13 prove_all_h3_s prove_all_h3_o ((s, ()), ())
def prove_all_h3_e : HEnt Try.prog lv X0 := hentS Try.prog lv X0 13 [0, 1, 4, 1, 6, 19, 0] prove_all_h3_s prove_all_h3_o (fun x => prove_all_h3 x.1.1) (fun _ _ h => hS_from h)
def htab_prove_all_h3 : List (HEnt Try.prog lv X0) := prove_all_h3_e :: htab_rules_Validate_1_h2
def prove_tests_h4_s : SC ((Nat × (List S44)) × (List S42)) := sLS [0, 1] (lCons (vRow 0) (lOne (vC (cSl ec_44)))) (lOne (oSome (bRow ec_42))) [false] [] (by decide) (fun _ => rfl)
def prove_tests_h4_q : SC (Nat × (List S42)) := sLS [0] (lOne (vRow 0)) (lOne (oSome (bRow ec_42))) [false] [] (by decide) (fun _ => rfl)
def prove_tests_h4_o : HC (Nat × (Nat × (List S42))) := hPair (vRow 0) prove_tests_h4_q
def prove_tests_h4 (l : Nat) (s : (List S44)) (b0 : (List S42)) : Option (Nat × (Nat × (List S42))) := hS Try.prog lv X0 27 prove_tests_h4_s prove_tests_h4_o ((l, s), b0)
def prove_tests_h4_e : HEnt Try.prog lv X0 := hentS Try.prog lv X0 27 [0, 2, 0, 1, 1, 4, 2] prove_tests_h4_s prove_tests_h4_o (fun x => prove_tests_h4 x.1.1 x.1.2 x.2) (fun _ _ h => hS_from h)
def htab_prove_tests_h4 : List (HEnt Try.prog lv X0) := prove_tests_h4_e :: htab_prove_all_h3
def prove_collect_h5_s : SC ((Nat × (Int × (List S42) × ByteArray × Int × ByteArray × Int)) × (List S42)) := sLS [0, 1] (lCons (vRow 0) (lOne (vAgg (lCons (vC (cInt .i64)) (lCons (vC (cSl ec_42)) (lCons (vC cStr) (lCons (vC (cInt .i64)) (lCons (vC cStr) (lOne (vC (cInt .i64))))))))))) (lOne (oSome (bRow ec_42))) [false] [] (by decide) (fun _ => rfl)
def prove_collect_h5_q : SC (Nat × (List S42)) := sLS [0] (lOne (vRow 0)) (lOne (oSome (bRow ec_42))) [false] [] (by decide) (fun _ => rfl)
def prove_collect_h5_o : HC (Nat × (Nat × (List S42))) := hPair (vRow 0) prove_collect_h5_q
def prove_collect_h5 (l : Nat) (t : Int) (t_1 : (List S42)) (t_2 : ByteArray) (t_3 : Int) (t_4 : ByteArray) (t_5 : Int) (b0 : (List S42)) : Option (Nat × (Nat × (List S42))) := hS Try.prog lv X0 38 prove_collect_h5_s prove_collect_h5_o ((l, (t, t_1, t_2, t_3, t_4, t_5)), b0)
def prove_collect_h5_e : HEnt Try.prog lv X0 := hentS Try.prog lv X0 38 [0, 2, 0, 1, 7, 6, 1, 1, 1, 4, 1, 3, 1, 1, 1, 3, 1, 1, 2] prove_collect_h5_s prove_collect_h5_o (fun x => prove_collect_h5 x.1.1 x.1.2.1 x.1.2.2.1 x.1.2.2.2.1 x.1.2.2.2.2.1 x.1.2.2.2.2.2.1 x.1.2.2.2.2.2.2 x.2) (fun _ _ h => hS_from h)
def htab_prove_collect_h5 : List (HEnt Try.prog lv X0) := prove_collect_h5_e :: htab_prove_tests_h4
def prove_collect_h5_l4_s : SC ((Nat × (List S42) × Int × Int) × (List S42)) := sLS [0, 20, 21, 22] (lCons (vRow 0) (lCons (vC (cSl ec_42)) (lCons (vC (cInt .i64)) (lOne (vC (cInt .i64)))))) (lOne (oSome (bRow ec_42))) [false] [] (by decide) (fun _ => rfl)
def prove_collect_h5_l4_o2 : SC ((Nat × (List S42) × Int × Int × Bool) × (List S42)) := sLS [0, 20, 21, 22, 23] (lCons (vRow 0) (lCons (vC (cSl ec_42)) (lCons (vC (cInt .i64)) (lCons (vC (cInt .i64)) (lOne (vC cBool)))))) (lOne (oSome (bRow ec_42))) [false] [] (by decide) (fun _ => rfl)
def prove_collect_h5_l4_o : OC ((Nat × (List S42) × Int × Int × Bool) × (List S42)) := oAt 2 prove_collect_h5_l4_o2
def prove_collect_h5_l4 (l : Nat) (t20 : (List S42)) (t21 : Int) (t22 : Int) (b0 : (List S42)) : Option ((Nat × (List S42) × Int × Int × Bool) × (List S42)) := lS Try.prog lv X0 38 31 (getLoop (cdF Try.f38) 4) prove_collect_h5_l4_s prove_collect_h5_l4_o ((l, t20, t21, t22), b0)
def prove_collect_h5_l4_t (l : Nat) (t20 : (List S42)) (t21 : Int) (t22 : Int) (b0 : (List S42)) : Option ((Nat × (List S42) × Int × Int × Bool) × (List S42)) :=
  (brE (decide (t22 < t21))
  (gdE (decide ((0 : Int) ≤ t22)) <|
    (gdE ((decide ((Int.toNat t22) < (List.length (EC.encL ec_42 t20)))) && (isE [(K1.int Go.IntKind.i64), K1.sl, K1.str, (K1.int Go.IntKind.i64), K1.str, (K1.int Go.IntKind.i64)] (0 : Nat) (List.getD (EC.encL ec_42 t20) (Int.toNat t22) []))) <|
      (gdE (EC.isL ec_42 (slOf (List.getD (List.getD (EC.encL ec_42 t20) (Int.toNat t22) []) (1 : Nat) C.ne))) <|
        (gdE (EC.isL ec_42 (EC.encL ec_42 b0)) <|
          (Option.bind (prove_collect_h5 l (intOf (List.getD (List.getD (EC.encL ec_42 t20) (Int.toNat t22) []) (0 : Nat) C.ne)) (EC.decL ec_42 (slOf (List.getD (List.getD (EC.encL ec_42 t20) (Int.toNat t22) []) (1 : Nat) C.ne))) (strOf (List.getD (List.getD (EC.encL ec_42 t20) (Int.toNat t22) []) (2 : Nat) C.ne)) (intOf (List.getD (List.getD (EC.encL ec_42 t20) (Int.toNat t22) []) (3 : Nat) C.ne)) (strOf (List.getD (List.getD (EC.encL ec_42 t20) (Int.toNat t22) []) (4 : Nat) C.ne)) (intOf (List.getD (List.getD (EC.encL ec_42 t20) (Int.toNat t22) []) (5 : Nat) C.ne)) (EC.decL ec_42 (EC.encL ec_42 b0))) fun r0 =>
            (gdE (EC.isL ec_42 (EC.encL ec_42 t20)) <|
              (gdE (EC.isL ec_42 (EC.encL ec_42 ((r0).2).2)) <|
                (prove_collect_h5_l4 (r0).1 (EC.decL ec_42 (EC.encL ec_42 t20)) t21 (Go.IntKind.wrap Go.IntKind.i64 (t22 + (1 : Int))) (EC.decL ec_42 (EC.encL ec_42 ((r0).2).2))))))))))
  (gdE (EC.isL ec_42 (EC.encL ec_42 t20)) <|
    (gdE (EC.isL ec_42 (EC.encL ec_42 b0)) <|
      (some ((l, ((EC.decL ec_42 (EC.encL ec_42 t20)), (t21, (t22, false)))), (EC.decL ec_42 (EC.encL ec_42 b0)))))))
theorem prove_collect_h5_l4_eq {l : Nat} {t20 : (List S42)} {t21 : Int} {t22 : Int} {b0 : (List S42)} {r : ((Nat × (List S42) × Int × Int × Bool) × (List S42))} (h : prove_collect_h5_l4_t l t20 t21 t22 b0 = some r) : prove_collect_h5_l4 l t20 t21 t22 b0 = some r :=
  lS_tree (es := tab_rules_Validate) (hs := htab_prove_collect_h5) [] (by kernel_rfl) trivial trivial (by kernel_rfl) h
def prove_collect_h5_l4_e : LEnt Try.prog lv X0 38 31 := lentS Try.prog lv X0 4 (getLoop (cdF Try.f38) 4) prove_collect_h5_l4_s prove_collect_h5_l4_o (fun x => prove_collect_h5_l4 x.1.1 x.1.2.1 x.1.2.2.1 x.1.2.2.2 x.2) (fun _ _ h => lS_from h)
def prove_collect_h5_t (l : Nat) (t : Int) (t_1 : (List S42)) (t_2 : ByteArray) (t_3 : Int) (t_4 : ByteArray) (t_5 : Int) (b0 : (List S42)) : Option (Nat × (Nat × (List S42))) :=
  (gdE (EC.isL ec_42 (EC.encL ec_42 t_1)) <|
  (Option.bind (prove_simple_s t (EC.decL ec_42 (EC.encL ec_42 t_1)) t_2 t_3 t_4 t_5) fun r0 =>
    (brE (r0 == true)
      (gdE (EC.isL ec_42 (EC.encL ec_42 b0)) <|
        (gdE (EC.isL ec_42 (EC.encL ec_42 t_1)) <|
          (Option.bind (prove_find_s (EC.decL ec_42 (EC.encL ec_42 b0)) t (EC.decL ec_42 (EC.encL ec_42 t_1)) t_2 t_3 t_4 t_5) fun r1 =>
            (brE (decide (r1 < (0 : Int)))
              (gdE ((((List.all [[(C.int Go.IntKind.i64 t), (C.sl (EC.encL ec_42 t_1)), (C.str t_2), (C.int Go.IntKind.i64 t_3), (C.str t_4), (C.int Go.IntKind.i64 t_5)]] (fun (el : (List C)) => ((List.length el) == (6 : Nat)))) && (List.all (EC.encL ec_42 b0) (fun (el : (List C)) => ((List.length el) == (6 : Nat))))) && (decide (((((l + (List.length [[(C.int Go.IntKind.i64 t), (C.sl (EC.encL ec_42 t_1)), (C.str t_2), (C.int Go.IntKind.i64 t_3), (C.str t_4), (C.int Go.IntKind.i64 t_5)]])) + ((l + (List.length [[(C.int Go.IntKind.i64 t), (C.sl (EC.encL ec_42 t_1)), (C.str t_2), (C.int Go.IntKind.i64 t_3), (C.str t_4), (C.int Go.IntKind.i64 t_5)]])) / (4 : Nat))) + (192 : Nat)) * (80 : Nat)) ≤ (281474976710656 : Nat)))) && (decide ((l + (List.length [[(C.int Go.IntKind.i64 t), (C.sl (EC.encL ec_42 t_1)), (C.str t_2), (C.int Go.IntKind.i64 t_3), (C.str t_4), (C.int Go.IntKind.i64 t_5)]])) ≤ (9223372036854775807 : Nat)))) <|
                (gdE (EC.isL ec_42 (EC.encL ec_42 t_1)) <|
                  (gdE (EC.isL ec_42 ((EC.encL ec_42 b0) ++ [[(C.int Go.IntKind.i64 t), (C.sl (EC.encL ec_42 t_1)), (C.str t_2), (C.int Go.IntKind.i64 t_3), (C.str t_4), (C.int Go.IntKind.i64 t_5)]])) <|
                    (Option.bind (prove_collect_h5_l4 (l + (List.length [[(C.int Go.IntKind.i64 t), (C.sl (EC.encL ec_42 t_1)), (C.str t_2), (C.int Go.IntKind.i64 t_3), (C.str t_4), (C.int Go.IntKind.i64 t_5)]])) (EC.decL ec_42 (EC.encL ec_42 t_1)) (((List.length (EC.encL ec_42 t_1)) : Nat) : Int) (0 : Int) (EC.decL ec_42 ((EC.encL ec_42 b0) ++ [[(C.int Go.IntKind.i64 t), (C.sl (EC.encL ec_42 t_1)), (C.str t_2), (C.int Go.IntKind.i64 t_3), (C.str t_4), (C.int Go.IntKind.i64 t_5)]]))) fun r2 =>
                      (gdE (EC.isL ec_42 (EC.encL ec_42 (r2).2)) <|
                        (some (((r2).1).1, (((r2).1).1, (EC.decL ec_42 (EC.encL ec_42 (r2).2))))))))))
              (gdE (EC.isL ec_42 (EC.encL ec_42 t_1)) <|
                (gdE (EC.isL ec_42 (EC.encL ec_42 b0)) <|
                  (Option.bind (prove_collect_h5_l4 l (EC.decL ec_42 (EC.encL ec_42 t_1)) (((List.length (EC.encL ec_42 t_1)) : Nat) : Int) (0 : Int) (EC.decL ec_42 (EC.encL ec_42 b0))) fun r2 =>
                    (gdE (EC.isL ec_42 (EC.encL ec_42 (r2).2)) <|
                      (some (((r2).1).1, (((r2).1).1, (EC.decL ec_42 (EC.encL ec_42 (r2).2)))))))))))))
      (gdE (EC.isL ec_42 (EC.encL ec_42 t_1)) <|
        (gdE (EC.isL ec_42 (EC.encL ec_42 b0)) <|
          (Option.bind (prove_collect_h5_l4 l (EC.decL ec_42 (EC.encL ec_42 t_1)) (((List.length (EC.encL ec_42 t_1)) : Nat) : Int) (0 : Int) (EC.decL ec_42 (EC.encL ec_42 b0))) fun r1 =>
            (gdE (EC.isL ec_42 (EC.encL ec_42 (r1).2)) <|
              (some (((r1).1).1, (((r1).1).1, (EC.decL ec_42 (EC.encL ec_42 (r1).2))))))))))))
theorem prove_collect_h5_eq {l : Nat} {t : Int} {t_1 : (List S42)} {t_2 : ByteArray} {t_3 : Int} {t_4 : ByteArray} {t_5 : Int} {b0 : (List S42)} {r : (Nat × (Nat × (List S42)))} (h : prove_collect_h5_t l t t_1 t_2 t_3 t_4 t_5 b0 = some r) : prove_collect_h5 l t t_1 t_2 t_3 t_4 t_5 b0 = some r :=
  hS_tree (fn := Try.f38) (es := tab_rules_Validate) (hs := htab_prove_collect_h5) [prove_collect_h5_l4_e] (by kernel_rfl) rfl (by kernel_rfl) ⟨⟨_, rfl, rfl⟩, trivial⟩ trivial (by kernel_rfl) h
def prove_tests_h4_l2_s : SC ((Nat × (List S44) × Int × Int) × (List S42)) := sLS [0, 7, 8, 9] (lCons (vRow 0) (lCons (vC (cSl ec_44)) (lCons (vC (cInt .i64)) (lOne (vC (cInt .i64)))))) (lOne (oSome (bRow ec_42))) [false] [] (by decide) (fun _ => rfl)
def prove_tests_h4_l2_o2 : SC ((Nat × (List S44) × Int × Int × Bool) × (List S42)) := sLS [0, 7, 8, 9, 10] (lCons (vRow 0) (lCons (vC (cSl ec_44)) (lCons (vC (cInt .i64)) (lCons (vC (cInt .i64)) (lOne (vC cBool)))))) (lOne (oSome (bRow ec_42))) [false] [] (by decide) (fun _ => rfl)
def prove_tests_h4_l2_o : OC ((Nat × (List S44) × Int × Int × Bool) × (List S42)) := oAt 2 prove_tests_h4_l2_o2
def prove_tests_h4_l2 (l : Nat) (t7 : (List S44)) (t8 : Int) (t9 : Int) (b0 : (List S42)) : Option ((Nat × (List S44) × Int × Int × Bool) × (List S42)) := lS Try.prog lv X0 27 29 (getLoop (cdF Try.f27) 2) prove_tests_h4_l2_s prove_tests_h4_l2_o ((l, t7, t8, t9), b0)
def prove_tests_h4_l2_t (l : Nat) (t7 : (List S44)) (t8 : Int) (t9 : Int) (b0 : (List S42)) : Option ((Nat × (List S44) × Int × Int × Bool) × (List S42)) :=
  (brE (decide (t9 < t8))
  (gdE (decide ((0 : Int) ≤ t9)) <|
    (gdE ((decide ((Int.toNat t9) < (List.length (EC.encL ec_44 t7)))) && (isE [(K1.int Go.IntKind.i64), (K1.int Go.IntKind.i64), K1.sl, K1.str, (K1.int Go.IntKind.i64), K1.str, (K1.int Go.IntKind.i64), K1.sl, K1.sl, (K1.int Go.IntKind.i64), K1.str, K1.str, (K1.int Go.IntKind.i64)] (0 : Nat) (List.getD (EC.encL ec_44 t7) (Int.toNat t9) []))) <|
      (brE ((intOf (List.getD (List.getD (EC.encL ec_44 t7) (Int.toNat t9) []) (0 : Nat) C.ne)) == (1 : Int))
        (gdE (EC.isL ec_42 (slOf (List.getD (List.getD (EC.encL ec_44 t7) (Int.toNat t9) []) (2 : Nat) C.ne))) <|
          (gdE (EC.isL ec_42 (EC.encL ec_42 b0)) <|
            (Option.bind (prove_collect_h5 l (intOf (List.getD (List.getD (EC.encL ec_44 t7) (Int.toNat t9) []) (1 : Nat) C.ne)) (EC.decL ec_42 (slOf (List.getD (List.getD (EC.encL ec_44 t7) (Int.toNat t9) []) (2 : Nat) C.ne))) (strOf (List.getD (List.getD (EC.encL ec_44 t7) (Int.toNat t9) []) (3 : Nat) C.ne)) (intOf (List.getD (List.getD (EC.encL ec_44 t7) (Int.toNat t9) []) (4 : Nat) C.ne)) (strOf (List.getD (List.getD (EC.encL ec_44 t7) (Int.toNat t9) []) (5 : Nat) C.ne)) (intOf (List.getD (List.getD (EC.encL ec_44 t7) (Int.toNat t9) []) (6 : Nat) C.ne)) (EC.decL ec_42 (EC.encL ec_42 b0))) fun r0 =>
              (gdE (EC.isL ec_44 (slOf (List.getD (List.getD (EC.encL ec_44 t7) (Int.toNat t9) []) (7 : Nat) C.ne))) <|
                (gdE (EC.isL ec_42 (EC.encL ec_42 ((r0).2).2)) <|
                  (Option.bind (prove_tests_h4 (r0).1 (EC.decL ec_44 (slOf (List.getD (List.getD (EC.encL ec_44 t7) (Int.toNat t9) []) (7 : Nat) C.ne))) (EC.decL ec_42 (EC.encL ec_42 ((r0).2).2))) fun r1 =>
                    (gdE (EC.isL ec_44 (slOf (List.getD (List.getD (EC.encL ec_44 t7) (Int.toNat t9) []) (8 : Nat) C.ne))) <|
                      (gdE (EC.isL ec_42 (EC.encL ec_42 ((r1).2).2)) <|
                        (Option.bind (prove_tests_h4 (r1).1 (EC.decL ec_44 (slOf (List.getD (List.getD (EC.encL ec_44 t7) (Int.toNat t9) []) (8 : Nat) C.ne))) (EC.decL ec_42 (EC.encL ec_42 ((r1).2).2))) fun r2 =>
                          (gdE (EC.isL ec_44 (EC.encL ec_44 t7)) <|
                            (gdE (EC.isL ec_42 (EC.encL ec_42 ((r2).2).2)) <|
                              (prove_tests_h4_l2 (r2).1 (EC.decL ec_44 (EC.encL ec_44 t7)) t8 (Go.IntKind.wrap Go.IntKind.i64 (t9 + (1 : Int))) (EC.decL ec_42 (EC.encL ec_42 ((r2).2).2))))))))))))))
        (gdE (EC.isL ec_44 (slOf (List.getD (List.getD (EC.encL ec_44 t7) (Int.toNat t9) []) (7 : Nat) C.ne))) <|
          (gdE (EC.isL ec_42 (EC.encL ec_42 b0)) <|
            (Option.bind (prove_tests_h4 l (EC.decL ec_44 (slOf (List.getD (List.getD (EC.encL ec_44 t7) (Int.toNat t9) []) (7 : Nat) C.ne))) (EC.decL ec_42 (EC.encL ec_42 b0))) fun r0 =>
              (gdE (EC.isL ec_44 (slOf (List.getD (List.getD (EC.encL ec_44 t7) (Int.toNat t9) []) (8 : Nat) C.ne))) <|
                (gdE (EC.isL ec_42 (EC.encL ec_42 ((r0).2).2)) <|
                  (Option.bind (prove_tests_h4 (r0).1 (EC.decL ec_44 (slOf (List.getD (List.getD (EC.encL ec_44 t7) (Int.toNat t9) []) (8 : Nat) C.ne))) (EC.decL ec_42 (EC.encL ec_42 ((r0).2).2))) fun r1 =>
                    (gdE (EC.isL ec_44 (EC.encL ec_44 t7)) <|
                      (gdE (EC.isL ec_42 (EC.encL ec_42 ((r1).2).2)) <|
                        (prove_tests_h4_l2 (r1).1 (EC.decL ec_44 (EC.encL ec_44 t7)) t8 (Go.IntKind.wrap Go.IntKind.i64 (t9 + (1 : Int))) (EC.decL ec_42 (EC.encL ec_42 ((r1).2).2))))))))))))))
  (gdE (EC.isL ec_44 (EC.encL ec_44 t7)) <|
    (gdE (EC.isL ec_42 (EC.encL ec_42 b0)) <|
      (some ((l, ((EC.decL ec_44 (EC.encL ec_44 t7)), (t8, (t9, false)))), (EC.decL ec_42 (EC.encL ec_42 b0)))))))
theorem prove_tests_h4_l2_eq {l : Nat} {t7 : (List S44)} {t8 : Int} {t9 : Int} {b0 : (List S42)} {r : ((Nat × (List S44) × Int × Int × Bool) × (List S42))} (h : prove_tests_h4_l2_t l t7 t8 t9 b0 = some r) : prove_tests_h4_l2 l t7 t8 t9 b0 = some r :=
  lS_tree (es := tab_rules_Validate) (hs := htab_prove_collect_h5) [] (by kernel_rfl) trivial trivial (by kernel_rfl) h
def prove_tests_h4_l2_e : LEnt Try.prog lv X0 27 29 := lentS Try.prog lv X0 2 (getLoop (cdF Try.f27) 2) prove_tests_h4_l2_s prove_tests_h4_l2_o (fun x => prove_tests_h4_l2 x.1.1 x.1.2.1 x.1.2.2.1 x.1.2.2.2 x.2) (fun _ _ h => lS_from h)
def prove_tests_h4_t (l : Nat) (s : (List S44)) (b0 : (List S42)) : Option (Nat × (Nat × (List S42))) :=
  (gdE (EC.isL ec_44 (EC.encL ec_44 s)) <|
  (gdE (EC.isL ec_42 (EC.encL ec_42 b0)) <|
    (Option.bind (prove_tests_h4_l2 l (EC.decL ec_44 (EC.encL ec_44 s)) (((List.length (EC.encL ec_44 s)) : Nat) : Int) (0 : Int) (EC.decL ec_42 (EC.encL ec_42 b0))) fun r0 =>
      (gdE (EC.isL ec_42 (EC.encL ec_42 (r0).2)) <|
        (some (((r0).1).1, (((r0).1).1, (EC.decL ec_42 (EC.encL ec_42 (r0).2)))))))))
theorem prove_tests_h4_eq {l : Nat} {s : (List S44)} {b0 : (List S42)} {r : (Nat × (Nat × (List S42)))} (h : prove_tests_h4_t l s b0 = some r) : prove_tests_h4 l s b0 = some r :=
  hS_tree (fn := Try.f27) (es := tab_rules_Validate) (hs := htab_prove_collect_h5) [prove_tests_h4_l2_e] (by kernel_rfl) rfl (by kernel_rfl) ⟨⟨_, rfl, rfl⟩, trivial⟩ trivial (by kernel_rfl) h
def prove_trial_execute_h6_s : SC ((Unit × (List S44) × Int) × ((Nat × Int × Nat × Nat) × (List S42) × (List Bool) × (List S49))) := sLS [0, 1, 2] (lCons (vPtr 0 0) (lCons (vC (cSl ec_44)) (lOne (vC (cInt .i64))))) (lCons (oSome (bBox (lCons (vRow 1) (lCons (vC (cInt .i64)) (lCons (vRow 2) (lOne (vRow 3))))))) (lCons (oSome (bRow ec_42)) (lCons (oSome (bRow ec_4)) (lOne (oSome (bRow ec_49)))))) [false, false, false, false] [0, 1, 2] (by decide) (fun _ => rfl)
def prove_trial_execute_h6_q : SC (Bool × ((Nat × Int × Nat × Nat) × (List S42) × (List Bool) × (List S49))) := sLS [0] (lOne (vC cBool)) (lCons (oSome (bBox (lCons (vRow 1) (lCons (vC (cInt .i64)) (lCons (vRow 2) (lOne (vRow 3))))))) (lCons (oSome (bRow ec_42)) (lCons (oSome (bRow ec_4)) (lOne (oSome (bRow ec_49)))))) [false, false, false, false] [0, 1, 2] (by decide) (fun _ => rfl)
def prove_trial_execute_h6_o : HC (Bool × (Bool × ((Nat × Int × Nat × Nat) × (List S42) × (List Bool) × (List S49)))) := hPair (vC cBool) prove_trial_execute_h6_q
def prove_trial_execute_h6 (s : (List S44)) (number : Int) (b0 : Nat) (b0_1 : Int) (b0_2 : Nat) (b0_3 : Nat) (b1 : (List S42)) (b2 : (List Bool)) (b3 : (List S49)) : Option (Bool × (Bool × ((Nat × Int × Nat × Nat) × (List S42) × (List Bool) × (List S49)))) := hS Try.prog lv X0 30 prove_trial_execute_h6_s prove_trial_execute_h6_o (((), s, number), ((b0, b0_1, b0_2, b0_3), b1, b2, b3))
def prove_trial_execute_h6_e : HEnt Try.prog lv X0 := hentS Try.prog lv X0 30 [0, 3, 0, 0, 1, 1, 4, 2, 1, 1, 1, 4, 2, 1, 1, 1, 2, 2, 2, 3, 2, 2, 2, 0, 1, 2] prove_trial_execute_h6_s prove_trial_execute_h6_o (fun x => prove_trial_execute_h6 x.1.2.1 x.1.2.2 x.2.1.1 x.2.1.2.1 x.2.1.2.2.1 x.2.1.2.2.2 x.2.2.1 x.2.2.2.1 x.2.2.2.2) (fun _ _ h => hS_from h)
def htab_prove_trial_execute_h6 : List (HEnt Try.prog lv X0) := prove_trial_execute_h6_e :: htab_prove_collect_h5
def prove_trial_holds_h7_s : SC ((Unit × (Int × (List S42) × ByteArray × Int × ByteArray × Int)) × ((Nat × Int × Nat × Nat) × (List S42) × (List Bool) × (List S49))) := sLS [0, 1] (lCons (vPtr 0 0) (lOne (vAgg (lCons (vC (cInt .i64)) (lCons (vC (cSl ec_42)) (lCons (vC cStr) (lCons (vC (cInt .i64)) (lCons (vC cStr) (lOne (vC (cInt .i64))))))))))) (lCons (oSome (bBox (lCons (vRow 1) (lCons (vC (cInt .i64)) (lCons (vRow 2) (lOne (vRow 3))))))) (lCons (oSome (bRow ec_42)) (lCons (oSome (bRow ec_4)) (lOne (oSome (bRow ec_49)))))) [false, false, false, false] [0, 1, 2] (by decide) (fun _ => rfl)
def prove_trial_holds_h7_q : SC (Bool × ((Nat × Int × Nat × Nat) × (List S42) × (List Bool) × (List S49))) := sLS [0] (lOne (vC cBool)) (lCons (oSome (bBox (lCons (vRow 1) (lCons (vC (cInt .i64)) (lCons (vRow 2) (lOne (vRow 3))))))) (lCons (oSome (bRow ec_42)) (lCons (oSome (bRow ec_4)) (lOne (oSome (bRow ec_49)))))) [false, false, false, false] [0, 1, 2] (by decide) (fun _ => rfl)
def prove_trial_holds_h7_o : HC (Bool × (Bool × ((Nat × Int × Nat × Nat) × (List S42) × (List Bool) × (List S49)))) := hPair (vC cBool) prove_trial_holds_h7_q
def prove_trial_holds_h7 (t : Int) (t_1 : (List S42)) (t_2 : ByteArray) (t_3 : Int) (t_4 : ByteArray) (t_5 : Int) (b0 : Nat) (b0_1 : Int) (b0_2 : Nat) (b0_3 : Nat) (b1 : (List S42)) (b2 : (List Bool)) (b3 : (List S49)) : Option (Bool × (Bool × ((Nat × Int × Nat × Nat) × (List S42) × (List Bool) × (List S49)))) := hS Try.prog lv X0 39 prove_trial_holds_h7_s prove_trial_holds_h7_o (((), (t, t_1, t_2, t_3, t_4, t_5)), ((b0, b0_1, b0_2, b0_3), b1, b2, b3))
def prove_trial_holds_h7_e : HEnt Try.prog lv X0 := hentS Try.prog lv X0 39 [0, 3, 0, 0, 1, 7, 6, 1, 1, 1, 4, 1, 3, 1, 1, 1, 3, 1, 1, 1, 4, 2, 1, 1, 1, 2, 2, 2, 3, 2, 2, 2, 0, 1, 2] prove_trial_holds_h7_s prove_trial_holds_h7_o (fun x => prove_trial_holds_h7 x.1.2.1 x.1.2.2.1 x.1.2.2.2.1 x.1.2.2.2.2.1 x.1.2.2.2.2.2.1 x.1.2.2.2.2.2.2 x.2.1.1 x.2.1.2.1 x.2.1.2.2.1 x.2.1.2.2.2 x.2.2.1 x.2.2.2.1 x.2.2.2.2) (fun _ _ h => hS_from h)
def htab_prove_trial_holds_h7 : List (HEnt Try.prog lv X0) := prove_trial_holds_h7_e :: htab_prove_trial_execute_h6
def api_Test__h8_s : SC (((List S42) × Unit) × (Unit × (Nat × Int × Nat × Nat) × (List S42) × (List Bool) × (List S49))) := sLS [0, 1] (lCons (vC (cSl ec_42)) (lOne (vFn 46 (lOne (vPtr 0 0))))) (lCons (oSome (bBox (lOne (vPtr 1 0)))) (lCons (oSome (bBox (lCons (vRow 2) (lCons (vC (cInt .i64)) (lCons (vRow 3) (lOne (vRow 4))))))) (lCons (oSome (bRow ec_42)) (lCons (oSome (bRow ec_4)) (lOne (oSome (bRow ec_49))))))) [false, false, false, false, false] [0, 1, 2, 3] (by decide) (fun _ => rfl)
def api_Test__h9_s : SC (((List S42) × Unit) × (Unit × (Nat × Int × Nat × Nat) × (List S42) × (List Bool) × (List S49))) := sLS [0, 1] (lCons (vC (cSl ec_42)) (lOne (vFn 46 (lOne (vPtr 0 0))))) (lCons (oSome (bBox (lOne (vPtr 1 0)))) (lCons (oSome (bBox (lCons (vRow 2) (lCons (vC (cInt .i64)) (lCons (vRow 3) (lOne (vRow 4))))))) (lCons (oSome (bRow ec_42)) (lCons (oSome (bRow ec_4)) (lOne (oSome (bRow ec_49))))))) [false, false, false, false, false] [0, 1, 2, 3] (by decide) (fun _ => rfl)
def prove_trial_holds_1_h10_s : SC (((Int × (List S42) × ByteArray × Int × ByteArray × Int) × Unit) × (Unit × (Nat × Int × Nat × Nat) × (List S42) × (List Bool) × (List S49))) := sLS [0, 1] (lCons (vAgg (lCons (vC (cInt .i64)) (lCons (vC (cSl ec_42)) (lCons (vC cStr) (lCons (vC (cInt .i64)) (lCons (vC cStr) (lOne (vC (cInt .i64))))))))) (lOne (vPtr 0 0))) (lCons (oSome (bBox (lOne (vPtr 1 0)))) (lCons (oSome (bBox (lCons (vRow 2) (lCons (vC (cInt .i64)) (lCons (vRow 3) (lOne (vRow 4))))))) (lCons (oSome (bRow ec_42)) (lCons (oSome (bRow ec_4)) (lOne (oSome (bRow ec_49))))))) [false, false, false, false, false] [0, 1, 2, 3] (by decide) (fun _ => rfl)
def prove_trial_holds_1_h10_q : SC (Bool × (Unit × (Nat × Int × Nat × Nat) × (List S42) × (List Bool) × (List S49))) := sLS [0] (lOne (vC cBool)) (lCons (oSome (bBox (lOne (vPtr 1 0)))) (lCons (oSome (bBox (lCons (vRow 2) (lCons (vC (cInt .i64)) (lCons (vRow 3) (lOne (vRow 4))))))) (lCons (oSome (bRow ec_42)) (lCons (oSome (bRow ec_4)) (lOne (oSome (bRow ec_49))))))) [false, false, false, false, false] [0, 1, 2, 3] (by decide) (fun _ => rfl)
def prove_trial_holds_1_h10_o : HC (Bool × (Bool × (Unit × (Nat × Int × Nat × Nat) × (List S42) × (List Bool) × (List S49)))) := hPair (vC cBool) prove_trial_holds_1_h10_q
def prove_trial_holds_1_h10 (y : Int) (y_1 : (List S42)) (y_2 : ByteArray) (y_3 : Int) (y_4 : ByteArray) (y_5 : Int) (b1 : Nat) (b1_1 : Int) (b1_2 : Nat) (b1_3 : Nat) (b2 : (List S42)) (b3 : (List Bool)) (b4 : (List S49)) : Option (Bool × (Bool × (Unit × (Nat × Int × Nat × Nat) × (List S42) × (List Bool) × (List S49)))) := hS Try.prog lv X0 46 prove_trial_holds_1_h10_s prove_trial_holds_1_h10_o (((y, y_1, y_2, y_3, y_4, y_5), ()), ((), (b1, b1_1, b1_2, b1_3), b2, b3, b4))
def prove_trial_holds_1_h10_t (y : Int) (y_1 : (List S42)) (y_2 : ByteArray) (y_3 : Int) (y_4 : ByteArray) (y_5 : Int) (b1 : Nat) (b1_1 : Int) (b1_2 : Nat) (b1_3 : Nat) (b2 : (List S42)) (b3 : (List Bool)) (b4 : (List S49)) : Option (Bool × (Bool × (Unit × (Nat × Int × Nat × Nat) × (List S42) × (List Bool) × (List S49)))) :=
  (gdE (EC.isL ec_42 (EC.encL ec_42 y_1)) <|
  (gdE (EC.isL ec_42 (EC.encL ec_42 b2)) <|
    (gdE (EC.isL ec_4 (EC.encL ec_4 b3)) <|
      (gdE (EC.isL ec_49 (EC.encL ec_49 b4)) <|
        (Option.bind (prove_trial_holds_h7 y (EC.decL ec_42 (EC.encL ec_42 y_1)) y_2 y_3 y_4 y_5 b1 b1_1 b1_2 b1_3 (EC.decL ec_42 (EC.encL ec_42 b2)) (EC.decL ec_4 (EC.encL ec_4 b3)) (EC.decL ec_49 (EC.encL ec_49 b4))) fun r0 =>
          (gdE (EC.isL ec_42 (EC.encL ec_42 ((((r0).2).2).2).1)) <|
            (gdE (EC.isL ec_4 (EC.encL ec_4 (((((r0).2).2).2).2).1)) <|
              (gdE (EC.isL ec_49 (EC.encL ec_49 (((((r0).2).2).2).2).2)) <|
                (some ((!(r0).1), ((!(r0).1), ((), ((((((r0).2).2).1).1, ((((((r0).2).2).1).2).1, (((((((r0).2).2).1).2).2).1, ((((((r0).2).2).1).2).2).2))), ((EC.decL ec_42 (EC.encL ec_42 ((((r0).2).2).2).1)), ((EC.decL ec_4 (EC.encL ec_4 (((((r0).2).2).2).2).1)), (EC.decL ec_49 (EC.encL ec_49 (((((r0).2).2).2).2).2)))))))))))))))))
theorem prove_trial_holds_1_h10_eq {y : Int} {y_1 : (List S42)} {y_2 : ByteArray} {y_3 : Int} {y_4 : ByteArray} {y_5 : Int} {b1 : Nat} {b1_1 : Int} {b1_2 : Nat} {b1_3 : Nat} {b2 : (List S42)} {b3 : (List Bool)} {b4 : (List S49)} {r : (Bool × (Bool × (Unit × (Nat × Int × Nat × Nat) × (List S42) × (List Bool) × (List S49))))} (h : prove_trial_holds_1_h10_t y y_1 y_2 y_3 y_4 y_5 b1 b1_1 b1_2 b1_3 b2 b3 b4 = some r) : prove_trial_holds_1_h10 y y_1 y_2 y_3 y_4 y_5 b1 b1_1 b1_2 b1_3 b2 b3 b4 = some r :=
  hS_tree (fn := Try.f46) (es := tab_rules_Validate) (hs := htab_prove_trial_holds_h7) [] (by kernel_rfl) rfl (by kernel_rfl) trivial trivial (by kernel_rfl) h
def prove_trial_holds_1_h10_e : HEnt Try.prog lv X0 := hentS Try.prog lv X0 46 [0, 7, 6, 1, 1, 1, 4, 1, 3, 1, 1, 1, 3, 1, 1, 1, 3, 0, 0, 1, 1, 3, 1, 0, 1, 4, 2, 2, 1, 1, 2, 3, 2, 4, 2, 2, 2, 0, 1, 2, 3] prove_trial_holds_1_h10_s prove_trial_holds_1_h10_o (fun x => prove_trial_holds_1_h10 x.1.1.1 x.1.1.2.1 x.1.1.2.2.1 x.1.1.2.2.2.1 x.1.1.2.2.2.2.1 x.1.1.2.2.2.2.2 x.2.2.1.1 x.2.2.1.2.1 x.2.2.1.2.2.1 x.2.2.1.2.2.2 x.2.2.2.1 x.2.2.2.2.1 x.2.2.2.2.2) (fun _ _ h => hS_from h)
def htab_prove_trial_holds_1_h10 : List (HEnt Try.prog lv X0) := prove_trial_holds_1_h10_e :: htab_prove_trial_holds_h7
def api_Test__h9_l2_s : SC (((List S42) × Unit × Int × Int) × (Unit × (Nat × Int × Nat × Nat) × (List S42) × (List Bool) × (List S49))) := sLS [0, 1, 7, 8] (lCons (vC (cSl ec_42)) (lCons (vFn 46 (lOne (vPtr 0 0))) (lCons (vC (cInt .i64)) (lOne (vC (cInt .i64)))))) (lCons (oSome (bBox (lOne (vPtr 1 0)))) (lCons (oSome (bBox (lCons (vRow 2) (lCons (vC (cInt .i64)) (lCons (vRow 3) (lOne (vRow 4))))))) (lCons (oSome (bRow ec_42)) (lCons (oSome (bRow ec_4)) (lOne (oSome (bRow ec_49))))))) [false, false, false, false, false] [0, 1, 2, 3] (by decide) (fun _ => rfl)
def api_Test__h9_l2_o2 : SC (((List S42) × Unit × Int × Int × Bool) × (Unit × (Nat × Int × Nat × Nat) × (List S42) × (List Bool) × (List S49))) := sLS [0, 1, 7, 8, 9] (lCons (vC (cSl ec_42)) (lCons (vFn 46 (lOne (vPtr 0 0))) (lCons (vC (cInt .i64)) (lCons (vC (cInt .i64)) (lOne (vC cBool)))))) (lCons (oSome (bBox (lOne (vPtr 1 0)))) (lCons (oSome (bBox (lCons (vRow 2) (lCons (vC (cInt .i64)) (lCons (vRow 3) (lOne (vRow 4))))))) (lCons (oSome (bRow ec_42)) (lCons (oSome (bRow ec_4)) (lOne (oSome (bRow ec_49))))))) [false, false, false, false, false] [0, 1, 2, 3] (by decide) (fun _ => rfl)
def api_Test__h9_l2_o1 : SC (Int × (Unit × (Nat × Int × Nat × Nat) × (List S42) × (List Bool) × (List S49))) := sLS [4] (lOne (vC (cInt .i64))) (lCons (oSome (bBox (lOne (vPtr 1 0)))) (lCons (oSome (bBox (lCons (vRow 2) (lCons (vC (cInt .i64)) (lCons (vRow 3) (lOne (vRow 4))))))) (lCons (oSome (bRow ec_42)) (lCons (oSome (bRow ec_4)) (lOne (oSome (bRow ec_49))))))) [false, false, false, false, false] [0, 1, 2, 3] (by decide) (fun _ => rfl)
def api_Test__h9_l2_o : OC ((Int × (Unit × (Nat × Int × Nat × Nat) × (List S42) × (List Bool) × (List S49))) ⊕ (((List S42) × Unit × Int × Int × Bool) × (Unit × (Nat × Int × Nat × Nat) × (List S42) × (List Bool) × (List S49)))) := oOr 1 api_Test__h9_l2_o1 (oAt 2 api_Test__h9_l2_o2) (fun x => (by decide : (2 : Nat) ≠ 1))
def api_Test__h9_l2 (s : (List S42)) (t7 : Int) (t8 : Int) (b1 : Nat) (b1_1 : Int) (b1_2 : Nat) (b1_3 : Nat) (b2 : (List S42)) (b3 : (List Bool)) (b4 : (List S49)) : Option ((Int × (Unit × (Nat × Int × Nat × Nat) × (List S42) × (List Bool) × (List S49))) ⊕ (((List S42) × Unit × Int × Int × Bool) × (Unit × (Nat × Int × Nat × Nat) × (List S42) × (List Bool) × (List S49)))) := lS Try.prog lv X0 55 19 (getLoop (cdF Try.f55) 2) api_Test__h9_l2_s api_Test__h9_l2_o ((s, (), t7, t8), ((), (b1, b1_1, b1_2, b1_3), b2, b3, b4))
def api_Test__h9_l2_t (s : (List S42)) (t7 : Int) (t8 : Int) (b1 : Nat) (b1_1 : Int) (b1_2 : Nat) (b1_3 : Nat) (b2 : (List S42)) (b3 : (List Bool)) (b4 : (List S49)) : Option ((Int × (Unit × (Nat × Int × Nat × Nat) × (List S42) × (List Bool) × (List S49))) ⊕ (((List S42) × Unit × Int × Int × Bool) × (Unit × (Nat × Int × Nat × Nat) × (List S42) × (List Bool) × (List S49)))) :=
  (brE (decide (t8 < t7))
  (gdE (decide ((0 : Int) ≤ t8)) <|
    (gdE ((decide ((Int.toNat t8) < (List.length (EC.encL ec_42 s)))) && (isE [(K1.int Go.IntKind.i64), K1.sl, K1.str, (K1.int Go.IntKind.i64), K1.str, (K1.int Go.IntKind.i64)] (0 : Nat) (List.getD (EC.encL ec_42 s) (Int.toNat t8) []))) <|
      (gdE (EC.isL ec_42 (slOf (List.getD (List.getD (EC.encL ec_42 s) (Int.toNat t8) []) (1 : Nat) C.ne))) <|
        (gdE (EC.isL ec_42 (EC.encL ec_42 b2)) <|
          (gdE (EC.isL ec_4 (EC.encL ec_4 b3)) <|
            (gdE (EC.isL ec_49 (EC.encL ec_49 b4)) <|
              (Option.bind (prove_trial_holds_1_h10 (intOf (List.getD (List.getD (EC.encL ec_42 s) (Int.toNat t8) []) (0 : Nat) C.ne)) (EC.decL ec_42 (slOf (List.getD (List.getD (EC.encL ec_42 s) (Int.toNat t8) []) (1 : Nat) C.ne))) (strOf (List.getD (List.getD (EC.encL ec_42 s) (Int.toNat t8) []) (2 : Nat) C.ne)) (intOf (List.getD (List.getD (EC.encL ec_42 s) (Int.toNat t8) []) (3 : Nat) C.ne)) (strOf (List.getD (List.getD (EC.encL ec_42 s) (Int.toNat t8) []) (4 : Nat) C.ne)) (intOf (List.getD (List.getD (EC.encL ec_42 s) (Int.toNat t8) []) (5 : Nat) C.ne)) b1 b1_1 b1_2 b1_3 (EC.decL ec_42 (EC.encL ec_42 b2)) (EC.decL ec_4 (EC.encL ec_4 b3)) (EC.decL ec_49 (EC.encL ec_49 b4))) fun r0 =>
                (brE (r0).1
                  (gdE (EC.isL ec_42 (EC.encL ec_42 (((((r0).2).2).2).2).1)) <|
                    (gdE (EC.isL ec_4 (EC.encL ec_4 ((((((r0).2).2).2).2).2).1)) <|
                      (gdE (EC.isL ec_49 (EC.encL ec_49 ((((((r0).2).2).2).2).2).2)) <|
                        (some (.inl (t8, ((), (((((((r0).2).2).2).1).1, (((((((r0).2).2).2).1).2).1, ((((((((r0).2).2).2).1).2).2).1, (((((((r0).2).2).2).1).2).2).2))), ((EC.decL ec_42 (EC.encL ec_42 (((((r0).2).2).2).2).1)), ((EC.decL ec_4 (EC.encL ec_4 ((((((r0).2).2).2).2).2).1)), (EC.decL ec_49 (EC.encL ec_49 ((((((r0).2).2).2).2).2).2))))))))))))
                  (gdE (EC.isL ec_42 (EC.encL ec_42 s)) <|
                    (gdE (EC.isL ec_42 (EC.encL ec_42 (((((r0).2).2).2).2).1)) <|
                      (gdE (EC.isL ec_4 (EC.encL ec_4 ((((((r0).2).2).2).2).2).1)) <|
                        (gdE (EC.isL ec_49 (EC.encL ec_49 ((((((r0).2).2).2).2).2).2)) <|
                          (api_Test__h9_l2 (EC.decL ec_42 (EC.encL ec_42 s)) t7 (Go.IntKind.wrap Go.IntKind.i64 (t8 + (1 : Int))) (((((r0).2).2).2).1).1 ((((((r0).2).2).2).1).2).1 (((((((r0).2).2).2).1).2).2).1 (((((((r0).2).2).2).1).2).2).2 (EC.decL ec_42 (EC.encL ec_42 (((((r0).2).2).2).2).1)) (EC.decL ec_4 (EC.encL ec_4 ((((((r0).2).2).2).2).2).1)) (EC.decL ec_49 (EC.encL ec_49 ((((((r0).2).2).2).2).2).2)))))))))))))))
  (gdE (EC.isL ec_42 (EC.encL ec_42 s)) <|
    (gdE (EC.isL ec_42 (EC.encL ec_42 b2)) <|
      (gdE (EC.isL ec_4 (EC.encL ec_4 b3)) <|
        (gdE (EC.isL ec_49 (EC.encL ec_49 b4)) <|
          (some (.inr (((EC.decL ec_42 (EC.encL ec_42 s)), ((), (t7, (t8, false)))), ((), ((b1, (b1_1, (b1_2, b1_3))), ((EC.decL ec_42 (EC.encL ec_42 b2)), ((EC.decL ec_4 (EC.encL ec_4 b3)), (EC.decL ec_49 (EC.encL ec_49 b4))))))))))))))
theorem api_Test__h9_l2_eq {s : (List S42)} {t7 : Int} {t8 : Int} {b1 : Nat} {b1_1 : Int} {b1_2 : Nat} {b1_3 : Nat} {b2 : (List S42)} {b3 : (List Bool)} {b4 : (List S49)} {r : ((Int × (Unit × (Nat × Int × Nat × Nat) × (List S42) × (List Bool) × (List S49))) ⊕ (((List S42) × Unit × Int × Int × Bool) × (Unit × (Nat × Int × Nat × Nat) × (List S42) × (List Bool) × (List S49))))} (h : api_Test__h9_l2_t s t7 t8 b1 b1_1 b1_2 b1_3 b2 b3 b4 = some r) : api_Test__h9_l2 s t7 t8 b1 b1_1 b1_2 b1_3 b2 b3 b4 = some r :=
  lS_tree (es := tab_rules_Validate) (hs := htab_prove_trial_holds_1_h10) [] (by kernel_rfl) trivial trivial (by kernel_rfl) h
def api_Test__h9_l2_e : LEnt Try.prog lv X0 55 19 := lentS Try.prog lv X0 2 (getLoop (cdF Try.f55) 2) api_Test__h9_l2_s api_Test__h9_l2_o (fun x => api_Test__h9_l2 x.1.1 x.1.2.2.1 x.1.2.2.2 x.2.2.1.1 x.2.2.1.2.1 x.2.2.1.2.2.1 x.2.2.1.2.2.2 x.2.2.2.1 x.2.2.2.2.1 x.2.2.2.2.2) (fun _ _ h => lS_from h)
def api_Test__h9_q : SC (Int × (Unit × (Nat × Int × Nat × Nat) × (List S42) × (List Bool) × (List S49))) := sLS [0] (lOne (vC (cInt .i64))) (lCons (oSome (bBox (lOne (vPtr 1 0)))) (lCons (oSome (bBox (lCons (vRow 2) (lCons (vC (cInt .i64)) (lCons (vRow 3) (lOne (vRow 4))))))) (lCons (oSome (bRow ec_42)) (lCons (oSome (bRow ec_4)) (lOne (oSome (bRow ec_49))))))) [false, false, false, false, false] [0, 1, 2, 3] (by decide) (fun _ => rfl)
def api_Test__h9_o : HC (Int × (Int × (Unit × (Nat × Int × Nat × Nat) × (List S42) × (List Bool) × (List S49)))) := hPair (vC (cInt .i64)) api_Test__h9_q
def api_Test__h9 (s : (List S42)) (b1 : Nat) (b1_1 : Int) (b1_2 : Nat) (b1_3 : Nat) (b2 : (List S42)) (b3 : (List Bool)) (b4 : (List S49)) : Option (Int × (Int × (Unit × (Nat × Int × Nat × Nat) × (List S42) × (List Bool) × (List S49)))) := hS Try.prog lv X0 55 api_Test__h9_s api_Test__h9_o ((s, ()), ((), (b1, b1_1, b1_2, b1_3), b2, b3, b4))
def api_Test__h9_t (s : (List S42)) (b1 : Nat) (b1_1 : Int) (b1_2 : Nat) (b1_3 : Nat) (b2 : (List S42)) (b3 : (List Bool)) (b4 : (List S49)) : Option (Int × (Int × (Unit × (Nat × Int × Nat × Nat) × (List S42) × (List Bool) × (List S49)))) :=
  (gdE (EC.isL ec_42 (EC.encL ec_42 s)) <|
  (gdE (EC.isL ec_42 (EC.encL ec_42 b2)) <|
    (gdE (EC.isL ec_4 (EC.encL ec_4 b3)) <|
      (gdE (EC.isL ec_49 (EC.encL ec_49 b4)) <|
        (Option.bind (api_Test__h9_l2 (EC.decL ec_42 (EC.encL ec_42 s)) (((List.length (EC.encL ec_42 s)) : Nat) : Int) (0 : Int) b1 b1_1 b1_2 b1_3 (EC.decL ec_42 (EC.encL ec_42 b2)) (EC.decL ec_4 (EC.encL ec_4 b3)) (EC.decL ec_49 (EC.encL ec_49 b4))) fun r0 =>
          (Sum.elim (fun r1 => (gdE (EC.isL ec_42 (EC.encL ec_42 ((((r1).2).2).2).1)) <|
              (gdE (EC.isL ec_4 (EC.encL ec_4 (((((r1).2).2).2).2).1)) <|
                (gdE (EC.isL ec_49 (EC.encL ec_49 (((((r1).2).2).2).2).2)) <|
                  (some ((r1).1, ((r1).1, ((), ((((((r1).2).2).1).1, ((((((r1).2).2).1).2).1, (((((((r1).2).2).1).2).2).1, ((((((r1).2).2).1).2).2).2))), ((EC.decL ec_42 (EC.encL ec_42 ((((r1).2).2).2).1)), ((EC.decL ec_4 (EC.encL ec_4 (((((r1).2).2).2).2).1)), (EC.decL ec_49 (EC.encL ec_49 (((((r1).2).2).2).2).2)))))))))))))
            (fun r1 => (gdE (EC.isL ec_42 (EC.encL ec_42 ((((r1).2).2).2).1)) <|
              (gdE (EC.isL ec_4 (EC.encL ec_4 (((((r1).2).2).2).2).1)) <|
                (gdE (EC.isL ec_49 (EC.encL ec_49 (((((r1).2).2).2).2).2)) <|
                  (some ((-1 : Int), ((-1 : Int), ((), ((((((r1).2).2).1).1, ((((((r1).2).2).1).2).1, (((((((r1).2).2).1).2).2).1, ((((((r1).2).2).1).2).2).2))), ((EC.decL ec_42 (EC.encL ec_42 ((((r1).2).2).2).1)), ((EC.decL ec_4 (EC.encL ec_4 (((((r1).2).2).2).2).1)), (EC.decL ec_49 (EC.encL ec_49 (((((r1).2).2).2).2).2))))))))))))) r0))))))
theorem api_Test__h9_eq {s : (List S42)} {b1 : Nat} {b1_1 : Int} {b1_2 : Nat} {b1_3 : Nat} {b2 : (List S42)} {b3 : (List Bool)} {b4 : (List S49)} {r : (Int × (Int × (Unit × (Nat × Int × Nat × Nat) × (List S42) × (List Bool) × (List S49))))} (h : api_Test__h9_t s b1 b1_1 b1_2 b1_3 b2 b3 b4 = some r) : api_Test__h9 s b1 b1_1 b1_2 b1_3 b2 b3 b4 = some r :=
  hS_tree (fn := Try.f55) (es := tab_rules_Validate) (hs := htab_prove_trial_holds_1_h10) [api_Test__h9_l2_e] (by kernel_rfl) rfl (by kernel_rfl) ⟨⟨_, rfl, rfl⟩, trivial⟩ trivial (by kernel_rfl) h
def api_Test__h9_e : HEnt Try.prog lv X0 := hentS Try.prog lv X0 55 [0, 1, 4, 1, 6, 46, 1, 3, 0, 0, 1, 1, 3, 1, 0, 1, 4, 2, 2, 1, 1, 2, 3, 2, 4, 2, 2, 2, 0, 1, 2, 3] api_Test__h9_s api_Test__h9_o (fun x => api_Test__h9 x.1.1 x.2.2.1.1 x.2.2.1.2.1 x.2.2.1.2.2.1 x.2.2.1.2.2.2 x.2.2.2.1 x.2.2.2.2.1 x.2.2.2.2.2) (fun _ _ h => hS_from h)
def htab_api_Test__h9 : List (HEnt Try.prog lv X0) := api_Test__h9_e :: htab_prove_trial_holds_1_h10
def api_Test__h8_q : SC (Bool × (Unit × (Nat × Int × Nat × Nat) × (List S42) × (List Bool) × (List S49))) := sLS [0] (lOne (vC cBool)) (lCons (oSome (bBox (lOne (vPtr 1 0)))) (lCons (oSome (bBox (lCons (vRow 2) (lCons (vC (cInt .i64)) (lCons (vRow 3) (lOne (vRow 4))))))) (lCons (oSome (bRow ec_42)) (lCons (oSome (bRow ec_4)) (lOne (oSome (bRow ec_49))))))) [false, false, false, false, false] [0, 1, 2, 3] (by decide) (fun _ => rfl)
def api_Test__h8_o : HC (Bool × (Bool × (Unit × (Nat × Int × Nat × Nat) × (List S42) × (List Bool) × (List S49)))) := hPair (vC cBool) api_Test__h8_q
def api_Test__h8 (s : (List S42)) (b1 : Nat) (b1_1 : Int) (b1_2 : Nat) (b1_3 : Nat) (b2 : (List S42)) (b3 : (List Bool)) (b4 : (List S49)) : Option (Bool × (Bool × (Unit × (Nat × Int × Nat × Nat) × (List S42) × (List Bool) × (List S49)))) := hS Try.prog lv X0 45 api_Test__h8_s api_Test__h8_o ((s, ()), ((), (b1, b1_1, b1_2, b1_3), b2, b3, b4))
def api_Test__h8_t (s : (List S42)) (b1 : Nat) (b1_1 : Int) (b1_2 : Nat) (b1_3 : Nat) (b2 : (List S42)) (b3 : (List Bool)) (b4 : (List S49)) : Option (Bool × (Bool × (Unit × (Nat × Int × Nat × Nat) × (List S42) × (List Bool) × (List S49)))) :=
  (gdE (EC.isL ec_42 (EC.encL ec_42 s)) <|
  (gdE (EC.isL ec_42 (EC.encL ec_42 b2)) <|
    (gdE (EC.isL ec_4 (EC.encL ec_4 b3)) <|
      (gdE (EC.isL ec_49 (EC.encL ec_49 b4)) <|
        (Option.bind (api_Test__h9 (EC.decL ec_42 (EC.encL ec_42 s)) b1 b1_1 b1_2 b1_3 (EC.decL ec_42 (EC.encL ec_42 b2)) (EC.decL ec_4 (EC.encL ec_4 b3)) (EC.decL ec_49 (EC.encL ec_49 b4))) fun r0 =>
          (gdE (EC.isL ec_42 (EC.encL ec_42 (((((r0).2).2).2).2).1)) <|
            (gdE (EC.isL ec_4 (EC.encL ec_4 ((((((r0).2).2).2).2).2).1)) <|
              (gdE (EC.isL ec_49 (EC.encL ec_49 ((((((r0).2).2).2).2).2).2)) <|
                (some ((decide ((r0).1 ≥ (0 : Int))), ((decide ((r0).1 ≥ (0 : Int))), ((), (((((((r0).2).2).2).1).1, (((((((r0).2).2).2).1).2).1, ((((((((r0).2).2).2).1).2).2).1, (((((((r0).2).2).2).1).2).2).2))), ((EC.decL ec_42 (EC.encL ec_42 (((((r0).2).2).2).2).1)), ((EC.decL ec_4 (EC.encL ec_4 ((((((r0).2).2).2).2).2).1)), (EC.decL ec_49 (EC.encL ec_49 ((((((r0).2).2).2).2).2).2)))))))))))))))))
theorem api_Test__h8_eq {s : (List S42)} {b1 : Nat} {b1_1 : Int} {b1_2 : Nat} {b1_3 : Nat} {b2 : (List S42)} {b3 : (List Bool)} {b4 : (List S49)} {r : (Bool × (Bool × (Unit × (Nat × Int × Nat × Nat) × (List S42) × (List Bool) × (List S49))))} (h : api_Test__h8_t s b1 b1_1 b1_2 b1_3 b2 b3 b4 = some r) : api_Test__h8 s b1 b1_1 b1_2 b1_3 b2 b3 b4 = some r :=
  hS_tree (fn := Try.f45) (es := tab_rules_Validate) (hs := htab_api_Test__h9) [] (by kernel_rfl) rfl (by kernel_rfl) trivial trivial (by kernel_rfl) h
def api_Test__h8_e : HEnt Try.prog lv X0 := hentS Try.prog lv X0 45 [0, 1, 4, 1, 6, 46, 1, 3, 0, 0, 1, 1, 3, 1, 0, 1, 4, 2, 2, 1, 1, 2, 3, 2, 4, 2, 2, 2, 0, 1, 2, 3] api_Test__h8_s api_Test__h8_o (fun x => api_Test__h8 x.1.1 x.2.2.1.1 x.2.2.1.2.1 x.2.2.1.2.2.1 x.2.2.1.2.2.2 x.2.2.2.1 x.2.2.2.2.1 x.2.2.2.2.2) (fun _ _ h => hS_from h)
def htab_api_Test__h8 : List (HEnt Try.prog lv X0) := api_Test__h8_e :: htab_api_Test__h9
def api_Test__h11_s : SC (((List S42) × Unit) × ((Nat × Int × Nat × Nat) × (List S42) × (List Bool) × (List S49))) := sLS [0, 1] (lCons (vC (cSl ec_42)) (lOne (vFn 1000039 (lOne (vPtr 0 0))))) (lCons (oSome (bBox (lCons (vRow 1) (lCons (vC (cInt .i64)) (lCons (vRow 2) (lOne (vRow 3))))))) (lCons (oSome (bRow ec_42)) (lCons (oSome (bRow ec_4)) (lOne (oSome (bRow ec_49)))))) [false, false, false, false] [0, 1, 2] (by decide) (fun _ => rfl)
def api_Test__h12_s : SC (((List S42) × Unit) × ((Nat × Int × Nat × Nat) × (List S42) × (List Bool) × (List S49))) := sLS [0, 1] (lCons (vC (cSl ec_42)) (lOne (vFn 1000039 (lOne (vPtr 0 0))))) (lCons (oSome (bBox (lCons (vRow 1) (lCons (vC (cInt .i64)) (lCons (vRow 2) (lOne (vRow 3))))))) (lCons (oSome (bRow ec_42)) (lCons (oSome (bRow ec_4)) (lOne (oSome (bRow ec_49)))))) [false, false, false, false] [0, 1, 2] (by decide) (fun _ => rfl)
def api_Test__h12_l2_s : SC (((List S42) × Unit × Int × Int) × ((Nat × Int × Nat × Nat) × (List S42) × (List Bool) × (List S49))) := sLS [0, 1, 7, 8] (lCons (vC (cSl ec_42)) (lCons (vFn 1000039 (lOne (vPtr 0 0))) (lCons (vC (cInt .i64)) (lOne (vC (cInt .i64)))))) (lCons (oSome (bBox (lCons (vRow 1) (lCons (vC (cInt .i64)) (lCons (vRow 2) (lOne (vRow 3))))))) (lCons (oSome (bRow ec_42)) (lCons (oSome (bRow ec_4)) (lOne (oSome (bRow ec_49)))))) [false, false, false, false] [0, 1, 2] (by decide) (fun _ => rfl)
def api_Test__h12_l2_o2 : SC (((List S42) × Unit × Int × Int × Bool) × ((Nat × Int × Nat × Nat) × (List S42) × (List Bool) × (List S49))) := sLS [0, 1, 7, 8, 9] (lCons (vC (cSl ec_42)) (lCons (vFn 1000039 (lOne (vPtr 0 0))) (lCons (vC (cInt .i64)) (lCons (vC (cInt .i64)) (lOne (vC cBool)))))) (lCons (oSome (bBox (lCons (vRow 1) (lCons (vC (cInt .i64)) (lCons (vRow 2) (lOne (vRow 3))))))) (lCons (oSome (bRow ec_42)) (lCons (oSome (bRow ec_4)) (lOne (oSome (bRow ec_49)))))) [false, false, false, false] [0, 1, 2] (by decide) (fun _ => rfl)
def api_Test__h12_l2_o1 : SC (Int × ((Nat × Int × Nat × Nat) × (List S42) × (List Bool) × (List S49))) := sLS [4] (lOne (vC (cInt .i64))) (lCons (oSome (bBox (lCons (vRow 1) (lCons (vC (cInt .i64)) (lCons (vRow 2) (lOne (vRow 3))))))) (lCons (oSome (bRow ec_42)) (lCons (oSome (bRow ec_4)) (lOne (oSome (bRow ec_49)))))) [false, false, false, false] [0, 1, 2] (by decide) (fun _ => rfl)
def api_Test__h12_l2_o : OC ((Int × ((Nat × Int × Nat × Nat) × (List S42) × (List Bool) × (List S49))) ⊕ (((List S42) × Unit × Int × Int × Bool) × ((Nat × Int × Nat × Nat) × (List S42) × (List Bool) × (List S49)))) := oOr 1 api_Test__h12_l2_o1 (oAt 2 api_Test__h12_l2_o2) (fun x => (by decide : (2 : Nat) ≠ 1))
def api_Test__h12_l2 (s : (List S42)) (t7 : Int) (t8 : Int) (b0 : Nat) (b0_1 : Int) (b0_2 : Nat) (b0_3 : Nat) (b1 : (List S42)) (b2 : (List Bool)) (b3 : (List S49)) : Option ((Int × ((Nat × Int × Nat × Nat) × (List S42) × (List Bool) × (List S49))) ⊕ (((List S42) × Unit × Int × Int × Bool) × ((Nat × Int × Nat × Nat) × (List S42) × (List Bool) × (List S49)))) := lS Try.prog lv X0 55 19 (getLoop (cdF Try.f55) 2) api_Test__h12_l2_s api_Test__h12_l2_o ((s, (), t7, t8), ((b0, b0_1, b0_2, b0_3), b1, b2, b3))
def api_Test__h12_l2_t (s : (List S42)) (t7 : Int) (t8 : Int) (b0 : Nat) (b0_1 : Int) (b0_2 : Nat) (b0_3 : Nat) (b1 : (List S42)) (b2 : (List Bool)) (b3 : (List S49)) : Option ((Int × ((Nat × Int × Nat × Nat) × (List S42) × (List Bool) × (List S49))) ⊕ (((List S42) × Unit × Int × Int × Bool) × ((Nat × Int × Nat × Nat) × (List S42) × (List Bool) × (List S49)))) :=
  (brE (decide (t8 < t7))
  (gdE (decide ((0 : Int) ≤ t8)) <|
    (gdE ((decide ((Int.toNat t8) < (List.length (EC.encL ec_42 s)))) && (isE [(K1.int Go.IntKind.i64), K1.sl, K1.str, (K1.int Go.IntKind.i64), K1.str, (K1.int Go.IntKind.i64)] (0 : Nat) (List.getD (EC.encL ec_42 s) (Int.toNat t8) []))) <|
      (gdE (EC.isL ec_42 (slOf (List.getD (List.getD (EC.encL ec_42 s) (Int.toNat t8) []) (1 : Nat) C.ne))) <|
        (gdE (EC.isL ec_42 (EC.encL ec_42 b1)) <|
          (gdE (EC.isL ec_4 (EC.encL ec_4 b2)) <|
            (gdE (EC.isL ec_49 (EC.encL ec_49 b3)) <|
              (Option.bind (prove_trial_holds_h7 (intOf (List.getD (List.getD (EC.encL ec_42 s) (Int.toNat t8) []) (0 : Nat) C.ne)) (EC.decL ec_42 (slOf (List.getD (List.getD (EC.encL ec_42 s) (Int.toNat t8) []) (1 : Nat) C.ne))) (strOf (List.getD (List.getD (EC.encL ec_42 s) (Int.toNat t8) []) (2 : Nat) C.ne)) (intOf (List.getD (List.getD (EC.encL ec_42 s) (Int.toNat t8) []) (3 : Nat) C.ne)) (strOf (List.getD (List.getD (EC.encL ec_42 s) (Int.toNat t8) []) (4 : Nat) C.ne)) (intOf (List.getD (List.getD (EC.encL ec_42 s) (Int.toNat t8) []) (5 : Nat) C.ne)) b0 b0_1 b0_2 b0_3 (EC.decL ec_42 (EC.encL ec_42 b1)) (EC.decL ec_4 (EC.encL ec_4 b2)) (EC.decL ec_49 (EC.encL ec_49 b3))) fun r0 =>
                (brE (r0).1
                  (gdE (EC.isL ec_42 (EC.encL ec_42 ((((r0).2).2).2).1)) <|
                    (gdE (EC.isL ec_4 (EC.encL ec_4 (((((r0).2).2).2).2).1)) <|
                      (gdE (EC.isL ec_49 (EC.encL ec_49 (((((r0).2).2).2).2).2)) <|
                        (some (.inl (t8, ((((((r0).2).2).1).1, ((((((r0).2).2).1).2).1, (((((((r0).2).2).1).2).2).1, ((((((r0).2).2).1).2).2).2))), ((EC.decL ec_42 (EC.encL ec_42 ((((r0).2).2).2).1)), ((EC.decL ec_4 (EC.encL ec_4 (((((r0).2).2).2).2).1)), (EC.decL ec_49 (EC.encL ec_49 (((((r0).2).2).2).2).2)))))))))))
                  (gdE (EC.isL ec_42 (EC.encL ec_42 s)) <|
                    (gdE (EC.isL ec_42 (EC.encL ec_42 ((((r0).2).2).2).1)) <|
                      (gdE (EC.isL ec_4 (EC.encL ec_4 (((((r0).2).2).2).2).1)) <|
                        (gdE (EC.isL ec_49 (EC.encL ec_49 (((((r0).2).2).2).2).2)) <|
                          (api_Test__h12_l2 (EC.decL ec_42 (EC.encL ec_42 s)) t7 (Go.IntKind.wrap Go.IntKind.i64 (t8 + (1 : Int))) ((((r0).2).2).1).1 (((((r0).2).2).1).2).1 ((((((r0).2).2).1).2).2).1 ((((((r0).2).2).1).2).2).2 (EC.decL ec_42 (EC.encL ec_42 ((((r0).2).2).2).1)) (EC.decL ec_4 (EC.encL ec_4 (((((r0).2).2).2).2).1)) (EC.decL ec_49 (EC.encL ec_49 (((((r0).2).2).2).2).2)))))))))))))))
  (gdE (EC.isL ec_42 (EC.encL ec_42 s)) <|
    (gdE (EC.isL ec_42 (EC.encL ec_42 b1)) <|
      (gdE (EC.isL ec_4 (EC.encL ec_4 b2)) <|
        (gdE (EC.isL ec_49 (EC.encL ec_49 b3)) <|
          (some (.inr (((EC.decL ec_42 (EC.encL ec_42 s)), ((), (t7, (t8, false)))), ((b0, (b0_1, (b0_2, b0_3))), ((EC.decL ec_42 (EC.encL ec_42 b1)), ((EC.decL ec_4 (EC.encL ec_4 b2)), (EC.decL ec_49 (EC.encL ec_49 b3)))))))))))))
theorem api_Test__h12_l2_eq {s : (List S42)} {t7 : Int} {t8 : Int} {b0 : Nat} {b0_1 : Int} {b0_2 : Nat} {b0_3 : Nat} {b1 : (List S42)} {b2 : (List Bool)} {b3 : (List S49)} {r : ((Int × ((Nat × Int × Nat × Nat) × (List S42) × (List Bool) × (List S49))) ⊕ (((List S42) × Unit × Int × Int × Bool) × ((Nat × Int × Nat × Nat) × (List S42) × (List Bool) × (List S49))))} (h : api_Test__h12_l2_t s t7 t8 b0 b0_1 b0_2 b0_3 b1 b2 b3 = some r) : api_Test__h12_l2 s t7 t8 b0 b0_1 b0_2 b0_3 b1 b2 b3 = some r :=
  lS_tree (es := tab_rules_Validate) (hs := htab_api_Test__h8) [] (by kernel_rfl) trivial trivial (by kernel_rfl) h
def api_Test__h12_l2_e : LEnt Try.prog lv X0 55 19 := lentS Try.prog lv X0 2 (getLoop (cdF Try.f55) 2) api_Test__h12_l2_s api_Test__h12_l2_o (fun x => api_Test__h12_l2 x.1.1 x.1.2.2.1 x.1.2.2.2 x.2.1.1 x.2.1.2.1 x.2.1.2.2.1 x.2.1.2.2.2 x.2.2.1 x.2.2.2.1 x.2.2.2.2) (fun _ _ h => lS_from h)
def api_Test__h12_q : SC (Int × ((Nat × Int × Nat × Nat) × (List S42) × (List Bool) × (List S49))) := sLS [0] (lOne (vC (cInt .i64))) (lCons (oSome (bBox (lCons (vRow 1) (lCons (vC (cInt .i64)) (lCons (vRow 2) (lOne (vRow 3))))))) (lCons (oSome (bRow ec_42)) (lCons (oSome (bRow ec_4)) (lOne (oSome (bRow ec_49)))))) [false, false, false, false] [0, 1, 2] (by decide) (fun _ => rfl)
def api_Test__h12_o : HC (Int × (Int × ((Nat × Int × Nat × Nat) × (List S42) × (List Bool) × (List S49)))) := hPair (vC (cInt .i64)) api_Test__h12_q
def api_Test__h12 (s : (List S42)) (b0 : Nat) (b0_1 : Int) (b0_2 : Nat) (b0_3 : Nat) (b1 : (List S42)) (b2 : (List Bool)) (b3 : (List S49)) : Option (Int × (Int × ((Nat × Int × Nat × Nat) × (List S42) × (List Bool) × (List S49)))) := hS Try.prog lv X0 55 api_Test__h12_s api_Test__h12_o ((s, ()), ((b0, b0_1, b0_2, b0_3), b1, b2, b3))
def api_Test__h12_t (s : (List S42)) (b0 : Nat) (b0_1 : Int) (b0_2 : Nat) (b0_3 : Nat) (b1 : (List S42)) (b2 : (List Bool)) (b3 : (List S49)) : Option (Int × (Int × ((Nat × Int × Nat × Nat) × (List S42) × (List Bool) × (List S49)))) :=
  (gdE (EC.isL ec_42 (EC.encL ec_42 s)) <|
  (gdE (EC.isL ec_42 (EC.encL ec_42 b1)) <|
    (gdE (EC.isL ec_4 (EC.encL ec_4 b2)) <|
      (gdE (EC.isL ec_49 (EC.encL ec_49 b3)) <|
        (Option.bind (api_Test__h12_l2 (EC.decL ec_42 (EC.encL ec_42 s)) (((List.length (EC.encL ec_42 s)) : Nat) : Int) (0 : Int) b0 b0_1 b0_2 b0_3 (EC.decL ec_42 (EC.encL ec_42 b1)) (EC.decL ec_4 (EC.encL ec_4 b2)) (EC.decL ec_49 (EC.encL ec_49 b3))) fun r0 =>
          (Sum.elim (fun r1 => (gdE (EC.isL ec_42 (EC.encL ec_42 (((r1).2).2).1)) <|
              (gdE (EC.isL ec_4 (EC.encL ec_4 ((((r1).2).2).2).1)) <|
                (gdE (EC.isL ec_49 (EC.encL ec_49 ((((r1).2).2).2).2)) <|
                  (some ((r1).1, ((r1).1, (((((r1).2).1).1, (((((r1).2).1).2).1, ((((((r1).2).1).2).2).1, (((((r1).2).1).2).2).2))), ((EC.decL ec_42 (EC.encL ec_42 (((r1).2).2).1)), ((EC.decL ec_4 (EC.encL ec_4 ((((r1).2).2).2).1)), (EC.decL ec_49 (EC.encL ec_49 ((((r1).2).2).2).2))))))))))))
            (fun r1 => (gdE (EC.isL ec_42 (EC.encL ec_42 (((r1).2).2).1)) <|
              (gdE (EC.isL ec_4 (EC.encL ec_4 ((((r1).2).2).2).1)) <|
                (gdE (EC.isL ec_49 (EC.encL ec_49 ((((r1).2).2).2).2)) <|
                  (some ((-1 : Int), ((-1 : Int), (((((r1).2).1).1, (((((r1).2).1).2).1, ((((((r1).2).1).2).2).1, (((((r1).2).1).2).2).2))), ((EC.decL ec_42 (EC.encL ec_42 (((r1).2).2).1)), ((EC.decL ec_4 (EC.encL ec_4 ((((r1).2).2).2).1)), (EC.decL ec_49 (EC.encL ec_49 ((((r1).2).2).2).2)))))))))))) r0))))))
theorem api_Test__h12_eq {s : (List S42)} {b0 : Nat} {b0_1 : Int} {b0_2 : Nat} {b0_3 : Nat} {b1 : (List S42)} {b2 : (List Bool)} {b3 : (List S49)} {r : (Int × (Int × ((Nat × Int × Nat × Nat) × (List S42) × (List Bool) × (List S49))))} (h : api_Test__h12_t s b0 b0_1 b0_2 b0_3 b1 b2 b3 = some r) : api_Test__h12 s b0 b0_1 b0_2 b0_3 b1 b2 b3 = some r :=
  hS_tree (fn := Try.f55) (es := tab_rules_Validate) (hs := htab_api_Test__h8) [api_Test__h12_l2_e] (by kernel_rfl) rfl (by kernel_rfl) ⟨⟨_, rfl, rfl⟩, trivial⟩ trivial (by kernel_rfl) h
def api_Test__h12_e : HEnt Try.prog lv X0 := hentS Try.prog lv X0 55 [0, 1, 4, 1, 6, 1000039, 1, 3, 0, 0, 1, 4, 2, 1, 1, 1, 2, 2, 2, 3, 2, 2, 2, 0, 1, 2] api_Test__h12_s api_Test__h12_o (fun x => api_Test__h12 x.1.1 x.2.1.1 x.2.1.2.1 x.2.1.2.2.1 x.2.1.2.2.2 x.2.2.1 x.2.2.2.1 x.2.2.2.2) (fun _ _ h => hS_from h)
def htab_api_Test__h12 : List (HEnt Try.prog lv X0) := api_Test__h12_e :: htab_api_Test__h8
def api_Test__h11_q : SC (Bool × ((Nat × Int × Nat × Nat) × (List S42) × (List Bool) × (List S49))) := sLS [0] (lOne (vC cBool)) (lCons (oSome (bBox (lCons (vRow 1) (lCons (vC (cInt .i64)) (lCons (vRow 2) (lOne (vRow 3))))))) (lCons (oSome (bRow ec_42)) (lCons (oSome (bRow ec_4)) (lOne (oSome (bRow ec_49)))))) [false, false, false, false] [0, 1, 2] (by decide) (fun _ => rfl)
def api_Test__h11_o : HC (Bool × (Bool × ((Nat × Int × Nat × Nat) × (List S42) × (List Bool) × (List S49)))) := hPair (vC cBool) api_Test__h11_q
def api_Test__h11 (s : (List S42)) (b0 : Nat) (b0_1 : Int) (b0_2 : Nat) (b0_3 : Nat) (b1 : (List S42)) (b2 : (List Bool)) (b3 : (List S49)) : Option (Bool × (Bool × ((Nat × Int × Nat × Nat) × (List S42) × (List Bool) × (List S49)))) := hS Try.prog lv X0 45 api_Test__h11_s api_Test__h11_o ((s, ()), ((b0, b0_1, b0_2, b0_3), b1, b2, b3))
def api_Test__h11_t (s : (List S42)) (b0 : Nat) (b0_1 : Int) (b0_2 : Nat) (b0_3 : Nat) (b1 : (List S42)) (b2 : (List Bool)) (b3 : (List S49)) : Option (Bool × (Bool × ((Nat × Int × Nat × Nat) × (List S42) × (List Bool) × (List S49)))) :=
  (gdE (EC.isL ec_42 (EC.encL ec_42 s)) <|
  (gdE (EC.isL ec_42 (EC.encL ec_42 b1)) <|
    (gdE (EC.isL ec_4 (EC.encL ec_4 b2)) <|
      (gdE (EC.isL ec_49 (EC.encL ec_49 b3)) <|
        (Option.bind (api_Test__h12 (EC.decL ec_42 (EC.encL ec_42 s)) b0 b0_1 b0_2 b0_3 (EC.decL ec_42 (EC.encL ec_42 b1)) (EC.decL ec_4 (EC.encL ec_4 b2)) (EC.decL ec_49 (EC.encL ec_49 b3))) fun r0 =>
          (gdE (EC.isL ec_42 (EC.encL ec_42 ((((r0).2).2).2).1)) <|
            (gdE (EC.isL ec_4 (EC.encL ec_4 (((((r0).2).2).2).2).1)) <|
              (gdE (EC.isL ec_49 (EC.encL ec_49 (((((r0).2).2).2).2).2)) <|
                (some ((decide ((r0).1 ≥ (0 : Int))), ((decide ((r0).1 ≥ (0 : Int))), ((((((r0).2).2).1).1, ((((((r0).2).2).1).2).1, (((((((r0).2).2).1).2).2).1, ((((((r0).2).2).1).2).2).2))), ((EC.decL ec_42 (EC.encL ec_42 ((((r0).2).2).2).1)), ((EC.decL ec_4 (EC.encL ec_4 (((((r0).2).2).2).2).1)), (EC.decL ec_49 (EC.encL ec_49 (((((r0).2).2).2).2).2))))))))))))))))
theorem api_Test__h11_eq {s : (List S42)} {b0 : Nat} {b0_1 : Int} {b0_2 : Nat} {b0_3 : Nat} {b1 : (List S42)} {b2 : (List Bool)} {b3 : (List S49)} {r : (Bool × (Bool × ((Nat × Int × Nat × Nat) × (List S42) × (List Bool) × (List S49))))} (h : api_Test__h11_t s b0 b0_1 b0_2 b0_3 b1 b2 b3 = some r) : api_Test__h11 s b0 b0_1 b0_2 b0_3 b1 b2 b3 = some r :=
  hS_tree (fn := Try.f45) (es := tab_rules_Validate) (hs := htab_api_Test__h12) [] (by kernel_rfl) rfl (by kernel_rfl) trivial trivial (by kernel_rfl) h
def api_Test__h11_e : HEnt Try.prog lv X0 := hentS Try.prog lv X0 45 [0, 1, 4, 1, 6, 1000039, 1, 3, 0, 0, 1, 4, 2, 1, 1, 1, 2, 2, 2, 3, 2, 2, 2, 0, 1, 2] api_Test__h11_s api_Test__h11_o (fun x => api_Test__h11 x.1.1 x.2.1.1 x.2.1.2.1 x.2.1.2.2.1 x.2.1.2.2.2 x.2.2.1 x.2.2.2.1 x.2.2.2.2) (fun _ _ h => hS_from h)
def htab_api_Test__h11 : List (HEnt Try.prog lv X0) := api_Test__h11_e :: htab_api_Test__h12
def prove_trial_holds_h7_t (t : Int) (t_1 : (List S42)) (t_2 : ByteArray) (t_3 : Int) (t_4 : ByteArray) (t_5 : Int) (b0 : Nat) (b0_1 : Int) (b0_2 : Nat) (b0_3 : Nat) (b1 : (List S42)) (b2 : (List Bool)) (b3 : (List S49)) : Option (Bool × (Bool × ((Nat × Int × Nat × Nat) × (List S42) × (List Bool) × (List S49)))) :=
  (brE (t == (1 : Int))
  (gdE (EC.isL ec_42 (EC.encL ec_42 b1)) <|
    (gdE (EC.isL ec_4 (EC.encL ec_4 b2)) <|
      (gdE (EC.isL ec_49 (EC.encL ec_49 b3)) <|
        (some (true, (true, ((b0, (b0_1, (b0_2, b0_3))), ((EC.decL ec_42 (EC.encL ec_42 b1)), ((EC.decL ec_4 (EC.encL ec_4 b2)), (EC.decL ec_49 (EC.encL ec_49 b3)))))))))))
  (brE (t == (2 : Int))
    (gdE ((decide ((Int.toNat (0 : Int)) < (List.length (EC.encL ec_42 t_1)))) && (isE [(K1.int Go.IntKind.i64), K1.sl, K1.str, (K1.int Go.IntKind.i64), K1.str, (K1.int Go.IntKind.i64)] (0 : Nat) (List.getD (EC.encL ec_42 t_1) (Int.toNat (0 : Int)) []))) <|
      (gdE (EC.isL ec_42 (slOf (List.getD (List.getD (EC.encL ec_42 t_1) (Int.toNat (0 : Int)) []) (1 : Nat) C.ne))) <|
        (gdE (EC.isL ec_42 (EC.encL ec_42 b1)) <|
          (gdE (EC.isL ec_4 (EC.encL ec_4 b2)) <|
            (gdE (EC.isL ec_49 (EC.encL ec_49 b3)) <|
              (Option.bind (prove_trial_holds_h7 (intOf (List.getD (List.getD (EC.encL ec_42 t_1) (Int.toNat (0 : Int)) []) (0 : Nat) C.ne)) (EC.decL ec_42 (slOf (List.getD (List.getD (EC.encL ec_42 t_1) (Int.toNat (0 : Int)) []) (1 : Nat) C.ne))) (strOf (List.getD (List.getD (EC.encL ec_42 t_1) (Int.toNat (0 : Int)) []) (2 : Nat) C.ne)) (intOf (List.getD (List.getD (EC.encL ec_42 t_1) (Int.toNat (0 : Int)) []) (3 : Nat) C.ne)) (strOf (List.getD (List.getD (EC.encL ec_42 t_1) (Int.toNat (0 : Int)) []) (4 : Nat) C.ne)) (intOf (List.getD (List.getD (EC.encL ec_42 t_1) (Int.toNat (0 : Int)) []) (5 : Nat) C.ne)) b0 b0_1 b0_2 b0_3 (EC.decL ec_42 (EC.encL ec_42 b1)) (EC.decL ec_4 (EC.encL ec_4 b2)) (EC.decL ec_49 (EC.encL ec_49 b3))) fun r0 =>
                (gdE (EC.isL ec_42 (EC.encL ec_42 ((((r0).2).2).2).1)) <|
                  (gdE (EC.isL ec_4 (EC.encL ec_4 (((((r0).2).2).2).2).1)) <|
                    (gdE (EC.isL ec_49 (EC.encL ec_49 (((((r0).2).2).2).2).2)) <|
                      (some ((!(r0).1), ((!(r0).1), ((((((r0).2).2).1).1, ((((((r0).2).2).1).2).1, (((((((r0).2).2).1).2).2).1, ((((((r0).2).2).1).2).2).2))), ((EC.decL ec_42 (EC.encL ec_42 ((((r0).2).2).2).1)), ((EC.decL ec_4 (EC.encL ec_4 (((((r0).2).2).2).2).1)), (EC.decL ec_49 (EC.encL ec_49 (((((r0).2).2).2).2).2)))))))))))))))))
    (brE (t == (3 : Int))
      (gdE (EC.isL ec_42 (EC.encL ec_42 t_1)) <|
        (gdE (EC.isL ec_42 (EC.encL ec_42 b1)) <|
          (gdE (EC.isL ec_4 (EC.encL ec_4 b2)) <|
            (gdE (EC.isL ec_49 (EC.encL ec_49 b3)) <|
              (Option.bind (api_Test__h8 (EC.decL ec_42 (EC.encL ec_42 t_1)) b0 b0_1 b0_2 b0_3 (EC.decL ec_42 (EC.encL ec_42 b1)) (EC.decL ec_4 (EC.encL ec_4 b2)) (EC.decL ec_49 (EC.encL ec_49 b3))) fun r0 =>
                (gdE (EC.isL ec_42 (EC.encL ec_42 (((((r0).2).2).2).2).1)) <|
                  (gdE (EC.isL ec_4 (EC.encL ec_4 ((((((r0).2).2).2).2).2).1)) <|
                    (gdE (EC.isL ec_49 (EC.encL ec_49 ((((((r0).2).2).2).2).2).2)) <|
                      (some ((!(r0).1), ((!(r0).1), (((((((r0).2).2).2).1).1, (((((((r0).2).2).2).1).2).1, ((((((((r0).2).2).2).1).2).2).1, (((((((r0).2).2).2).1).2).2).2))), ((EC.decL ec_42 (EC.encL ec_42 (((((r0).2).2).2).2).1)), ((EC.decL ec_4 (EC.encL ec_4 ((((((r0).2).2).2).2).2).1)), (EC.decL ec_49 (EC.encL ec_49 ((((((r0).2).2).2).2).2).2))))))))))))))))
      (brE (t == (4 : Int))
        (gdE (EC.isL ec_42 (EC.encL ec_42 t_1)) <|
          (gdE (EC.isL ec_42 (EC.encL ec_42 b1)) <|
            (gdE (EC.isL ec_4 (EC.encL ec_4 b2)) <|
              (gdE (EC.isL ec_49 (EC.encL ec_49 b3)) <|
                (Option.bind (api_Test__h11 (EC.decL ec_42 (EC.encL ec_42 t_1)) b0 b0_1 b0_2 b0_3 (EC.decL ec_42 (EC.encL ec_42 b1)) (EC.decL ec_4 (EC.encL ec_4 b2)) (EC.decL ec_49 (EC.encL ec_49 b3))) fun r0 =>
                  (gdE (EC.isL ec_42 (EC.encL ec_42 ((((r0).2).2).2).1)) <|
                    (gdE (EC.isL ec_4 (EC.encL ec_4 (((((r0).2).2).2).2).1)) <|
                      (gdE (EC.isL ec_49 (EC.encL ec_49 (((((r0).2).2).2).2).2)) <|
                        (some ((r0).1, ((r0).1, ((((((r0).2).2).1).1, ((((((r0).2).2).1).2).1, (((((((r0).2).2).1).2).2).1, ((((((r0).2).2).1).2).2).2))), ((EC.decL ec_42 (EC.encL ec_42 ((((r0).2).2).2).1)), ((EC.decL ec_4 (EC.encL ec_4 (((((r0).2).2).2).2).1)), (EC.decL ec_49 (EC.encL ec_49 (((((r0).2).2).2).2).2))))))))))))))))
        (gdE (EC.isL ec_42 (EC.encL ec_42 b1)) <|
          (gdE (EC.isL ec_42 (EC.encL ec_42 t_1)) <|
            (Option.bind (prove_find_s (EC.decL ec_42 (EC.encL ec_42 b1)) t (EC.decL ec_42 (EC.encL ec_42 t_1)) t_2 t_3 t_4 t_5) fun r0 =>
              (brE (decide (r0 < (0 : Int)))
                none
                (gdE (EC.isL ec_42 (EC.encL ec_42 b1)) <|
                  (gdE (EC.isL ec_4 (EC.encL ec_4 b2)) <|
                    (gdE (EC.isL ec_49 (EC.encL ec_49 b3)) <|
                      (some (((Go.IntKind.wrap Go.IntKind.i64 (((BitVec.toNat ((BitVec.ofInt (Go.IntKind.bits Go.IntKind.i64) (Int.fdiv b0_1 ((2 : Int) ^ (Min.min (Int.toNat r0) (Go.IntKind.bits Go.IntKind.i64))))) &&& (BitVec.ofInt (Go.IntKind.bits Go.IntKind.i64) (1 : Int)))) : Nat) : Int)) == (1 : Int)), (((Go.IntKind.wrap Go.IntKind.i64 (((BitVec.toNat ((BitVec.ofInt (Go.IntKind.bits Go.IntKind.i64) (Int.fdiv b0_1 ((2 : Int) ^ (Min.min (Int.toNat r0) (Go.IntKind.bits Go.IntKind.i64))))) &&& (BitVec.ofInt (Go.IntKind.bits Go.IntKind.i64) (1 : Int)))) : Nat) : Int)) == (1 : Int)), ((b0, (b0_1, (b0_2, b0_3))), ((EC.decL ec_42 (EC.encL ec_42 b1)), ((EC.decL ec_4 (EC.encL ec_4 b2)), (EC.decL ec_49 (EC.encL ec_49 b3)))))))))))))))))))
theorem prove_trial_holds_h7_eq {t : Int} {t_1 : (List S42)} {t_2 : ByteArray} {t_3 : Int} {t_4 : ByteArray} {t_5 : Int} {b0 : Nat} {b0_1 : Int} {b0_2 : Nat} {b0_3 : Nat} {b1 : (List S42)} {b2 : (List Bool)} {b3 : (List S49)} {r : (Bool × (Bool × ((Nat × Int × Nat × Nat) × (List S42) × (List Bool) × (List S49))))} (h : prove_trial_holds_h7_t t t_1 t_2 t_3 t_4 t_5 b0 b0_1 b0_2 b0_3 b1 b2 b3 = some r) : prove_trial_holds_h7 t t_1 t_2 t_3 t_4 t_5 b0 b0_1 b0_2 b0_3 b1 b2 b3 = some r :=
  hS_tree (fn := Try.f39) (es := tab_rules_Validate) (hs := htab_api_Test__h11) [] (by kernel_rfl) rfl (by kernel_rfl) trivial trivial (by kernel_rfl) h
def prove_trial_execute_h6_l2_s : SC ((Unit × Int × (List S44) × Int × Int) × ((Nat × Int × Nat × Nat) × (List S42) × (List Bool) × (List S49))) := sLS [0, 2, 11, 12, 13] (lCons (vPtr 0 0) (lCons (vC (cInt .i64)) (lCons (vC (cSl ec_44)) (lCons (vC (cInt .i64)) (lOne (vC (cInt .i64))))))) (lCons (oSome (bBox (lCons (vRow 1) (lCons (vC (cInt .i64)) (lCons (vRow 2) (lOne (vRow 3))))))) (lCons (oSome (bRow ec_42)) (lCons (oSome (bRow ec_4)) (lOne (oSome (bRow ec_49)))))) [false, false, false, false] [0, 1, 2] (by decide) (fun _ => rfl)
def prove_trial_execute_h6_l2_o2 : SC ((Unit × Int × (List S44) × Int × Int × Bool) × ((Nat × Int × Nat × Nat) × (List S42) × (List Bool) × (List S49))) := sLS [0, 2, 11, 12, 13, 14] (lCons (vPtr 0 0) (lCons (vC (cInt .i64)) (lCons (vC (cSl ec_44)) (lCons (vC (cInt .i64)) (lCons (vC (cInt .i64)) (lOne (vC cBool))))))) (lCons (oSome (bBox (lCons (vRow 1) (lCons (vC (cInt .i64)) (lCons (vRow 2) (lOne (vRow 3))))))) (lCons (oSome (bRow ec_42)) (lCons (oSome (bRow ec_4)) (lOne (oSome (bRow ec_49)))))) [false, false, false, false] [0, 1, 2] (by decide) (fun _ => rfl)
def prove_trial_execute_h6_l2_o1 : SC (Bool × ((Nat × Int × Nat × Nat) × (List S42) × (List Bool) × (List S49))) := sLS [6] (lOne (vC cBool)) (lCons (oSome (bBox (lCons (vRow 1) (lCons (vC (cInt .i64)) (lCons (vRow 2) (lOne (vRow 3))))))) (lCons (oSome (bRow ec_42)) (lCons (oSome (bRow ec_4)) (lOne (oSome (bRow ec_49)))))) [false, false, false, false] [0, 1, 2] (by decide) (fun _ => rfl)
def prove_trial_execute_h6_l2_o : OC ((Bool × ((Nat × Int × Nat × Nat) × (List S42) × (List Bool) × (List S49))) ⊕ ((Unit × Int × (List S44) × Int × Int × Bool) × ((Nat × Int × Nat × Nat) × (List S42) × (List Bool) × (List S49)))) := oOr 1 prove_trial_execute_h6_l2_o1 (oAt 2 prove_trial_execute_h6_l2_o2) (fun x => (by decide : (2 : Nat) ≠ 1))
def prove_trial_execute_h6_l2 (number : Int) (t11 : (List S44)) (t12 : Int) (t13 : Int) (b0 : Nat) (b0_1 : Int) (b0_2 : Nat) (b0_3 : Nat) (b1 : (List S42)) (b2 : (List Bool)) (b3 : (List S49)) : Option ((Bool × ((Nat × Int × Nat × Nat) × (List S42) × (List Bool) × (List S49))) ⊕ ((Unit × Int × (List S44) × Int × Int × Bool) × ((Nat × Int × Nat × Nat) × (List S42) × (List Bool) × (List S49)))) := lS Try.prog lv X0 30 76 (getLoop (cdF Try.f30) 2) prove_trial_execute_h6_l2_s prove_trial_execute_h6_l2_o (((), number, t11, t12, t13), ((b0, b0_1, b0_2, b0_3), b1, b2, b3))
def prove_trial_execute_h6_l2_t (number : Int) (t11 : (List S44)) (t12 : Int) (t13 : Int) (b0 : Nat) (b0_1 : Int) (b0_2 : Nat) (b0_3 : Nat) (b1 : (List S42)) (b2 : (List Bool)) (b3 : (List S49)) : Option ((Bool × ((Nat × Int × Nat × Nat) × (List S42) × (List Bool) × (List S49))) ⊕ ((Unit × Int × (List S44) × Int × Int × Bool) × ((Nat × Int × Nat × Nat) × (List S42) × (List Bool) × (List S49)))) :=
  (brE (decide (t13 < t12))
  (gdE (decide ((0 : Int) ≤ t13)) <|
    (gdE ((decide ((Int.toNat t13) < (List.length (EC.encL ec_44 t11)))) && (isE [(K1.int Go.IntKind.i64), (K1.int Go.IntKind.i64), K1.sl, K1.str, (K1.int Go.IntKind.i64), K1.str, (K1.int Go.IntKind.i64), K1.sl, K1.sl, (K1.int Go.IntKind.i64), K1.str, K1.str, (K1.int Go.IntKind.i64)] (0 : Nat) (List.getD (EC.encL ec_44 t11) (Int.toNat t13) []))) <|
      (gdE ((decide ((0 : Int) ≤ number)) && (decide (number < ((b0_2 : Nat) : Int)))) <|
        (gdE ((decide ((Int.toNat number) < (List.length (EC.encL ec_4 b2)))) && ((List.length (List.getD (EC.encL ec_4 b2) (Int.toNat number) [])) == (1 : Nat))) <|
          (brE ((intOf (List.getD (List.getD (EC.encL ec_44 t11) (Int.toNat t13) []) (0 : Nat) C.ne)) == (1 : Int))
            (gdE (EC.isL ec_42 (slOf (List.getD (List.getD (EC.encL ec_44 t11) (Int.toNat t13) []) (2 : Nat) C.ne))) <|
              (gdE (EC.isL ec_42 (EC.encL ec_42 b1)) <|
                (gdE (EC.isL ec_4 (List.set (EC.encL ec_4 b2) (Int.toNat number) (splice (List.getD (EC.encL ec_4 b2) (Int.toNat number) []) (0 : Nat) [(C.bool true)]))) <|
                  (gdE (EC.isL ec_49 (EC.encL ec_49 b3)) <|
                    (Option.bind (prove_trial_holds_h7 (intOf (List.getD (List.getD (EC.encL ec_44 t11) (Int.toNat t13) []) (1 : Nat) C.ne)) (EC.decL ec_42 (slOf (List.getD (List.getD (EC.encL ec_44 t11) (Int.toNat t13) []) (2 : Nat) C.ne))) (strOf (List.getD (List.getD (EC.encL ec_44 t11) (Int.toNat t13) []) (3 : Nat) C.ne)) (intOf (List.getD (List.getD (EC.encL ec_44 t11) (Int.toNat t13) []) (4 : Nat) C.ne)) (strOf (List.getD (List.getD (EC.encL ec_44 t11) (Int.toNat t13) []) (5 : Nat) C.ne)) (intOf (List.getD (List.getD (EC.encL ec_44 t11) (Int.toNat t13) []) (6 : Nat) C.ne)) b0 b0_1 b0_2 b0_3 (EC.decL ec_42 (EC.encL ec_42 b1)) (EC.decL ec_4 (List.set (EC.encL ec_4 b2) (Int.toNat number) (splice (List.getD (EC.encL ec_4 b2) (Int.toNat number) []) (0 : Nat) [(C.bool true)]))) (EC.decL ec_49 (EC.encL ec_49 b3))) fun r0 =>
                      (brE (!(r0).1)
                        (gdE (EC.isL ec_44 (slOf (List.getD (List.getD (EC.encL ec_44 t11) (Int.toNat t13) []) (7 : Nat) C.ne))) <|
                          (Option.bind (rules_Size_s (EC.decL ec_44 (slOf (List.getD (List.getD (EC.encL ec_44 t11) (Int.toNat t13) []) (7 : Nat) C.ne)))) fun r1 =>
                            (gdE (EC.isL ec_44 (slOf (List.getD (List.getD (EC.encL ec_44 t11) (Int.toNat t13) []) (8 : Nat) C.ne))) <|
                              (gdE (EC.isL ec_42 (EC.encL ec_42 ((((r0).2).2).2).1)) <|
                                (gdE (EC.isL ec_4 (EC.encL ec_4 (((((r0).2).2).2).2).1)) <|
                                  (gdE (EC.isL ec_49 (EC.encL ec_49 (((((r0).2).2).2).2).2)) <|
                                    (Option.bind (prove_trial_execute_h6 (EC.decL ec_44 (slOf (List.getD (List.getD (EC.encL ec_44 t11) (Int.toNat t13) []) (8 : Nat) C.ne))) (Go.IntKind.wrap Go.IntKind.i64 ((Go.IntKind.wrap Go.IntKind.i64 (number + (1 : Int))) + r1)) ((((r0).2).2).1).1 (((((r0).2).2).1).2).1 ((((((r0).2).2).1).2).2).1 ((((((r0).2).2).1).2).2).2 (EC.decL ec_42 (EC.encL ec_42 ((((r0).2).2).2).1)) (EC.decL ec_4 (EC.encL ec_4 (((((r0).2).2).2).2).1)) (EC.decL ec_49 (EC.encL ec_49 (((((r0).2).2).2).2).2))) fun r2 =>
                                      (brE (!(r2).1)
                                        (gdE (EC.isL ec_42 (EC.encL ec_42 ((((r2).2).2).2).1)) <|
                                          (gdE (EC.isL ec_4 (EC.encL ec_4 (((((r2).2).2).2).2).1)) <|
                                            (gdE (EC.isL ec_49 (EC.encL ec_49 (((((r2).2).2).2).2).2)) <|
                                              (some (.inl (false, ((((((r2).2).2).1).1, ((((((r2).2).2).1).2).1, (((((((r2).2).2).1).2).2).1, ((((((r2).2).2).1).2).2).2))), ((EC.decL ec_42 (EC.encL ec_42 ((((r2).2).2).2).1)), ((EC.decL ec_4 (EC.encL ec_4 (((((r2).2).2).2).2).1)), (EC.decL ec_49 (EC.encL ec_49 (((((r2).2).2).2).2).2)))))))))))
                                        (gdE (EC.isL ec_44 (slOf (List.getD (List.getD (EC.encL ec_44 t11) (Int.toNat t13) []) (7 : Nat) C.ne))) <|
                                          (Option.bind (rules_Size_s (EC.decL ec_44 (slOf (List.getD (List.getD (EC.encL ec_44 t11) (Int.toNat t13) []) (7 : Nat) C.ne)))) fun r3 =>
                                            (gdE (EC.isL ec_44 (slOf (List.getD (List.getD (EC.encL ec_44 t11) (Int.toNat t13) []) (8 : Nat) C.ne))) <|
                                              (Option.bind (rules_Size_s (EC.decL ec_44 (slOf (List.getD (List.getD (EC.encL ec_44 t11) (Int.toNat t13) []) (8 : Nat) C.ne)))) fun r4 =>
                                                (gdE (EC.isL ec_44 (EC.encL ec_44 t11)) <|
                                                  (gdE (EC.isL ec_42 (EC.encL ec_42 ((((r2).2).2).2).1)) <|
                                                    (gdE (EC.isL ec_4 (EC.encL ec_4 (((((r2).2).2).2).2).1)) <|
                                                      (gdE (EC.isL ec_49 (EC.encL ec_49 (((((r2).2).2).2).2).2)) <|
                                                        (prove_trial_execute_h6_l2 (Go.IntKind.wrap Go.IntKind.i64 (number + (Go.IntKind.wrap Go.IntKind.i64 ((Go.IntKind.wrap Go.IntKind.i64 ((1 : Int) + r3)) + r4)))) (EC.decL ec_44 (EC.encL ec_44 t11)) t12 (Go.IntKind.wrap Go.IntKind.i64 (t13 + (1 : Int))) ((((r2).2).2).1).1 (((((r2).2).2).1).2).1 ((((((r2).2).2).1).2).2).1 ((((((r2).2).2).1).2).2).2 (EC.decL ec_42 (EC.encL ec_42 ((((r2).2).2).2).1)) (EC.decL ec_4 (EC.encL ec_4 (((((r2).2).2).2).2).1)) (EC.decL ec_49 (EC.encL ec_49 (((((r2).2).2).2).2).2)))))))))))))))))))
                        (gdE (EC.isL ec_44 (slOf (List.getD (List.getD (EC.encL ec_44 t11) (Int.toNat t13) []) (7 : Nat) C.ne))) <|
                          (gdE (EC.isL ec_42 (EC.encL ec_42 ((((r0).2).2).2).1)) <|
                            (gdE (EC.isL ec_4 (EC.encL ec_4 (((((r0).2).2).2).2).1)) <|
                              (gdE (EC.isL ec_49 (EC.encL ec_49 (((((r0).2).2).2).2).2)) <|
                                (Option.bind (prove_trial_execute_h6 (EC.decL ec_44 (slOf (List.getD (List.getD (EC.encL ec_44 t11) (Int.toNat t13) []) (7 : Nat) C.ne))) (Go.IntKind.wrap Go.IntKind.i64 (number + (1 : Int))) ((((r0).2).2).1).1 (((((r0).2).2).1).2).1 ((((((r0).2).2).1).2).2).1 ((((((r0).2).2).1).2).2).2 (EC.decL ec_42 (EC.encL ec_42 ((((r0).2).2).2).1)) (EC.decL ec_4 (EC.encL ec_4 (((((r0).2).2).2).2).1)) (EC.decL ec_49 (EC.encL ec_49 (((((r0).2).2).2).2).2))) fun r1 =>
                                  (brE (!(r1).1)
                                    (gdE (EC.isL ec_42 (EC.encL ec_42 ((((r1).2).2).2).1)) <|
                                      (gdE (EC.isL ec_4 (EC.encL ec_4 (((((r1).2).2).2).2).1)) <|
                                        (gdE (EC.isL ec_49 (EC.encL ec_49 (((((r1).2).2).2).2).2)) <|
                                          (some (.inl (false, ((((((r1).2).2).1).1, ((((((r1).2).2).1).2).1, (((((((r1).2).2).1).2).2).1, ((((((r1).2).2).1).2).2).2))), ((EC.decL ec_42 (EC.encL ec_42 ((((r1).2).2).2).1)), ((EC.decL ec_4 (EC.encL ec_4 (((((r1).2).2).2).2).1)), (EC.decL ec_49 (EC.encL ec_49 (((((r1).2).2).2).2).2)))))))))))
                                    (gdE (EC.isL ec_44 (slOf (List.getD (List.getD (EC.encL ec_44 t11) (Int.toNat t13) []) (7 : Nat) C.ne))) <|
                                      (Option.bind (rules_Size_s (EC.decL ec_44 (slOf (List.getD (List.getD (EC.encL ec_44 t11) (Int.toNat t13) []) (7 : Nat) C.ne)))) fun r2 =>
                                        (gdE (EC.isL ec_44 (slOf (List.getD (List.getD (EC.encL ec_44 t11) (Int.toNat t13) []) (8 : Nat) C.ne))) <|
                                          (Option.bind (rules_Size_s (EC.decL ec_44 (slOf (List.getD (List.getD (EC.encL ec_44 t11) (Int.toNat t13) []) (8 : Nat) C.ne)))) fun r3 =>
                                            (gdE (EC.isL ec_44 (EC.encL ec_44 t11)) <|
                                              (gdE (EC.isL ec_42 (EC.encL ec_42 ((((r1).2).2).2).1)) <|
                                                (gdE (EC.isL ec_4 (EC.encL ec_4 (((((r1).2).2).2).2).1)) <|
                                                  (gdE (EC.isL ec_49 (EC.encL ec_49 (((((r1).2).2).2).2).2)) <|
                                                    (prove_trial_execute_h6_l2 (Go.IntKind.wrap Go.IntKind.i64 (number + (Go.IntKind.wrap Go.IntKind.i64 ((Go.IntKind.wrap Go.IntKind.i64 ((1 : Int) + r2)) + r3)))) (EC.decL ec_44 (EC.encL ec_44 t11)) t12 (Go.IntKind.wrap Go.IntKind.i64 (t13 + (1 : Int))) ((((r1).2).2).1).1 (((((r1).2).2).1).2).1 ((((((r1).2).2).1).2).2).1 ((((((r1).2).2).1).2).2).2 (EC.decL ec_42 (EC.encL ec_42 ((((r1).2).2).2).1)) (EC.decL ec_4 (EC.encL ec_4 (((((r1).2).2).2).2).1)) (EC.decL ec_49 (EC.encL ec_49 (((((r1).2).2).2).2).2)))))))))))))))))))))))
            (brE ((intOf (List.getD (List.getD (EC.encL ec_44 t11) (Int.toNat t13) []) (0 : Nat) C.ne)) == (2 : Int))
              (gdE ((((List.all [[(C.int Go.IntKind.i64 (intOf (List.getD (List.getD (EC.encL ec_44 t11) (Int.toNat t13) []) (9 : Nat) C.ne))), (C.str (ByteArray.mk (List.toArray []))), (C.int Go.IntKind.i64 (0 : Int))]] (fun (el : (List C)) => ((List.length el) == (3 : Nat)))) && (List.all (EC.encL ec_49 b3) (fun (el : (List C)) => ((List.length el) == (3 : Nat))))) && (decide (((((b0_3 + (List.length [[(C.int Go.IntKind.i64 (intOf (List.getD (List.getD (EC.encL ec_44 t11) (Int.toNat t13) []) (9 : Nat) C.ne))), (C.str (ByteArray.mk (List.toArray []))), (C.int Go.IntKind.i64 (0 : Int))]])) + ((b0_3 + (List.length [[(C.int Go.IntKind.i64 (intOf (List.getD (List.getD (EC.encL ec_44 t11) (Int.toNat t13) []) (9 : Nat) C.ne))), (C.str (ByteArray.mk (List.toArray []))), (C.int Go.IntKind.i64 (0 : Int))]])) / (4 : Nat))) + (192 : Nat)) * (32 : Nat)) ≤ (281474976710656 : Nat)))) && (decide ((b0_3 + (List.length [[(C.int Go.IntKind.i64 (intOf (List.getD (List.getD (EC.encL ec_44 t11) (Int.toNat t13) []) (9 : Nat) C.ne))), (C.str (ByteArray.mk (List.toArray []))), (C.int Go.IntKind.i64 (0 : Int))]])) ≤ (9223372036854775807 : Nat)))) <|
                (gdE (EC.isL ec_44 (slOf (List.getD (List.getD (EC.encL ec_44 t11) (Int.toNat t13) []) (7 : Nat) C.ne))) <|
                  (Option.bind (rules_Size_s (EC.decL ec_44 (slOf (List.getD (List.getD (EC.encL ec_44 t11) (Int.toNat t13) []) (7 : Nat) C.ne)))) fun r0 =>
                    (gdE (EC.isL ec_44 (slOf (List.getD (List.getD (EC.encL ec_44 t11) (Int.toNat t13) []) (8 : Nat) C.ne))) <|
                      (Option.bind (rules_Size_s (EC.decL ec_44 (slOf (List.getD (List.getD (EC.encL ec_44 t11) (Int.toNat t13) []) (8 : Nat) C.ne)))) fun r1 =>
                        (gdE (EC.isL ec_44 (EC.encL ec_44 t11)) <|
                          (gdE (EC.isL ec_42 (EC.encL ec_42 b1)) <|
                            (gdE (EC.isL ec_4 (List.set (EC.encL ec_4 b2) (Int.toNat number) (splice (List.getD (EC.encL ec_4 b2) (Int.toNat number) []) (0 : Nat) [(C.bool true)]))) <|
                              (gdE (EC.isL ec_49 ((EC.encL ec_49 b3) ++ [[(C.int Go.IntKind.i64 (intOf (List.getD (List.getD (EC.encL ec_44 t11) (Int.toNat t13) []) (9 : Nat) C.ne))), (C.str (ByteArray.mk (List.toArray []))), (C.int Go.IntKind.i64 (0 : Int))]])) <|
                                (prove_trial_execute_h6_l2 (Go.IntKind.wrap Go.IntKind.i64 (number + (Go.IntKind.wrap Go.IntKind.i64 ((Go.IntKind.wrap Go.IntKind.i64 ((1 : Int) + r0)) + r1)))) (EC.decL ec_44 (EC.encL ec_44 t11)) t12 (Go.IntKind.wrap Go.IntKind.i64 (t13 + (1 : Int))) b0 b0_1 b0_2 (b0_3 + (List.length [[(C.int Go.IntKind.i64 (intOf (List.getD (List.getD (EC.encL ec_44 t11) (Int.toNat t13) []) (9 : Nat) C.ne))), (C.str (ByteArray.mk (List.toArray []))), (C.int Go.IntKind.i64 (0 : Int))]])) (EC.decL ec_42 (EC.encL ec_42 b1)) (EC.decL ec_4 (List.set (EC.encL ec_4 b2) (Int.toNat number) (splice (List.getD (EC.encL ec_4 b2) (Int.toNat number) []) (0 : Nat) [(C.bool true)]))) (EC.decL ec_49 ((EC.encL ec_49 b3) ++ [[(C.int Go.IntKind.i64 (intOf (List.getD (List.getD (EC.encL ec_44 t11) (Int.toNat t13) []) (9 : Nat) C.ne))), (C.str (ByteArray.mk (List.toArray []))), (C.int Go.IntKind.i64 (0 : Int))]]))))))))))))
              (brE ((intOf (List.getD (List.getD (EC.encL ec_44 t11) (Int.toNat t13) []) (0 : Nat) C.ne)) == (4 : Int))
                (gdE (EC.isL ec_42 (EC.encL ec_42 b1)) <|
                  (gdE (EC.isL ec_4 (List.set (EC.encL ec_4 b2) (Int.toNat number) (splice (List.getD (EC.encL ec_4 b2) (Int.toNat number) []) (0 : Nat) [(C.bool true)]))) <|
                    (gdE (EC.isL ec_49 (EC.encL ec_49 b3)) <|
                      (some (.inl (false, ((b0, (b0_1, (b0_2, b0_3))), ((EC.decL ec_42 (EC.encL ec_42 b1)), ((EC.decL ec_4 (List.set (EC.encL ec_4 b2) (Int.toNat number) (splice (List.getD (EC.encL ec_4 b2) (Int.toNat number) []) (0 : Nat) [(C.bool true)]))), (EC.decL ec_49 (EC.encL ec_49 b3)))))))))))
                (gdE (EC.isL ec_44 (slOf (List.getD (List.getD (EC.encL ec_44 t11) (Int.toNat t13) []) (7 : Nat) C.ne))) <|
                  (Option.bind (rules_Size_s (EC.decL ec_44 (slOf (List.getD (List.getD (EC.encL ec_44 t11) (Int.toNat t13) []) (7 : Nat) C.ne)))) fun r0 =>
                    (gdE (EC.isL ec_44 (slOf (List.getD (List.getD (EC.encL ec_44 t11) (Int.toNat t13) []) (8 : Nat) C.ne))) <|
                      (Option.bind (rules_Size_s (EC.decL ec_44 (slOf (List.getD (List.getD (EC.encL ec_44 t11) (Int.toNat t13) []) (8 : Nat) C.ne)))) fun r1 =>
                        (gdE (EC.isL ec_44 (EC.encL ec_44 t11)) <|
                          (gdE (EC.isL ec_42 (EC.encL ec_42 b1)) <|
                            (gdE (EC.isL ec_4 (List.set (EC.encL ec_4 b2) (Int.toNat number) (splice (List.getD (EC.encL ec_4 b2) (Int.toNat number) []) (0 : Nat) [(C.bool true)]))) <|
                              (gdE (EC.isL ec_49 (EC.encL ec_49 b3)) <|
                                (prove_trial_execute_h6_l2 (Go.IntKind.wrap Go.IntKind.i64 (number + (Go.IntKind.wrap Go.IntKind.i64 ((Go.IntKind.wrap Go.IntKind.i64 ((1 : Int) + r0)) + r1)))) (EC.decL ec_44 (EC.encL ec_44 t11)) t12 (Go.IntKind.wrap Go.IntKind.i64 (t13 + (1 : Int))) b0 b0_1 b0_2 b0_3 (EC.decL ec_42 (EC.encL ec_42 b1)) (EC.decL ec_4 (List.set (EC.encL ec_4 b2) (Int.toNat number) (splice (List.getD (EC.encL ec_4 b2) (Int.toNat number) []) (0 : Nat) [(C.bool true)]))) (EC.decL ec_49 (EC.encL ec_49 b3))))))))))))))))))
  (gdE (EC.isL ec_44 (EC.encL ec_44 t11)) <|
    (gdE (EC.isL ec_42 (EC.encL ec_42 b1)) <|
      (gdE (EC.isL ec_4 (EC.encL ec_4 b2)) <|
        (gdE (EC.isL ec_49 (EC.encL ec_49 b3)) <|
          (some (.inr (((), (number, ((EC.decL ec_44 (EC.encL ec_44 t11)), (t12, (t13, false))))), ((b0, (b0_1, (b0_2, b0_3))), ((EC.decL ec_42 (EC.encL ec_42 b1)), ((EC.decL ec_4 (EC.encL ec_4 b2)), (EC.decL ec_49 (EC.encL ec_49 b3)))))))))))))
theorem prove_trial_execute_h6_l2_eq {number : Int} {t11 : (List S44)} {t12 : Int} {t13 : Int} {b0 : Nat} {b0_1 : Int} {b0_2 : Nat} {b0_3 : Nat} {b1 : (List S42)} {b2 : (List Bool)} {b3 : (List S49)} {r : ((Bool × ((Nat × Int × Nat × Nat) × (List S42) × (List Bool) × (List S49))) ⊕ ((Unit × Int × (List S44) × Int × Int × Bool) × ((Nat × Int × Nat × Nat) × (List S42) × (List Bool) × (List S49))))} (h : prove_trial_execute_h6_l2_t number t11 t12 t13 b0 b0_1 b0_2 b0_3 b1 b2 b3 = some r) : prove_trial_execute_h6_l2 number t11 t12 t13 b0 b0_1 b0_2 b0_3 b1 b2 b3 = some r :=
  lS_tree (es := tab_rules_Validate) (hs := htab_api_Test__h11) [] (by kernel_rfl) trivial trivial (by kernel_rfl) h
def prove_trial_execute_h6_l2_e : LEnt Try.prog lv X0 30 76 := lentS Try.prog lv X0 2 (getLoop (cdF Try.f30) 2) prove_trial_execute_h6_l2_s prove_trial_execute_h6_l2_o (fun x => prove_trial_execute_h6_l2 x.1.2.1 x.1.2.2.1 x.1.2.2.2.1 x.1.2.2.2.2 x.2.1.1 x.2.1.2.1 x.2.1.2.2.1 x.2.1.2.2.2 x.2.2.1 x.2.2.2.1 x.2.2.2.2) (fun _ _ h => lS_from h)
def prove_trial_execute_h6_t (s : (List S44)) (number : Int) (b0 : Nat) (b0_1 : Int) (b0_2 : Nat) (b0_3 : Nat) (b1 : (List S42)) (b2 : (List Bool)) (b3 : (List S49)) : Option (Bool × (Bool × ((Nat × Int × Nat × Nat) × (List S42) × (List Bool) × (List S49)))) :=
  (gdE (EC.isL ec_44 (EC.encL ec_44 s)) <|
  (gdE (EC.isL ec_42 (EC.encL ec_42 b1)) <|
    (gdE (EC.isL ec_4 (EC.encL ec_4 b2)) <|
      (gdE (EC.isL ec_49 (EC.encL ec_49 b3)) <|
        (Option.bind (prove_trial_execute_h6_l2 number (EC.decL ec_44 (EC.encL ec_44 s)) (((List.length (EC.encL ec_44 s)) : Nat) : Int) (0 : Int) b0 b0_1 b0_2 b0_3 (EC.decL ec_42 (EC.encL ec_42 b1)) (EC.decL ec_4 (EC.encL ec_4 b2)) (EC.decL ec_49 (EC.encL ec_49 b3))) fun r0 =>
          (Sum.elim (fun r1 => (gdE (EC.isL ec_42 (EC.encL ec_42 (((r1).2).2).1)) <|
              (gdE (EC.isL ec_4 (EC.encL ec_4 ((((r1).2).2).2).1)) <|
                (gdE (EC.isL ec_49 (EC.encL ec_49 ((((r1).2).2).2).2)) <|
                  (some ((r1).1, ((r1).1, (((((r1).2).1).1, (((((r1).2).1).2).1, ((((((r1).2).1).2).2).1, (((((r1).2).1).2).2).2))), ((EC.decL ec_42 (EC.encL ec_42 (((r1).2).2).1)), ((EC.decL ec_4 (EC.encL ec_4 ((((r1).2).2).2).1)), (EC.decL ec_49 (EC.encL ec_49 ((((r1).2).2).2).2))))))))))))
            (fun r1 => (gdE (EC.isL ec_42 (EC.encL ec_42 (((r1).2).2).1)) <|
              (gdE (EC.isL ec_4 (EC.encL ec_4 ((((r1).2).2).2).1)) <|
                (gdE (EC.isL ec_49 (EC.encL ec_49 ((((r1).2).2).2).2)) <|
                  (some (true, (true, (((((r1).2).1).1, (((((r1).2).1).2).1, ((((((r1).2).1).2).2).1, (((((r1).2).1).2).2).2))), ((EC.decL ec_42 (EC.encL ec_42 (((r1).2).2).1)), ((EC.decL ec_4 (EC.encL ec_4 ((((r1).2).2).2).1)), (EC.decL ec_49 (EC.encL ec_49 ((((r1).2).2).2).2)))))))))))) r0))))))
theorem prove_trial_execute_h6_eq {s : (List S44)} {number : Int} {b0 : Nat} {b0_1 : Int} {b0_2 : Nat} {b0_3 : Nat} {b1 : (List S42)} {b2 : (List Bool)} {b3 : (List S49)} {r : (Bool × (Bool × ((Nat × Int × Nat × Nat) × (List S42) × (List Bool) × (List S49))))} (h : prove_trial_execute_h6_t s number b0 b0_1 b0_2 b0_3 b1 b2 b3 = some r) : prove_trial_execute_h6 s number b0 b0_1 b0_2 b0_3 b1 b2 b3 = some r :=
  hS_tree (fn := Try.f30) (es := tab_rules_Validate) (hs := htab_api_Test__h11) [prove_trial_execute_h6_l2_e] (by kernel_rfl) rfl (by kernel_rfl) ⟨⟨_, rfl, rfl⟩, trivial⟩ trivial (by kernel_rfl) h
def prove_Reachable_1_h13_s : SC (Nat × (List S49)) := sLS [0] (lOne (vRow 0)) (lOne (oSome (bRow ec_49))) [false] [] (by decide) (fun _ => rfl)
def prove_Reachable_1_h13_q : SC (Unit × Unit) := sLS [] lNil lNil [] [] (by decide) (fun _ => rfl)
def prove_Reachable_1_h13_o : HC (Unit × (Unit × Unit)) := hPair (vTup lNil) prove_Reachable_1_h13_q
def prove_Reachable_1_h13 (t0 : Nat) (b0 : (List S49)) : Option (Unit × (Unit × Unit)) := hS Try.prog lv X0 19 prove_Reachable_1_h13_s prove_Reachable_1_h13_o (t0, b0)
def prove_Reachable_1_h13_t (t0 : Nat) (b0 : (List S49)) : Option (Unit × (Unit × Unit)) :=
  (some ((), ((), ())))
theorem prove_Reachable_1_h13_eq {t0 : Nat} {b0 : (List S49)} {r : (Unit × (Unit × Unit))} (h : prove_Reachable_1_h13_t t0 b0 = some r) : prove_Reachable_1_h13 t0 b0 = some r :=
  hS_tree (fn := Try.f19) (es := tab_rules_Validate) (hs := htab_api_Test__h11) [] (by kernel_rfl) rfl (by kernel_rfl) trivial trivial (by kernel_rfl) h
def prove_Reachable_1_h13_e : HEnt Try.prog lv X0 := hentS Try.prog lv X0 19 [0, 2, 0, 2] prove_Reachable_1_h13_s prove_Reachable_1_h13_o (fun x => prove_Reachable_1_h13 x.1 x.2) (fun _ _ h => hS_from h)
def htab_prove_Reachable_1_h13 : List (HEnt Try.prog lv X0) := prove_Reachable_1_h13_e :: htab_api_Test__h11
def prove_all_h3_l9_s : SC (((List S44) × Unit × Unit × Nat × Nat × Int × Int) × ((Int × Int) × (List S42) × (List Bool))) := sLS [0, 1, 5, 7, 8, 27, 28] (lCons (vC (cSl ec_44)) (lCons (vFn 19 lNil) (lCons (vPtr 0 0) (lCons (vRow 1) (lCons (vRow 2) (lCons (vC (cInt .i64)) (lOne (vC (cInt .i64))))))))) (lCons (oSome (bBox (lCons (vC (cInt .i64)) (lOne (vC (cInt .i64)))))) (lCons (oSome (bRow ec_42)) (lOne (oSome (bRow ec_4))))) [false, false, false] [] (by decide) (fun _ => rfl)
def prove_all_h3_l9_o2 : SC (((List S44) × Unit × Unit × Nat × Nat × Int × Int × Bool) × ((Int × Int) × (List S42) × (List Bool))) := sLS [0, 1, 5, 7, 8, 27, 28, 29] (lCons (vC (cSl ec_44)) (lCons (vFn 19 lNil) (lCons (vPtr 0 0) (lCons (vRow 1) (lCons (vRow 2) (lCons (vC (cInt .i64)) (lCons (vC (cInt .i64)) (lOne (vC cBool))))))))) (lCons (oSome (bBox (lCons (vC (cInt .i64)) (lOne (vC (cInt .i64)))))) (lCons (oSome (bRow ec_42)) (lOne (oSome (bRow ec_4))))) [false, false, false] [] (by decide) (fun _ => rfl)
def prove_all_h3_l9_o : OC (((List S44) × Unit × Unit × Nat × Nat × Int × Int × Bool) × ((Int × Int) × (List S42) × (List Bool))) := oAt 2 prove_all_h3_l9_o2
def prove_all_h3_l9 (s : (List S44)) (l : Nat) (reached : Nat) (t27 : Int) (t28 : Int) (b0 : Int) (b0_1 : Int) (b1 : (List S42)) (b2 : (List Bool)) : Option (((List S44) × Unit × Unit × Nat × Nat × Int × Int × Bool) × ((Int × Int) × (List S42) × (List Bool))) := lS Try.prog lv X0 13 48 (getLoop (cdF Try.f13) 9) prove_all_h3_l9_s prove_all_h3_l9_o ((s, (), (), l, reached, t27, t28), ((b0, b0_1), b1, b2))
def prove_all_h3_l9_t (s : (List S44)) (l : Nat) (reached : Nat) (t27 : Int) (t28 : Int) (b0 : Int) (b0_1 : Int) (b1 : (List S42)) (b2 : (List Bool)) : Option (((List S44) × Unit × Unit × Nat × Nat × Int × Int × Bool) × ((Int × Int) × (List S42) × (List Bool))) :=
  (brE (decide (t28 < t27))
  (gdE (EC.isL ec_44 (EC.encL ec_44 s)) <|
    (gdE (EC.isL ec_42 (EC.encL ec_42 b1)) <|
      (gdE (EC.isL ec_4 (EC.encL ec_4 b2)) <|
        (Option.bind (prove_trial_execute_h6 (EC.decL ec_44 (EC.encL ec_44 s)) (0 : Int) l t28 reached (0 : Nat) (EC.decL ec_42 (EC.encL ec_42 b1)) (EC.decL ec_4 (EC.encL ec_4 b2)) (EC.decL ec_49 [])) fun r0 =>
          (gdE (EC.isL ec_49 (EC.encL ec_49 (((((r0).2).2).2).2).2)) <|
            (Option.bind (prove_Reachable_1_h13 ((((((r0).2).2).1).2).2).2 (EC.decL ec_49 (EC.encL ec_49 (((((r0).2).2).2).2).2))) fun r1 =>
              (gdE (EC.isL ec_44 (EC.encL ec_44 s)) <|
                (gdE (EC.isL ec_42 (EC.encL ec_42 ((((r0).2).2).2).1)) <|
                  (gdE (EC.isL ec_4 (EC.encL ec_4 (((((r0).2).2).2).2).1)) <|
                    (prove_all_h3_l9 (EC.decL ec_44 (EC.encL ec_44 s)) l reached t27 (Go.IntKind.wrap Go.IntKind.i64 (t28 + (1 : Int))) b0 b0_1 (EC.decL ec_42 (EC.encL ec_42 ((((r0).2).2).2).1)) (EC.decL ec_4 (EC.encL ec_4 (((((r0).2).2).2).2).1))))))))))))
  (gdE (EC.isL ec_44 (EC.encL ec_44 s)) <|
    (gdE (EC.isL ec_42 (EC.encL ec_42 b1)) <|
      (gdE (EC.isL ec_4 (EC.encL ec_4 b2)) <|
        (some (((EC.decL ec_44 (EC.encL ec_44 s)), ((), ((), (l, (reached, (t27, (t28, false))))))), ((b0, b0_1), ((EC.decL ec_42 (EC.encL ec_42 b1)), (EC.decL ec_4 (EC.encL ec_4 b2))))))))))
theorem prove_all_h3_l9_eq {s : (List S44)} {l : Nat} {reached : Nat} {t27 : Int} {t28 : Int} {b0 : Int} {b0_1 : Int} {b1 : (List S42)} {b2 : (List Bool)} {r : (((List S44) × Unit × Unit × Nat × Nat × Int × Int × Bool) × ((Int × Int) × (List S42) × (List Bool)))} (h : prove_all_h3_l9_t s l reached t27 t28 b0 b0_1 b1 b2 = some r) : prove_all_h3_l9 s l reached t27 t28 b0 b0_1 b1 b2 = some r :=
  lS_tree (es := tab_rules_Validate) (hs := htab_prove_Reachable_1_h13) [] (by kernel_rfl) trivial trivial (by kernel_rfl) h
def prove_all_h3_l9_e : LEnt Try.prog lv X0 13 48 := lentS Try.prog lv X0 9 (getLoop (cdF Try.f13) 9) prove_all_h3_l9_s prove_all_h3_l9_o (fun x => prove_all_h3_l9 x.1.1 x.1.2.2.2.1 x.1.2.2.2.2.1 x.1.2.2.2.2.2.1 x.1.2.2.2.2.2.2 x.2.1.1 x.2.1.2 x.2.2.1 x.2.2.2) (fun _ _ h => lS_from h)
def prove_all_h3_t (s : (List S44)) : Option ((Nat × (Int × Int)) × ((Nat × (Int × Int)) × (List Bool))) :=
  (gdE (EC.isL ec_44 (EC.encL ec_44 s)) <|
  (Option.bind (rules_Validate_s (EC.decL ec_44 (EC.encL ec_44 s))) fun r0 =>
    (Option.bind (basic_Failed_s (r0).1 (r0).2) fun r1 =>
      (brE r1
        (some (((0 : Nat), ((r0).1, (r0).2)), (((0 : Nat), ((r0).1, (r0).2)), [])))
        (gdE (EC.isL ec_44 (EC.encL ec_44 s)) <|
          (Option.bind (prove_tests_h4 (0 : Nat) (EC.decL ec_44 (EC.encL ec_44 s)) (EC.decL ec_42 [])) fun r2 =>
            (brE (decide ((((r2).1 : Nat) : Int) > (10 : Int)))
              (Option.bind (basic_Fault_s (17 : Int) (-(4 : Int))) fun r3 =>
                (some (((0 : Nat), ((r3).1, (r3).2)), (((0 : Nat), ((r3).1, (r3).2)), []))))
              (gdE (EC.isL ec_44 (EC.encL ec_44 s)) <|
                (Option.bind (rules_Size_s (EC.decL ec_44 (EC.encL ec_44 s))) fun r3 =>
                  (gdE ((((decide (r3 = r3)) && (decide ((0 : Int) ≤ r3))) && (decide ((r3 * (((1 : Nat) : Nat) : Int)) ≤ (140737488355328 : Int)))) && (decide (r3 ≤ (9223372036854775807 : Int)))) <|
                    (gdE (EC.isL ec_44 (EC.encL ec_44 s)) <|
                      (gdE (EC.isL ec_42 (EC.encL ec_42 ((r2).2).2)) <|
                        (gdE (EC.isL ec_4 (List.replicate (Int.toNat r3) [(C.bool false)])) <|
                          (Option.bind (prove_all_h3_l9 (EC.decL ec_44 (EC.encL ec_44 s)) (r2).1 (Int.toNat r3) (Go.IntKind.wrap Go.IntKind.i64 ((1 : Int) * ((2 : Int) ^ (Min.min (Int.toNat (((r2).1 : Nat) : Int)) (Go.IntKind.bits Go.IntKind.i64))))) (0 : Int) (0 : Int) (0 : Int) (EC.decL ec_42 (EC.encL ec_42 ((r2).2).2)) (EC.decL ec_4 (List.replicate (Int.toNat r3) [(C.bool false)]))) fun r4 =>
                            (Option.bind basic_None_s fun r5 =>
                              (gdE (EC.isL ec_4 (EC.encL ec_4 (((r4).2).2).2)) <|
                                (some ((((((((r4).1).2).2).2).2).1, ((r5).1, (r5).2)), ((((((((r4).1).2).2).2).2).1, ((r5).1, (r5).2)), (EC.decL ec_4 (EC.encL ec_4 (((r4).2).2).2)))))))))))))))))))))
theorem prove_all_h3_eq {s : (List S44)} {r : ((Nat × (Int × Int)) × ((Nat × (Int × Int)) × (List Bool)))} (h : prove_all_h3_t s = some r) : prove_all_h3 s = some r :=
  hS_tree (fn := Try.f13) (es := tab_rules_Validate) (hs := htab_prove_Reachable_1_h13) [prove_all_h3_l9_e] (by kernel_rfl) rfl (by kernel_rfl) ⟨⟨_, rfl, rfl⟩, trivial⟩ trivial (by kernel_rfl) h
def prove_Reachable_cr : Cod (V × List B) ((Nat × (Int × Int)) × (List Bool)) := (cPair (vTup (lCons (vRow 0) (lOne (vAgg (lCons (vC (cInt .i64)) (lOne (vC (cInt .i64)))))))) (lOne (bRow ec_4)))
def prove_Reachable_s (s : (List S44)) : Option ((Nat × (Int × Int)) × (List Bool)) := fS Try.prog lv X0 6 prove_Reachable_ca prove_Reachable_cr s
def prove_Reachable_t (s : (List S44)) : Option ((Nat × (Int × Int)) × (List Bool)) :=
  (gdE (EC.isL ec_44 (EC.encL ec_44 s)) <|
  (Option.bind (prove_all_h3 (EC.decL ec_44 (EC.encL ec_44 s))) fun r0 =>
    (gdE (EC.isL ec_4 (EC.encL ec_4 ((r0).2).2)) <|
      (some ((((r0).1).1, ((((r0).1).2).1, (((r0).1).2).2)), (EC.decL ec_4 (EC.encL ec_4 ((r0).2).2)))))))
theorem prove_Reachable_eq {s : (List S44)} {r : ((Nat × (Int × Int)) × (List Bool))} (h : prove_Reachable_t s = some r) : prove_Reachable_s s = some r :=
  fS_tree (es := tab_rules_Validate) (hs := htab_prove_Reachable_1_h13) [] Try.func6 rfl (by kernel_rfl) rfl (by kernel_rfl) (by kernel_rfl) trivial trivial (by kernel_rfl) h
def prove_Reachable_e : Ent Try.prog lv X0 := entS Try.prog lv X0 6 [] prove_Reachable_ca prove_Reachable_cr (fun x => prove_Reachable_s x) (fun _ _ h => fS_call h)
def tab_prove_Reachable : List (Ent Try.prog lv X0) := prove_Reachable_e :: tab_rules_Validate
def prove_Keeps_ca : Cod (List V) (List S44) := (lOne (vC (cSl ec_44)))
def prove_all_h14_s : SC (((List S44) × Unit) × Bool) := sLS [0, 1] (lCons (vC (cSl ec_44)) (lOne (vFn 14 (lOne (vPtr 0 0))))) (lOne (oSome (bBox (lOne (vC cBool))))) [false] [0] (by decide) (fun _ => rfl)
def prove_Keeps_1_h15_s : SC ((Nat × Unit) × ((List S49) × Bool)) := sLS [0, 1] (lCons (vRow 0) (lOne (vPtr 1 0))) (lCons (oSome (bRow ec_49)) (lOne (oSome (bBox (lOne (vC cBool)))))) [false, false] [1] (by decide) (fun _ => rfl)
def prove_Keeps_1_h15_q : SC (Unit × Bool) := sLS [] lNil (lOne (oSome (bBox (lOne (vC cBool))))) [false] [0] (by decide) (fun _ => rfl)
def prove_Keeps_1_h15_o : HC (Unit × (Unit × Bool)) := hPair (vTup lNil) prove_Keeps_1_h15_q
def prove_Keeps_1_h15 (l : Nat) (b0 : (List S49)) (b1 : Bool) : Option (Unit × (Unit × Bool)) := hS Try.prog lv X0 14 prove_Keeps_1_h15_s prove_Keeps_1_h15_o ((l, ()), (b0, b1))
def prove_Keeps_1_h15_t (l : Nat) (b0 : (List S49)) (b1 : Bool) : Option (Unit × (Unit × Bool)) :=
  (gdE (EC.isL ec_49 (EC.encL ec_49 b0)) <|
  (Option.bind (hasKeep_s (EC.decL ec_49 (EC.encL ec_49 b0))) fun r0 =>
    (brE (b1 == true)
      (brE (r0 == false)
        (gdE (EC.isL ec_49 (EC.encL ec_49 b0)) <|
          (Option.bind (evaluate_Decided_s (EC.decL ec_49 (EC.encL ec_49 b0))) fun r1 =>
            (some ((), ((), (!r1))))))
        (some ((), ((), true))))
      (some ((), ((), false))))))
theorem prove_Keeps_1_h15_eq {l : Nat} {b0 : (List S49)} {b1 : Bool} {r : (Unit × (Unit × Bool))} (h : prove_Keeps_1_h15_t l b0 b1 = some r) : prove_Keeps_1_h15 l b0 b1 = some r :=
  hS_tree (fn := Try.f14) (es := tab_prove_Reachable) (hs := htab_prove_Reachable_1_h13) [] (by kernel_rfl) rfl (by kernel_rfl) trivial trivial (by kernel_rfl) h
def prove_Keeps_1_h15_e : HEnt Try.prog lv X0 := hentS Try.prog lv X0 14 [0, 2, 0, 1, 3, 1, 0, 2, 1, 1, 1, 2, 1] prove_Keeps_1_h15_s prove_Keeps_1_h15_o (fun x => prove_Keeps_1_h15 x.1.1 x.2.1 x.2.2) (fun _ _ h => hS_from h)
def htab_prove_Keeps_1_h15 : List (HEnt Try.prog lv X0) := prove_Keeps_1_h15_e :: htab_prove_Reachable_1_h13
def prove_all_h14_l9_s : SC (((List S44) × Unit × Unit × Nat × Nat × Int × Int) × (Bool × (Int × Int) × (List S42) × (List Bool))) := sLS [0, 1, 5, 7, 8, 27, 28] (lCons (vC (cSl ec_44)) (lCons (vFn 14 (lOne (vPtr 0 0))) (lCons (vPtr 1 0) (lCons (vRow 2) (lCons (vRow 3) (lCons (vC (cInt .i64)) (lOne (vC (cInt .i64))))))))) (lCons (oSome (bBox (lOne (vC cBool)))) (lCons (oSome (bBox (lCons (vC (cInt .i64)) (lOne (vC (cInt .i64)))))) (lCons (oSome (bRow ec_42)) (lOne (oSome (bRow ec_4)))))) [false, false, false, false] [0] (by decide) (fun _ => rfl)
def prove_all_h14_l9_o2 : SC (((List S44) × Unit × Unit × Nat × Nat × Int × Int × Bool) × (Bool × (Int × Int) × (List S42) × (List Bool))) := sLS [0, 1, 5, 7, 8, 27, 28, 29] (lCons (vC (cSl ec_44)) (lCons (vFn 14 (lOne (vPtr 0 0))) (lCons (vPtr 1 0) (lCons (vRow 2) (lCons (vRow 3) (lCons (vC (cInt .i64)) (lCons (vC (cInt .i64)) (lOne (vC cBool))))))))) (lCons (oSome (bBox (lOne (vC cBool)))) (lCons (oSome (bBox (lCons (vC (cInt .i64)) (lOne (vC (cInt .i64)))))) (lCons (oSome (bRow ec_42)) (lOne (oSome (bRow ec_4)))))) [false, false, false, false] [0] (by decide) (fun _ => rfl)
def prove_all_h14_l9_o : OC (((List S44) × Unit × Unit × Nat × Nat × Int × Int × Bool) × (Bool × (Int × Int) × (List S42) × (List Bool))) := oAt 2 prove_all_h14_l9_o2
def prove_all_h14_l9 (s : (List S44)) (l : Nat) (reached : Nat) (t27 : Int) (t28 : Int) (b0 : Bool) (b1 : Int) (b1_1 : Int) (b2 : (List S42)) (b3 : (List Bool)) : Option (((List S44) × Unit × Unit × Nat × Nat × Int × Int × Bool) × (Bool × (Int × Int) × (List S42) × (List Bool))) := lS Try.prog lv X0 13 48 (getLoop (cdF Try.f13) 9) prove_all_h14_l9_s prove_all_h14_l9_o ((s, (), (), l, reached, t27, t28), (b0, (b1, b1_1), b2, b3))
def prove_all_h14_l9_t (s : (List S44)) (l : Nat) (reached : Nat) (t27 : Int) (t28 : Int) (b0 : Bool) (b1 : Int) (b1_1 : Int) (b2 : (List S42)) (b3 : (List Bool)) : Option (((List S44) × Unit × Unit × Nat × Nat × Int × Int × Bool) × (Bool × (Int × Int) × (List S42) × (List Bool))) :=
  (brE (decide (t28 < t27))
  (gdE (EC.isL ec_44 (EC.encL ec_44 s)) <|
    (gdE (EC.isL ec_42 (EC.encL ec_42 b2)) <|
      (gdE (EC.isL ec_4 (EC.encL ec_4 b3)) <|
        (Option.bind (prove_trial_execute_h6 (EC.decL ec_44 (EC.encL ec_44 s)) (0 : Int) l t28 reached (0 : Nat) (EC.decL ec_42 (EC.encL ec_42 b2)) (EC.decL ec_4 (EC.encL ec_4 b3)) (EC.decL ec_49 [])) fun r0 =>
          (gdE (EC.isL ec_49 (EC.encL ec_49 (((((r0).2).2).2).2).2)) <|
            (Option.bind (prove_Keeps_1_h15 ((((((r0).2).2).1).2).2).2 (EC.decL ec_49 (EC.encL ec_49 (((((r0).2).2).2).2).2)) b0) fun r1 =>
              (gdE (EC.isL ec_44 (EC.encL ec_44 s)) <|
                (gdE (EC.isL ec_42 (EC.encL ec_42 ((((r0).2).2).2).1)) <|
                  (gdE (EC.isL ec_4 (EC.encL ec_4 (((((r0).2).2).2).2).1)) <|
                    (prove_all_h14_l9 (EC.decL ec_44 (EC.encL ec_44 s)) l reached t27 (Go.IntKind.wrap Go.IntKind.i64 (t28 + (1 : Int))) ((r1).2).2 b1 b1_1 (EC.decL ec_42 (EC.encL ec_42 ((((r0).2).2).2).1)) (EC.decL ec_4 (EC.encL ec_4 (((((r0).2).2).2).2).1))))))))))))
  (gdE (EC.isL ec_44 (EC.encL ec_44 s)) <|
    (gdE (EC.isL ec_42 (EC.encL ec_42 b2)) <|
      (gdE (EC.isL ec_4 (EC.encL ec_4 b3)) <|
        (some (((EC.decL ec_44 (EC.encL ec_44 s)), ((), ((), (l, (reached, (t27, (t28, false))))))), (b0, ((b1, b1_1), ((EC.decL ec_42 (EC.encL ec_42 b2)), (EC.decL ec_4 (EC.encL ec_4 b3)))))))))))
theorem prove_all_h14_l9_eq {s : (List S44)} {l : Nat} {reached : Nat} {t27 : Int} {t28 : Int} {b0 : Bool} {b1 : Int} {b1_1 : Int} {b2 : (List S42)} {b3 : (List Bool)} {r : (((List S44) × Unit × Unit × Nat × Nat × Int × Int × Bool) × (Bool × (Int × Int) × (List S42) × (List Bool)))} (h : prove_all_h14_l9_t s l reached t27 t28 b0 b1 b1_1 b2 b3 = some r) : prove_all_h14_l9 s l reached t27 t28 b0 b1 b1_1 b2 b3 = some r :=
  lS_tree (es := tab_prove_Reachable) (hs := htab_prove_Keeps_1_h15) [] (by kernel_rfl) trivial trivial (by kernel_rfl) h
def prove_all_h14_l9_e : LEnt Try.prog lv X0 13 48 := lentS Try.prog lv X0 9 (getLoop (cdF Try.f13) 9) prove_all_h14_l9_s prove_all_h14_l9_o (fun x => prove_all_h14_l9 x.1.1 x.1.2.2.2.1 x.1.2.2.2.2.1 x.1.2.2.2.2.2.1 x.1.2.2.2.2.2.2 x.2.1 x.2.2.1.1 x.2.2.1.2 x.2.2.2.1 x.2.2.2.2) (fun _ _ h => lS_from h)
def prove_all_h14_q : SC ((Nat × (Int × Int)) × ((List Bool) × Bool)) := sLS [0, 1] (lCons (vRow 0) (lOne (vAgg (lCons (vC (cInt .i64)) (lOne (vC (cInt .i64))))))) (lCons (oSome (bRow ec_4)) (lOne (oSome (bBox (lOne (vC cBool)))))) [false, false] [1] (by decide) (fun _ => rfl)
def prove_all_h14_o : HC ((Nat × (Int × Int)) × ((Nat × (Int × Int)) × ((List Bool) × Bool))) := hPair (vTup (lCons (vRow 0) (lOne (vAgg (lCons (vC (cInt .i64)) (lOne (vC (cInt .i64)))))))) prove_all_h14_q
def prove_all_h14 (s : (List S44)) (b0 : Bool) : Option ((Nat × (Int × Int)) × ((Nat × (Int × Int)) × ((List Bool) × Bool))) := hS Try.prog lv X0 13 prove_all_h14_s prove_all_h14_o ((s, ()), b0)
def prove_all_h14_t (s : (List S44)) (b0 : Bool) : Option ((Nat × (Int × Int)) × ((Nat × (Int × Int)) × ((List Bool) × Bool))) :=
  (gdE (EC.isL ec_44 (EC.encL ec_44 s)) <|
  (Option.bind (rules_Validate_s (EC.decL ec_44 (EC.encL ec_44 s))) fun r0 =>
    (Option.bind (basic_Failed_s (r0).1 (r0).2) fun r1 =>
      (brE r1
        (some (((0 : Nat), ((r0).1, (r0).2)), (((0 : Nat), ((r0).1, (r0).2)), ([], b0))))
        (gdE (EC.isL ec_44 (EC.encL ec_44 s)) <|
          (Option.bind (prove_tests_h4 (0 : Nat) (EC.decL ec_44 (EC.encL ec_44 s)) (EC.decL ec_42 [])) fun r2 =>
            (brE (decide ((((r2).1 : Nat) : Int) > (10 : Int)))
              (Option.bind (basic_Fault_s (17 : Int) (-(4 : Int))) fun r3 =>
                (some (((0 : Nat), ((r3).1, (r3).2)), (((0 : Nat), ((r3).1, (r3).2)), ([], b0)))))
              (gdE (EC.isL ec_44 (EC.encL ec_44 s)) <|
                (Option.bind (rules_Size_s (EC.decL ec_44 (EC.encL ec_44 s))) fun r3 =>
                  (gdE ((((decide (r3 = r3)) && (decide ((0 : Int) ≤ r3))) && (decide ((r3 * (((1 : Nat) : Nat) : Int)) ≤ (140737488355328 : Int)))) && (decide (r3 ≤ (9223372036854775807 : Int)))) <|
                    (gdE (EC.isL ec_44 (EC.encL ec_44 s)) <|
                      (gdE (EC.isL ec_42 (EC.encL ec_42 ((r2).2).2)) <|
                        (gdE (EC.isL ec_4 (List.replicate (Int.toNat r3) [(C.bool false)])) <|
                          (Option.bind (prove_all_h14_l9 (EC.decL ec_44 (EC.encL ec_44 s)) (r2).1 (Int.toNat r3) (Go.IntKind.wrap Go.IntKind.i64 ((1 : Int) * ((2 : Int) ^ (Min.min (Int.toNat (((r2).1 : Nat) : Int)) (Go.IntKind.bits Go.IntKind.i64))))) (0 : Int) b0 (0 : Int) (0 : Int) (EC.decL ec_42 (EC.encL ec_42 ((r2).2).2)) (EC.decL ec_4 (List.replicate (Int.toNat r3) [(C.bool false)]))) fun r4 =>
                            (Option.bind basic_None_s fun r5 =>
                              (gdE (EC.isL ec_4 (EC.encL ec_4 ((((r4).2).2).2).2)) <|
                                (some ((((((((r4).1).2).2).2).2).1, ((r5).1, (r5).2)), ((((((((r4).1).2).2).2).2).1, ((r5).1, (r5).2)), ((EC.decL ec_4 (EC.encL ec_4 ((((r4).2).2).2).2)), ((r4).2).1))))))))))))))))))))
theorem prove_all_h14_eq {s : (List S44)} {b0 : Bool} {r : ((Nat × (Int × Int)) × ((Nat × (Int × Int)) × ((List Bool) × Bool)))} (h : prove_all_h14_t s b0 = some r) : prove_all_h14 s b0 = some r :=
  hS_tree (fn := Try.f13) (es := tab_prove_Reachable) (hs := htab_prove_Keeps_1_h15) [prove_all_h14_l9_e] (by kernel_rfl) rfl (by kernel_rfl) ⟨⟨_, rfl, rfl⟩, trivial⟩ trivial (by kernel_rfl) h
def prove_all_h14_e : HEnt Try.prog lv X0 := hentS Try.prog lv X0 13 [0, 1, 4, 1, 6, 14, 1, 3, 0, 0, 1, 1, 1, 2, 0] prove_all_h14_s prove_all_h14_o (fun x => prove_all_h14 x.1.1 x.2) (fun _ _ h => hS_from h)
def htab_prove_all_h14 : List (HEnt Try.prog lv X0) := prove_all_h14_e :: htab_prove_Keeps_1_h15
def prove_Keeps_cr : Cod (V × List B) (Bool × (Int × Int)) := (cFstU (cPair (vTup (lCons (vC cBool) (lOne (vAgg (lCons (vC (cInt .i64)) (lOne (vC (cInt .i64)))))))) lNil))
def prove_Keeps_s (s : (List S44)) : Option (Bool × (Int × Int)) := fS Try.prog lv X0 5 prove_Keeps_ca prove_Keeps_cr s
def prove_Keeps_t (s : (List S44)) : Option (Bool × (Int × Int)) :=
  (gdE (EC.isL ec_44 (EC.encL ec_44 s)) <|
  (Option.bind (prove_all_h14 (EC.decL ec_44 (EC.encL ec_44 s)) true) fun r0 =>
    (brE ((((r0).2).2).2 == true)
      (Option.bind (basic_Failed_s (((r0).1).2).1 (((r0).1).2).2) fun r1 =>
        (some ((!r1), ((((r0).1).2).1, (((r0).1).2).2))))
      (some (false, ((((r0).1).2).1, (((r0).1).2).2))))))
theorem prove_Keeps_eq {s : (List S44)} {r : (Bool × (Int × Int))} (h : prove_Keeps_t s = some r) : prove_Keeps_s s = some r :=
  fS_tree (es := tab_prove_Reachable) (hs := htab_prove_all_h14) [] Try.func5 rfl (by kernel_rfl) rfl (by kernel_rfl) (by kernel_rfl) trivial trivial (by kernel_rfl) h
def prove_Keeps_e : Ent Try.prog lv X0 := entS Try.prog lv X0 5 [] prove_Keeps_ca prove_Keeps_cr (fun x => prove_Keeps_s x) (fun _ _ h => fS_call h)
def tab_prove_Keeps : List (Ent Try.prog lv X0) := prove_Keeps_e :: tab_prove_Reachable
end
end Go.Proofs.Ytokahibbkdbndaa
