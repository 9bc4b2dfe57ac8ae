/- Functions of the program as plain functions: made by program from the machine. -/
import Derived.Test.YtokahibbkdbndaaGP3
namespace Go.Proofs.Ytokahibbkdbndaa
open Go.RowKit
set_option maxRecDepth 100000
noncomputable section
def posthouseref5_At_ca : Cod (List V) (Int × Int) := (lCons (vC (cInt .i64)) (lOne (vC (cInt .i64))))
def posthouseref5_At_cr : Cod (V × List B) (Int × Int) := (cFstU (cPair (vAgg (lCons (vC (cInt .i64)) (lOne (vC (cInt .i64))))) lNil))
def posthouseref5_At_s (code : Int) (index : Int) : Option (Int × Int) := fS Try.prog lv X0 21 posthouseref5_At_ca posthouseref5_At_cr (code, index)
def posthouseref5_At_t (code : Int) (index : Int) : Option (Int × Int) :=
  (some (code, index))
theorem posthouseref5_At_eq {code : Int} {index : Int} {r : (Int × Int)} (h : posthouseref5_At_t code index = some r) : posthouseref5_At_s code index = some r :=
  fS_tree (es := tab_prove_Keeps) (hs := htab_prove_all_h14) [] Try.func21 rfl (by kernel_rfl) rfl (by kernel_rfl) (by kernel_rfl) trivial trivial (by kernel_rfl) h
def posthouseref5_At_e : Ent Try.prog lv X0 := entS Try.prog lv X0 21 [] posthouseref5_At_ca posthouseref5_At_cr (fun x => posthouseref5_At_s x.1 x.2) (fun _ _ h => fS_call h)
def tab_posthouseref5_At : List (Ent Try.prog lv X0) := posthouseref5_At_e :: tab_prove_Keeps
def posthouseref6_Texted_ca : Cod (List V) Int := (lOne (vC (cInt .i64)))
def posthouseref6_Texted_cr : Cod (V × List B) Bool := (cFstU (cPair (vC cBool) lNil))
def posthouseref6_Texted_s (act : Int) : Option Bool := fS Try.prog lv X0 48 posthouseref6_Texted_ca posthouseref6_Texted_cr act
def posthouseref6_Texted_t (act : Int) : Option Bool :=
  (brE ((act == (2 : Int)) == false)
  (brE ((act == (4 : Int)) == false)
    (brE ((act == (5 : Int)) == false)
      (some (act == (7 : Int)))
      (some true))
    (some true))
  (some true))
theorem posthouseref6_Texted_eq {act : Int} {r : Bool} (h : posthouseref6_Texted_t act = some r) : posthouseref6_Texted_s act = some r :=
  fS_tree (es := tab_posthouseref5_At) (hs := htab_prove_all_h14) [] Try.func48 rfl (by kernel_rfl) rfl (by kernel_rfl) (by kernel_rfl) trivial trivial (by kernel_rfl) h
def posthouseref6_Texted_e : Ent Try.prog lv X0 := entS Try.prog lv X0 48 [] posthouseref6_Texted_ca posthouseref6_Texted_cr (fun x => posthouseref6_Texted_s x) (fun _ _ h => fS_call h)
def tab_posthouseref6_Texted : List (Ent Try.prog lv X0) := posthouseref6_Texted_e :: tab_posthouseref5_At
def posthouseref6_uses_ca : Cod (List V) Int := (lOne (vC (cInt .i64)))
def posthouseref6_uses_cr : Cod (V × List B) (Bool × Bool × Bool × Bool) := (cFstU (cPair (vTup (lCons (vC cBool) (lCons (vC cBool) (lCons (vC cBool) (lOne (vC cBool)))))) lNil))
def posthouseref6_uses_s (kind : Int) : Option (Bool × Bool × Bool × Bool) := fS Try.prog lv X0 58 posthouseref6_uses_ca posthouseref6_uses_cr kind
def posthouseref6_uses_t (kind : Int) : Option (Bool × Bool × Bool × Bool) :=
  (Option.bind (posthouseref5_In_s kind (2 : Int) (4 : Int)) fun r0 =>
  (brE ((kind == (5 : Int)) == false)
    (Option.bind (posthouseref5_In_s kind (5 : Int) (7 : Int)) fun r1 =>
      (some (r0, ((kind == (9 : Int)), (r1, (kind == (8 : Int)))))))
    (Option.bind (posthouseref5_In_s kind (5 : Int) (7 : Int)) fun r1 =>
      (some (r0, (true, (r1, (kind == (8 : Int)))))))))
theorem posthouseref6_uses_eq {kind : Int} {r : (Bool × Bool × Bool × Bool)} (h : posthouseref6_uses_t kind = some r) : posthouseref6_uses_s kind = some r :=
  fS_tree (es := tab_posthouseref6_Texted) (hs := htab_prove_all_h14) [] Try.func58 rfl (by kernel_rfl) rfl (by kernel_rfl) (by kernel_rfl) trivial trivial (by kernel_rfl) h
def posthouseref6_uses_e : Ent Try.prog lv X0 := entS Try.prog lv X0 58 [] posthouseref6_uses_ca posthouseref6_uses_cr (fun x => posthouseref6_uses_s x) (fun _ _ h => fS_call h)
def tab_posthouseref6_uses : List (Ent Try.prog lv X0) := posthouseref6_uses_e :: tab_posthouseref6_Texted
def posthouseref6_Decides_ca : Cod (List V) Int := (lOne (vC (cInt .i64)))
def posthouseref6_Decides_cr : Cod (V × List B) Bool := (cFstU (cPair (vC cBool) lNil))
def posthouseref6_Decides_s (kind : Int) : Option Bool := fS Try.prog lv X0 25 posthouseref6_Decides_ca posthouseref6_Decides_cr kind
def posthouseref6_Decides_t (kind : Int) : Option Bool :=
  (brE ((kind != (6 : Int)) == true)
  (some (kind != (7 : Int)))
  (some false))
theorem posthouseref6_Decides_eq {kind : Int} {r : Bool} (h : posthouseref6_Decides_t kind = some r) : posthouseref6_Decides_s kind = some r :=
  fS_tree (es := tab_posthouseref6_uses) (hs := htab_prove_all_h14) [] Try.func25 rfl (by kernel_rfl) rfl (by kernel_rfl) (by kernel_rfl) trivial trivial (by kernel_rfl) h
def posthouseref6_Decides_e : Ent Try.prog lv X0 := entS Try.prog lv X0 25 [] posthouseref6_Decides_ca posthouseref6_Decides_cr (fun x => posthouseref6_Decides_s x) (fun _ _ h => fS_call h)
def tab_posthouseref6_Decides : List (Ent Try.prog lv X0) := posthouseref6_Decides_e :: tab_posthouseref6_uses
def posthouseref6_Variable_ca : Cod (List V) ByteArray := (lOne (vC cStr))
def posthouseref6_Variable_l2_s : SC ((ByteArray × Int) × Unit) := sLS [0, 3] (lCons (vC cStr) (lOne (vC (cInt .i64)))) lNil [] [] (by decide) (fun _ => rfl)
def posthouseref6_Variable_l2_o2 : SC ((ByteArray × Int × Bool) × Unit) := sLS [0, 3, 8] (lCons (vC cStr) (lCons (vC (cInt .i64)) (lOne (vC cBool)))) lNil [] [] (by decide) (fun _ => rfl)
def posthouseref6_Variable_l2_o1 : SC (Bool × Unit) := sLS [2] (lOne (vC cBool)) lNil [] [] (by decide) (fun _ => rfl)
def posthouseref6_Variable_l2_o : OC ((Bool × Unit) ⊕ ((ByteArray × Int × Bool) × Unit)) := oOr 1 posthouseref6_Variable_l2_o1 (oAt 2 posthouseref6_Variable_l2_o2) (fun x => (by decide : (2 : Nat) ≠ 1))
def posthouseref6_Variable_l2 (s : ByteArray) (i : Int) : Option ((Bool × Unit) ⊕ ((ByteArray × Int × Bool) × Unit)) := lS Try.prog lv X0 49 30 (getLoop (cdF Try.f49) 2) posthouseref6_Variable_l2_s posthouseref6_Variable_l2_o ((s, i), ())
def posthouseref6_Variable_l2_t (s : ByteArray) (i : Int) : Option ((Bool × Unit) ⊕ ((ByteArray × Int × Bool) × Unit)) :=
  (brE (decide (i < (((ByteArray.size s) : Nat) : Int)))
  (gdE ((decide ((0 : Int) ≤ i)) && (decide ((Int.toNat i) < (ByteArray.size s)))) <|
    (Option.bind (posthouseref5_In_s (Go.IntKind.wrap Go.IntKind.i64 (((UInt8.toNat (Array.getD (ByteArray.data s) (Int.toNat i) (0 : UInt8))) : Nat) : Int)) (97 : Int) (122 : Int)) fun r0 =>
      (brE ((!r0) == true)
        (brE ((decide (i > (0 : Int))) == true)
          (Option.bind (posthouseref5_In_s (Go.IntKind.wrap Go.IntKind.i64 (((UInt8.toNat (Array.getD (ByteArray.data s) (Int.toNat i) (0 : UInt8))) : Nat) : Int)) (48 : Int) (57 : Int)) fun r1 =>
            (brE (!r1)
              (some (.inl (false, ())))
              (posthouseref6_Variable_l2 s (Go.IntKind.wrap Go.IntKind.i64 (i + (1 : Int))))))
          (some (.inl (false, ()))))
        (posthouseref6_Variable_l2 s (Go.IntKind.wrap Go.IntKind.i64 (i + (1 : Int)))))))
  (some (.inr ((s, (i, false)), ()))))
theorem posthouseref6_Variable_l2_eq {s : ByteArray} {i : Int} {r : ((Bool × Unit) ⊕ ((ByteArray × Int × Bool) × Unit))} (h : posthouseref6_Variable_l2_t s i = some r) : posthouseref6_Variable_l2 s i = some r :=
  lS_tree (es := tab_posthouseref6_Decides) (hs := htab_prove_all_h14) [] (by kernel_rfl) trivial trivial (by kernel_rfl) h
def posthouseref6_Variable_l2_e : LEnt Try.prog lv X0 49 30 := lentS Try.prog lv X0 2 (getLoop (cdF Try.f49) 2) posthouseref6_Variable_l2_s posthouseref6_Variable_l2_o (fun x => posthouseref6_Variable_l2 x.1.1 x.1.2) (fun _ _ h => lS_from h)
def posthouseref6_Variable_cr : Cod (V × List B) Bool := (cFstU (cPair (vC cBool) lNil))
def posthouseref6_Variable_s (s : ByteArray) : Option Bool := fS Try.prog lv X0 49 posthouseref6_Variable_ca posthouseref6_Variable_cr s
def posthouseref6_Variable_t (s : ByteArray) : Option Bool :=
  (Option.bind (posthouseref6_Variable_l2 s (0 : Int)) fun r0 =>
  (Sum.elim (fun r1 => (some (r1).1))
    (fun r1 => (Option.bind (posthouseref5_In_s (((ByteArray.size ((r1).1).1) : Nat) : Int) (1 : Int) (60 : Int)) fun r2 =>
      (some r2))) r0))
theorem posthouseref6_Variable_eq {s : ByteArray} {r : Bool} (h : posthouseref6_Variable_t s = some r) : posthouseref6_Variable_s s = some r :=
  fS_tree (es := tab_posthouseref6_Decides) (hs := htab_prove_all_h14) [posthouseref6_Variable_l2_e] Try.func49 rfl (by kernel_rfl) rfl (by kernel_rfl) (by kernel_rfl) ⟨⟨_, rfl, rfl⟩, trivial⟩ trivial (by kernel_rfl) h
def posthouseref6_Variable_e : Ent Try.prog lv X0 := entS Try.prog lv X0 49 [] posthouseref6_Variable_ca posthouseref6_Variable_cr (fun x => posthouseref6_Variable_s x) (fun _ _ h => fS_call h)
def tab_posthouseref6_Variable : List (Ent Try.prog lv X0) := posthouseref6_Variable_e :: tab_posthouseref6_Decides
def posthouseref6_KeptBy_ca : Cod (List V) (List Int) := (lOne (vC (cSl ec_3)))
def posthouseref6_KeptBy_l3_s : SC (((List Int) × Bool × Int) × Unit) := sLS [0, 3, 4] (lCons (vC (cSl ec_3)) (lCons (vC cBool) (lOne (vC (cInt .i64))))) lNil [] [] (by decide) (fun _ => rfl)
def posthouseref6_KeptBy_l3_o2 : SC (((List Int) × Bool × Int × Bool) × Unit) := sLS [0, 3, 4, 8] (lCons (vC (cSl ec_3)) (lCons (vC cBool) (lCons (vC (cInt .i64)) (lOne (vC cBool))))) lNil [] [] (by decide) (fun _ => rfl)
def posthouseref6_KeptBy_l3_o1 : SC (Bool × Unit) := sLS [2] (lOne (vC cBool)) lNil [] [] (by decide) (fun _ => rfl)
def posthouseref6_KeptBy_l3_o : OC ((Bool × Unit) ⊕ (((List Int) × Bool × Int × Bool) × Unit)) := oOr 1 posthouseref6_KeptBy_l3_o1 (oAt 2 posthouseref6_KeptBy_l3_o2) (fun x => (by decide : (2 : Nat) ≠ 1))
def posthouseref6_KeptBy_l3 (acts : (List Int)) (decided : Bool) (i : Int) : Option ((Bool × Unit) ⊕ (((List Int) × Bool × Int × Bool) × Unit)) := lS Try.prog lv X0 12 33 (getLoop (cdF Try.f12) 3) posthouseref6_KeptBy_l3_s posthouseref6_KeptBy_l3_o ((acts, decided, i), ())
def posthouseref6_KeptBy_l3_t (acts : (List Int)) (decided : Bool) (i : Int) : Option ((Bool × Unit) ⊕ (((List Int) × Bool × Int × Bool) × Unit)) :=
  (brE (decide (i < (((List.length (EC.encL ec_3 acts)) : Nat) : Int)))
  (gdE (decide ((0 : Int) ≤ i)) <|
    (gdE ((decide ((Int.toNat i) < (List.length (EC.encL ec_3 acts)))) && (isE [(K1.int Go.IntKind.i64)] (0 : Nat) (List.getD (EC.encL ec_3 acts) (Int.toNat i) []))) <|
      (brE (((intOf (List.getD (List.getD (EC.encL ec_3 acts) (Int.toNat i) []) (0 : Nat) C.ne)) == (1 : Int)) == false)
        (gdE (decide ((0 : Int) ≤ i)) <|
          (gdE ((decide ((Int.toNat i) < (List.length (EC.encL ec_3 acts)))) && (isE [(K1.int Go.IntKind.i64)] (0 : Nat) (List.getD (EC.encL ec_3 acts) (Int.toNat i) []))) <|
            (brE ((intOf (List.getD (List.getD (EC.encL ec_3 acts) (Int.toNat i) []) (0 : Nat) C.ne)) == (2 : Int))
              (some (.inl (true, ())))
              (brE (decided == false)
                (gdE (decide ((0 : Int) ≤ i)) <|
                  (gdE ((decide ((Int.toNat i) < (List.length (EC.encL ec_3 acts)))) && (isE [(K1.int Go.IntKind.i64)] (0 : Nat) (List.getD (EC.encL ec_3 acts) (Int.toNat i) []))) <|
                    (Option.bind (posthouseref6_Decides_s (intOf (List.getD (List.getD (EC.encL ec_3 acts) (Int.toNat i) []) (0 : Nat) C.ne))) fun r0 =>
                      (gdE (EC.isL ec_3 (EC.encL ec_3 acts)) <|
                        (posthouseref6_KeptBy_l3 (EC.decL ec_3 (EC.encL ec_3 acts)) r0 (Go.IntKind.wrap Go.IntKind.i64 (i + (1 : Int))))))))
                (gdE (EC.isL ec_3 (EC.encL ec_3 acts)) <|
                  (posthouseref6_KeptBy_l3 (EC.decL ec_3 (EC.encL ec_3 acts)) true (Go.IntKind.wrap Go.IntKind.i64 (i + (1 : Int)))))))))
        (some (.inl (true, ()))))))
  (gdE (EC.isL ec_3 (EC.encL ec_3 acts)) <|
    (some (.inr (((EC.decL ec_3 (EC.encL ec_3 acts)), (decided, (i, false))), ())))))
theorem posthouseref6_KeptBy_l3_eq {acts : (List Int)} {decided : Bool} {i : Int} {r : ((Bool × Unit) ⊕ (((List Int) × Bool × Int × Bool) × Unit))} (h : posthouseref6_KeptBy_l3_t acts decided i = some r) : posthouseref6_KeptBy_l3 acts decided i = some r :=
  lS_tree (es := tab_posthouseref6_Variable) (hs := htab_prove_all_h14) [] (by kernel_rfl) trivial trivial (by kernel_rfl) h
def posthouseref6_KeptBy_l3_e : LEnt Try.prog lv X0 12 33 := lentS Try.prog lv X0 3 (getLoop (cdF Try.f12) 3) posthouseref6_KeptBy_l3_s posthouseref6_KeptBy_l3_o (fun x => posthouseref6_KeptBy_l3 x.1.1 x.1.2.1 x.1.2.2) (fun _ _ h => lS_from h)
def posthouseref6_KeptBy_cr : Cod (V × List B) Bool := (cFstU (cPair (vC cBool) lNil))
def posthouseref6_KeptBy_s (acts : (List Int)) : Option Bool := fS Try.prog lv X0 12 posthouseref6_KeptBy_ca posthouseref6_KeptBy_cr acts
def posthouseref6_KeptBy_t (acts : (List Int)) : Option Bool :=
  (gdE (EC.isL ec_3 (EC.encL ec_3 acts)) <|
  (Option.bind (posthouseref6_KeptBy_l3 (EC.decL ec_3 (EC.encL ec_3 acts)) false (0 : Int)) fun r0 =>
    (Sum.elim (fun r1 => (some (r1).1))
      (fun r1 => (some (!(((r1).1).2).1))) r0)))
theorem posthouseref6_KeptBy_eq {acts : (List Int)} {r : Bool} (h : posthouseref6_KeptBy_t acts = some r) : posthouseref6_KeptBy_s acts = some r :=
  fS_tree (es := tab_posthouseref6_Variable) (hs := htab_prove_all_h14) [posthouseref6_KeptBy_l3_e] Try.func12 rfl (by kernel_rfl) rfl (by kernel_rfl) (by kernel_rfl) ⟨⟨_, rfl, rfl⟩, trivial⟩ trivial (by kernel_rfl) h
def posthouseref6_KeptBy_e : Ent Try.prog lv X0 := entS Try.prog lv X0 12 [] posthouseref6_KeptBy_ca posthouseref6_KeptBy_cr (fun x => posthouseref6_KeptBy_s x) (fun _ _ h => fS_call h)
def tab_posthouseref6_KeptBy : List (Ent Try.prog lv X0) := posthouseref6_KeptBy_e :: tab_posthouseref6_Variable
def posthouseref6_TestFault_ca : Cod (List V) ((Int × (List S42) × ByteArray × Int × ByteArray × Int) × Int) := (lCons (vAgg (lCons (vC (cInt .i64)) (lCons (vC (cSl ec_42)) (lCons (vC cStr) (lCons (vC (cInt .i64)) (lCons (vC cStr) (lOne (vC (cInt .i64))))))))) (lOne (vC (cInt .i64))))
def posthouseref6_TestFault_cr : Cod (V × List B) Int := (cFstU (cPair (vC (cInt .i64)) lNil))
def posthouseref6_TestFault_s (t_Kind : Int) (t_Tests : (List S42)) (t_Name : ByteArray) (t_Pattern : Int) (t_Text : ByteArray) (t_N : Int) (depth : Int) : Option Int := fS Try.prog lv X0 47 posthouseref6_TestFault_ca posthouseref6_TestFault_cr ((t_Kind, t_Tests, t_Name, t_Pattern, t_Text, t_N), depth)
def posthouseref6_TestFault_e : Ent Try.prog lv X0 := entS Try.prog lv X0 47 [] posthouseref6_TestFault_ca posthouseref6_TestFault_cr (fun x => posthouseref6_TestFault_s x.1.1 x.1.2.1 x.1.2.2.1 x.1.2.2.2.1 x.1.2.2.2.2.1 x.1.2.2.2.2.2 x.2) (fun _ _ h => fS_call h)
def tab_posthouseref6_TestFault : List (Ent Try.prog lv X0) := posthouseref6_TestFault_e :: tab_posthouseref6_KeptBy
def posthouseref6_TestFault_l19_s : SC ((Int × Unit × Int) × (Int × (List S42) × ByteArray × Int × ByteArray × Int)) := sLS [1, 2, 9] (lCons (vC (cInt .i64)) (lCons (vPtr 0 0) (lOne (vC (cInt .i64))))) (lOne (oSome (bBox (lCons (vC (cInt .i64)) (lCons (vC (cSl ec_42)) (lCons (vC cStr) (lCons (vC (cInt .i64)) (lCons (vC cStr) (lOne (vC (cInt .i64))))))))))) [false] [] (by decide) (fun _ => rfl)
def posthouseref6_TestFault_l19_o2 : SC ((Int × Unit × Int × Bool) × (Int × (List S42) × ByteArray × Int × ByteArray × Int)) := sLS [1, 2, 9, 120] (lCons (vC (cInt .i64)) (lCons (vPtr 0 0) (lCons (vC (cInt .i64)) (lOne (vC cBool))))) (lOne (oSome (bBox (lCons (vC (cInt .i64)) (lCons (vC (cSl ec_42)) (lCons (vC cStr) (lCons (vC (cInt .i64)) (lCons (vC cStr) (lOne (vC (cInt .i64))))))))))) [false] [] (by decide) (fun _ => rfl)
def posthouseref6_TestFault_l19_o1 : SC (Int × Unit) := sLS [4] (lOne (vC (cInt .i64))) lNil [] [] (by decide) (fun _ => rfl)
def posthouseref6_TestFault_l19_o : OC ((Int × Unit) ⊕ ((Int × Unit × Int × Bool) × (Int × (List S42) × ByteArray × Int × ByteArray × Int))) := oOr 1 posthouseref6_TestFault_l19_o1 (oAt 2 posthouseref6_TestFault_l19_o2) (fun x => (by decide : (2 : Nat) ≠ 1))
def posthouseref6_TestFault_l19 (depth : Int) (i : Int) (b0 : Int) (b0_1 : (List S42)) (b0_2 : ByteArray) (b0_3 : Int) (b0_4 : ByteArray) (b0_5 : Int) : Option ((Int × Unit) ⊕ ((Int × Unit × Int × Bool) × (Int × (List S42) × ByteArray × Int × ByteArray × Int))) := lS Try.prog lv X0 47 134 (getLoop (cdF Try.f47) 19) posthouseref6_TestFault_l19_s posthouseref6_TestFault_l19_o ((depth, (), i), (b0, b0_1, b0_2, b0_3, b0_4, b0_5))
def posthouseref6_TestFault_l19_t (depth : Int) (i : Int) (b0 : Int) (b0_1 : (List S42)) (b0_2 : ByteArray) (b0_3 : Int) (b0_4 : ByteArray) (b0_5 : Int) : Option ((Int × Unit) ⊕ ((Int × Unit × Int × Bool) × (Int × (List S42) × ByteArray × Int × ByteArray × Int))) :=
  (brE (decide (i < (((List.length (EC.encL ec_42 b0_1)) : Nat) : Int)))
  (gdE (decide ((0 : Int) ≤ i)) <|
    (gdE ((decide ((Int.toNat i) < (List.length (EC.encL ec_42 b0_1)))) && (isE [(K1.int Go.IntKind.i64), K1.sl, K1.str, (K1.int Go.IntKind.i64), K1.str, (K1.int Go.IntKind.i64)] (0 : Nat) (List.getD (EC.encL ec_42 b0_1) (Int.toNat i) []))) <|
      (gdE (EC.isL ec_42 (slOf (List.getD (List.getD (EC.encL ec_42 b0_1) (Int.toNat i) []) (1 : Nat) C.ne))) <|
        (Option.bind (posthouseref6_TestFault_s (intOf (List.getD (List.getD (EC.encL ec_42 b0_1) (Int.toNat i) []) (0 : Nat) C.ne)) (EC.decL ec_42 (slOf (List.getD (List.getD (EC.encL ec_42 b0_1) (Int.toNat i) []) (1 : Nat) C.ne))) (strOf (List.getD (List.getD (EC.encL ec_42 b0_1) (Int.toNat i) []) (2 : Nat) C.ne)) (intOf (List.getD (List.getD (EC.encL ec_42 b0_1) (Int.toNat i) []) (3 : Nat) C.ne)) (strOf (List.getD (List.getD (EC.encL ec_42 b0_1) (Int.toNat i) []) (4 : Nat) C.ne)) (intOf (List.getD (List.getD (EC.encL ec_42 b0_1) (Int.toNat i) []) (5 : Nat) C.ne)) (Go.IntKind.wrap Go.IntKind.i64 (depth + (1 : Int)))) fun r0 =>
          (brE (r0 != (0 : Int))
            (some (.inl (r0, ())))
            (gdE (EC.isL ec_42 (EC.encL ec_42 b0_1)) <|
              (posthouseref6_TestFault_l19 depth (Go.IntKind.wrap Go.IntKind.i64 (i + (1 : Int))) b0 (EC.decL ec_42 (EC.encL ec_42 b0_1)) b0_2 b0_3 b0_4 b0_5)))))))
  (gdE (EC.isL ec_42 (EC.encL ec_42 b0_1)) <|
    (some (.inr ((depth, ((), (i, false))), (b0, ((EC.decL ec_42 (EC.encL ec_42 b0_1)), (b0_2, (b0_3, (b0_4, b0_5))))))))))
theorem posthouseref6_TestFault_l19_eq {depth : Int} {i : Int} {b0 : Int} {b0_1 : (List S42)} {b0_2 : ByteArray} {b0_3 : Int} {b0_4 : ByteArray} {b0_5 : Int} {r : ((Int × Unit) ⊕ ((Int × Unit × Int × Bool) × (Int × (List S42) × ByteArray × Int × ByteArray × Int)))} (h : posthouseref6_TestFault_l19_t depth i b0 b0_1 b0_2 b0_3 b0_4 b0_5 = some r) : posthouseref6_TestFault_l19 depth i b0 b0_1 b0_2 b0_3 b0_4 b0_5 = some r :=
  lS_tree (es := tab_posthouseref6_TestFault) (hs := htab_prove_all_h14) [] (by kernel_rfl) trivial trivial (by kernel_rfl) h
def posthouseref6_TestFault_l19_e : LEnt Try.prog lv X0 47 134 := lentS Try.prog lv X0 19 (getLoop (cdF Try.f47) 19) posthouseref6_TestFault_l19_s posthouseref6_TestFault_l19_o (fun x => posthouseref6_TestFault_l19 x.1.1 x.1.2.2 x.2.1 x.2.2.1 x.2.2.2.1 x.2.2.2.2.1 x.2.2.2.2.2.1 x.2.2.2.2.2.2) (fun _ _ h => lS_from h)
def posthouseref6_TestFault_g18_s : SC ((Int × Unit) × (Int × (List S42) × ByteArray × Int × ByteArray × Int)) := sLS [1, 2] (lCons (vC (cInt .i64)) (lOne (vPtr 0 0))) (lOne (oSome (bBox (lCons (vC (cInt .i64)) (lCons (vC (cSl ec_42)) (lCons (vC cStr) (lCons (vC (cInt .i64)) (lCons (vC cStr) (lOne (vC (cInt .i64))))))))))) [false] [] (by decide) (fun _ => rfl)
def posthouseref6_TestFault_g18_o1 : SC (Int × Unit) := sLS [4] (lOne (vC (cInt .i64))) lNil [] [] (by decide) (fun _ => rfl)
def posthouseref6_TestFault_g18_o : OC (Int × Unit) := oAt 1 posthouseref6_TestFault_g18_o1
def posthouseref6_TestFault_g18 (depth : Int) (b0 : Int) (b0_1 : (List S42)) (b0_2 : ByteArray) (b0_3 : Int) (b0_4 : ByteArray) (b0_5 : Int) : Option (Int × Unit) := gS Try.prog lv X0 47 134 (getSeg (cdF Try.f47) 18) posthouseref6_TestFault_g18_s posthouseref6_TestFault_g18_o ((depth, ()), (b0, b0_1, b0_2, b0_3, b0_4, b0_5))
def posthouseref6_TestFault_g18_t (depth : Int) (b0 : Int) (b0_1 : (List S42)) (b0_2 : ByteArray) (b0_3 : Int) (b0_4 : ByteArray) (b0_5 : Int) : Option (Int × Unit) :=
  (gdE (EC.isL ec_42 (EC.encL ec_42 b0_1)) <|
  (Option.bind (posthouseref6_TestFault_l19 depth (0 : Int) b0 (EC.decL ec_42 (EC.encL ec_42 b0_1)) b0_2 b0_3 b0_4 b0_5) fun r0 =>
    (Sum.elim (fun r1 => (some ((r1).1, ())))
      (fun r1 => (some ((0 : Int), ()))) r0)))
theorem posthouseref6_TestFault_g18_eq {depth : Int} {b0 : Int} {b0_1 : (List S42)} {b0_2 : ByteArray} {b0_3 : Int} {b0_4 : ByteArray} {b0_5 : Int} {r : (Int × Unit)} (h : posthouseref6_TestFault_g18_t depth b0 b0_1 b0_2 b0_3 b0_4 b0_5 = some r) : posthouseref6_TestFault_g18 depth b0 b0_1 b0_2 b0_3 b0_4 b0_5 = some r :=
  gS_tree (es := tab_posthouseref6_TestFault) (hs := htab_prove_all_h14) [posthouseref6_TestFault_l19_e] (by kernel_rfl) ⟨⟨_, rfl, rfl⟩, trivial⟩ trivial (by kernel_rfl) h
def posthouseref6_TestFault_g18_e : LEnt Try.prog lv X0 47 134 := gentS Try.prog lv X0 18 (getSeg (cdF Try.f47) 18) (by kernel_rfl) posthouseref6_TestFault_g18_s posthouseref6_TestFault_g18_o (fun x => posthouseref6_TestFault_g18 x.1.1 x.2.1 x.2.2.1 x.2.2.2.1 x.2.2.2.2.1 x.2.2.2.2.2.1 x.2.2.2.2.2.2) (fun _ _ h => gS_from h)
def posthouseref6_TestFault_g16_s : SC ((Int × Unit) × (Int × (List S42) × ByteArray × Int × ByteArray × Int)) := sLS [1, 2] (lCons (vC (cInt .i64)) (lOne (vPtr 0 0))) (lOne (oSome (bBox (lCons (vC (cInt .i64)) (lCons (vC (cSl ec_42)) (lCons (vC cStr) (lCons (vC (cInt .i64)) (lCons (vC cStr) (lOne (vC (cInt .i64))))))))))) [false] [] (by decide) (fun _ => rfl)
def posthouseref6_TestFault_g16_o1 : SC (Int × Unit) := sLS [4] (lOne (vC (cInt .i64))) lNil [] [] (by decide) (fun _ => rfl)
def posthouseref6_TestFault_g16_o : OC (Int × Unit) := oAt 1 posthouseref6_TestFault_g16_o1
def posthouseref6_TestFault_g16 (depth : Int) (b0 : Int) (b0_1 : (List S42)) (b0_2 : ByteArray) (b0_3 : Int) (b0_4 : ByteArray) (b0_5 : Int) : Option (Int × Unit) := gS Try.prog lv X0 47 134 (getSeg (cdF Try.f47) 16) posthouseref6_TestFault_g16_s posthouseref6_TestFault_g16_o ((depth, ()), (b0, b0_1, b0_2, b0_3, b0_4, b0_5))
def posthouseref6_TestFault_g16_t (depth : Int) (b0 : Int) (b0_1 : (List S42)) (b0_2 : ByteArray) (b0_3 : Int) (b0_4 : ByteArray) (b0_5 : Int) : Option (Int × Unit) :=
  (Option.bind (posthouseref5_In_s b0_5 (0 : Int) (1000000 : Int)) fun r0 =>
  (brE (!r0)
    (some ((3 : Int), ()))
    (gdE (EC.isL ec_42 (EC.encL ec_42 b0_1)) <|
      (Option.bind (posthouseref6_TestFault_g18 depth b0 (EC.decL ec_42 (EC.encL ec_42 b0_1)) b0_2 b0_3 b0_4 b0_5) fun r1 =>
        (some ((r1).1, ()))))))
theorem posthouseref6_TestFault_g16_eq {depth : Int} {b0 : Int} {b0_1 : (List S42)} {b0_2 : ByteArray} {b0_3 : Int} {b0_4 : ByteArray} {b0_5 : Int} {r : (Int × Unit)} (h : posthouseref6_TestFault_g16_t depth b0 b0_1 b0_2 b0_3 b0_4 b0_5 = some r) : posthouseref6_TestFault_g16 depth b0 b0_1 b0_2 b0_3 b0_4 b0_5 = some r :=
  gS_tree (es := tab_posthouseref6_TestFault) (hs := htab_prove_all_h14) [posthouseref6_TestFault_g18_e] (by kernel_rfl) trivial ⟨⟨_, rfl, rfl⟩, trivial⟩ (by kernel_rfl) h
def posthouseref6_TestFault_g16_e : LEnt Try.prog lv X0 47 134 := gentS Try.prog lv X0 16 (getSeg (cdF Try.f47) 16) (by kernel_rfl) posthouseref6_TestFault_g16_s posthouseref6_TestFault_g16_o (fun x => posthouseref6_TestFault_g16 x.1.1 x.2.1 x.2.2.1 x.2.2.2.1 x.2.2.2.2.1 x.2.2.2.2.2.1 x.2.2.2.2.2.2) (fun _ _ h => gS_from h)
def posthouseref6_TestFault_g14_s : SC ((Int × Unit) × (Int × (List S42) × ByteArray × Int × ByteArray × Int)) := sLS [1, 2] (lCons (vC (cInt .i64)) (lOne (vPtr 0 0))) (lOne (oSome (bBox (lCons (vC (cInt .i64)) (lCons (vC (cSl ec_42)) (lCons (vC cStr) (lCons (vC (cInt .i64)) (lCons (vC cStr) (lOne (vC (cInt .i64))))))))))) [false] [] (by decide) (fun _ => rfl)
def posthouseref6_TestFault_g14_o1 : SC (Int × Unit) := sLS [4] (lOne (vC (cInt .i64))) lNil [] [] (by decide) (fun _ => rfl)
def posthouseref6_TestFault_g14_o : OC (Int × Unit) := oAt 1 posthouseref6_TestFault_g14_o1
def posthouseref6_TestFault_g14 (depth : Int) (b0 : Int) (b0_1 : (List S42)) (b0_2 : ByteArray) (b0_3 : Int) (b0_4 : ByteArray) (b0_5 : Int) : Option (Int × Unit) := gS Try.prog lv X0 47 134 (getSeg (cdF Try.f47) 14) posthouseref6_TestFault_g14_s posthouseref6_TestFault_g14_o ((depth, ()), (b0, b0_1, b0_2, b0_3, b0_4, b0_5))
def posthouseref6_TestFault_g14_t (depth : Int) (b0 : Int) (b0_1 : (List S42)) (b0_2 : ByteArray) (b0_3 : Int) (b0_4 : ByteArray) (b0_5 : Int) : Option (Int × Unit) :=
  (brE (decide ((((ByteArray.size b0_4) : Nat) : Int) > (200 : Int)))
  (some ((1 : Int), ()))
  (gdE (EC.isL ec_42 (EC.encL ec_42 b0_1)) <|
    (Option.bind (posthouseref6_TestFault_g16 depth b0 (EC.decL ec_42 (EC.encL ec_42 b0_1)) b0_2 b0_3 b0_4 b0_5) fun r0 =>
      (some ((r0).1, ())))))
theorem posthouseref6_TestFault_g14_eq {depth : Int} {b0 : Int} {b0_1 : (List S42)} {b0_2 : ByteArray} {b0_3 : Int} {b0_4 : ByteArray} {b0_5 : Int} {r : (Int × Unit)} (h : posthouseref6_TestFault_g14_t depth b0 b0_1 b0_2 b0_3 b0_4 b0_5 = some r) : posthouseref6_TestFault_g14 depth b0 b0_1 b0_2 b0_3 b0_4 b0_5 = some r :=
  gS_tree (es := tab_posthouseref6_TestFault) (hs := htab_prove_all_h14) [posthouseref6_TestFault_g16_e] (by kernel_rfl) trivial ⟨⟨_, rfl, rfl⟩, trivial⟩ (by kernel_rfl) h
def posthouseref6_TestFault_g14_e : LEnt Try.prog lv X0 47 134 := gentS Try.prog lv X0 14 (getSeg (cdF Try.f47) 14) (by kernel_rfl) posthouseref6_TestFault_g14_s posthouseref6_TestFault_g14_o (fun x => posthouseref6_TestFault_g14 x.1.1 x.2.1 x.2.2.1 x.2.2.2.1 x.2.2.2.2.1 x.2.2.2.2.2.1 x.2.2.2.2.2.2) (fun _ _ h => gS_from h)
def posthouseref6_TestFault_g12_s : SC ((Int × Unit × Bool) × (Int × (List S42) × ByteArray × Int × ByteArray × Int)) := sLS [1, 2, 7] (lCons (vC (cInt .i64)) (lCons (vPtr 0 0) (lOne (vC cBool)))) (lOne (oSome (bBox (lCons (vC (cInt .i64)) (lCons (vC (cSl ec_42)) (lCons (vC cStr) (lCons (vC (cInt .i64)) (lCons (vC cStr) (lOne (vC (cInt .i64))))))))))) [false] [] (by decide) (fun _ => rfl)
def posthouseref6_TestFault_g12_o1 : SC (Int × Unit) := sLS [4] (lOne (vC (cInt .i64))) lNil [] [] (by decide) (fun _ => rfl)
def posthouseref6_TestFault_g12_o : OC (Int × Unit) := oAt 1 posthouseref6_TestFault_g12_o1
def posthouseref6_TestFault_g12 (depth : Int) (text : Bool) (b0 : Int) (b0_1 : (List S42)) (b0_2 : ByteArray) (b0_3 : Int) (b0_4 : ByteArray) (b0_5 : Int) : Option (Int × Unit) := gS Try.prog lv X0 47 134 (getSeg (cdF Try.f47) 12) posthouseref6_TestFault_g12_s posthouseref6_TestFault_g12_o ((depth, (), text), (b0, b0_1, b0_2, b0_3, b0_4, b0_5))
def posthouseref6_TestFault_g12_t (depth : Int) (text : Bool) (b0 : Int) (b0_1 : (List S42)) (b0_2 : ByteArray) (b0_3 : Int) (b0_4 : ByteArray) (b0_5 : Int) : Option (Int × Unit) :=
  (brE (text == true)
  (Option.bind (posthouseref5_In_s b0_3 (1 : Int) (3 : Int)) fun r0 =>
    (brE (!r0)
      (some ((4 : Int), ()))
      (gdE (EC.isL ec_42 (EC.encL ec_42 b0_1)) <|
        (Option.bind (posthouseref6_TestFault_g14 depth b0 (EC.decL ec_42 (EC.encL ec_42 b0_1)) b0_2 b0_3 b0_4 b0_5) fun r1 =>
          (some ((r1).1, ()))))))
  (gdE (EC.isL ec_42 (EC.encL ec_42 b0_1)) <|
    (Option.bind (posthouseref6_TestFault_g14 depth b0 (EC.decL ec_42 (EC.encL ec_42 b0_1)) b0_2 b0_3 b0_4 b0_5) fun r0 =>
      (some ((r0).1, ())))))
theorem posthouseref6_TestFault_g12_eq {depth : Int} {text : Bool} {b0 : Int} {b0_1 : (List S42)} {b0_2 : ByteArray} {b0_3 : Int} {b0_4 : ByteArray} {b0_5 : Int} {r : (Int × Unit)} (h : posthouseref6_TestFault_g12_t depth text b0 b0_1 b0_2 b0_3 b0_4 b0_5 = some r) : posthouseref6_TestFault_g12 depth text b0 b0_1 b0_2 b0_3 b0_4 b0_5 = some r :=
  gS_tree (es := tab_posthouseref6_TestFault) (hs := htab_prove_all_h14) [posthouseref6_TestFault_g14_e] (by kernel_rfl) trivial ⟨⟨_, rfl, rfl⟩, trivial⟩ (by kernel_rfl) h
def posthouseref6_TestFault_g12_e : LEnt Try.prog lv X0 47 134 := gentS Try.prog lv X0 12 (getSeg (cdF Try.f47) 12) (by kernel_rfl) posthouseref6_TestFault_g12_s posthouseref6_TestFault_g12_o (fun x => posthouseref6_TestFault_g12 x.1.1 x.1.2.2 x.2.1 x.2.2.1 x.2.2.2.1 x.2.2.2.2.1 x.2.2.2.2.2.1 x.2.2.2.2.2.2) (fun _ _ h => gS_from h)
def posthouseref6_TestFault_g10_s : SC ((Int × Unit × Bool × Bool) × (Int × (List S42) × ByteArray × Int × ByteArray × Int)) := sLS [1, 2, 6, 7] (lCons (vC (cInt .i64)) (lCons (vPtr 0 0) (lCons (vC cBool) (lOne (vC cBool))))) (lOne (oSome (bBox (lCons (vC (cInt .i64)) (lCons (vC (cSl ec_42)) (lCons (vC cStr) (lCons (vC (cInt .i64)) (lCons (vC cStr) (lOne (vC (cInt .i64))))))))))) [false] [] (by decide) (fun _ => rfl)
def posthouseref6_TestFault_g10_o1 : SC (Int × Unit) := sLS [4] (lOne (vC (cInt .i64))) lNil [] [] (by decide) (fun _ => rfl)
def posthouseref6_TestFault_g10_o : OC (Int × Unit) := oAt 1 posthouseref6_TestFault_g10_o1
def posthouseref6_TestFault_g10 (depth : Int) (name : Bool) (text : Bool) (b0 : Int) (b0_1 : (List S42)) (b0_2 : ByteArray) (b0_3 : Int) (b0_4 : ByteArray) (b0_5 : Int) : Option (Int × Unit) := gS Try.prog lv X0 47 134 (getSeg (cdF Try.f47) 10) posthouseref6_TestFault_g10_s posthouseref6_TestFault_g10_o ((depth, (), name, text), (b0, b0_1, b0_2, b0_3, b0_4, b0_5))
def posthouseref6_TestFault_g10_t (depth : Int) (name : Bool) (text : Bool) (b0 : Int) (b0_1 : (List S42)) (b0_2 : ByteArray) (b0_3 : Int) (b0_4 : ByteArray) (b0_5 : Int) : Option (Int × Unit) :=
  (brE (name == true)
  (Option.bind (posthouseref5_In_s (((ByteArray.size b0_2) : Nat) : Int) (1 : Int) (60 : Int)) fun r0 =>
    (brE (!r0)
      (some ((10 : Int), ()))
      (gdE (EC.isL ec_42 (EC.encL ec_42 b0_1)) <|
        (Option.bind (posthouseref6_TestFault_g12 depth text b0 (EC.decL ec_42 (EC.encL ec_42 b0_1)) b0_2 b0_3 b0_4 b0_5) fun r1 =>
          (some ((r1).1, ()))))))
  (gdE (EC.isL ec_42 (EC.encL ec_42 b0_1)) <|
    (Option.bind (posthouseref6_TestFault_g12 depth text b0 (EC.decL ec_42 (EC.encL ec_42 b0_1)) b0_2 b0_3 b0_4 b0_5) fun r0 =>
      (some ((r0).1, ())))))
theorem posthouseref6_TestFault_g10_eq {depth : Int} {name : Bool} {text : Bool} {b0 : Int} {b0_1 : (List S42)} {b0_2 : ByteArray} {b0_3 : Int} {b0_4 : ByteArray} {b0_5 : Int} {r : (Int × Unit)} (h : posthouseref6_TestFault_g10_t depth name text b0 b0_1 b0_2 b0_3 b0_4 b0_5 = some r) : posthouseref6_TestFault_g10 depth name text b0 b0_1 b0_2 b0_3 b0_4 b0_5 = some r :=
  gS_tree (es := tab_posthouseref6_TestFault) (hs := htab_prove_all_h14) [posthouseref6_TestFault_g12_e] (by kernel_rfl) trivial ⟨⟨_, rfl, rfl⟩, trivial⟩ (by kernel_rfl) h
def posthouseref6_TestFault_g10_e : LEnt Try.prog lv X0 47 134 := gentS Try.prog lv X0 10 (getSeg (cdF Try.f47) 10) (by kernel_rfl) posthouseref6_TestFault_g10_s posthouseref6_TestFault_g10_o (fun x => posthouseref6_TestFault_g10 x.1.1 x.1.2.2.1 x.1.2.2.2 x.2.1 x.2.2.1 x.2.2.2.1 x.2.2.2.2.1 x.2.2.2.2.2.1 x.2.2.2.2.2.2) (fun _ _ h => gS_from h)
def posthouseref6_TestFault_g8_s : SC ((Int × Unit × Bool × Bool × Bool) × (Int × (List S42) × ByteArray × Int × ByteArray × Int)) := sLS [1, 2, 6, 7, 8] (lCons (vC (cInt .i64)) (lCons (vPtr 0 0) (lCons (vC cBool) (lCons (vC cBool) (lOne (vC cBool)))))) (lOne (oSome (bBox (lCons (vC (cInt .i64)) (lCons (vC (cSl ec_42)) (lCons (vC cStr) (lCons (vC (cInt .i64)) (lCons (vC cStr) (lOne (vC (cInt .i64))))))))))) [false] [] (by decide) (fun _ => rfl)
def posthouseref6_TestFault_g8_o1 : SC (Int × Unit) := sLS [4] (lOne (vC (cInt .i64))) lNil [] [] (by decide) (fun _ => rfl)
def posthouseref6_TestFault_g8_o : OC (Int × Unit) := oAt 1 posthouseref6_TestFault_g8_o1
def posthouseref6_TestFault_g8 (depth : Int) (name : Bool) (text : Bool) (number : Bool) (b0 : Int) (b0_1 : (List S42)) (b0_2 : ByteArray) (b0_3 : Int) (b0_4 : ByteArray) (b0_5 : Int) : Option (Int × Unit) := gS Try.prog lv X0 47 134 (getSeg (cdF Try.f47) 8) posthouseref6_TestFault_g8_s posthouseref6_TestFault_g8_o ((depth, (), name, text, number), (b0, b0_1, b0_2, b0_3, b0_4, b0_5))
def posthouseref6_TestFault_g8_t (depth : Int) (name : Bool) (text : Bool) (number : Bool) (b0 : Int) (b0_1 : (List S42)) (b0_2 : ByteArray) (b0_3 : Int) (b0_4 : ByteArray) (b0_5 : Int) : Option (Int × Unit) :=
  (brE ((!name) == true)
  (brE ((!((ByteArray.toList b0_2) == (ByteArray.toList (ByteArray.mk (List.toArray []))))) == false)
    (brE ((!text) == true)
      (brE ((!((ByteArray.toList b0_4) == (ByteArray.toList (ByteArray.mk (List.toArray []))))) == false)
        (brE ((!text) == true)
          (brE ((b0_3 != (0 : Int)) == false)
            (brE ((!number) == true)
              (brE (b0_5 != (0 : Int))
                (some ((5 : Int), ()))
                (gdE (EC.isL ec_42 (EC.encL ec_42 b0_1)) <|
                  (Option.bind (posthouseref6_TestFault_g10 depth name text b0 (EC.decL ec_42 (EC.encL ec_42 b0_1)) b0_2 b0_3 b0_4 b0_5) fun r0 =>
                    (some ((r0).1, ())))))
              (gdE (EC.isL ec_42 (EC.encL ec_42 b0_1)) <|
                (Option.bind (posthouseref6_TestFault_g10 depth name text b0 (EC.decL ec_42 (EC.encL ec_42 b0_1)) b0_2 b0_3 b0_4 b0_5) fun r0 =>
                  (some ((r0).1, ())))))
            (some ((5 : Int), ())))
          (brE ((!number) == true)
            (brE (b0_5 != (0 : Int))
              (some ((5 : Int), ()))
              (gdE (EC.isL ec_42 (EC.encL ec_42 b0_1)) <|
                (Option.bind (posthouseref6_TestFault_g10 depth name text b0 (EC.decL ec_42 (EC.encL ec_42 b0_1)) b0_2 b0_3 b0_4 b0_5) fun r0 =>
                  (some ((r0).1, ())))))
            (gdE (EC.isL ec_42 (EC.encL ec_42 b0_1)) <|
              (Option.bind (posthouseref6_TestFault_g10 depth name text b0 (EC.decL ec_42 (EC.encL ec_42 b0_1)) b0_2 b0_3 b0_4 b0_5) fun r0 =>
                (some ((r0).1, ()))))))
        (some ((5 : Int), ())))
      (brE ((!text) == true)
        (brE ((b0_3 != (0 : Int)) == false)
          (brE ((!number) == true)
            (brE (b0_5 != (0 : Int))
              (some ((5 : Int), ()))
              (gdE (EC.isL ec_42 (EC.encL ec_42 b0_1)) <|
                (Option.bind (posthouseref6_TestFault_g10 depth name text b0 (EC.decL ec_42 (EC.encL ec_42 b0_1)) b0_2 b0_3 b0_4 b0_5) fun r0 =>
                  (some ((r0).1, ())))))
            (gdE (EC.isL ec_42 (EC.encL ec_42 b0_1)) <|
              (Option.bind (posthouseref6_TestFault_g10 depth name text b0 (EC.decL ec_42 (EC.encL ec_42 b0_1)) b0_2 b0_3 b0_4 b0_5) fun r0 =>
                (some ((r0).1, ())))))
          (some ((5 : Int), ())))
        (brE ((!number) == true)
          (brE (b0_5 != (0 : Int))
            (some ((5 : Int), ()))
            (gdE (EC.isL ec_42 (EC.encL ec_42 b0_1)) <|
              (Option.bind (posthouseref6_TestFault_g10 depth name text b0 (EC.decL ec_42 (EC.encL ec_42 b0_1)) b0_2 b0_3 b0_4 b0_5) fun r0 =>
                (some ((r0).1, ())))))
          (gdE (EC.isL ec_42 (EC.encL ec_42 b0_1)) <|
            (Option.bind (posthouseref6_TestFault_g10 depth name text b0 (EC.decL ec_42 (EC.encL ec_42 b0_1)) b0_2 b0_3 b0_4 b0_5) fun r0 =>
              (some ((r0).1, ())))))))
    (some ((5 : Int), ())))
  (brE ((!text) == true)
    (brE ((!((ByteArray.toList b0_4) == (ByteArray.toList (ByteArray.mk (List.toArray []))))) == false)
      (brE ((!text) == true)
        (brE ((b0_3 != (0 : Int)) == false)
          (brE ((!number) == true)
            (brE (b0_5 != (0 : Int))
              (some ((5 : Int), ()))
              (gdE (EC.isL ec_42 (EC.encL ec_42 b0_1)) <|
                (Option.bind (posthouseref6_TestFault_g10 depth name text b0 (EC.decL ec_42 (EC.encL ec_42 b0_1)) b0_2 b0_3 b0_4 b0_5) fun r0 =>
                  (some ((r0).1, ())))))
            (gdE (EC.isL ec_42 (EC.encL ec_42 b0_1)) <|
              (Option.bind (posthouseref6_TestFault_g10 depth name text b0 (EC.decL ec_42 (EC.encL ec_42 b0_1)) b0_2 b0_3 b0_4 b0_5) fun r0 =>
                (some ((r0).1, ())))))
          (some ((5 : Int), ())))
        (brE ((!number) == true)
          (brE (b0_5 != (0 : Int))
            (some ((5 : Int), ()))
            (gdE (EC.isL ec_42 (EC.encL ec_42 b0_1)) <|
              (Option.bind (posthouseref6_TestFault_g10 depth name text b0 (EC.decL ec_42 (EC.encL ec_42 b0_1)) b0_2 b0_3 b0_4 b0_5) fun r0 =>
                (some ((r0).1, ())))))
          (gdE (EC.isL ec_42 (EC.encL ec_42 b0_1)) <|
            (Option.bind (posthouseref6_TestFault_g10 depth name text b0 (EC.decL ec_42 (EC.encL ec_42 b0_1)) b0_2 b0_3 b0_4 b0_5) fun r0 =>
              (some ((r0).1, ()))))))
      (some ((5 : Int), ())))
    (brE ((!text) == true)
      (brE ((b0_3 != (0 : Int)) == false)
        (brE ((!number) == true)
          (brE (b0_5 != (0 : Int))
            (some ((5 : Int), ()))
            (gdE (EC.isL ec_42 (EC.encL ec_42 b0_1)) <|
              (Option.bind (posthouseref6_TestFault_g10 depth name text b0 (EC.decL ec_42 (EC.encL ec_42 b0_1)) b0_2 b0_3 b0_4 b0_5) fun r0 =>
                (some ((r0).1, ())))))
          (gdE (EC.isL ec_42 (EC.encL ec_42 b0_1)) <|
            (Option.bind (posthouseref6_TestFault_g10 depth name text b0 (EC.decL ec_42 (EC.encL ec_42 b0_1)) b0_2 b0_3 b0_4 b0_5) fun r0 =>
              (some ((r0).1, ())))))
        (some ((5 : Int), ())))
      (brE ((!number) == true)
        (brE (b0_5 != (0 : Int))
          (some ((5 : Int), ()))
          (gdE (EC.isL ec_42 (EC.encL ec_42 b0_1)) <|
            (Option.bind (posthouseref6_TestFault_g10 depth name text b0 (EC.decL ec_42 (EC.encL ec_42 b0_1)) b0_2 b0_3 b0_4 b0_5) fun r0 =>
              (some ((r0).1, ())))))
        (gdE (EC.isL ec_42 (EC.encL ec_42 b0_1)) <|
          (Option.bind (posthouseref6_TestFault_g10 depth name text b0 (EC.decL ec_42 (EC.encL ec_42 b0_1)) b0_2 b0_3 b0_4 b0_5) fun r0 =>
            (some ((r0).1, ()))))))))
theorem posthouseref6_TestFault_g8_eq {depth : Int} {name : Bool} {text : Bool} {number : Bool} {b0 : Int} {b0_1 : (List S42)} {b0_2 : ByteArray} {b0_3 : Int} {b0_4 : ByteArray} {b0_5 : Int} {r : (Int × Unit)} (h : posthouseref6_TestFault_g8_t depth name text number b0 b0_1 b0_2 b0_3 b0_4 b0_5 = some r) : posthouseref6_TestFault_g8 depth name text number b0 b0_1 b0_2 b0_3 b0_4 b0_5 = some r :=
  gS_tree (es := tab_posthouseref6_TestFault) (hs := htab_prove_all_h14) [posthouseref6_TestFault_g10_e] (by kernel_rfl) trivial ⟨⟨_, rfl, rfl⟩, trivial⟩ (by kernel_rfl) h
def posthouseref6_TestFault_g8_e : LEnt Try.prog lv X0 47 134 := gentS Try.prog lv X0 8 (getSeg (cdF Try.f47) 8) (by kernel_rfl) posthouseref6_TestFault_g8_s posthouseref6_TestFault_g8_o (fun x => posthouseref6_TestFault_g8 x.1.1 x.1.2.2.1 x.1.2.2.2.1 x.1.2.2.2.2 x.2.1 x.2.2.1 x.2.2.2.1 x.2.2.2.2.1 x.2.2.2.2.2.1 x.2.2.2.2.2.2) (fun _ _ h => gS_from h)
def posthouseref6_TestFault_g6_s : SC ((Int × Unit × Bool × Bool × Bool × Bool) × (Int × (List S42) × ByteArray × Int × ByteArray × Int)) := sLS [1, 2, 5, 6, 7, 8] (lCons (vC (cInt .i64)) (lCons (vPtr 0 0) (lCons (vC cBool) (lCons (vC cBool) (lCons (vC cBool) (lOne (vC cBool))))))) (lOne (oSome (bBox (lCons (vC (cInt .i64)) (lCons (vC (cSl ec_42)) (lCons (vC cStr) (lCons (vC (cInt .i64)) (lCons (vC cStr) (lOne (vC (cInt .i64))))))))))) [false] [] (by decide) (fun _ => rfl)
def posthouseref6_TestFault_g6_o1 : SC (Int × Unit) := sLS [4] (lOne (vC (cInt .i64))) lNil [] [] (by decide) (fun _ => rfl)
def posthouseref6_TestFault_g6_o : OC (Int × Unit) := oAt 1 posthouseref6_TestFault_g6_o1
def posthouseref6_TestFault_g6 (depth : Int) (tests : Bool) (name : Bool) (text : Bool) (number : Bool) (b0 : Int) (b0_1 : (List S42)) (b0_2 : ByteArray) (b0_3 : Int) (b0_4 : ByteArray) (b0_5 : Int) : Option (Int × Unit) := gS Try.prog lv X0 47 134 (getSeg (cdF Try.f47) 6) posthouseref6_TestFault_g6_s posthouseref6_TestFault_g6_o ((depth, (), tests, name, text, number), (b0, b0_1, b0_2, b0_3, b0_4, b0_5))
def posthouseref6_TestFault_g6_t (depth : Int) (tests : Bool) (name : Bool) (text : Bool) (number : Bool) (b0 : Int) (b0_1 : (List S42)) (b0_2 : ByteArray) (b0_3 : Int) (b0_4 : ByteArray) (b0_5 : Int) : Option (Int × Unit) :=
  (brE (tests == true)
  (brE (((((List.length (EC.encL ec_42 b0_1)) : Nat) : Int) == (0 : Int)) == false)
    (brE ((!tests) == true)
      (brE ((decide ((((List.length (EC.encL ec_42 b0_1)) : Nat) : Int) > (0 : Int))) == false)
        (brE ((b0 == (2 : Int)) == true)
          (brE ((decide ((((List.length (EC.encL ec_42 b0_1)) : Nat) : Int) > (1 : Int))) == false)
            (brE (decide ((((List.length (EC.encL ec_42 b0_1)) : Nat) : Int) > (60 : Int)))
              (some ((5 : Int), ()))
              (gdE (EC.isL ec_42 (EC.encL ec_42 b0_1)) <|
                (Option.bind (posthouseref6_TestFault_g8 depth name text number b0 (EC.decL ec_42 (EC.encL ec_42 b0_1)) b0_2 b0_3 b0_4 b0_5) fun r0 =>
                  (some ((r0).1, ())))))
            (some ((5 : Int), ())))
          (brE (decide ((((List.length (EC.encL ec_42 b0_1)) : Nat) : Int) > (60 : Int)))
            (some ((5 : Int), ()))
            (gdE (EC.isL ec_42 (EC.encL ec_42 b0_1)) <|
              (Option.bind (posthouseref6_TestFault_g8 depth name text number b0 (EC.decL ec_42 (EC.encL ec_42 b0_1)) b0_2 b0_3 b0_4 b0_5) fun r0 =>
                (some ((r0).1, ()))))))
        (some ((5 : Int), ())))
      (brE ((b0 == (2 : Int)) == true)
        (brE ((decide ((((List.length (EC.encL ec_42 b0_1)) : Nat) : Int) > (1 : Int))) == false)
          (brE (decide ((((List.length (EC.encL ec_42 b0_1)) : Nat) : Int) > (60 : Int)))
            (some ((5 : Int), ()))
            (gdE (EC.isL ec_42 (EC.encL ec_42 b0_1)) <|
              (Option.bind (posthouseref6_TestFault_g8 depth name text number b0 (EC.decL ec_42 (EC.encL ec_42 b0_1)) b0_2 b0_3 b0_4 b0_5) fun r0 =>
                (some ((r0).1, ())))))
          (some ((5 : Int), ())))
        (brE (decide ((((List.length (EC.encL ec_42 b0_1)) : Nat) : Int) > (60 : Int)))
          (some ((5 : Int), ()))
          (gdE (EC.isL ec_42 (EC.encL ec_42 b0_1)) <|
            (Option.bind (posthouseref6_TestFault_g8 depth name text number b0 (EC.decL ec_42 (EC.encL ec_42 b0_1)) b0_2 b0_3 b0_4 b0_5) fun r0 =>
              (some ((r0).1, ())))))))
    (some ((5 : Int), ())))
  (brE ((!tests) == true)
    (brE ((decide ((((List.length (EC.encL ec_42 b0_1)) : Nat) : Int) > (0 : Int))) == false)
      (brE ((b0 == (2 : Int)) == true)
        (brE ((decide ((((List.length (EC.encL ec_42 b0_1)) : Nat) : Int) > (1 : Int))) == false)
          (brE (decide ((((List.length (EC.encL ec_42 b0_1)) : Nat) : Int) > (60 : Int)))
            (some ((5 : Int), ()))
            (gdE (EC.isL ec_42 (EC.encL ec_42 b0_1)) <|
              (Option.bind (posthouseref6_TestFault_g8 depth name text number b0 (EC.decL ec_42 (EC.encL ec_42 b0_1)) b0_2 b0_3 b0_4 b0_5) fun r0 =>
                (some ((r0).1, ())))))
          (some ((5 : Int), ())))
        (brE (decide ((((List.length (EC.encL ec_42 b0_1)) : Nat) : Int) > (60 : Int)))
          (some ((5 : Int), ()))
          (gdE (EC.isL ec_42 (EC.encL ec_42 b0_1)) <|
            (Option.bind (posthouseref6_TestFault_g8 depth name text number b0 (EC.decL ec_42 (EC.encL ec_42 b0_1)) b0_2 b0_3 b0_4 b0_5) fun r0 =>
              (some ((r0).1, ()))))))
      (some ((5 : Int), ())))
    (brE ((b0 == (2 : Int)) == true)
      (brE ((decide ((((List.length (EC.encL ec_42 b0_1)) : Nat) : Int) > (1 : Int))) == false)
        (brE (decide ((((List.length (EC.encL ec_42 b0_1)) : Nat) : Int) > (60 : Int)))
          (some ((5 : Int), ()))
          (gdE (EC.isL ec_42 (EC.encL ec_42 b0_1)) <|
            (Option.bind (posthouseref6_TestFault_g8 depth name text number b0 (EC.decL ec_42 (EC.encL ec_42 b0_1)) b0_2 b0_3 b0_4 b0_5) fun r0 =>
              (some ((r0).1, ())))))
        (some ((5 : Int), ())))
      (brE (decide ((((List.length (EC.encL ec_42 b0_1)) : Nat) : Int) > (60 : Int)))
        (some ((5 : Int), ()))
        (gdE (EC.isL ec_42 (EC.encL ec_42 b0_1)) <|
          (Option.bind (posthouseref6_TestFault_g8 depth name text number b0 (EC.decL ec_42 (EC.encL ec_42 b0_1)) b0_2 b0_3 b0_4 b0_5) fun r0 =>
            (some ((r0).1, ()))))))))
theorem posthouseref6_TestFault_g6_eq {depth : Int} {tests : Bool} {name : Bool} {text : Bool} {number : Bool} {b0 : Int} {b0_1 : (List S42)} {b0_2 : ByteArray} {b0_3 : Int} {b0_4 : ByteArray} {b0_5 : Int} {r : (Int × Unit)} (h : posthouseref6_TestFault_g6_t depth tests name text number b0 b0_1 b0_2 b0_3 b0_4 b0_5 = some r) : posthouseref6_TestFault_g6 depth tests name text number b0 b0_1 b0_2 b0_3 b0_4 b0_5 = some r :=
  gS_tree (es := tab_posthouseref6_TestFault) (hs := htab_prove_all_h14) [posthouseref6_TestFault_g8_e] (by kernel_rfl) trivial ⟨⟨_, rfl, rfl⟩, trivial⟩ (by kernel_rfl) h
def posthouseref6_TestFault_g6_e : LEnt Try.prog lv X0 47 134 := gentS Try.prog lv X0 6 (getSeg (cdF Try.f47) 6) (by kernel_rfl) posthouseref6_TestFault_g6_s posthouseref6_TestFault_g6_o (fun x => posthouseref6_TestFault_g6 x.1.1 x.1.2.2.1 x.1.2.2.2.1 x.1.2.2.2.2.1 x.1.2.2.2.2.2 x.2.1 x.2.2.1 x.2.2.2.1 x.2.2.2.2.1 x.2.2.2.2.2.1 x.2.2.2.2.2.2) (fun _ _ h => gS_from h)
def posthouseref6_TestFault_t (t_Kind : Int) (t_Tests : (List S42)) (t_Name : ByteArray) (t_Pattern : Int) (t_Text : ByteArray) (t_N : Int) (depth : Int) : Option Int :=
  (brE (decide (depth > (8 : Int)))
  (some (5 : Int))
  (Option.bind (posthouseref5_In_s t_Kind (1 : Int) (9 : Int)) fun r0 =>
    (brE (!r0)
      (some (4 : Int))
      (Option.bind (posthouseref6_uses_s t_Kind) fun r1 =>
        (gdE (EC.isL ec_42 (EC.encL ec_42 t_Tests)) <|
          (Option.bind (posthouseref6_TestFault_g6 depth (r1).1 ((r1).2).1 (((r1).2).2).1 (((r1).2).2).2 t_Kind (EC.decL ec_42 (EC.encL ec_42 t_Tests)) t_Name t_Pattern t_Text t_N) fun r2 =>
            (some (r2).1)))))))
theorem posthouseref6_TestFault_eq {t_Kind : Int} {t_Tests : (List S42)} {t_Name : ByteArray} {t_Pattern : Int} {t_Text : ByteArray} {t_N : Int} {depth : Int} {r : Int} (h : posthouseref6_TestFault_t t_Kind t_Tests t_Name t_Pattern t_Text t_N depth = some r) : posthouseref6_TestFault_s t_Kind t_Tests t_Name t_Pattern t_Text t_N depth = some r :=
  fS_tree (es := tab_posthouseref6_TestFault) (hs := htab_prove_all_h14) [posthouseref6_TestFault_g6_e] Try.func47 rfl (by kernel_rfl) rfl (by kernel_rfl) (by kernel_rfl) trivial ⟨⟨_, rfl, rfl⟩, trivial⟩ (by kernel_rfl) h
def posthouseref6_RuleFault_ca : Cod (List V) (Int × Int × (List S42) × ByteArray × Int × ByteArray × Int × (List S44) × (List S44) × Int × ByteArray × ByteArray × Int) := (lOne (vAgg (lCons (vC (cInt .i64)) (lCons (vC (cInt .i64)) (lCons (vC (cSl ec_42)) (lCons (vC cStr) (lCons (vC (cInt .i64)) (lCons (vC cStr) (lCons (vC (cInt .i64)) (lCons (vC (cSl ec_44)) (lCons (vC (cSl ec_44)) (lCons (vC (cInt .i64)) (lCons (vC cStr) (lCons (vC cStr) (lOne (vC (cInt .i64)))))))))))))))))
def posthouseref6_RuleFault_g15_s : SC (Unit × (Int × Int × (List S42) × ByteArray × Int × ByteArray × Int × (List S44) × (List S44) × Int × ByteArray × ByteArray × Int)) := sLS [1] (lOne (vPtr 0 0)) (lOne (oSome (bBox (lCons (vC (cInt .i64)) (lCons (vC (cInt .i64)) (lCons (vC (cSl ec_42)) (lCons (vC cStr) (lCons (vC (cInt .i64)) (lCons (vC cStr) (lCons (vC (cInt .i64)) (lCons (vC (cSl ec_44)) (lCons (vC (cSl ec_44)) (lCons (vC (cInt .i64)) (lCons (vC cStr) (lCons (vC cStr) (lOne (vC (cInt .i64)))))))))))))))))) [false] [] (by decide) (fun _ => rfl)
def posthouseref6_RuleFault_g15_o1 : SC (Int × Unit) := sLS [2] (lOne (vC (cInt .i64))) lNil [] [] (by decide) (fun _ => rfl)
def posthouseref6_RuleFault_g15_o0 : SC ((Unit × Bool) × (Int × Int × (List S42) × ByteArray × Int × ByteArray × Int × (List S44) × (List S44) × Int × ByteArray × ByteArray × Int)) := sLS [1, 133] (lCons (vPtr 0 0) (lOne (vC cBool))) (lOne (oSome (bBox (lCons (vC (cInt .i64)) (lCons (vC (cInt .i64)) (lCons (vC (cSl ec_42)) (lCons (vC cStr) (lCons (vC (cInt .i64)) (lCons (vC cStr) (lCons (vC (cInt .i64)) (lCons (vC (cSl ec_44)) (lCons (vC (cSl ec_44)) (lCons (vC (cInt .i64)) (lCons (vC cStr) (lCons (vC cStr) (lOne (vC (cInt .i64)))))))))))))))))) [false] [] (by decide) (fun _ => rfl)
def posthouseref6_RuleFault_g15_o : OC (((Unit × Bool) × (Int × Int × (List S42) × ByteArray × Int × ByteArray × Int × (List S44) × (List S44) × Int × ByteArray × ByteArray × Int)) ⊕ (Int × Unit)) := oOr 0 posthouseref6_RuleFault_g15_o0 (oAt 1 posthouseref6_RuleFault_g15_o1) (fun x => (by decide : (1 : Nat) ≠ 0))
def posthouseref6_RuleFault_g15 (b0 : Int) (b0_1 : Int) (b0_2 : (List S42)) (b0_3 : ByteArray) (b0_4 : Int) (b0_5 : ByteArray) (b0_6 : Int) (b0_7 : (List S44)) (b0_8 : (List S44)) (b0_9 : Int) (b0_10 : ByteArray) (b0_11 : ByteArray) (b0_12 : Int) : Option (((Unit × Bool) × (Int × Int × (List S42) × ByteArray × Int × ByteArray × Int × (List S44) × (List S44) × Int × ByteArray × ByteArray × Int)) ⊕ (Int × Unit)) := gS Try.prog lv X0 40 151 (getSeg (cdF Try.f40) 15) posthouseref6_RuleFault_g15_s posthouseref6_RuleFault_g15_o ((), (b0, b0_1, b0_2, b0_3, b0_4, b0_5, b0_6, b0_7, b0_8, b0_9, b0_10, b0_11, b0_12))
def posthouseref6_RuleFault_g15_t (b0 : Int) (b0_1 : Int) (b0_2 : (List S42)) (b0_3 : ByteArray) (b0_4 : Int) (b0_5 : ByteArray) (b0_6 : Int) (b0_7 : (List S44)) (b0_8 : (List S44)) (b0_9 : Int) (b0_10 : ByteArray) (b0_11 : ByteArray) (b0_12 : Int) : Option (((Unit × Bool) × (Int × Int × (List S42) × ByteArray × Int × ByteArray × Int × (List S44) × (List S44) × Int × ByteArray × ByteArray × Int)) ⊕ (Int × Unit)) :=
  (Option.bind (posthouseref6_Texted_s b0_9) fun r0 =>
  (brE ((!r0) == true)
    (brE ((!((ByteArray.toList b0_11) == (ByteArray.toList (ByteArray.mk (List.toArray []))))) == false)
      (brE ((b0_9 != (6 : Int)) == true)
        (brE (b0_12 != (0 : Int))
          (some (.inr ((5 : Int), ())))
          (gdE (EC.isL ec_42 (EC.encL ec_42 b0_2)) <|
            (gdE (EC.isL ec_44 (EC.encL ec_44 b0_7)) <|
              (gdE (EC.isL ec_44 (EC.encL ec_44 b0_8)) <|
                (some (.inl (((), false), (b0, (b0_1, ((EC.decL ec_42 (EC.encL ec_42 b0_2)), (b0_3, (b0_4, (b0_5, (b0_6, ((EC.decL ec_44 (EC.encL ec_44 b0_7)), ((EC.decL ec_44 (EC.encL ec_44 b0_8)), (b0_9, (b0_10, (b0_11, b0_12)))))))))))))))))))
        (gdE (EC.isL ec_42 (EC.encL ec_42 b0_2)) <|
          (gdE (EC.isL ec_44 (EC.encL ec_44 b0_7)) <|
            (gdE (EC.isL ec_44 (EC.encL ec_44 b0_8)) <|
              (some (.inl (((), false), (b0, (b0_1, ((EC.decL ec_42 (EC.encL ec_42 b0_2)), (b0_3, (b0_4, (b0_5, (b0_6, ((EC.decL ec_44 (EC.encL ec_44 b0_7)), ((EC.decL ec_44 (EC.encL ec_44 b0_8)), (b0_9, (b0_10, (b0_11, b0_12)))))))))))))))))))
      (some (.inr ((5 : Int), ()))))
    (brE ((b0_9 != (6 : Int)) == true)
      (brE (b0_12 != (0 : Int))
        (some (.inr ((5 : Int), ())))
        (gdE (EC.isL ec_42 (EC.encL ec_42 b0_2)) <|
          (gdE (EC.isL ec_44 (EC.encL ec_44 b0_7)) <|
            (gdE (EC.isL ec_44 (EC.encL ec_44 b0_8)) <|
              (some (.inl (((), false), (b0, (b0_1, ((EC.decL ec_42 (EC.encL ec_42 b0_2)), (b0_3, (b0_4, (b0_5, (b0_6, ((EC.decL ec_44 (EC.encL ec_44 b0_7)), ((EC.decL ec_44 (EC.encL ec_44 b0_8)), (b0_9, (b0_10, (b0_11, b0_12)))))))))))))))))))
      (gdE (EC.isL ec_42 (EC.encL ec_42 b0_2)) <|
        (gdE (EC.isL ec_44 (EC.encL ec_44 b0_7)) <|
          (gdE (EC.isL ec_44 (EC.encL ec_44 b0_8)) <|
            (some (.inl (((), false), (b0, (b0_1, ((EC.decL ec_42 (EC.encL ec_42 b0_2)), (b0_3, (b0_4, (b0_5, (b0_6, ((EC.decL ec_44 (EC.encL ec_44 b0_7)), ((EC.decL ec_44 (EC.encL ec_44 b0_8)), (b0_9, (b0_10, (b0_11, b0_12)))))))))))))))))))))
theorem posthouseref6_RuleFault_g15_eq {b0 : Int} {b0_1 : Int} {b0_2 : (List S42)} {b0_3 : ByteArray} {b0_4 : Int} {b0_5 : ByteArray} {b0_6 : Int} {b0_7 : (List S44)} {b0_8 : (List S44)} {b0_9 : Int} {b0_10 : ByteArray} {b0_11 : ByteArray} {b0_12 : Int} {r : (((Unit × Bool) × (Int × Int × (List S42) × ByteArray × Int × ByteArray × Int × (List S44) × (List S44) × Int × ByteArray × ByteArray × Int)) ⊕ (Int × Unit))} (h : posthouseref6_RuleFault_g15_t b0 b0_1 b0_2 b0_3 b0_4 b0_5 b0_6 b0_7 b0_8 b0_9 b0_10 b0_11 b0_12 = some r) : posthouseref6_RuleFault_g15 b0 b0_1 b0_2 b0_3 b0_4 b0_5 b0_6 b0_7 b0_8 b0_9 b0_10 b0_11 b0_12 = some r :=
  gS_tree (es := tab_posthouseref6_TestFault) (hs := htab_prove_all_h14) [] (by kernel_rfl) trivial trivial (by kernel_rfl) h
def posthouseref6_RuleFault_g15_e : LEnt Try.prog lv X0 40 151 := gentS Try.prog lv X0 15 (getSeg (cdF Try.f40) 15) (by kernel_rfl) posthouseref6_RuleFault_g15_s posthouseref6_RuleFault_g15_o (fun x => posthouseref6_RuleFault_g15 x.2.1 x.2.2.1 x.2.2.2.1 x.2.2.2.2.1 x.2.2.2.2.2.1 x.2.2.2.2.2.2.1 x.2.2.2.2.2.2.2.1 x.2.2.2.2.2.2.2.2.1 x.2.2.2.2.2.2.2.2.2.1 x.2.2.2.2.2.2.2.2.2.2.1 x.2.2.2.2.2.2.2.2.2.2.2.1 x.2.2.2.2.2.2.2.2.2.2.2.2.1 x.2.2.2.2.2.2.2.2.2.2.2.2.2) (fun _ _ h => gS_from h)
def posthouseref6_RuleFault_g21_s : SC (Unit × (Int × Int × (List S42) × ByteArray × Int × ByteArray × Int × (List S44) × (List S44) × Int × ByteArray × ByteArray × Int)) := sLS [1] (lOne (vPtr 0 0)) (lOne (oSome (bBox (lCons (vC (cInt .i64)) (lCons (vC (cInt .i64)) (lCons (vC (cSl ec_42)) (lCons (vC cStr) (lCons (vC (cInt .i64)) (lCons (vC cStr) (lCons (vC (cInt .i64)) (lCons (vC (cSl ec_44)) (lCons (vC (cSl ec_44)) (lCons (vC (cInt .i64)) (lCons (vC cStr) (lCons (vC cStr) (lOne (vC (cInt .i64)))))))))))))))))) [false] [] (by decide) (fun _ => rfl)
def posthouseref6_RuleFault_g21_o1 : SC (Int × Unit) := sLS [2] (lOne (vC (cInt .i64))) lNil [] [] (by decide) (fun _ => rfl)
def posthouseref6_RuleFault_g21_o : OC (Int × Unit) := oAt 1 posthouseref6_RuleFault_g21_o1
def posthouseref6_RuleFault_g21 (b0 : Int) (b0_1 : Int) (b0_2 : (List S42)) (b0_3 : ByteArray) (b0_4 : Int) (b0_5 : ByteArray) (b0_6 : Int) (b0_7 : (List S44)) (b0_8 : (List S44)) (b0_9 : Int) (b0_10 : ByteArray) (b0_11 : ByteArray) (b0_12 : Int) : Option (Int × Unit) := gS Try.prog lv X0 40 151 (getSeg (cdF Try.f40) 21) posthouseref6_RuleFault_g21_s posthouseref6_RuleFault_g21_o ((), (b0, b0_1, b0_2, b0_3, b0_4, b0_5, b0_6, b0_7, b0_8, b0_9, b0_10, b0_11, b0_12))
def posthouseref6_RuleFault_g21_t (b0 : Int) (b0_1 : Int) (b0_2 : (List S42)) (b0_3 : ByteArray) (b0_4 : Int) (b0_5 : ByteArray) (b0_6 : Int) (b0_7 : (List S44)) (b0_8 : (List S44)) (b0_9 : Int) (b0_10 : ByteArray) (b0_11 : ByteArray) (b0_12 : Int) : Option (Int × Unit) :=
  (Option.bind (posthouseref5_In_s b0_12 (0 : Int) (63 : Int)) fun r0 =>
  (brE (!r0)
    (some ((3 : Int), ()))
    (some ((0 : Int), ()))))
theorem posthouseref6_RuleFault_g21_eq {b0 : Int} {b0_1 : Int} {b0_2 : (List S42)} {b0_3 : ByteArray} {b0_4 : Int} {b0_5 : ByteArray} {b0_6 : Int} {b0_7 : (List S44)} {b0_8 : (List S44)} {b0_9 : Int} {b0_10 : ByteArray} {b0_11 : ByteArray} {b0_12 : Int} {r : (Int × Unit)} (h : posthouseref6_RuleFault_g21_t b0 b0_1 b0_2 b0_3 b0_4 b0_5 b0_6 b0_7 b0_8 b0_9 b0_10 b0_11 b0_12 = some r) : posthouseref6_RuleFault_g21 b0 b0_1 b0_2 b0_3 b0_4 b0_5 b0_6 b0_7 b0_8 b0_9 b0_10 b0_11 b0_12 = some r :=
  gS_tree (es := tab_posthouseref6_TestFault) (hs := htab_prove_all_h14) [] (by kernel_rfl) trivial trivial (by kernel_rfl) h
def posthouseref6_RuleFault_g21_e : LEnt Try.prog lv X0 40 151 := gentS Try.prog lv X0 21 (getSeg (cdF Try.f40) 21) (by kernel_rfl) posthouseref6_RuleFault_g21_s posthouseref6_RuleFault_g21_o (fun x => posthouseref6_RuleFault_g21 x.2.1 x.2.2.1 x.2.2.2.1 x.2.2.2.2.1 x.2.2.2.2.2.1 x.2.2.2.2.2.2.1 x.2.2.2.2.2.2.2.1 x.2.2.2.2.2.2.2.2.1 x.2.2.2.2.2.2.2.2.2.1 x.2.2.2.2.2.2.2.2.2.2.1 x.2.2.2.2.2.2.2.2.2.2.2.1 x.2.2.2.2.2.2.2.2.2.2.2.2.1 x.2.2.2.2.2.2.2.2.2.2.2.2.2) (fun _ _ h => gS_from h)
def posthouseref6_RuleFault_g19_s : SC (Unit × (Int × Int × (List S42) × ByteArray × Int × ByteArray × Int × (List S44) × (List S44) × Int × ByteArray × ByteArray × Int)) := sLS [1] (lOne (vPtr 0 0)) (lOne (oSome (bBox (lCons (vC (cInt .i64)) (lCons (vC (cInt .i64)) (lCons (vC (cSl ec_42)) (lCons (vC cStr) (lCons (vC (cInt .i64)) (lCons (vC cStr) (lCons (vC (cInt .i64)) (lCons (vC (cSl ec_44)) (lCons (vC (cSl ec_44)) (lCons (vC (cInt .i64)) (lCons (vC cStr) (lCons (vC cStr) (lOne (vC (cInt .i64)))))))))))))))))) [false] [] (by decide) (fun _ => rfl)
def posthouseref6_RuleFault_g19_o1 : SC (Int × Unit) := sLS [2] (lOne (vC (cInt .i64))) lNil [] [] (by decide) (fun _ => rfl)
def posthouseref6_RuleFault_g19_o : OC (Int × Unit) := oAt 1 posthouseref6_RuleFault_g19_o1
def posthouseref6_RuleFault_g19 (b0 : Int) (b0_1 : Int) (b0_2 : (List S42)) (b0_3 : ByteArray) (b0_4 : Int) (b0_5 : ByteArray) (b0_6 : Int) (b0_7 : (List S44)) (b0_8 : (List S44)) (b0_9 : Int) (b0_10 : ByteArray) (b0_11 : ByteArray) (b0_12 : Int) : Option (Int × Unit) := gS Try.prog lv X0 40 151 (getSeg (cdF Try.f40) 19) posthouseref6_RuleFault_g19_s posthouseref6_RuleFault_g19_o ((), (b0, b0_1, b0_2, b0_3, b0_4, b0_5, b0_6, b0_7, b0_8, b0_9, b0_10, b0_11, b0_12))
def posthouseref6_RuleFault_g19_t (b0 : Int) (b0_1 : Int) (b0_2 : (List S42)) (b0_3 : ByteArray) (b0_4 : Int) (b0_5 : ByteArray) (b0_6 : Int) (b0_7 : (List S44)) (b0_8 : (List S44)) (b0_9 : Int) (b0_10 : ByteArray) (b0_11 : ByteArray) (b0_12 : Int) : Option (Int × Unit) :=
  (brE (decide ((((ByteArray.size b0_11) : Nat) : Int) > (200 : Int)))
  (some ((1 : Int), ()))
  (gdE (EC.isL ec_42 (EC.encL ec_42 b0_2)) <|
    (gdE (EC.isL ec_44 (EC.encL ec_44 b0_7)) <|
      (gdE (EC.isL ec_44 (EC.encL ec_44 b0_8)) <|
        (Option.bind (posthouseref6_RuleFault_g21 b0 b0_1 (EC.decL ec_42 (EC.encL ec_42 b0_2)) b0_3 b0_4 b0_5 b0_6 (EC.decL ec_44 (EC.encL ec_44 b0_7)) (EC.decL ec_44 (EC.encL ec_44 b0_8)) b0_9 b0_10 b0_11 b0_12) fun r0 =>
          (some ((r0).1, ())))))))
theorem posthouseref6_RuleFault_g19_eq {b0 : Int} {b0_1 : Int} {b0_2 : (List S42)} {b0_3 : ByteArray} {b0_4 : Int} {b0_5 : ByteArray} {b0_6 : Int} {b0_7 : (List S44)} {b0_8 : (List S44)} {b0_9 : Int} {b0_10 : ByteArray} {b0_11 : ByteArray} {b0_12 : Int} {r : (Int × Unit)} (h : posthouseref6_RuleFault_g19_t b0 b0_1 b0_2 b0_3 b0_4 b0_5 b0_6 b0_7 b0_8 b0_9 b0_10 b0_11 b0_12 = some r) : posthouseref6_RuleFault_g19 b0 b0_1 b0_2 b0_3 b0_4 b0_5 b0_6 b0_7 b0_8 b0_9 b0_10 b0_11 b0_12 = some r :=
  gS_tree (es := tab_posthouseref6_TestFault) (hs := htab_prove_all_h14) [posthouseref6_RuleFault_g21_e] (by kernel_rfl) trivial ⟨⟨_, rfl, rfl⟩, trivial⟩ (by kernel_rfl) h
def posthouseref6_RuleFault_g19_e : LEnt Try.prog lv X0 40 151 := gentS Try.prog lv X0 19 (getSeg (cdF Try.f40) 19) (by kernel_rfl) posthouseref6_RuleFault_g19_s posthouseref6_RuleFault_g19_o (fun x => posthouseref6_RuleFault_g19 x.2.1 x.2.2.1 x.2.2.2.1 x.2.2.2.2.1 x.2.2.2.2.2.1 x.2.2.2.2.2.2.1 x.2.2.2.2.2.2.2.1 x.2.2.2.2.2.2.2.2.1 x.2.2.2.2.2.2.2.2.2.1 x.2.2.2.2.2.2.2.2.2.2.1 x.2.2.2.2.2.2.2.2.2.2.2.1 x.2.2.2.2.2.2.2.2.2.2.2.2.1 x.2.2.2.2.2.2.2.2.2.2.2.2.2) (fun _ _ h => gS_from h)
def posthouseref6_RuleFault_g17_s : SC (Unit × (Int × Int × (List S42) × ByteArray × Int × ByteArray × Int × (List S44) × (List S44) × Int × ByteArray × ByteArray × Int)) := sLS [1] (lOne (vPtr 0 0)) (lOne (oSome (bBox (lCons (vC (cInt .i64)) (lCons (vC (cInt .i64)) (lCons (vC (cSl ec_42)) (lCons (vC cStr) (lCons (vC (cInt .i64)) (lCons (vC cStr) (lCons (vC (cInt .i64)) (lCons (vC (cSl ec_44)) (lCons (vC (cSl ec_44)) (lCons (vC (cInt .i64)) (lCons (vC cStr) (lCons (vC cStr) (lOne (vC (cInt .i64)))))))))))))))))) [false] [] (by decide) (fun _ => rfl)
def posthouseref6_RuleFault_g17_o1 : SC (Int × Unit) := sLS [2] (lOne (vC (cInt .i64))) lNil [] [] (by decide) (fun _ => rfl)
def posthouseref6_RuleFault_g17_o : OC (Int × Unit) := oAt 1 posthouseref6_RuleFault_g17_o1
def posthouseref6_RuleFault_g17 (b0 : Int) (b0_1 : Int) (b0_2 : (List S42)) (b0_3 : ByteArray) (b0_4 : Int) (b0_5 : ByteArray) (b0_6 : Int) (b0_7 : (List S44)) (b0_8 : (List S44)) (b0_9 : Int) (b0_10 : ByteArray) (b0_11 : ByteArray) (b0_12 : Int) : Option (Int × Unit) := gS Try.prog lv X0 40 151 (getSeg (cdF Try.f40) 17) posthouseref6_RuleFault_g17_s posthouseref6_RuleFault_g17_o ((), (b0, b0_1, b0_2, b0_3, b0_4, b0_5, b0_6, b0_7, b0_8, b0_9, b0_10, b0_11, b0_12))
def posthouseref6_RuleFault_g17_t (b0 : Int) (b0_1 : Int) (b0_2 : (List S42)) (b0_3 : ByteArray) (b0_4 : Int) (b0_5 : ByteArray) (b0_6 : Int) (b0_7 : (List S44)) (b0_8 : (List S44)) (b0_9 : Int) (b0_10 : ByteArray) (b0_11 : ByteArray) (b0_12 : Int) : Option (Int × Unit) :=
  (brE ((b0 == (3 : Int)) == true)
  (Option.bind (posthouseref6_Variable_s b0_10) fun r0 =>
    (brE (!r0)
      (some ((10 : Int), ()))
      (gdE (EC.isL ec_42 (EC.encL ec_42 b0_2)) <|
        (gdE (EC.isL ec_44 (EC.encL ec_44 b0_7)) <|
          (gdE (EC.isL ec_44 (EC.encL ec_44 b0_8)) <|
            (Option.bind (posthouseref6_RuleFault_g19 b0 b0_1 (EC.decL ec_42 (EC.encL ec_42 b0_2)) b0_3 b0_4 b0_5 b0_6 (EC.decL ec_44 (EC.encL ec_44 b0_7)) (EC.decL ec_44 (EC.encL ec_44 b0_8)) b0_9 b0_10 b0_11 b0_12) fun r1 =>
              (some ((r1).1, ()))))))))
  (gdE (EC.isL ec_42 (EC.encL ec_42 b0_2)) <|
    (gdE (EC.isL ec_44 (EC.encL ec_44 b0_7)) <|
      (gdE (EC.isL ec_44 (EC.encL ec_44 b0_8)) <|
        (Option.bind (posthouseref6_RuleFault_g19 b0 b0_1 (EC.decL ec_42 (EC.encL ec_42 b0_2)) b0_3 b0_4 b0_5 b0_6 (EC.decL ec_44 (EC.encL ec_44 b0_7)) (EC.decL ec_44 (EC.encL ec_44 b0_8)) b0_9 b0_10 b0_11 b0_12) fun r0 =>
          (some ((r0).1, ())))))))
theorem posthouseref6_RuleFault_g17_eq {b0 : Int} {b0_1 : Int} {b0_2 : (List S42)} {b0_3 : ByteArray} {b0_4 : Int} {b0_5 : ByteArray} {b0_6 : Int} {b0_7 : (List S44)} {b0_8 : (List S44)} {b0_9 : Int} {b0_10 : ByteArray} {b0_11 : ByteArray} {b0_12 : Int} {r : (Int × Unit)} (h : posthouseref6_RuleFault_g17_t b0 b0_1 b0_2 b0_3 b0_4 b0_5 b0_6 b0_7 b0_8 b0_9 b0_10 b0_11 b0_12 = some r) : posthouseref6_RuleFault_g17 b0 b0_1 b0_2 b0_3 b0_4 b0_5 b0_6 b0_7 b0_8 b0_9 b0_10 b0_11 b0_12 = some r :=
  gS_tree (es := tab_posthouseref6_TestFault) (hs := htab_prove_all_h14) [posthouseref6_RuleFault_g19_e] (by kernel_rfl) trivial ⟨⟨_, rfl, rfl⟩, trivial⟩ (by kernel_rfl) h
def posthouseref6_RuleFault_g17_e : LEnt Try.prog lv X0 40 151 := gentS Try.prog lv X0 17 (getSeg (cdF Try.f40) 17) (by kernel_rfl) posthouseref6_RuleFault_g17_s posthouseref6_RuleFault_g17_o (fun x => posthouseref6_RuleFault_g17 x.2.1 x.2.2.1 x.2.2.2.1 x.2.2.2.2.1 x.2.2.2.2.2.1 x.2.2.2.2.2.2.1 x.2.2.2.2.2.2.2.1 x.2.2.2.2.2.2.2.2.1 x.2.2.2.2.2.2.2.2.2.1 x.2.2.2.2.2.2.2.2.2.2.1 x.2.2.2.2.2.2.2.2.2.2.2.1 x.2.2.2.2.2.2.2.2.2.2.2.2.1 x.2.2.2.2.2.2.2.2.2.2.2.2.2) (fun _ _ h => gS_from h)
def posthouseref6_RuleFault_g12_s : SC (Unit × (Int × Int × (List S42) × ByteArray × Int × ByteArray × Int × (List S44) × (List S44) × Int × ByteArray × ByteArray × Int)) := sLS [1] (lOne (vPtr 0 0)) (lOne (oSome (bBox (lCons (vC (cInt .i64)) (lCons (vC (cInt .i64)) (lCons (vC (cSl ec_42)) (lCons (vC cStr) (lCons (vC (cInt .i64)) (lCons (vC cStr) (lCons (vC (cInt .i64)) (lCons (vC (cSl ec_44)) (lCons (vC (cSl ec_44)) (lCons (vC (cInt .i64)) (lCons (vC cStr) (lCons (vC cStr) (lOne (vC (cInt .i64)))))))))))))))))) [false] [] (by decide) (fun _ => rfl)
def posthouseref6_RuleFault_g12_o1 : SC (Int × Unit) := sLS [2] (lOne (vC (cInt .i64))) lNil [] [] (by decide) (fun _ => rfl)
def posthouseref6_RuleFault_g12_o : OC (Int × Unit) := oAt 1 posthouseref6_RuleFault_g12_o1
def posthouseref6_RuleFault_g12 (b0 : Int) (b0_1 : Int) (b0_2 : (List S42)) (b0_3 : ByteArray) (b0_4 : Int) (b0_5 : ByteArray) (b0_6 : Int) (b0_7 : (List S44)) (b0_8 : (List S44)) (b0_9 : Int) (b0_10 : ByteArray) (b0_11 : ByteArray) (b0_12 : Int) : Option (Int × Unit) := gS Try.prog lv X0 40 151 (getSeg (cdF Try.f40) 12) posthouseref6_RuleFault_g12_s posthouseref6_RuleFault_g12_o ((), (b0, b0_1, b0_2, b0_3, b0_4, b0_5, b0_6, b0_7, b0_8, b0_9, b0_10, b0_11, b0_12))
def posthouseref6_RuleFault_g12_t (b0 : Int) (b0_1 : Int) (b0_2 : (List S42)) (b0_3 : ByteArray) (b0_4 : Int) (b0_5 : ByteArray) (b0_6 : Int) (b0_7 : (List S44)) (b0_8 : (List S44)) (b0_9 : Int) (b0_10 : ByteArray) (b0_11 : ByteArray) (b0_12 : Int) : Option (Int × Unit) :=
  (brE (b0 == (2 : Int))
  (Option.bind (posthouseref5_In_s b0_9 (1 : Int) (7 : Int)) fun r0 =>
    (brE (!r0)
      (some ((4 : Int), ()))
      (gdE (EC.isL ec_42 (EC.encL ec_42 b0_2)) <|
        (gdE (EC.isL ec_44 (EC.encL ec_44 b0_7)) <|
          (gdE (EC.isL ec_44 (EC.encL ec_44 b0_8)) <|
            (Option.bind (posthouseref6_RuleFault_g15 b0 b0_1 (EC.decL ec_42 (EC.encL ec_42 b0_2)) b0_3 b0_4 b0_5 b0_6 (EC.decL ec_44 (EC.encL ec_44 b0_7)) (EC.decL ec_44 (EC.encL ec_44 b0_8)) b0_9 b0_10 b0_11 b0_12) fun r1 =>
              (Sum.elim (fun r2 => (gdE (EC.isL ec_42 (EC.encL ec_42 ((((r2).2).2).2).1)) <|
                  (gdE (EC.isL ec_44 (EC.encL ec_44 (((((((((r2).2).2).2).2).2).2).2).2).1)) <|
                    (gdE (EC.isL ec_44 (EC.encL ec_44 ((((((((((r2).2).2).2).2).2).2).2).2).2).1)) <|
                      (Option.bind (posthouseref6_RuleFault_g17 ((r2).2).1 (((r2).2).2).1 (EC.decL ec_42 (EC.encL ec_42 ((((r2).2).2).2).1)) (((((r2).2).2).2).2).1 ((((((r2).2).2).2).2).2).1 (((((((r2).2).2).2).2).2).2).1 ((((((((r2).2).2).2).2).2).2).2).1 (EC.decL ec_44 (EC.encL ec_44 (((((((((r2).2).2).2).2).2).2).2).2).1)) (EC.decL ec_44 (EC.encL ec_44 ((((((((((r2).2).2).2).2).2).2).2).2).2).1)) (((((((((((r2).2).2).2).2).2).2).2).2).2).2).1 ((((((((((((r2).2).2).2).2).2).2).2).2).2).2).2).1 (((((((((((((r2).2).2).2).2).2).2).2).2).2).2).2).2).1 (((((((((((((r2).2).2).2).2).2).2).2).2).2).2).2).2).2) fun r3 =>
                        (some ((r3).1, ())))))))
                (fun r2 => (some ((r2).1, ()))) r1)))))))
  (gdE (EC.isL ec_42 (EC.encL ec_42 b0_2)) <|
    (gdE (EC.isL ec_44 (EC.encL ec_44 b0_7)) <|
      (gdE (EC.isL ec_44 (EC.encL ec_44 b0_8)) <|
        (Option.bind (posthouseref6_RuleFault_g17 b0 b0_1 (EC.decL ec_42 (EC.encL ec_42 b0_2)) b0_3 b0_4 b0_5 b0_6 (EC.decL ec_44 (EC.encL ec_44 b0_7)) (EC.decL ec_44 (EC.encL ec_44 b0_8)) b0_9 b0_10 b0_11 b0_12) fun r0 =>
          (some ((r0).1, ())))))))
theorem posthouseref6_RuleFault_g12_eq {b0 : Int} {b0_1 : Int} {b0_2 : (List S42)} {b0_3 : ByteArray} {b0_4 : Int} {b0_5 : ByteArray} {b0_6 : Int} {b0_7 : (List S44)} {b0_8 : (List S44)} {b0_9 : Int} {b0_10 : ByteArray} {b0_11 : ByteArray} {b0_12 : Int} {r : (Int × Unit)} (h : posthouseref6_RuleFault_g12_t b0 b0_1 b0_2 b0_3 b0_4 b0_5 b0_6 b0_7 b0_8 b0_9 b0_10 b0_11 b0_12 = some r) : posthouseref6_RuleFault_g12 b0 b0_1 b0_2 b0_3 b0_4 b0_5 b0_6 b0_7 b0_8 b0_9 b0_10 b0_11 b0_12 = some r :=
  gS_tree (es := tab_posthouseref6_TestFault) (hs := htab_prove_all_h14) [posthouseref6_RuleFault_g15_e, posthouseref6_RuleFault_g17_e] (by kernel_rfl) trivial ⟨⟨_, rfl, rfl⟩, ⟨_, rfl, rfl⟩, trivial⟩ (by kernel_rfl) h
def posthouseref6_RuleFault_g12_e : LEnt Try.prog lv X0 40 151 := gentS Try.prog lv X0 12 (getSeg (cdF Try.f40) 12) (by kernel_rfl) posthouseref6_RuleFault_g12_s posthouseref6_RuleFault_g12_o (fun x => posthouseref6_RuleFault_g12 x.2.1 x.2.2.1 x.2.2.2.1 x.2.2.2.2.1 x.2.2.2.2.2.1 x.2.2.2.2.2.2.1 x.2.2.2.2.2.2.2.1 x.2.2.2.2.2.2.2.2.1 x.2.2.2.2.2.2.2.2.2.1 x.2.2.2.2.2.2.2.2.2.2.1 x.2.2.2.2.2.2.2.2.2.2.2.1 x.2.2.2.2.2.2.2.2.2.2.2.2.1 x.2.2.2.2.2.2.2.2.2.2.2.2.2) (fun _ _ h => gS_from h)
def posthouseref6_RuleFault_g10_s : SC (Unit × (Int × Int × (List S42) × ByteArray × Int × ByteArray × Int × (List S44) × (List S44) × Int × ByteArray × ByteArray × Int)) := sLS [1] (lOne (vPtr 0 0)) (lOne (oSome (bBox (lCons (vC (cInt .i64)) (lCons (vC (cInt .i64)) (lCons (vC (cSl ec_42)) (lCons (vC cStr) (lCons (vC (cInt .i64)) (lCons (vC cStr) (lCons (vC (cInt .i64)) (lCons (vC (cSl ec_44)) (lCons (vC (cSl ec_44)) (lCons (vC (cInt .i64)) (lCons (vC cStr) (lCons (vC cStr) (lOne (vC (cInt .i64)))))))))))))))))) [false] [] (by decide) (fun _ => rfl)
def posthouseref6_RuleFault_g10_o1 : SC (Int × Unit) := sLS [2] (lOne (vC (cInt .i64))) lNil [] [] (by decide) (fun _ => rfl)
def posthouseref6_RuleFault_g10_o : OC (Int × Unit) := oAt 1 posthouseref6_RuleFault_g10_o1
def posthouseref6_RuleFault_g10 (b0 : Int) (b0_1 : Int) (b0_2 : (List S42)) (b0_3 : ByteArray) (b0_4 : Int) (b0_5 : ByteArray) (b0_6 : Int) (b0_7 : (List S44)) (b0_8 : (List S44)) (b0_9 : Int) (b0_10 : ByteArray) (b0_11 : ByteArray) (b0_12 : Int) : Option (Int × Unit) := gS Try.prog lv X0 40 151 (getSeg (cdF Try.f40) 10) posthouseref6_RuleFault_g10_s posthouseref6_RuleFault_g10_o ((), (b0, b0_1, b0_2, b0_3, b0_4, b0_5, b0_6, b0_7, b0_8, b0_9, b0_10, b0_11, b0_12))
def posthouseref6_RuleFault_g10_t (b0 : Int) (b0_1 : Int) (b0_2 : (List S42)) (b0_3 : ByteArray) (b0_4 : Int) (b0_5 : ByteArray) (b0_6 : Int) (b0_7 : (List S44)) (b0_8 : (List S44)) (b0_9 : Int) (b0_10 : ByteArray) (b0_11 : ByteArray) (b0_12 : Int) : Option (Int × Unit) :=
  (brE ((b0 != (2 : Int)) == true)
  (brE ((b0_9 != (0 : Int)) == false)
    (brE ((b0_12 != (0 : Int)) == false)
      (brE ((b0 != (3 : Int)) == true)
        (brE ((!((ByteArray.toList b0_10) == (ByteArray.toList (ByteArray.mk (List.toArray []))))) == false)
          (brE ((b0 == (4 : Int)) == true)
            (brE (!((ByteArray.toList b0_11) == (ByteArray.toList (ByteArray.mk (List.toArray [])))))
              (some ((5 : Int), ()))
              (gdE (EC.isL ec_42 (EC.encL ec_42 b0_2)) <|
                (gdE (EC.isL ec_44 (EC.encL ec_44 b0_7)) <|
                  (gdE (EC.isL ec_44 (EC.encL ec_44 b0_8)) <|
                    (Option.bind (posthouseref6_RuleFault_g12 b0 b0_1 (EC.decL ec_42 (EC.encL ec_42 b0_2)) b0_3 b0_4 b0_5 b0_6 (EC.decL ec_44 (EC.encL ec_44 b0_7)) (EC.decL ec_44 (EC.encL ec_44 b0_8)) b0_9 b0_10 b0_11 b0_12) fun r0 =>
                      (some ((r0).1, ())))))))
            (gdE (EC.isL ec_42 (EC.encL ec_42 b0_2)) <|
              (gdE (EC.isL ec_44 (EC.encL ec_44 b0_7)) <|
                (gdE (EC.isL ec_44 (EC.encL ec_44 b0_8)) <|
                  (Option.bind (posthouseref6_RuleFault_g12 b0 b0_1 (EC.decL ec_42 (EC.encL ec_42 b0_2)) b0_3 b0_4 b0_5 b0_6 (EC.decL ec_44 (EC.encL ec_44 b0_7)) (EC.decL ec_44 (EC.encL ec_44 b0_8)) b0_9 b0_10 b0_11 b0_12) fun r0 =>
                    (some ((r0).1, ())))))))
          (some ((5 : Int), ())))
        (brE ((b0 == (4 : Int)) == true)
          (brE (!((ByteArray.toList b0_11) == (ByteArray.toList (ByteArray.mk (List.toArray [])))))
            (some ((5 : Int), ()))
            (gdE (EC.isL ec_42 (EC.encL ec_42 b0_2)) <|
              (gdE (EC.isL ec_44 (EC.encL ec_44 b0_7)) <|
                (gdE (EC.isL ec_44 (EC.encL ec_44 b0_8)) <|
                  (Option.bind (posthouseref6_RuleFault_g12 b0 b0_1 (EC.decL ec_42 (EC.encL ec_42 b0_2)) b0_3 b0_4 b0_5 b0_6 (EC.decL ec_44 (EC.encL ec_44 b0_7)) (EC.decL ec_44 (EC.encL ec_44 b0_8)) b0_9 b0_10 b0_11 b0_12) fun r0 =>
                    (some ((r0).1, ())))))))
          (gdE (EC.isL ec_42 (EC.encL ec_42 b0_2)) <|
            (gdE (EC.isL ec_44 (EC.encL ec_44 b0_7)) <|
              (gdE (EC.isL ec_44 (EC.encL ec_44 b0_8)) <|
                (Option.bind (posthouseref6_RuleFault_g12 b0 b0_1 (EC.decL ec_42 (EC.encL ec_42 b0_2)) b0_3 b0_4 b0_5 b0_6 (EC.decL ec_44 (EC.encL ec_44 b0_7)) (EC.decL ec_44 (EC.encL ec_44 b0_8)) b0_9 b0_10 b0_11 b0_12) fun r0 =>
                  (some ((r0).1, ()))))))))
      (some ((5 : Int), ())))
    (some ((5 : Int), ())))
  (brE ((b0 != (3 : Int)) == true)
    (brE ((!((ByteArray.toList b0_10) == (ByteArray.toList (ByteArray.mk (List.toArray []))))) == false)
      (brE ((b0 == (4 : Int)) == true)
        (brE (!((ByteArray.toList b0_11) == (ByteArray.toList (ByteArray.mk (List.toArray [])))))
          (some ((5 : Int), ()))
          (gdE (EC.isL ec_42 (EC.encL ec_42 b0_2)) <|
            (gdE (EC.isL ec_44 (EC.encL ec_44 b0_7)) <|
              (gdE (EC.isL ec_44 (EC.encL ec_44 b0_8)) <|
                (Option.bind (posthouseref6_RuleFault_g12 b0 b0_1 (EC.decL ec_42 (EC.encL ec_42 b0_2)) b0_3 b0_4 b0_5 b0_6 (EC.decL ec_44 (EC.encL ec_44 b0_7)) (EC.decL ec_44 (EC.encL ec_44 b0_8)) b0_9 b0_10 b0_11 b0_12) fun r0 =>
                  (some ((r0).1, ())))))))
        (gdE (EC.isL ec_42 (EC.encL ec_42 b0_2)) <|
          (gdE (EC.isL ec_44 (EC.encL ec_44 b0_7)) <|
            (gdE (EC.isL ec_44 (EC.encL ec_44 b0_8)) <|
              (Option.bind (posthouseref6_RuleFault_g12 b0 b0_1 (EC.decL ec_42 (EC.encL ec_42 b0_2)) b0_3 b0_4 b0_5 b0_6 (EC.decL ec_44 (EC.encL ec_44 b0_7)) (EC.decL ec_44 (EC.encL ec_44 b0_8)) b0_9 b0_10 b0_11 b0_12) fun r0 =>
                (some ((r0).1, ())))))))
      (some ((5 : Int), ())))
    (brE ((b0 == (4 : Int)) == true)
      (brE (!((ByteArray.toList b0_11) == (ByteArray.toList (ByteArray.mk (List.toArray [])))))
        (some ((5 : Int), ()))
        (gdE (EC.isL ec_42 (EC.encL ec_42 b0_2)) <|
          (gdE (EC.isL ec_44 (EC.encL ec_44 b0_7)) <|
            (gdE (EC.isL ec_44 (EC.encL ec_44 b0_8)) <|
              (Option.bind (posthouseref6_RuleFault_g12 b0 b0_1 (EC.decL ec_42 (EC.encL ec_42 b0_2)) b0_3 b0_4 b0_5 b0_6 (EC.decL ec_44 (EC.encL ec_44 b0_7)) (EC.decL ec_44 (EC.encL ec_44 b0_8)) b0_9 b0_10 b0_11 b0_12) fun r0 =>
                (some ((r0).1, ())))))))
      (gdE (EC.isL ec_42 (EC.encL ec_42 b0_2)) <|
        (gdE (EC.isL ec_44 (EC.encL ec_44 b0_7)) <|
          (gdE (EC.isL ec_44 (EC.encL ec_44 b0_8)) <|
            (Option.bind (posthouseref6_RuleFault_g12 b0 b0_1 (EC.decL ec_42 (EC.encL ec_42 b0_2)) b0_3 b0_4 b0_5 b0_6 (EC.decL ec_44 (EC.encL ec_44 b0_7)) (EC.decL ec_44 (EC.encL ec_44 b0_8)) b0_9 b0_10 b0_11 b0_12) fun r0 =>
              (some ((r0).1, ())))))))))
theorem posthouseref6_RuleFault_g10_eq {b0 : Int} {b0_1 : Int} {b0_2 : (List S42)} {b0_3 : ByteArray} {b0_4 : Int} {b0_5 : ByteArray} {b0_6 : Int} {b0_7 : (List S44)} {b0_8 : (List S44)} {b0_9 : Int} {b0_10 : ByteArray} {b0_11 : ByteArray} {b0_12 : Int} {r : (Int × Unit)} (h : posthouseref6_RuleFault_g10_t b0 b0_1 b0_2 b0_3 b0_4 b0_5 b0_6 b0_7 b0_8 b0_9 b0_10 b0_11 b0_12 = some r) : posthouseref6_RuleFault_g10 b0 b0_1 b0_2 b0_3 b0_4 b0_5 b0_6 b0_7 b0_8 b0_9 b0_10 b0_11 b0_12 = some r :=
  gS_tree (es := tab_posthouseref6_TestFault) (hs := htab_prove_all_h14) [posthouseref6_RuleFault_g12_e] (by kernel_rfl) trivial ⟨⟨_, rfl, rfl⟩, trivial⟩ (by kernel_rfl) h
def posthouseref6_RuleFault_g10_e : LEnt Try.prog lv X0 40 151 := gentS Try.prog lv X0 10 (getSeg (cdF Try.f40) 10) (by kernel_rfl) posthouseref6_RuleFault_g10_s posthouseref6_RuleFault_g10_o (fun x => posthouseref6_RuleFault_g10 x.2.1 x.2.2.1 x.2.2.2.1 x.2.2.2.2.1 x.2.2.2.2.2.1 x.2.2.2.2.2.2.1 x.2.2.2.2.2.2.2.1 x.2.2.2.2.2.2.2.2.1 x.2.2.2.2.2.2.2.2.2.1 x.2.2.2.2.2.2.2.2.2.2.1 x.2.2.2.2.2.2.2.2.2.2.2.1 x.2.2.2.2.2.2.2.2.2.2.2.2.1 x.2.2.2.2.2.2.2.2.2.2.2.2.2) (fun _ _ h => gS_from h)
def posthouseref6_RuleFault_g8_s : SC ((Unit × Unit) × ((Int × Int × (List S42) × ByteArray × Int × ByteArray × Int × (List S44) × (List S44) × Int × ByteArray × ByteArray × Int) × (Int × (List S42) × ByteArray × Int × ByteArray × Int))) := sLS [1, 3] (lCons (vPtr 0 0) (lOne (vPtr 1 0))) (lCons (oSome (bBox (lCons (vC (cInt .i64)) (lCons (vC (cInt .i64)) (lCons (vC (cSl ec_42)) (lCons (vC cStr) (lCons (vC (cInt .i64)) (lCons (vC cStr) (lCons (vC (cInt .i64)) (lCons (vC (cSl ec_44)) (lCons (vC (cSl ec_44)) (lCons (vC (cInt .i64)) (lCons (vC cStr) (lCons (vC cStr) (lOne (vC (cInt .i64))))))))))))))))) (lOne (oSome (bBox (lCons (vC (cInt .i64)) (lCons (vC (cSl ec_42)) (lCons (vC cStr) (lCons (vC (cInt .i64)) (lCons (vC cStr) (lOne (vC (cInt .i64)))))))))))) [false, false] [] (by decide) (fun _ => rfl)
def posthouseref6_RuleFault_g8_o1 : SC (Int × Unit) := sLS [2] (lOne (vC (cInt .i64))) lNil [] [] (by decide) (fun _ => rfl)
def posthouseref6_RuleFault_g8_o : OC (Int × Unit) := oAt 1 posthouseref6_RuleFault_g8_o1
def posthouseref6_RuleFault_g8 (b0 : Int) (b0_1 : Int) (b0_2 : (List S42)) (b0_3 : ByteArray) (b0_4 : Int) (b0_5 : ByteArray) (b0_6 : Int) (b0_7 : (List S44)) (b0_8 : (List S44)) (b0_9 : Int) (b0_10 : ByteArray) (b0_11 : ByteArray) (b0_12 : Int) (b1 : Int) (b1_1 : (List S42)) (b1_2 : ByteArray) (b1_3 : Int) (b1_4 : ByteArray) (b1_5 : Int) : Option (Int × Unit) := gS Try.prog lv X0 40 151 (getSeg (cdF Try.f40) 8) posthouseref6_RuleFault_g8_s posthouseref6_RuleFault_g8_o (((), ()), ((b0, b0_1, b0_2, b0_3, b0_4, b0_5, b0_6, b0_7, b0_8, b0_9, b0_10, b0_11, b0_12), (b1, b1_1, b1_2, b1_3, b1_4, b1_5)))
def posthouseref6_RuleFault_g8_t (b0 : Int) (b0_1 : Int) (b0_2 : (List S42)) (b0_3 : ByteArray) (b0_4 : Int) (b0_5 : ByteArray) (b0_6 : Int) (b0_7 : (List S44)) (b0_8 : (List S44)) (b0_9 : Int) (b0_10 : ByteArray) (b0_11 : ByteArray) (b0_12 : Int) (b1 : Int) (b1_1 : (List S42)) (b1_2 : ByteArray) (b1_3 : Int) (b1_4 : ByteArray) (b1_5 : Int) : Option (Int × Unit) :=
  (brE ((b1 != (0 : Int)) == false)
  (brE ((decide ((((List.length (EC.encL ec_42 b1_1)) : Nat) : Int) > (0 : Int))) == false)
    (brE ((!((ByteArray.toList b1_2) == (ByteArray.toList (ByteArray.mk (List.toArray []))))) == false)
      (brE ((b1_3 != (0 : Int)) == false)
        (brE ((!((ByteArray.toList b1_4) == (ByteArray.toList (ByteArray.mk (List.toArray []))))) == false)
          (brE ((b1_5 != (0 : Int)) == false)
            (brE ((decide ((((List.length (EC.encL ec_44 b0_7)) : Nat) : Int) > (0 : Int))) == false)
              (brE (decide ((((List.length (EC.encL ec_44 b0_8)) : Nat) : Int) > (0 : Int)))
                (some ((5 : Int), ()))
                (gdE (EC.isL ec_42 (EC.encL ec_42 b0_2)) <|
                  (gdE (EC.isL ec_44 (EC.encL ec_44 b0_7)) <|
                    (gdE (EC.isL ec_44 (EC.encL ec_44 b0_8)) <|
                      (Option.bind (posthouseref6_RuleFault_g10 b0 b0_1 (EC.decL ec_42 (EC.encL ec_42 b0_2)) b0_3 b0_4 b0_5 b0_6 (EC.decL ec_44 (EC.encL ec_44 b0_7)) (EC.decL ec_44 (EC.encL ec_44 b0_8)) b0_9 b0_10 b0_11 b0_12) fun r0 =>
                        (some ((r0).1, ())))))))
              (some ((5 : Int), ())))
            (some ((5 : Int), ())))
          (some ((5 : Int), ())))
        (some ((5 : Int), ())))
      (some ((5 : Int), ())))
    (some ((5 : Int), ())))
  (some ((5 : Int), ())))
theorem posthouseref6_RuleFault_g8_eq {b0 : Int} {b0_1 : Int} {b0_2 : (List S42)} {b0_3 : ByteArray} {b0_4 : Int} {b0_5 : ByteArray} {b0_6 : Int} {b0_7 : (List S44)} {b0_8 : (List S44)} {b0_9 : Int} {b0_10 : ByteArray} {b0_11 : ByteArray} {b0_12 : Int} {b1 : Int} {b1_1 : (List S42)} {b1_2 : ByteArray} {b1_3 : Int} {b1_4 : ByteArray} {b1_5 : Int} {r : (Int × Unit)} (h : posthouseref6_RuleFault_g8_t b0 b0_1 b0_2 b0_3 b0_4 b0_5 b0_6 b0_7 b0_8 b0_9 b0_10 b0_11 b0_12 b1 b1_1 b1_2 b1_3 b1_4 b1_5 = some r) : posthouseref6_RuleFault_g8 b0 b0_1 b0_2 b0_3 b0_4 b0_5 b0_6 b0_7 b0_8 b0_9 b0_10 b0_11 b0_12 b1 b1_1 b1_2 b1_3 b1_4 b1_5 = some r :=
  gS_tree (es := tab_posthouseref6_TestFault) (hs := htab_prove_all_h14) [posthouseref6_RuleFault_g10_e] (by kernel_rfl) trivial ⟨⟨_, rfl, rfl⟩, trivial⟩ (by kernel_rfl) h
def posthouseref6_RuleFault_g8_e : LEnt Try.prog lv X0 40 151 := gentS Try.prog lv X0 8 (getSeg (cdF Try.f40) 8) (by kernel_rfl) posthouseref6_RuleFault_g8_s posthouseref6_RuleFault_g8_o (fun x => posthouseref6_RuleFault_g8 x.2.1.1 x.2.1.2.1 x.2.1.2.2.1 x.2.1.2.2.2.1 x.2.1.2.2.2.2.1 x.2.1.2.2.2.2.2.1 x.2.1.2.2.2.2.2.2.1 x.2.1.2.2.2.2.2.2.2.1 x.2.1.2.2.2.2.2.2.2.2.1 x.2.1.2.2.2.2.2.2.2.2.2.1 x.2.1.2.2.2.2.2.2.2.2.2.2.1 x.2.1.2.2.2.2.2.2.2.2.2.2.2.1 x.2.1.2.2.2.2.2.2.2.2.2.2.2.2 x.2.2.1 x.2.2.2.1 x.2.2.2.2.1 x.2.2.2.2.2.1 x.2.2.2.2.2.2.1 x.2.2.2.2.2.2.2) (fun _ _ h => gS_from h)
def posthouseref6_RuleFault_cr : Cod (V × List B) Int := (cFstU (cPair (vC (cInt .i64)) lNil))
def posthouseref6_RuleFault_s (r_Kind : Int) (r_Test_Kind : Int) (r_Test_Tests : (List S42)) (r_Test_Name : ByteArray) (r_Test_Pattern : Int) (r_Test_Text : ByteArray) (r_Test_N : Int) (r_Then : (List S44)) (r_Else : (List S44)) (r_Act : Int) (r_Name : ByteArray) (r_Text : ByteArray) (r_N : Int) : Option Int := fS Try.prog lv X0 40 posthouseref6_RuleFault_ca posthouseref6_RuleFault_cr (r_Kind, r_Test_Kind, r_Test_Tests, r_Test_Name, r_Test_Pattern, r_Test_Text, r_Test_N, r_Then, r_Else, r_Act, r_Name, r_Text, r_N)
def posthouseref6_RuleFault_t (r_Kind : Int) (r_Test_Kind : Int) (r_Test_Tests : (List S42)) (r_Test_Name : ByteArray) (r_Test_Pattern : Int) (r_Test_Text : ByteArray) (r_Test_N : Int) (r_Then : (List S44)) (r_Else : (List S44)) (r_Act : Int) (r_Name : ByteArray) (r_Text : ByteArray) (r_N : Int) : Option Int :=
  (Option.bind (posthouseref5_In_s r_Kind (1 : Int) (4 : Int)) fun r0 =>
  (brE (!r0)
    (some (4 : Int))
    (brE (r_Kind == (1 : Int))
      (brE ((r_Act != (0 : Int)) == false)
        (brE ((!((ByteArray.toList r_Name) == (ByteArray.toList (ByteArray.mk (List.toArray []))))) == false)
          (brE ((!((ByteArray.toList r_Text) == (ByteArray.toList (ByteArray.mk (List.toArray []))))) == false)
            (brE (r_N != (0 : Int))
              (some (5 : Int))
              (gdE (EC.isL ec_42 (EC.encL ec_42 r_Test_Tests)) <|
                (Option.bind (posthouseref6_TestFault_s r_Test_Kind (EC.decL ec_42 (EC.encL ec_42 r_Test_Tests)) r_Test_Name r_Test_Pattern r_Test_Text r_Test_N (1 : Int)) fun r1 =>
                  (some r1))))
            (some (5 : Int)))
          (some (5 : Int)))
        (some (5 : Int)))
      (gdE (EC.isL ec_42 (EC.encL ec_42 r_Test_Tests)) <|
        (gdE (EC.isL ec_44 (EC.encL ec_44 r_Then)) <|
          (gdE (EC.isL ec_44 (EC.encL ec_44 r_Else)) <|
            (gdE (EC.isL ec_42 (EC.encL ec_42 r_Test_Tests)) <|
              (Option.bind (posthouseref6_RuleFault_g8 r_Kind r_Test_Kind (EC.decL ec_42 (EC.encL ec_42 r_Test_Tests)) r_Test_Name r_Test_Pattern r_Test_Text r_Test_N (EC.decL ec_44 (EC.encL ec_44 r_Then)) (EC.decL ec_44 (EC.encL ec_44 r_Else)) r_Act r_Name r_Text r_N r_Test_Kind (EC.decL ec_42 (EC.encL ec_42 r_Test_Tests)) r_Test_Name r_Test_Pattern r_Test_Text r_Test_N) fun r1 =>
                (some (r1).1)))))))))
theorem posthouseref6_RuleFault_eq {r_Kind : Int} {r_Test_Kind : Int} {r_Test_Tests : (List S42)} {r_Test_Name : ByteArray} {r_Test_Pattern : Int} {r_Test_Text : ByteArray} {r_Test_N : Int} {r_Then : (List S44)} {r_Else : (List S44)} {r_Act : Int} {r_Name : ByteArray} {r_Text : ByteArray} {r_N : Int} {r : Int} (h : posthouseref6_RuleFault_t r_Kind r_Test_Kind r_Test_Tests r_Test_Name r_Test_Pattern r_Test_Text r_Test_N r_Then r_Else r_Act r_Name r_Text r_N = some r) : posthouseref6_RuleFault_s r_Kind r_Test_Kind r_Test_Tests r_Test_Name r_Test_Pattern r_Test_Text r_Test_N r_Then r_Else r_Act r_Name r_Text r_N = some r :=
  fS_tree (es := tab_posthouseref6_TestFault) (hs := htab_prove_all_h14) [posthouseref6_RuleFault_g8_e] Try.func40 rfl (by kernel_rfl) rfl (by kernel_rfl) (by kernel_rfl) trivial ⟨⟨_, rfl, rfl⟩, trivial⟩ (by kernel_rfl) h
def posthouseref6_RuleFault_e : Ent Try.prog lv X0 := entS Try.prog lv X0 40 [] posthouseref6_RuleFault_ca posthouseref6_RuleFault_cr (fun x => posthouseref6_RuleFault_s x.1 x.2.1 x.2.2.1 x.2.2.2.1 x.2.2.2.2.1 x.2.2.2.2.2.1 x.2.2.2.2.2.2.1 x.2.2.2.2.2.2.2.1 x.2.2.2.2.2.2.2.2.1 x.2.2.2.2.2.2.2.2.2.1 x.2.2.2.2.2.2.2.2.2.2.1 x.2.2.2.2.2.2.2.2.2.2.2.1 x.2.2.2.2.2.2.2.2.2.2.2.2) (fun _ _ h => fS_call h)
def tab_posthouseref6_RuleFault : List (Ent Try.prog lv X0) := posthouseref6_RuleFault_e :: tab_posthouseref6_TestFault
def posthouseref6_listFault_ca : Cod (List V) ((List S44) × Int × Int) := (lCons (vC (cSl ec_44)) (lCons (vC (cInt .i64)) (lOne (vC (cInt .i64)))))
def posthouseref6_listFault_cr : Cod (V × List B) (Int × Int) := (cFstU (cPair (vAgg (lCons (vC (cInt .i64)) (lOne (vC (cInt .i64))))) lNil))
def posthouseref6_listFault_s (s : (List S44)) (number : Int) (depth : Int) : Option (Int × Int) := fS Try.prog lv X0 33 posthouseref6_listFault_ca posthouseref6_listFault_cr (s, number, depth)
def posthouseref6_listFault_e : Ent Try.prog lv X0 := entS Try.prog lv X0 33 [] posthouseref6_listFault_ca posthouseref6_listFault_cr (fun x => posthouseref6_listFault_s x.1 x.2.1 x.2.2) (fun _ _ h => fS_call h)
def tab_posthouseref6_listFault : List (Ent Try.prog lv X0) := posthouseref6_listFault_e :: tab_posthouseref6_RuleFault
def posthouseref6_listFault_l2_s : SC (((List S44) × Int × Int × Unit × Int) × (Int × Int)) := sLS [0, 1, 2, 6, 7] (lCons (vC (cSl ec_44)) (lCons (vC (cInt .i64)) (lCons (vC (cInt .i64)) (lCons (vPtr 0 0) (lOne (vC (cInt .i64))))))) (lOne (oSome (bBox (lCons (vC (cInt .i64)) (lOne (vC (cInt .i64))))))) [false] [] (by decide) (fun _ => rfl)
def posthouseref6_listFault_l2_o2 : SC (((List S44) × Int × Int × Unit × Int × Bool) × (Int × Int)) := sLS [0, 1, 2, 6, 7, 14] (lCons (vC (cSl ec_44)) (lCons (vC (cInt .i64)) (lCons (vC (cInt .i64)) (lCons (vPtr 0 0) (lCons (vC (cInt .i64)) (lOne (vC cBool))))))) (lOne (oSome (bBox (lCons (vC (cInt .i64)) (lOne (vC (cInt .i64))))))) [false] [] (by decide) (fun _ => rfl)
def posthouseref6_listFault_l2_o1 : SC (Unit × (Int × Int)) := sLS [6] (lOne (vPtr 0 0)) (lOne (oSome (bBox (lCons (vC (cInt .i64)) (lOne (vC (cInt .i64))))))) [false] [] (by decide) (fun _ => rfl)
def posthouseref6_listFault_l2_o : OC ((Unit × (Int × Int)) ⊕ (((List S44) × Int × Int × Unit × Int × Bool) × (Int × Int))) := oOr 1 posthouseref6_listFault_l2_o1 (oAt 2 posthouseref6_listFault_l2_o2) (fun x => (by decide : (2 : Nat) ≠ 1))
def posthouseref6_listFault_l2 (s : (List S44)) (number : Int) (depth : Int) (i : Int) (b0 : Int) (b0_1 : Int) : Option ((Unit × (Int × Int)) ⊕ (((List S44) × Int × Int × Unit × Int × Bool) × (Int × Int))) := lS Try.prog lv X0 33 86 (getLoop (cdF Try.f33) 2) posthouseref6_listFault_l2_s posthouseref6_listFault_l2_o ((s, number, depth, (), i), (b0, b0_1))
def posthouseref6_listFault_l2_t (s : (List S44)) (number : Int) (depth : Int) (i : Int) (b0 : Int) (b0_1 : Int) : Option ((Unit × (Int × Int)) ⊕ (((List S44) × Int × Int × Unit × Int × Bool) × (Int × Int))) :=
  (brE (decide (i < (((List.length (EC.encL ec_44 s)) : Nat) : Int)))
  (brE (decide (number ≥ (100 : Int)))
    (Option.bind (posthouseref5_At_s (2 : Int) (-(1 : Int))) fun r0 =>
      (some (.inl ((), ((r0).1, (r0).2)))))
    (brE (decide (depth > (8 : Int)))
      (Option.bind (posthouseref5_At_s (5 : Int) number) fun r0 =>
        (some (.inl ((), ((r0).1, (r0).2)))))
      (gdE (decide ((0 : Int) ≤ i)) <|
        (gdE ((decide ((Int.toNat i) < (List.length (EC.encL ec_44 s)))) && (isE [(K1.int Go.IntKind.i64), (K1.int Go.IntKind.i64), K1.sl, K1.str, (K1.int Go.IntKind.i64), K1.str, (K1.int Go.IntKind.i64), K1.sl, K1.sl, (K1.int Go.IntKind.i64), K1.str, K1.str, (K1.int Go.IntKind.i64)] (0 : Nat) (List.getD (EC.encL ec_44 s) (Int.toNat i) []))) <|
          (gdE (EC.isL ec_42 (slOf (List.getD (List.getD (EC.encL ec_44 s) (Int.toNat i) []) (2 : Nat) C.ne))) <|
            (gdE (EC.isL ec_44 (slOf (List.getD (List.getD (EC.encL ec_44 s) (Int.toNat i) []) (7 : Nat) C.ne))) <|
              (gdE (EC.isL ec_44 (slOf (List.getD (List.getD (EC.encL ec_44 s) (Int.toNat i) []) (8 : Nat) C.ne))) <|
                (Option.bind (posthouseref6_RuleFault_s (intOf (List.getD (List.getD (EC.encL ec_44 s) (Int.toNat i) []) (0 : Nat) C.ne)) (intOf (List.getD (List.getD (EC.encL ec_44 s) (Int.toNat i) []) (1 : Nat) C.ne)) (EC.decL ec_42 (slOf (List.getD (List.getD (EC.encL ec_44 s) (Int.toNat i) []) (2 : Nat) C.ne))) (strOf (List.getD (List.getD (EC.encL ec_44 s) (Int.toNat i) []) (3 : Nat) C.ne)) (intOf (List.getD (List.getD (EC.encL ec_44 s) (Int.toNat i) []) (4 : Nat) C.ne)) (strOf (List.getD (List.getD (EC.encL ec_44 s) (Int.toNat i) []) (5 : Nat) C.ne)) (intOf (List.getD (List.getD (EC.encL ec_44 s) (Int.toNat i) []) (6 : Nat) C.ne)) (EC.decL ec_44 (slOf (List.getD (List.getD (EC.encL ec_44 s) (Int.toNat i) []) (7 : Nat) C.ne))) (EC.decL ec_44 (slOf (List.getD (List.getD (EC.encL ec_44 s) (Int.toNat i) []) (8 : Nat) C.ne))) (intOf (List.getD (List.getD (EC.encL ec_44 s) (Int.toNat i) []) (9 : Nat) C.ne)) (strOf (List.getD (List.getD (EC.encL ec_44 s) (Int.toNat i) []) (10 : Nat) C.ne)) (strOf (List.getD (List.getD (EC.encL ec_44 s) (Int.toNat i) []) (11 : Nat) C.ne)) (intOf (List.getD (List.getD (EC.encL ec_44 s) (Int.toNat i) []) (12 : Nat) C.ne))) fun r0 =>
                  (brE (r0 != (0 : Int))
                    (Option.bind (posthouseref5_At_s r0 number) fun r1 =>
                      (some (.inl ((), ((r1).1, (r1).2)))))
                    (gdE (decide ((0 : Int) ≤ i)) <|
                      (gdE ((decide ((Int.toNat i) < (List.length (EC.encL ec_44 s)))) && (isE [(K1.int Go.IntKind.i64), (K1.int Go.IntKind.i64), K1.sl, K1.str, (K1.int Go.IntKind.i64), K1.str, (K1.int Go.IntKind.i64), K1.sl, K1.sl, (K1.int Go.IntKind.i64), K1.str, K1.str, (K1.int Go.IntKind.i64)] (0 : Nat) (List.getD (EC.encL ec_44 s) (Int.toNat i) []))) <|
                        (gdE (EC.isL ec_44 (slOf (List.getD (List.getD (EC.encL ec_44 s) (Int.toNat i) []) (7 : Nat) C.ne))) <|
                          (Option.bind (posthouseref6_listFault_s (EC.decL ec_44 (slOf (List.getD (List.getD (EC.encL ec_44 s) (Int.toNat i) []) (7 : Nat) C.ne))) (Go.IntKind.wrap Go.IntKind.i64 (number + (1 : Int))) (Go.IntKind.wrap Go.IntKind.i64 (depth + (1 : Int)))) fun r1 =>
                            (brE ((r1).1 != (0 : Int))
                              (some (.inl ((), ((r1).1, (r1).2))))
                              (gdE (decide ((0 : Int) ≤ i)) <|
                                (gdE ((decide ((Int.toNat i) < (List.length (EC.encL ec_44 s)))) && (isE [(K1.int Go.IntKind.i64), (K1.int Go.IntKind.i64), K1.sl, K1.str, (K1.int Go.IntKind.i64), K1.str, (K1.int Go.IntKind.i64), K1.sl, K1.sl, (K1.int Go.IntKind.i64), K1.str, K1.str, (K1.int Go.IntKind.i64)] (0 : Nat) (List.getD (EC.encL ec_44 s) (Int.toNat i) []))) <|
                                  (gdE (decide ((0 : Int) ≤ i)) <|
                                    (gdE ((decide ((Int.toNat i) < (List.length (EC.encL ec_44 s)))) && (isE [(K1.int Go.IntKind.i64), (K1.int Go.IntKind.i64), K1.sl, K1.str, (K1.int Go.IntKind.i64), K1.str, (K1.int Go.IntKind.i64), K1.sl, K1.sl, (K1.int Go.IntKind.i64), K1.str, K1.str, (K1.int Go.IntKind.i64)] (0 : Nat) (List.getD (EC.encL ec_44 s) (Int.toNat i) []))) <|
                                      (gdE (EC.isL ec_44 (slOf (List.getD (List.getD (EC.encL ec_44 s) (Int.toNat i) []) (7 : Nat) C.ne))) <|
                                        (Option.bind (posthouseref6_Count_s (EC.decL ec_44 (slOf (List.getD (List.getD (EC.encL ec_44 s) (Int.toNat i) []) (7 : Nat) C.ne)))) fun r2 =>
                                          (gdE (EC.isL ec_44 (slOf (List.getD (List.getD (EC.encL ec_44 s) (Int.toNat i) []) (8 : Nat) C.ne))) <|
                                            (Option.bind (posthouseref6_listFault_s (EC.decL ec_44 (slOf (List.getD (List.getD (EC.encL ec_44 s) (Int.toNat i) []) (8 : Nat) C.ne))) (Go.IntKind.wrap Go.IntKind.i64 ((Go.IntKind.wrap Go.IntKind.i64 (number + (1 : Int))) + r2)) (Go.IntKind.wrap Go.IntKind.i64 (depth + (1 : Int)))) fun r3 =>
                                              (brE ((r3).1 != (0 : Int))
                                                (some (.inl ((), ((r3).1, (r3).2))))
                                                (gdE (decide ((0 : Int) ≤ i)) <|
                                                  (gdE ((decide ((Int.toNat i) < (List.length (EC.encL ec_44 s)))) && (isE [(K1.int Go.IntKind.i64), (K1.int Go.IntKind.i64), K1.sl, K1.str, (K1.int Go.IntKind.i64), K1.str, (K1.int Go.IntKind.i64), K1.sl, K1.sl, (K1.int Go.IntKind.i64), K1.str, K1.str, (K1.int Go.IntKind.i64)] (0 : Nat) (List.getD (EC.encL ec_44 s) (Int.toNat i) []))) <|
                                                    (gdE (EC.isL ec_44 (slOf (List.getD (List.getD (EC.encL ec_44 s) (Int.toNat i) []) (7 : Nat) C.ne))) <|
                                                      (Option.bind (posthouseref6_Count_s (EC.decL ec_44 (slOf (List.getD (List.getD (EC.encL ec_44 s) (Int.toNat i) []) (7 : Nat) C.ne)))) fun r4 =>
                                                        (gdE (decide ((0 : Int) ≤ i)) <|
                                                          (gdE ((decide ((Int.toNat i) < (List.length (EC.encL ec_44 s)))) && (isE [(K1.int Go.IntKind.i64), (K1.int Go.IntKind.i64), K1.sl, K1.str, (K1.int Go.IntKind.i64), K1.str, (K1.int Go.IntKind.i64), K1.sl, K1.sl, (K1.int Go.IntKind.i64), K1.str, K1.str, (K1.int Go.IntKind.i64)] (0 : Nat) (List.getD (EC.encL ec_44 s) (Int.toNat i) []))) <|
                                                            (gdE (EC.isL ec_44 (slOf (List.getD (List.getD (EC.encL ec_44 s) (Int.toNat i) []) (8 : Nat) C.ne))) <|
                                                              (Option.bind (posthouseref6_Count_s (EC.decL ec_44 (slOf (List.getD (List.getD (EC.encL ec_44 s) (Int.toNat i) []) (8 : Nat) C.ne)))) fun r5 =>
                                                                (gdE (EC.isL ec_44 (EC.encL ec_44 s)) <|
                                                                  (posthouseref6_listFault_l2 (EC.decL ec_44 (EC.encL ec_44 s)) (Go.IntKind.wrap Go.IntKind.i64 (number + (Go.IntKind.wrap Go.IntKind.i64 ((Go.IntKind.wrap Go.IntKind.i64 ((1 : Int) + r4)) + r5)))) depth (Go.IntKind.wrap Go.IntKind.i64 (i + (1 : Int))) b0 b0_1)))))))))))))))))))))))))))))))))
  (gdE (EC.isL ec_44 (EC.encL ec_44 s)) <|
    (some (.inr (((EC.decL ec_44 (EC.encL ec_44 s)), (number, (depth, ((), (i, false))))), (b0, b0_1))))))
theorem posthouseref6_listFault_l2_eq {s : (List S44)} {number : Int} {depth : Int} {i : Int} {b0 : Int} {b0_1 : Int} {r : ((Unit × (Int × Int)) ⊕ (((List S44) × Int × Int × Unit × Int × Bool) × (Int × Int)))} (h : posthouseref6_listFault_l2_t s number depth i b0 b0_1 = some r) : posthouseref6_listFault_l2 s number depth i b0 b0_1 = some r :=
  lS_tree (es := tab_posthouseref6_listFault) (hs := htab_prove_all_h14) [] (by kernel_rfl) trivial trivial (by kernel_rfl) h
def posthouseref6_listFault_l2_e : LEnt Try.prog lv X0 33 86 := lentS Try.prog lv X0 2 (getLoop (cdF Try.f33) 2) posthouseref6_listFault_l2_s posthouseref6_listFault_l2_o (fun x => posthouseref6_listFault_l2 x.1.1 x.1.2.1 x.1.2.2.1 x.1.2.2.2.2 x.2.1 x.2.2) (fun _ _ h => lS_from h)
def posthouseref6_listFault_t (s : (List S44)) (number : Int) (depth : Int) : Option (Int × Int) :=
  (gdE (EC.isL ec_44 (EC.encL ec_44 s)) <|
  (Option.bind (posthouseref6_listFault_l2 (EC.decL ec_44 (EC.encL ec_44 s)) number depth (0 : Int) (0 : Int) (0 : Int)) fun r0 =>
    (Sum.elim (fun r1 => (some (((r1).2).1, ((r1).2).2)))
      (fun r1 => (some ((0 : Int), (0 : Int)))) r0)))
theorem posthouseref6_listFault_eq {s : (List S44)} {number : Int} {depth : Int} {r : (Int × Int)} (h : posthouseref6_listFault_t s number depth = some r) : posthouseref6_listFault_s s number depth = some r :=
  fS_tree (es := tab_posthouseref6_listFault) (hs := htab_prove_all_h14) [posthouseref6_listFault_l2_e] Try.func33 rfl (by kernel_rfl) rfl (by kernel_rfl) (by kernel_rfl) ⟨⟨_, rfl, rfl⟩, trivial⟩ trivial (by kernel_rfl) h
def posthouseref6_RulesFault_ca : Cod (List V) (List S44) := (lOne (vC (cSl ec_44)))
def posthouseref6_RulesFault_cr : Cod (V × List B) (Int × Int) := (cFstU (cPair (vAgg (lCons (vC (cInt .i64)) (lOne (vC (cInt .i64))))) lNil))
def posthouseref6_RulesFault_s (s : (List S44)) : Option (Int × Int) := fS Try.prog lv X0 20 posthouseref6_RulesFault_ca posthouseref6_RulesFault_cr s
def posthouseref6_RulesFault_t (s : (List S44)) : Option (Int × Int) :=
  (gdE (EC.isL ec_44 (EC.encL ec_44 s)) <|
  (Option.bind (posthouseref6_listFault_s (EC.decL ec_44 (EC.encL ec_44 s)) (0 : Int) (1 : Int)) fun r0 =>
    (some ((r0).1, (r0).2))))
theorem posthouseref6_RulesFault_eq {s : (List S44)} {r : (Int × Int)} (h : posthouseref6_RulesFault_t s = some r) : posthouseref6_RulesFault_s s = some r :=
  fS_tree (es := tab_posthouseref6_listFault) (hs := htab_prove_all_h14) [] Try.func20 rfl (by kernel_rfl) rfl (by kernel_rfl) (by kernel_rfl) trivial trivial (by kernel_rfl) h
def posthouseref6_RulesFault_e : Ent Try.prog lv X0 := entS Try.prog lv X0 20 [] posthouseref6_RulesFault_ca posthouseref6_RulesFault_cr (fun x => posthouseref6_RulesFault_s x) (fun _ _ h => fS_call h)
def tab_posthouseref6_RulesFault : List (Ent Try.prog lv X0) := posthouseref6_RulesFault_e :: tab_posthouseref6_listFault
def posthouseref6_Simple_ca : Cod (List V) ((List S42) × (Int × (List S42) × ByteArray × Int × ByteArray × Int)) := (lCons (vC (cSl ec_42)) (lOne (vAgg (lCons (vC (cInt .i64)) (lCons (vC (cSl ec_42)) (lCons (vC cStr) (lCons (vC (cInt .i64)) (lCons (vC cStr) (lOne (vC (cInt .i64)))))))))))
def posthouseref6_Simple_cr : Cod (V × List B) (List S42) := (cFstU (cPair (vC (cSl ec_42)) lNil))
def posthouseref6_Simple_s (l : (List S42)) (t_Kind : Int) (t_Tests : (List S42)) (t_Name : ByteArray) (t_Pattern : Int) (t_Text : ByteArray) (t_N : Int) : Option (List S42) := fS Try.prog lv X0 23 posthouseref6_Simple_ca posthouseref6_Simple_cr (l, (t_Kind, t_Tests, t_Name, t_Pattern, t_Text, t_N))
def posthouseref6_Simple_e : Ent Try.prog lv X0 := entS Try.prog lv X0 23 [] posthouseref6_Simple_ca posthouseref6_Simple_cr (fun x => posthouseref6_Simple_s x.1 x.2.1 x.2.2.1 x.2.2.2.1 x.2.2.2.2.1 x.2.2.2.2.2.1 x.2.2.2.2.2.2) (fun _ _ h => fS_call h)
def tab_posthouseref6_Simple : List (Ent Try.prog lv X0) := posthouseref6_Simple_e :: tab_posthouseref6_RulesFault
def posthouseref6_Simple_l3_s : SC (((List S42) × Unit × Int) × (Int × (List S42) × ByteArray × Int × ByteArray × Int)) := sLS [0, 3, 5] (lCons (vC (cSl ec_42)) (lCons (vPtr 0 0) (lOne (vC (cInt .i64))))) (lOne (oSome (bBox (lCons (vC (cInt .i64)) (lCons (vC (cSl ec_42)) (lCons (vC cStr) (lCons (vC (cInt .i64)) (lCons (vC cStr) (lOne (vC (cInt .i64))))))))))) [false] [] (by decide) (fun _ => rfl)
def posthouseref6_Simple_l3_o2 : SC (((List S42) × Unit × Int × Bool) × (Int × (List S42) × ByteArray × Int × ByteArray × Int)) := sLS [0, 3, 5, 14] (lCons (vC (cSl ec_42)) (lCons (vPtr 0 0) (lCons (vC (cInt .i64)) (lOne (vC cBool))))) (lOne (oSome (bBox (lCons (vC (cInt .i64)) (lCons (vC (cSl ec_42)) (lCons (vC cStr) (lCons (vC (cInt .i64)) (lCons (vC cStr) (lOne (vC (cInt .i64))))))))))) [false] [] (by decide) (fun _ => rfl)
def posthouseref6_Simple_l3_o : OC (((List S42) × Unit × Int × Bool) × (Int × (List S42) × ByteArray × Int × ByteArray × Int)) := oAt 2 posthouseref6_Simple_l3_o2
def posthouseref6_Simple_l3 (l : (List S42)) (i : Int) (b0 : Int) (b0_1 : (List S42)) (b0_2 : ByteArray) (b0_3 : Int) (b0_4 : ByteArray) (b0_5 : Int) : Option (((List S42) × Unit × Int × Bool) × (Int × (List S42) × ByteArray × Int × ByteArray × Int)) := lS Try.prog lv X0 23 48 (getLoop (cdF Try.f23) 3) posthouseref6_Simple_l3_s posthouseref6_Simple_l3_o ((l, (), i), (b0, b0_1, b0_2, b0_3, b0_4, b0_5))
def posthouseref6_Simple_l3_t (l : (List S42)) (i : Int) (b0 : Int) (b0_1 : (List S42)) (b0_2 : ByteArray) (b0_3 : Int) (b0_4 : ByteArray) (b0_5 : Int) : Option (((List S42) × Unit × Int × Bool) × (Int × (List S42) × ByteArray × Int × ByteArray × Int)) :=
  (brE (decide (i < (((List.length (EC.encL ec_42 b0_1)) : Nat) : Int)))
  (gdE (decide ((0 : Int) ≤ i)) <|
    (gdE ((decide ((Int.toNat i) < (List.length (EC.encL ec_42 b0_1)))) && (isE [(K1.int Go.IntKind.i64), K1.sl, K1.str, (K1.int Go.IntKind.i64), K1.str, (K1.int Go.IntKind.i64)] (0 : Nat) (List.getD (EC.encL ec_42 b0_1) (Int.toNat i) []))) <|
      (gdE (EC.isL ec_42 (EC.encL ec_42 l)) <|
        (gdE (EC.isL ec_42 (slOf (List.getD (List.getD (EC.encL ec_42 b0_1) (Int.toNat i) []) (1 : Nat) C.ne))) <|
          (Option.bind (posthouseref6_Simple_s (EC.decL ec_42 (EC.encL ec_42 l)) (intOf (List.getD (List.getD (EC.encL ec_42 b0_1) (Int.toNat i) []) (0 : Nat) C.ne)) (EC.decL ec_42 (slOf (List.getD (List.getD (EC.encL ec_42 b0_1) (Int.toNat i) []) (1 : Nat) C.ne))) (strOf (List.getD (List.getD (EC.encL ec_42 b0_1) (Int.toNat i) []) (2 : Nat) C.ne)) (intOf (List.getD (List.getD (EC.encL ec_42 b0_1) (Int.toNat i) []) (3 : Nat) C.ne)) (strOf (List.getD (List.getD (EC.encL ec_42 b0_1) (Int.toNat i) []) (4 : Nat) C.ne)) (intOf (List.getD (List.getD (EC.encL ec_42 b0_1) (Int.toNat i) []) (5 : Nat) C.ne))) fun r0 =>
            (gdE (EC.isL ec_42 (EC.encL ec_42 r0)) <|
              (gdE (EC.isL ec_42 (EC.encL ec_42 b0_1)) <|
                (posthouseref6_Simple_l3 (EC.decL ec_42 (EC.encL ec_42 r0)) (Go.IntKind.wrap Go.IntKind.i64 (i + (1 : Int))) b0 (EC.decL ec_42 (EC.encL ec_42 b0_1)) b0_2 b0_3 b0_4 b0_5))))))))
  (gdE (EC.isL ec_42 (EC.encL ec_42 l)) <|
    (gdE (EC.isL ec_42 (EC.encL ec_42 b0_1)) <|
      (some (((EC.decL ec_42 (EC.encL ec_42 l)), ((), (i, false))), (b0, ((EC.decL ec_42 (EC.encL ec_42 b0_1)), (b0_2, (b0_3, (b0_4, b0_5))))))))))
theorem posthouseref6_Simple_l3_eq {l : (List S42)} {i : Int} {b0 : Int} {b0_1 : (List S42)} {b0_2 : ByteArray} {b0_3 : Int} {b0_4 : ByteArray} {b0_5 : Int} {r : (((List S42) × Unit × Int × Bool) × (Int × (List S42) × ByteArray × Int × ByteArray × Int))} (h : posthouseref6_Simple_l3_t l i b0 b0_1 b0_2 b0_3 b0_4 b0_5 = some r) : posthouseref6_Simple_l3 l i b0 b0_1 b0_2 b0_3 b0_4 b0_5 = some r :=
  lS_tree (es := tab_posthouseref6_Simple) (hs := htab_prove_all_h14) [] (by kernel_rfl) trivial trivial (by kernel_rfl) h
def posthouseref6_Simple_l3_e : LEnt Try.prog lv X0 23 48 := lentS Try.prog lv X0 3 (getLoop (cdF Try.f23) 3) posthouseref6_Simple_l3_s posthouseref6_Simple_l3_o (fun x => posthouseref6_Simple_l3 x.1.1 x.1.2.2 x.2.1 x.2.2.1 x.2.2.2.1 x.2.2.2.2.1 x.2.2.2.2.2.1 x.2.2.2.2.2.2) (fun _ _ h => lS_from h)
def posthouseref6_Simple_l8_s : SC (((List S42) × Unit × Int) × (Int × (List S42) × ByteArray × Int × ByteArray × Int)) := sLS [0, 3, 6] (lCons (vC (cSl ec_42)) (lCons (vPtr 0 0) (lOne (vC (cInt .i64))))) (lOne (oSome (bBox (lCons (vC (cInt .i64)) (lCons (vC (cSl ec_42)) (lCons (vC cStr) (lCons (vC (cInt .i64)) (lCons (vC cStr) (lOne (vC (cInt .i64))))))))))) [false] [] (by decide) (fun _ => rfl)
def posthouseref6_Simple_l8_o4 : SC (((List S42) × Unit × Int × Bool) × (Int × (List S42) × ByteArray × Int × ByteArray × Int)) := sLS [0, 3, 6, 28] (lCons (vC (cSl ec_42)) (lCons (vPtr 0 0) (lCons (vC (cInt .i64)) (lOne (vC cBool))))) (lOne (oSome (bBox (lCons (vC (cInt .i64)) (lCons (vC (cSl ec_42)) (lCons (vC cStr) (lCons (vC (cInt .i64)) (lCons (vC cStr) (lOne (vC (cInt .i64))))))))))) [false] [] (by decide) (fun _ => rfl)
def posthouseref6_Simple_l8_o1 : SC ((List S42) × Unit) := sLS [4] (lOne (vC (cSl ec_42))) lNil [] [] (by decide) (fun _ => rfl)
def posthouseref6_Simple_l8_o : OC (((List S42) × Unit) ⊕ (((List S42) × Unit × Int × Bool) × (Int × (List S42) × ByteArray × Int × ByteArray × Int))) := oOr 1 posthouseref6_Simple_l8_o1 (oAt 4 posthouseref6_Simple_l8_o4) (fun x => (by decide : (4 : Nat) ≠ 1))
def posthouseref6_Simple_l8 (l : (List S42)) (i : Int) (b0 : Int) (b0_1 : (List S42)) (b0_2 : ByteArray) (b0_3 : Int) (b0_4 : ByteArray) (b0_5 : Int) : Option (((List S42) × Unit) ⊕ (((List S42) × Unit × Int × Bool) × (Int × (List S42) × ByteArray × Int × ByteArray × Int))) := lS Try.prog lv X0 23 48 (getLoop (cdF Try.f23) 8) posthouseref6_Simple_l8_s posthouseref6_Simple_l8_o ((l, (), i), (b0, b0_1, b0_2, b0_3, b0_4, b0_5))
def posthouseref6_Simple_l8_t (l : (List S42)) (i : Int) (b0 : Int) (b0_1 : (List S42)) (b0_2 : ByteArray) (b0_3 : Int) (b0_4 : ByteArray) (b0_5 : Int) : Option (((List S42) × Unit) ⊕ (((List S42) × Unit × Int × Bool) × (Int × (List S42) × ByteArray × Int × ByteArray × Int))) :=
  (brE (decide (i < (((List.length (EC.encL ec_42 l)) : Nat) : Int)))
  (gdE (decide ((0 : Int) ≤ i)) <|
    (gdE ((decide ((Int.toNat i) < (List.length (EC.encL ec_42 l)))) && (isE [(K1.int Go.IntKind.i64), K1.sl, K1.str, (K1.int Go.IntKind.i64), K1.str, (K1.int Go.IntKind.i64)] (0 : Nat) (List.getD (EC.encL ec_42 l) (Int.toNat i) []))) <|
      (gdE (EC.isL ec_42 (slOf (List.getD (List.getD (EC.encL ec_42 l) (Int.toNat i) []) (1 : Nat) C.ne))) <|
        (gdE (EC.isL ec_42 (EC.encL ec_42 b0_1)) <|
          (Option.bind (posthouseref6_SameTest_s (intOf (List.getD (List.getD (EC.encL ec_42 l) (Int.toNat i) []) (0 : Nat) C.ne)) (EC.decL ec_42 (slOf (List.getD (List.getD (EC.encL ec_42 l) (Int.toNat i) []) (1 : Nat) C.ne))) (strOf (List.getD (List.getD (EC.encL ec_42 l) (Int.toNat i) []) (2 : Nat) C.ne)) (intOf (List.getD (List.getD (EC.encL ec_42 l) (Int.toNat i) []) (3 : Nat) C.ne)) (strOf (List.getD (List.getD (EC.encL ec_42 l) (Int.toNat i) []) (4 : Nat) C.ne)) (intOf (List.getD (List.getD (EC.encL ec_42 l) (Int.toNat i) []) (5 : Nat) C.ne)) b0 (EC.decL ec_42 (EC.encL ec_42 b0_1)) b0_2 b0_3 b0_4 b0_5) fun r0 =>
            (brE r0
              (gdE (EC.isL ec_42 (EC.encL ec_42 l)) <|
                (some (.inl ((EC.decL ec_42 (EC.encL ec_42 l)), ()))))
              (gdE (EC.isL ec_42 (EC.encL ec_42 l)) <|
                (gdE (EC.isL ec_42 (EC.encL ec_42 b0_1)) <|
                  (posthouseref6_Simple_l8 (EC.decL ec_42 (EC.encL ec_42 l)) (Go.IntKind.wrap Go.IntKind.i64 (i + (1 : Int))) b0 (EC.decL ec_42 (EC.encL ec_42 b0_1)) b0_2 b0_3 b0_4 b0_5)))))))))
  (gdE (EC.isL ec_42 (EC.encL ec_42 l)) <|
    (gdE (EC.isL ec_42 (EC.encL ec_42 b0_1)) <|
      (some (.inr (((EC.decL ec_42 (EC.encL ec_42 l)), ((), (i, false))), (b0, ((EC.decL ec_42 (EC.encL ec_42 b0_1)), (b0_2, (b0_3, (b0_4, b0_5)))))))))))
theorem posthouseref6_Simple_l8_eq {l : (List S42)} {i : Int} {b0 : Int} {b0_1 : (List S42)} {b0_2 : ByteArray} {b0_3 : Int} {b0_4 : ByteArray} {b0_5 : Int} {r : (((List S42) × Unit) ⊕ (((List S42) × Unit × Int × Bool) × (Int × (List S42) × ByteArray × Int × ByteArray × Int)))} (h : posthouseref6_Simple_l8_t l i b0 b0_1 b0_2 b0_3 b0_4 b0_5 = some r) : posthouseref6_Simple_l8 l i b0 b0_1 b0_2 b0_3 b0_4 b0_5 = some r :=
  lS_tree (es := tab_posthouseref6_Simple) (hs := htab_prove_all_h14) [] (by kernel_rfl) trivial trivial (by kernel_rfl) h
def posthouseref6_Simple_l8_e : LEnt Try.prog lv X0 23 48 := lentS Try.prog lv X0 8 (getLoop (cdF Try.f23) 8) posthouseref6_Simple_l8_s posthouseref6_Simple_l8_o (fun x => posthouseref6_Simple_l8 x.1.1 x.1.2.2 x.2.1 x.2.2.1 x.2.2.2.1 x.2.2.2.2.1 x.2.2.2.2.2.1 x.2.2.2.2.2.2) (fun _ _ h => lS_from h)
def posthouseref6_Simple_t (l : (List S42)) (t_Kind : Int) (t_Tests : (List S42)) (t_Name : ByteArray) (t_Pattern : Int) (t_Text : ByteArray) (t_N : Int) : Option (List S42) :=
  (Option.bind (posthouseref5_In_s t_Kind (2 : Int) (4 : Int)) fun r0 =>
  (brE r0
    (gdE (EC.isL ec_42 (EC.encL ec_42 l)) <|
      (gdE (EC.isL ec_42 (EC.encL ec_42 t_Tests)) <|
        (Option.bind (posthouseref6_Simple_l3 (EC.decL ec_42 (EC.encL ec_42 l)) (0 : Int) t_Kind (EC.decL ec_42 (EC.encL ec_42 t_Tests)) t_Name t_Pattern t_Text t_N) fun r1 =>
          (gdE (EC.isL ec_42 (EC.encL ec_42 ((r1).1).1)) <|
            (some (EC.decL ec_42 (EC.encL ec_42 ((r1).1).1)))))))
    (gdE (EC.isL ec_42 (EC.encL ec_42 l)) <|
      (gdE (EC.isL ec_42 (EC.encL ec_42 t_Tests)) <|
        (Option.bind (posthouseref6_Simple_l8 (EC.decL ec_42 (EC.encL ec_42 l)) (0 : Int) t_Kind (EC.decL ec_42 (EC.encL ec_42 t_Tests)) t_Name t_Pattern t_Text t_N) fun r1 =>
          (Sum.elim (fun r2 => (gdE (EC.isL ec_42 (EC.encL ec_42 (r2).1)) <|
              (some (EC.decL ec_42 (EC.encL ec_42 (r2).1)))))
            (fun r2 => (brE (((r2).2).1 == (1 : Int))
              (gdE (EC.isL ec_42 (EC.encL ec_42 ((r2).1).1)) <|
                (some (EC.decL ec_42 (EC.encL ec_42 ((r2).1).1))))
              (gdE (((List.all (EC.encL ec_42 ((r2).1).1) (fun (el : (List C)) => ((List.length el) == (6 : Nat)))) && (decide (((((List.length (EC.encL ec_42 ((r2).1).1)) + ((List.length (EC.encL ec_42 ((r2).1).1)) / (4 : Nat))) + (192 : Nat)) * (80 : Nat)) ≤ (281474976710656 : Nat)))) && (decide ((List.length (EC.encL ec_42 ((r2).1).1)) ≤ (9223372036854775807 : Nat)))) <|
                (gdE ((((List.all [[(C.int Go.IntKind.i64 ((r2).2).1), (C.sl (EC.encL ec_42 (((r2).2).2).1)), (C.str ((((r2).2).2).2).1), (C.int Go.IntKind.i64 (((((r2).2).2).2).2).1), (C.str ((((((r2).2).2).2).2).2).1), (C.int Go.IntKind.i64 ((((((r2).2).2).2).2).2).2)]] (fun (el : (List C)) => ((List.length el) == (6 : Nat)))) && (List.all (EC.encL ec_42 ((r2).1).1) (fun (el : (List C)) => ((List.length el) == (6 : Nat))))) && (decide ((((((List.length (EC.encL ec_42 ((r2).1).1)) + (List.length [[(C.int Go.IntKind.i64 ((r2).2).1), (C.sl (EC.encL ec_42 (((r2).2).2).1)), (C.str ((((r2).2).2).2).1), (C.int Go.IntKind.i64 (((((r2).2).2).2).2).1), (C.str ((((((r2).2).2).2).2).2).1), (C.int Go.IntKind.i64 ((((((r2).2).2).2).2).2).2)]])) + (((List.length (EC.encL ec_42 ((r2).1).1)) + (List.length [[(C.int Go.IntKind.i64 ((r2).2).1), (C.sl (EC.encL ec_42 (((r2).2).2).1)), (C.str ((((r2).2).2).2).1), (C.int Go.IntKind.i64 (((((r2).2).2).2).2).1), (C.str ((((((r2).2).2).2).2).2).1), (C.int Go.IntKind.i64 ((((((r2).2).2).2).2).2).2)]])) / (4 : Nat))) + (192 : Nat)) * (80 : Nat)) ≤ (281474976710656 : Nat)))) && (decide (((List.length (EC.encL ec_42 ((r2).1).1)) + (List.length [[(C.int Go.IntKind.i64 ((r2).2).1), (C.sl (EC.encL ec_42 (((r2).2).2).1)), (C.str ((((r2).2).2).2).1), (C.int Go.IntKind.i64 (((((r2).2).2).2).2).1), (C.str ((((((r2).2).2).2).2).2).1), (C.int Go.IntKind.i64 ((((((r2).2).2).2).2).2).2)]])) ≤ (9223372036854775807 : Nat)))) <|
                  (gdE (EC.isL ec_42 ((EC.encL ec_42 ((r2).1).1) ++ [[(C.int Go.IntKind.i64 ((r2).2).1), (C.sl (EC.encL ec_42 (((r2).2).2).1)), (C.str ((((r2).2).2).2).1), (C.int Go.IntKind.i64 (((((r2).2).2).2).2).1), (C.str ((((((r2).2).2).2).2).2).1), (C.int Go.IntKind.i64 ((((((r2).2).2).2).2).2).2)]])) <|
                    (some (EC.decL ec_42 ((EC.encL ec_42 ((r2).1).1) ++ [[(C.int Go.IntKind.i64 ((r2).2).1), (C.sl (EC.encL ec_42 (((r2).2).2).1)), (C.str ((((r2).2).2).2).1), (C.int Go.IntKind.i64 (((((r2).2).2).2).2).1), (C.str ((((((r2).2).2).2).2).2).1), (C.int Go.IntKind.i64 ((((((r2).2).2).2).2).2).2)]])))))))) r1))))))
theorem posthouseref6_Simple_eq {l : (List S42)} {t_Kind : Int} {t_Tests : (List S42)} {t_Name : ByteArray} {t_Pattern : Int} {t_Text : ByteArray} {t_N : Int} {r : (List S42)} (h : posthouseref6_Simple_t l t_Kind t_Tests t_Name t_Pattern t_Text t_N = some r) : posthouseref6_Simple_s l t_Kind t_Tests t_Name t_Pattern t_Text t_N = some r :=
  fS_tree (es := tab_posthouseref6_Simple) (hs := htab_prove_all_h14) [posthouseref6_Simple_l3_e, posthouseref6_Simple_l8_e] Try.func23 rfl (by kernel_rfl) rfl (by kernel_rfl) (by kernel_rfl) ⟨⟨_, rfl, rfl⟩, ⟨_, rfl, rfl⟩, trivial⟩ trivial (by kernel_rfl) h
def posthouseref6_SimpleTests_ca : Cod (List V) ((List S42) × (List S44)) := (lCons (vC (cSl ec_42)) (lOne (vC (cSl ec_44))))
def posthouseref6_SimpleTests_cr : Cod (V × List B) (List S42) := (cFstU (cPair (vC (cSl ec_42)) lNil))
def posthouseref6_SimpleTests_s (l : (List S42)) (s : (List S44)) : Option (List S42) := fS Try.prog lv X0 9 posthouseref6_SimpleTests_ca posthouseref6_SimpleTests_cr (l, s)
def posthouseref6_SimpleTests_e : Ent Try.prog lv X0 := entS Try.prog lv X0 9 [] posthouseref6_SimpleTests_ca posthouseref6_SimpleTests_cr (fun x => posthouseref6_SimpleTests_s x.1 x.2) (fun _ _ h => fS_call h)
def tab_posthouseref6_SimpleTests : List (Ent Try.prog lv X0) := posthouseref6_SimpleTests_e :: tab_posthouseref6_Simple
def posthouseref6_SimpleTests_l2_s : SC (((List S42) × (List S44) × Int) × Unit) := sLS [0, 1, 5] (lCons (vC (cSl ec_42)) (lCons (vC (cSl ec_44)) (lOne (vC (cInt .i64))))) lNil [] [] (by decide) (fun _ => rfl)
def posthouseref6_SimpleTests_l2_o2 : SC (((List S42) × (List S44) × Int × Bool) × Unit) := sLS [0, 1, 5, 9] (lCons (vC (cSl ec_42)) (lCons (vC (cSl ec_44)) (lCons (vC (cInt .i64)) (lOne (vC cBool))))) lNil [] [] (by decide) (fun _ => rfl)
def posthouseref6_SimpleTests_l2_o : OC (((List S42) × (List S44) × Int × Bool) × Unit) := oAt 2 posthouseref6_SimpleTests_l2_o2
def posthouseref6_SimpleTests_l2 (l : (List S42)) (s : (List S44)) (i : Int) : Option (((List S42) × (List S44) × Int × Bool) × Unit) := lS Try.prog lv X0 9 40 (getLoop (cdF Try.f9) 2) posthouseref6_SimpleTests_l2_s posthouseref6_SimpleTests_l2_o ((l, s, i), ())
def posthouseref6_SimpleTests_l2_t (l : (List S42)) (s : (List S44)) (i : Int) : Option (((List S42) × (List S44) × Int × Bool) × Unit) :=
  (brE (decide (i < (((List.length (EC.encL ec_44 s)) : Nat) : Int)))
  (gdE (decide ((0 : Int) ≤ i)) <|
    (gdE ((decide ((Int.toNat i) < (List.length (EC.encL ec_44 s)))) && (isE [(K1.int Go.IntKind.i64), (K1.int Go.IntKind.i64), K1.sl, K1.str, (K1.int Go.IntKind.i64), K1.str, (K1.int Go.IntKind.i64), K1.sl, K1.sl, (K1.int Go.IntKind.i64), K1.str, K1.str, (K1.int Go.IntKind.i64)] (0 : Nat) (List.getD (EC.encL ec_44 s) (Int.toNat i) []))) <|
      (brE ((intOf (List.getD (List.getD (EC.encL ec_44 s) (Int.toNat i) []) (0 : Nat) C.ne)) == (1 : Int))
        (gdE (decide ((0 : Int) ≤ i)) <|
          (gdE ((decide ((Int.toNat i) < (List.length (EC.encL ec_44 s)))) && (isE [(K1.int Go.IntKind.i64), (K1.int Go.IntKind.i64), K1.sl, K1.str, (K1.int Go.IntKind.i64), K1.str, (K1.int Go.IntKind.i64), K1.sl, K1.sl, (K1.int Go.IntKind.i64), K1.str, K1.str, (K1.int Go.IntKind.i64)] (0 : Nat) (List.getD (EC.encL ec_44 s) (Int.toNat i) []))) <|
            (gdE (EC.isL ec_42 (EC.encL ec_42 l)) <|
              (gdE (EC.isL ec_42 (slOf (List.getD (List.getD (EC.encL ec_44 s) (Int.toNat i) []) (2 : Nat) C.ne))) <|
                (Option.bind (posthouseref6_Simple_s (EC.decL ec_42 (EC.encL ec_42 l)) (intOf (List.getD (List.getD (EC.encL ec_44 s) (Int.toNat i) []) (1 : Nat) C.ne)) (EC.decL ec_42 (slOf (List.getD (List.getD (EC.encL ec_44 s) (Int.toNat i) []) (2 : Nat) C.ne))) (strOf (List.getD (List.getD (EC.encL ec_44 s) (Int.toNat i) []) (3 : Nat) C.ne)) (intOf (List.getD (List.getD (EC.encL ec_44 s) (Int.toNat i) []) (4 : Nat) C.ne)) (strOf (List.getD (List.getD (EC.encL ec_44 s) (Int.toNat i) []) (5 : Nat) C.ne)) (intOf (List.getD (List.getD (EC.encL ec_44 s) (Int.toNat i) []) (6 : Nat) C.ne))) fun r0 =>
                  (gdE (decide ((0 : Int) ≤ i)) <|
                    (gdE ((decide ((Int.toNat i) < (List.length (EC.encL ec_44 s)))) && (isE [(K1.int Go.IntKind.i64), (K1.int Go.IntKind.i64), K1.sl, K1.str, (K1.int Go.IntKind.i64), K1.str, (K1.int Go.IntKind.i64), K1.sl, K1.sl, (K1.int Go.IntKind.i64), K1.str, K1.str, (K1.int Go.IntKind.i64)] (0 : Nat) (List.getD (EC.encL ec_44 s) (Int.toNat i) []))) <|
                      (gdE (EC.isL ec_42 (EC.encL ec_42 r0)) <|
                        (gdE (EC.isL ec_44 (slOf (List.getD (List.getD (EC.encL ec_44 s) (Int.toNat i) []) (7 : Nat) C.ne))) <|
                          (Option.bind (posthouseref6_SimpleTests_s (EC.decL ec_42 (EC.encL ec_42 r0)) (EC.decL ec_44 (slOf (List.getD (List.getD (EC.encL ec_44 s) (Int.toNat i) []) (7 : Nat) C.ne)))) fun r1 =>
                            (gdE (decide ((0 : Int) ≤ i)) <|
                              (gdE ((decide ((Int.toNat i) < (List.length (EC.encL ec_44 s)))) && (isE [(K1.int Go.IntKind.i64), (K1.int Go.IntKind.i64), K1.sl, K1.str, (K1.int Go.IntKind.i64), K1.str, (K1.int Go.IntKind.i64), K1.sl, K1.sl, (K1.int Go.IntKind.i64), K1.str, K1.str, (K1.int Go.IntKind.i64)] (0 : Nat) (List.getD (EC.encL ec_44 s) (Int.toNat i) []))) <|
                                (gdE (EC.isL ec_42 (EC.encL ec_42 r1)) <|
                                  (gdE (EC.isL ec_44 (slOf (List.getD (List.getD (EC.encL ec_44 s) (Int.toNat i) []) (8 : Nat) C.ne))) <|
                                    (Option.bind (posthouseref6_SimpleTests_s (EC.decL ec_42 (EC.encL ec_42 r1)) (EC.decL ec_44 (slOf (List.getD (List.getD (EC.encL ec_44 s) (Int.toNat i) []) (8 : Nat) C.ne)))) fun r2 =>
                                      (gdE (EC.isL ec_42 (EC.encL ec_42 r2)) <|
                                        (gdE (EC.isL ec_44 (EC.encL ec_44 s)) <|
                                          (posthouseref6_SimpleTests_l2 (EC.decL ec_42 (EC.encL ec_42 r2)) (EC.decL ec_44 (EC.encL ec_44 s)) (Go.IntKind.wrap Go.IntKind.i64 (i + (1 : Int)))))))))))))))))))))
        (gdE (decide ((0 : Int) ≤ i)) <|
          (gdE ((decide ((Int.toNat i) < (List.length (EC.encL ec_44 s)))) && (isE [(K1.int Go.IntKind.i64), (K1.int Go.IntKind.i64), K1.sl, K1.str, (K1.int Go.IntKind.i64), K1.str, (K1.int Go.IntKind.i64), K1.sl, K1.sl, (K1.int Go.IntKind.i64), K1.str, K1.str, (K1.int Go.IntKind.i64)] (0 : Nat) (List.getD (EC.encL ec_44 s) (Int.toNat i) []))) <|
            (gdE (EC.isL ec_42 (EC.encL ec_42 l)) <|
              (gdE (EC.isL ec_44 (slOf (List.getD (List.getD (EC.encL ec_44 s) (Int.toNat i) []) (7 : Nat) C.ne))) <|
                (Option.bind (posthouseref6_SimpleTests_s (EC.decL ec_42 (EC.encL ec_42 l)) (EC.decL ec_44 (slOf (List.getD (List.getD (EC.encL ec_44 s) (Int.toNat i) []) (7 : Nat) C.ne)))) fun r0 =>
                  (gdE (decide ((0 : Int) ≤ i)) <|
                    (gdE ((decide ((Int.toNat i) < (List.length (EC.encL ec_44 s)))) && (isE [(K1.int Go.IntKind.i64), (K1.int Go.IntKind.i64), K1.sl, K1.str, (K1.int Go.IntKind.i64), K1.str, (K1.int Go.IntKind.i64), K1.sl, K1.sl, (K1.int Go.IntKind.i64), K1.str, K1.str, (K1.int Go.IntKind.i64)] (0 : Nat) (List.getD (EC.encL ec_44 s) (Int.toNat i) []))) <|
                      (gdE (EC.isL ec_42 (EC.encL ec_42 r0)) <|
                        (gdE (EC.isL ec_44 (slOf (List.getD (List.getD (EC.encL ec_44 s) (Int.toNat i) []) (8 : Nat) C.ne))) <|
                          (Option.bind (posthouseref6_SimpleTests_s (EC.decL ec_42 (EC.encL ec_42 r0)) (EC.decL ec_44 (slOf (List.getD (List.getD (EC.encL ec_44 s) (Int.toNat i) []) (8 : Nat) C.ne)))) fun r1 =>
                            (gdE (EC.isL ec_42 (EC.encL ec_42 r1)) <|
                              (gdE (EC.isL ec_44 (EC.encL ec_44 s)) <|
                                (posthouseref6_SimpleTests_l2 (EC.decL ec_42 (EC.encL ec_42 r1)) (EC.decL ec_44 (EC.encL ec_44 s)) (Go.IntKind.wrap Go.IntKind.i64 (i + (1 : Int)))))))))))))))))))
  (gdE (EC.isL ec_42 (EC.encL ec_42 l)) <|
    (gdE (EC.isL ec_44 (EC.encL ec_44 s)) <|
      (some (((EC.decL ec_42 (EC.encL ec_42 l)), ((EC.decL ec_44 (EC.encL ec_44 s)), (i, false))), ())))))
theorem posthouseref6_SimpleTests_l2_eq {l : (List S42)} {s : (List S44)} {i : Int} {r : (((List S42) × (List S44) × Int × Bool) × Unit)} (h : posthouseref6_SimpleTests_l2_t l s i = some r) : posthouseref6_SimpleTests_l2 l s i = some r :=
  lS_tree (es := tab_posthouseref6_SimpleTests) (hs := htab_prove_all_h14) [] (by kernel_rfl) trivial trivial (by kernel_rfl) h
def posthouseref6_SimpleTests_l2_e : LEnt Try.prog lv X0 9 40 := lentS Try.prog lv X0 2 (getLoop (cdF Try.f9) 2) posthouseref6_SimpleTests_l2_s posthouseref6_SimpleTests_l2_o (fun x => posthouseref6_SimpleTests_l2 x.1.1 x.1.2.1 x.1.2.2) (fun _ _ h => lS_from h)
def posthouseref6_SimpleTests_t (l : (List S42)) (s : (List S44)) : Option (List S42) :=
  (gdE (EC.isL ec_42 (EC.encL ec_42 l)) <|
  (gdE (EC.isL ec_44 (EC.encL ec_44 s)) <|
    (Option.bind (posthouseref6_SimpleTests_l2 (EC.decL ec_42 (EC.encL ec_42 l)) (EC.decL ec_44 (EC.encL ec_44 s)) (0 : Int)) fun r0 =>
      (gdE (EC.isL ec_42 (EC.encL ec_42 ((r0).1).1)) <|
        (some (EC.decL ec_42 (EC.encL ec_42 ((r0).1).1)))))))
theorem posthouseref6_SimpleTests_eq {l : (List S42)} {s : (List S44)} {r : (List S42)} (h : posthouseref6_SimpleTests_t l s = some r) : posthouseref6_SimpleTests_s l s = some r :=
  fS_tree (es := tab_posthouseref6_SimpleTests) (hs := htab_prove_all_h14) [posthouseref6_SimpleTests_l2_e] Try.func9 rfl (by kernel_rfl) rfl (by kernel_rfl) (by kernel_rfl) ⟨⟨_, rfl, rfl⟩, trivial⟩ trivial (by kernel_rfl) h
def posthouseref6_ProveFault_ca : Cod (List V) (List S44) := (lOne (vC (cSl ec_44)))
def posthouseref6_ProveFault_cr : Cod (V × List B) (Int × Int) := (cFstU (cPair (vAgg (lCons (vC (cInt .i64)) (lOne (vC (cInt .i64))))) lNil))
def posthouseref6_ProveFault_s (s : (List S44)) : Option (Int × Int) := fS Try.prog lv X0 7 posthouseref6_ProveFault_ca posthouseref6_ProveFault_cr s
def posthouseref6_ProveFault_t (s : (List S44)) : Option (Int × Int) :=
  (gdE (EC.isL ec_44 (EC.encL ec_44 s)) <|
  (Option.bind (posthouseref6_RulesFault_s (EC.decL ec_44 (EC.encL ec_44 s))) fun r0 =>
    (brE ((r0).1 != (0 : Int))
      (some ((r0).1, (r0).2))
      (gdE (EC.isL ec_44 (EC.encL ec_44 s)) <|
        (Option.bind (posthouseref6_SimpleTests_s (EC.decL ec_42 []) (EC.decL ec_44 (EC.encL ec_44 s))) fun r1 =>
          (brE (decide ((((List.length (EC.encL ec_42 r1)) : Nat) : Int) > (10 : Int)))
            (Option.bind (posthouseref5_At_s (17 : Int) (-(4 : Int))) fun r2 =>
              (some ((r2).1, (r2).2)))
            (some ((0 : Int), (0 : Int)))))))))
theorem posthouseref6_ProveFault_eq {s : (List S44)} {r : (Int × Int)} (h : posthouseref6_ProveFault_t s = some r) : posthouseref6_ProveFault_s s = some r :=
  fS_tree (es := tab_posthouseref6_SimpleTests) (hs := htab_prove_all_h14) [] Try.func7 rfl (by kernel_rfl) rfl (by kernel_rfl) (by kernel_rfl) trivial trivial (by kernel_rfl) h
def posthouseref6_ProveFault_e : Ent Try.prog lv X0 := entS Try.prog lv X0 7 [] posthouseref6_ProveFault_ca posthouseref6_ProveFault_cr (fun x => posthouseref6_ProveFault_s x) (fun _ _ h => fS_call h)
def tab_posthouseref6_ProveFault : List (Ent Try.prog lv X0) := posthouseref6_ProveFault_e :: tab_posthouseref6_SimpleTests
end
end Go.Proofs.Ytokahibbkdbndaa
