/- Functions of the program as plain functions: made by program from the machine. -/
import Derived.Test.YtokahibbkdbndaaGreatDoorZ21
namespace Go.Proofs.YtokahibbkdbndaaGreatDoor
open Go.RowKit
set_option maxRecDepth 100000
noncomputable section
def evaluate_Run_ca : Cod (List V) ((List S50) × (ByteArray × (List S118) × ByteArray × (List S55) × (List Int))) := (lCons (vC (cSl ec_50)) (lOne (vAgg (lCons (vC cStr) (lCons (vC (cSl ec_118)) (lCons (vC cStr) (lCons (vC (cSl ec_55)) (lOne (vC (cSl ec_5))))))))))
def evaluate_Noted_h2_s : SC (((List S50) × (ByteArray × (List S118) × ByteArray × (List S55) × (List Int)) × Unit) × Unit) := sLS [0, 1, 2] (lCons (vC (cSl ec_50)) (lCons (vAgg (lCons (vC cStr) (lCons (vC (cSl ec_118)) (lCons (vC cStr) (lCons (vC (cSl ec_55)) (lOne (vC (cSl ec_5)))))))) (lOne (vFn 38 lNil)))) lNil [] [] (by decide) (fun _ => rfl)
def evaluate_Noted_h2_q : SC ((Nat × (Int × Int)) × (List S45)) := sLS [0, 1] (lCons (vRow 0) (lOne (vAgg (lCons (vC (cInt .i64)) (lOne (vC (cInt .i64))))))) (lOne (oSome (bRow ec_45))) [false] [] (by decide) (fun _ => rfl)
def evaluate_Noted_h2_o : HC ((Nat × (Int × Int)) × ((Nat × (Int × Int)) × (List S45))) := hPair (vTup (lCons (vRow 0) (lOne (vAgg (lCons (vC (cInt .i64)) (lOne (vC (cInt .i64)))))))) evaluate_Noted_h2_q
def evaluate_Noted_h2 (s : (List S50)) (m_ : ByteArray) (m__1 : (List S118)) (m__2 : ByteArray) (m__3 : (List S55)) (m__4 : (List Int)) : Option ((Nat × (Int × Int)) × ((Nat × (Int × Int)) × (List S45))) := hS Tryz.prog lv X0 37 evaluate_Noted_h2_s evaluate_Noted_h2_o ((s, (m_, m__1, m__2, m__3, m__4), ()), ())
def evaluate_Noted_h2_e : HEnt Tryz.prog lv X0 := hentS Tryz.prog lv X0 37 [0, 1, 4, 1, 7, 5, 1, 3, 1, 4, 1, 3, 1, 4, 1, 4, 2, 6, 38, 0] evaluate_Noted_h2_s evaluate_Noted_h2_o (fun x => evaluate_Noted_h2 x.1.1 x.1.2.1.1 x.1.2.1.2.1 x.1.2.1.2.2.1 x.1.2.1.2.2.2.1 x.1.2.1.2.2.2.2) (fun _ _ h => hS_from h)
def htab_evaluate_Noted_h2 : List (HEnt Tryz.prog lv X0) := evaluate_Noted_h2_e :: htab_rules_Validate_1_h1
def evaluate_run_execute_h3_s : SC ((Unit × (List S50) × Int) × ((ByteArray × (List S118) × ByteArray × (List S55) × (List Int) × Int × Unit × Nat × Unit) × (List (ByteArray × ByteArray)) × (List S45))) := sLS [0, 1, 2] (lCons (vPtr 0 0) (lCons (vC (cSl ec_50)) (lOne (vC (cInt .i64))))) (lCons (oSome (bBox (lCons (vC cStr) (lCons (vC (cSl ec_118)) (lCons (vC cStr) (lCons (vC (cSl ec_55)) (lCons (vC (cSl ec_5)) (lCons (vC (cInt .i64)) (lCons (vMp 1) (lCons (vRow 2) (lOne (vFn 38 lNil)))))))))))) (lCons (oSome bMap) (lOne (oSome (bRow ec_45))))) [false, false, false] [0, 1] (by decide) (fun _ => rfl)
def evaluate_run_execute_h3_q : SC (Bool × ((ByteArray × (List S118) × ByteArray × (List S55) × (List Int) × Int × Unit × Nat × Unit) × (List (ByteArray × ByteArray)) × (List S45))) := sLS [0] (lOne (vC cBool)) (lCons (oSome (bBox (lCons (vC cStr) (lCons (vC (cSl ec_118)) (lCons (vC cStr) (lCons (vC (cSl ec_55)) (lCons (vC (cSl ec_5)) (lCons (vC (cInt .i64)) (lCons (vMp 1) (lCons (vRow 2) (lOne (vFn 38 lNil)))))))))))) (lCons (oSome bMap) (lOne (oSome (bRow ec_45))))) [false, false, false] [0, 1] (by decide) (fun _ => rfl)
def evaluate_run_execute_h3_o : HC (Bool × (Bool × ((ByteArray × (List S118) × ByteArray × (List S55) × (List Int) × Int × Unit × Nat × Unit) × (List (ByteArray × ByteArray)) × (List S45)))) := hPair (vC cBool) evaluate_run_execute_h3_q
def evaluate_run_execute_h3 (s : (List S50)) (number : Int) (b0 : ByteArray) (b0_1 : (List S118)) (b0_2 : ByteArray) (b0_3 : (List S55)) (b0_4 : (List Int)) (b0_5 : Int) (b0_6 : Nat) (b1 : (List (ByteArray × ByteArray))) (b2 : (List S45)) : Option (Bool × (Bool × ((ByteArray × (List S118) × ByteArray × (List S55) × (List Int) × Int × Unit × Nat × Unit) × (List (ByteArray × ByteArray)) × (List S45)))) := hS Tryz.prog lv X0 61 evaluate_run_execute_h3_s evaluate_run_execute_h3_o (((), s, number), ((b0, b0_1, b0_2, b0_3, b0_4, b0_5, (), b0_6, ()), b1, b2))
def evaluate_run_execute_h3_e : HEnt Tryz.prog lv X0 := hentS Tryz.prog lv X0 61 [0, 3, 0, 0, 1, 1, 4, 2, 1, 1, 1, 9, 1, 3, 1, 4, 1, 3, 1, 4, 1, 4, 1, 1, 8, 1, 2, 2, 6, 38, 0, 4, 2, 0, 1] evaluate_run_execute_h3_s evaluate_run_execute_h3_o (fun x => evaluate_run_execute_h3 x.1.2.1 x.1.2.2 x.2.1.1 x.2.1.2.1 x.2.1.2.2.1 x.2.1.2.2.2.1 x.2.1.2.2.2.2.1 x.2.1.2.2.2.2.2.1 x.2.1.2.2.2.2.2.2.2.1 x.2.2.1 x.2.2.2) (fun _ _ h => hS_from h)
def htab_evaluate_run_execute_h3 : List (HEnt Tryz.prog lv X0) := evaluate_run_execute_h3_e :: htab_evaluate_Noted_h2
def evaluate_run_test_h4_s : SC ((Unit × (Int × (List S48) × ByteArray × Int × ByteArray × Int)) × ((ByteArray × (List S118) × ByteArray × (List S55) × (List Int) × Int × Unit × Nat × Unit) × (List (ByteArray × ByteArray)) × (List S45))) := sLS [0, 1] (lCons (vPtr 0 0) (lOne (vAgg (lCons (vC (cInt .i64)) (lCons (vC (cSl ec_48)) (lCons (vC cStr) (lCons (vC (cInt .i64)) (lCons (vC cStr) (lOne (vC (cInt .i64))))))))))) (lCons (oSome (bBox (lCons (vC cStr) (lCons (vC (cSl ec_118)) (lCons (vC cStr) (lCons (vC (cSl ec_55)) (lCons (vC (cSl ec_5)) (lCons (vC (cInt .i64)) (lCons (vMp 1) (lCons (vRow 2) (lOne (vFn 38 lNil)))))))))))) (lCons (oSome bMap) (lOne (oSome (bRow ec_45))))) [false, false, false] [0, 1] (by decide) (fun _ => rfl)
def evaluate_run_test_h4_q : SC (Bool × ((ByteArray × (List S118) × ByteArray × (List S55) × (List Int) × Int × Unit × Nat × Unit) × (List (ByteArray × ByteArray)) × (List S45))) := sLS [0] (lOne (vC cBool)) (lCons (oSome (bBox (lCons (vC cStr) (lCons (vC (cSl ec_118)) (lCons (vC cStr) (lCons (vC (cSl ec_55)) (lCons (vC (cSl ec_5)) (lCons (vC (cInt .i64)) (lCons (vMp 1) (lCons (vRow 2) (lOne (vFn 38 lNil)))))))))))) (lCons (oSome bMap) (lOne (oSome (bRow ec_45))))) [false, false, false] [0, 1] (by decide) (fun _ => rfl)
def evaluate_run_test_h4_o : HC (Bool × (Bool × ((ByteArray × (List S118) × ByteArray × (List S55) × (List Int) × Int × Unit × Nat × Unit) × (List (ByteArray × ByteArray)) × (List S45)))) := hPair (vC cBool) evaluate_run_test_h4_q
def evaluate_run_test_h4 (t : Int) (t_1 : (List S48)) (t_2 : ByteArray) (t_3 : Int) (t_4 : ByteArray) (t_5 : Int) (b0 : ByteArray) (b0_1 : (List S118)) (b0_2 : ByteArray) (b0_3 : (List S55)) (b0_4 : (List Int)) (b0_5 : Int) (b0_6 : Nat) (b1 : (List (ByteArray × ByteArray))) (b2 : (List S45)) : Option (Bool × (Bool × ((ByteArray × (List S118) × ByteArray × (List S55) × (List Int) × Int × Unit × Nat × Unit) × (List (ByteArray × ByteArray)) × (List S45)))) := hS Tryz.prog lv X0 80 evaluate_run_test_h4_s evaluate_run_test_h4_o (((), (t, t_1, t_2, t_3, t_4, t_5)), ((b0, b0_1, b0_2, b0_3, b0_4, b0_5, (), b0_6, ()), b1, b2))
def evaluate_run_test_h4_e : HEnt Tryz.prog lv X0 := hentS Tryz.prog lv X0 80 [0, 3, 0, 0, 1, 7, 6, 1, 1, 1, 4, 1, 3, 1, 1, 1, 3, 1, 1, 1, 9, 1, 3, 1, 4, 1, 3, 1, 4, 1, 4, 1, 1, 8, 1, 2, 2, 6, 38, 0, 4, 2, 0, 1] evaluate_run_test_h4_s evaluate_run_test_h4_o (fun x => evaluate_run_test_h4 x.1.2.1 x.1.2.2.1 x.1.2.2.2.1 x.1.2.2.2.2.1 x.1.2.2.2.2.2.1 x.1.2.2.2.2.2.2 x.2.1.1 x.2.1.2.1 x.2.1.2.2.1 x.2.1.2.2.2.1 x.2.1.2.2.2.2.1 x.2.1.2.2.2.2.2.1 x.2.1.2.2.2.2.2.2.2.1 x.2.2.1 x.2.2.2) (fun _ _ h => hS_from h)
def htab_evaluate_run_test_h4 : List (HEnt Tryz.prog lv X0) := evaluate_run_test_h4_e :: htab_evaluate_run_execute_h3
def evaluate_run_fields_h5_s : SC ((Unit × ByteArray) × ((ByteArray × (List S118) × ByteArray × (List S55) × (List Int) × Int × Unit × Nat × Unit) × (List (ByteArray × ByteArray)) × (List S45))) := sLS [0, 1] (lCons (vPtr 0 0) (lOne (vC cStr))) (lCons (oSome (bBox (lCons (vC cStr) (lCons (vC (cSl ec_118)) (lCons (vC cStr) (lCons (vC (cSl ec_55)) (lCons (vC (cSl ec_5)) (lCons (vC (cInt .i64)) (lCons (vMp 1) (lCons (vRow 2) (lOne (vFn 38 lNil)))))))))))) (lCons (oSome bMap) (lOne (oSome (bRow ec_45))))) [false, false, false] [0, 1] (by decide) (fun _ => rfl)
def evaluate_run_fields_h5_q : SC (Nat × ((List ByteArray) × (ByteArray × (List S118) × ByteArray × (List S55) × (List Int) × Int × Unit × Nat × Unit) × (List (ByteArray × ByteArray)) × (List S45))) := sLS [0] (lOne (vRow 0)) (lCons (oSome (bRow ec_9)) (lCons (oSome (bBox (lCons (vC cStr) (lCons (vC (cSl ec_118)) (lCons (vC cStr) (lCons (vC (cSl ec_55)) (lCons (vC (cSl ec_5)) (lCons (vC (cInt .i64)) (lCons (vMp 2) (lCons (vRow 3) (lOne (vFn 38 lNil)))))))))))) (lCons (oSome bMap) (lOne (oSome (bRow ec_45)))))) [false, false, false, false] [1, 2] (by decide) (fun _ => rfl)
def evaluate_run_fields_h5_o : HC (Nat × (Nat × ((List ByteArray) × (ByteArray × (List S118) × ByteArray × (List S55) × (List Int) × Int × Unit × Nat × Unit) × (List (ByteArray × ByteArray)) × (List S45)))) := hPair (vRow 0) evaluate_run_fields_h5_q
def evaluate_run_fields_h5 (name : ByteArray) (b0 : ByteArray) (b0_1 : (List S118)) (b0_2 : ByteArray) (b0_3 : (List S55)) (b0_4 : (List Int)) (b0_5 : Int) (b0_6 : Nat) (b1 : (List (ByteArray × ByteArray))) (b2 : (List S45)) : Option (Nat × (Nat × ((List ByteArray) × (ByteArray × (List S118) × ByteArray × (List S55) × (List Int) × Int × Unit × Nat × Unit) × (List (ByteArray × ByteArray)) × (List S45)))) := hS Tryz.prog lv X0 104 evaluate_run_fields_h5_s evaluate_run_fields_h5_o (((), name), ((b0, b0_1, b0_2, b0_3, b0_4, b0_5, (), b0_6, ()), b1, b2))
def evaluate_run_fields_h5_t (name : ByteArray) (b0 : ByteArray) (b0_1 : (List S118)) (b0_2 : ByteArray) (b0_3 : (List S55)) (b0_4 : (List Int)) (b0_5 : Int) (b0_6 : Nat) (b1 : (List (ByteArray × ByteArray))) (b2 : (List S45)) : Option (Nat × (Nat × ((List ByteArray) × (ByteArray × (List S118) × ByteArray × (List S55) × (List Int) × Int × Unit × Nat × Unit) × (List (ByteArray × ByteArray)) × (List S45)))) :=
 (gdE (EC.isL ec_55 (EC.encL ec_55 b0_3)) <|
 (Option.bind (header_Get_s (EC.decL ec_55 (EC.encL ec_55 b0_3)) name) fun r0 =>
 (gdE (EC.isL ec_9 (EC.encL ec_9 (r0).2)) <|
 (gdE (EC.isL ec_118 (EC.encL ec_118 b0_1)) <|
 (gdE (EC.isL ec_55 (EC.encL ec_55 b0_3)) <|
 (gdE (EC.isL ec_5 (EC.encL ec_5 b0_4)) <|
 (gdE (EC.isL ec_45 (EC.encL ec_45 b2)) <|
 (some (((r0).1).1, (((r0).1).1, ((EC.decL ec_9 (EC.encL ec_9 (r0).2)), ((b0, ((EC.decL ec_118 (EC.encL ec_118 b0_1)), (b0_2, ((EC.decL ec_55 (EC.encL ec_55 b0_3)), ((EC.decL ec_5 (EC.encL ec_5 b0_4)), (b0_5, ((), (b0_6, ())))))))), (b1, (EC.decL ec_45 (EC.encL ec_45 b2)))))))))))))))
theorem evaluate_run_fields_h5_eq {name : ByteArray} {b0 : ByteArray} {b0_1 : (List S118)} {b0_2 : ByteArray} {b0_3 : (List S55)} {b0_4 : (List Int)} {b0_5 : Int} {b0_6 : Nat} {b1 : (List (ByteArray × ByteArray))} {b2 : (List S45)} {r : (Nat × (Nat × ((List ByteArray) × (ByteArray × (List S118) × ByteArray × (List S55) × (List Int) × Int × Unit × Nat × Unit) × (List (ByteArray × ByteArray)) × (List S45))))} (h : evaluate_run_fields_h5_t name b0 b0_1 b0_2 b0_3 b0_4 b0_5 b0_6 b1 b2 = some r) : evaluate_run_fields_h5 name b0 b0_1 b0_2 b0_3 b0_4 b0_5 b0_6 b1 b2 = some r :=
  hS_tree (fn := Tryz.f104) (es := tab_posthouseref6_Decides) (hs := htab_evaluate_run_test_h4) [] (by kernel_rfl) rfl (by kernel_rfl) trivial trivial (by kernel_rfl) h
def evaluate_run_fields_h5_e : HEnt Tryz.prog lv X0 := hentS Tryz.prog lv X0 104 [0, 3, 0, 0, 1, 1, 3, 1, 9, 1, 3, 1, 4, 1, 3, 1, 4, 1, 4, 1, 1, 8, 1, 2, 2, 6, 38, 0, 4, 2, 0, 1] evaluate_run_fields_h5_s evaluate_run_fields_h5_o (fun x => evaluate_run_fields_h5 x.1.2 x.2.1.1 x.2.1.2.1 x.2.1.2.2.1 x.2.1.2.2.2.1 x.2.1.2.2.2.2.1 x.2.1.2.2.2.2.2.1 x.2.1.2.2.2.2.2.2.2.1 x.2.2.1 x.2.2.2) (fun _ _ h => hS_from h)
def htab_evaluate_run_fields_h5 : List (HEnt Tryz.prog lv X0) := evaluate_run_fields_h5_e :: htab_evaluate_run_test_h4
def evaluate_run_match_h6_s : SC ((Unit × (Int × (List S48) × ByteArray × Int × ByteArray × Int) × Nat) × ((ByteArray × (List S118) × ByteArray × (List S55) × (List Int) × Int × Unit × Nat × Unit) × (List ByteArray) × (List (ByteArray × ByteArray)) × (List S45))) := sLS [0, 1, 2] (lCons (vPtr 0 0) (lCons (vAgg (lCons (vC (cInt .i64)) (lCons (vC (cSl ec_48)) (lCons (vC cStr) (lCons (vC (cInt .i64)) (lCons (vC cStr) (lOne (vC (cInt .i64))))))))) (lOne (vRow 1)))) (lCons (oSome (bBox (lCons (vC cStr) (lCons (vC (cSl ec_118)) (lCons (vC cStr) (lCons (vC (cSl ec_55)) (lCons (vC (cSl ec_5)) (lCons (vC (cInt .i64)) (lCons (vMp 2) (lCons (vRow 3) (lOne (vFn 38 lNil)))))))))))) (lCons (oSome (bRow ec_9)) (lCons (oSome bMap) (lOne (oSome (bRow ec_45)))))) [false, false, false, false] [0, 2] (by decide) (fun _ => rfl)
def evaluate_run_match_h6_l9_s : SC ((Unit × Nat × Int × Int) × ((ByteArray × (List S118) × ByteArray × (List S55) × (List Int) × Int × Unit × Nat × Unit) × (List ByteArray) × (List (ByteArray × ByteArray)) × (List S45))) := sLS [0, 44, 45, 46] (lCons (vPtr 0 0) (lCons (vRow 1) (lCons (vC (cInt .i64)) (lOne (vC (cInt .i64)))))) (lCons (oSome (bBox (lCons (vC cStr) (lCons (vC (cSl ec_118)) (lCons (vC cStr) (lCons (vC (cSl ec_55)) (lCons (vC (cSl ec_5)) (lCons (vC (cInt .i64)) (lCons (vMp 2) (lCons (vRow 3) (lOne (vFn 38 lNil)))))))))))) (lCons (oSome (bRow ec_9)) (lCons (oSome bMap) (lOne (oSome (bRow ec_45)))))) [false, false, false, false] [0, 2] (by decide) (fun _ => rfl)
def evaluate_run_match_h6_l9_o4 : SC ((Unit × Nat × Int × Int × Bool) × ((ByteArray × (List S118) × ByteArray × (List S55) × (List Int) × Int × Unit × Nat × Unit) × (List ByteArray) × (List (ByteArray × ByteArray)) × (List S45))) := sLS [0, 44, 45, 46, 47] (lCons (vPtr 0 0) (lCons (vRow 1) (lCons (vC (cInt .i64)) (lCons (vC (cInt .i64)) (lOne (vC cBool)))))) (lCons (oSome (bBox (lCons (vC cStr) (lCons (vC (cSl ec_118)) (lCons (vC cStr) (lCons (vC (cSl ec_55)) (lCons (vC (cSl ec_5)) (lCons (vC (cInt .i64)) (lCons (vMp 2) (lCons (vRow 3) (lOne (vFn 38 lNil)))))))))))) (lCons (oSome (bRow ec_9)) (lCons (oSome bMap) (lOne (oSome (bRow ec_45)))))) [false, false, false, false] [0, 2] (by decide) (fun _ => rfl)
def evaluate_run_match_h6_l9_o : OC ((Unit × Nat × Int × Int × Bool) × ((ByteArray × (List S118) × ByteArray × (List S55) × (List Int) × Int × Unit × Nat × Unit) × (List ByteArray) × (List (ByteArray × ByteArray)) × (List S45))) := oAt 4 evaluate_run_match_h6_l9_o4
def evaluate_run_match_h6_l9 (t44 : Nat) (t45 : Int) (t46 : Int) (b0 : ByteArray) (b0_1 : (List S118)) (b0_2 : ByteArray) (b0_3 : (List S55)) (b0_4 : (List Int)) (b0_5 : Int) (b0_6 : Nat) (b1 : (List ByteArray)) (b2 : (List (ByteArray × ByteArray))) (b3 : (List S45)) : Option ((Unit × Nat × Int × Int × Bool) × ((ByteArray × (List S118) × ByteArray × (List S55) × (List Int) × Int × Unit × Nat × Unit) × (List ByteArray) × (List (ByteArray × ByteArray)) × (List S45))) := lS Tryz.prog lv X0 103 61 (getLoop (cdF Tryz.f103) 9) evaluate_run_match_h6_l9_s evaluate_run_match_h6_l9_o (((), t44, t45, t46), ((b0, b0_1, b0_2, b0_3, b0_4, b0_5, (), b0_6, ()), b1, b2, b3))
def evaluate_run_match_h6_l9_t (t44 : Nat) (t45 : Int) (t46 : Int) (b0 : ByteArray) (b0_1 : (List S118)) (b0_2 : ByteArray) (b0_3 : (List S55)) (b0_4 : (List Int)) (b0_5 : Int) (b0_6 : Nat) (b1 : (List ByteArray)) (b2 : (List (ByteArray × ByteArray))) (b3 : (List S45)) : Option ((Unit × Nat × Int × Int × Bool) × ((ByteArray × (List S118) × ByteArray × (List S55) × (List Int) × Int × Unit × Nat × Unit) × (List ByteArray) × (List (ByteArray × ByteArray)) × (List S45))) :=
 (brE (decide (t46 < t45))
 (gdE ((decide ((0 : Int) ≤ t46)) && (decide (t46 < ((t44 : Nat) : Int)))) <|
 (gdE ((decide ((Int.toNat t46) < (List.length (EC.encL ec_9 b1)))) && ((List.length (List.getD (EC.encL ec_9 b1) (Int.toNat t46) [])) == (1 : Nat))) <|
 (gdE (isP [K1.str] (0 : Nat) (List.getD (EC.encL ec_9 b1) (Int.toNat t46) [])) <|
 (Option.bind (itoaP (IntKind.wrap .i64 (t46 + (1 : Int)))) fun r0 =>
 (gdE (((decide ((ByteArray.size r0) ≤ Go.maxLen)) && (decide ((ByteArray.size (strOf (List.getD (List.getD (EC.encL ec_9 b1) (Int.toNat t46) []) (0 : Nat) C.ne))) ≤ Go.maxLen))) && (decide ((List.length b2) < Go.maxLen))) <|
 (gdE (EC.isL ec_118 (EC.encL ec_118 b0_1)) <|
 (gdE (EC.isL ec_55 (EC.encL ec_55 b0_3)) <|
 (gdE (EC.isL ec_5 (EC.encL ec_5 b0_4)) <|
 (gdE (EC.isL ec_9 (EC.encL ec_9 b1)) <|
 (gdE (EC.isL ec_45 (EC.encL ec_45 b3)) <|
 (evaluate_run_match_h6_l9 t44 t45 (IntKind.wrap .i64 (t46 + (1 : Int))) b0 (EC.decL ec_118 (EC.encL ec_118 b0_1)) b0_2 (EC.decL ec_55 (EC.encL ec_55 b0_3)) (EC.decL ec_5 (EC.encL ec_5 b0_4)) b0_5 b0_6 (EC.decL ec_9 (EC.encL ec_9 b1)) (putM b2 r0 (strOf (List.getD (List.getD (EC.encL ec_9 b1) (Int.toNat t46) []) (0 : Nat) C.ne))) (EC.decL ec_45 (EC.encL ec_45 b3)))))))))))))
 (gdE (EC.isL ec_118 (EC.encL ec_118 b0_1)) <|
 (gdE (EC.isL ec_55 (EC.encL ec_55 b0_3)) <|
 (gdE (EC.isL ec_5 (EC.encL ec_5 b0_4)) <|
 (gdE (EC.isL ec_9 (EC.encL ec_9 b1)) <|
 (gdE (EC.isL ec_45 (EC.encL ec_45 b3)) <|
 (some (((), (t44, (t45, (t46, false)))), ((b0, ((EC.decL ec_118 (EC.encL ec_118 b0_1)), (b0_2, ((EC.decL ec_55 (EC.encL ec_55 b0_3)), ((EC.decL ec_5 (EC.encL ec_5 b0_4)), (b0_5, ((), (b0_6, ())))))))), ((EC.decL ec_9 (EC.encL ec_9 b1)), (b2, (EC.decL ec_45 (EC.encL ec_45 b3)))))))))))))
theorem evaluate_run_match_h6_l9_eq {t44 : Nat} {t45 : Int} {t46 : Int} {b0 : ByteArray} {b0_1 : (List S118)} {b0_2 : ByteArray} {b0_3 : (List S55)} {b0_4 : (List Int)} {b0_5 : Int} {b0_6 : Nat} {b1 : (List ByteArray)} {b2 : (List (ByteArray × ByteArray))} {b3 : (List S45)} {r : ((Unit × Nat × Int × Int × Bool) × ((ByteArray × (List S118) × ByteArray × (List S55) × (List Int) × Int × Unit × Nat × Unit) × (List ByteArray) × (List (ByteArray × ByteArray)) × (List S45)))} (h : evaluate_run_match_h6_l9_t t44 t45 t46 b0 b0_1 b0_2 b0_3 b0_4 b0_5 b0_6 b1 b2 b3 = some r) : evaluate_run_match_h6_l9 t44 t45 t46 b0 b0_1 b0_2 b0_3 b0_4 b0_5 b0_6 b1 b2 b3 = some r :=
  lS_tree (es := tab_posthouseref6_Decides) (hs := htab_evaluate_run_fields_h5) [] (by kernel_rfl) trivial trivial (by kernel_rfl) h
def evaluate_run_match_h6_l9_e : LEnt Tryz.prog lv X0 103 61 := lentS Tryz.prog lv X0 9 (getLoop (cdF Tryz.f103) 9) evaluate_run_match_h6_l9_s evaluate_run_match_h6_l9_o (fun x => evaluate_run_match_h6_l9 x.1.2.1 x.1.2.2.1 x.1.2.2.2 x.2.1.1 x.2.1.2.1 x.2.1.2.2.1 x.2.1.2.2.2.1 x.2.1.2.2.2.2.1 x.2.1.2.2.2.2.2.1 x.2.1.2.2.2.2.2.2.2.1 x.2.2.1 x.2.2.2.1 x.2.2.2.2) (fun _ _ h => lS_from h)
def evaluate_run_match_h6_l2_s : SC ((Unit × Unit × Nat × Int × Int) × ((ByteArray × (List S118) × ByteArray × (List S55) × (List Int) × Int × Unit × Nat × Unit) × (Int × (List S48) × ByteArray × Int × ByteArray × Int) × (List ByteArray) × (List (ByteArray × ByteArray)) × (List S45))) := sLS [0, 4, 14, 15, 16] (lCons (vPtr 0 0) (lCons (vPtr 1 0) (lCons (vRow 2) (lCons (vC (cInt .i64)) (lOne (vC (cInt .i64))))))) (lCons (oSome (bBox (lCons (vC cStr) (lCons (vC (cSl ec_118)) (lCons (vC cStr) (lCons (vC (cSl ec_55)) (lCons (vC (cSl ec_5)) (lCons (vC (cInt .i64)) (lCons (vMp 3) (lCons (vRow 4) (lOne (vFn 38 lNil)))))))))))) (lCons (oSome (bBox (lCons (vC (cInt .i64)) (lCons (vC (cSl ec_48)) (lCons (vC cStr) (lCons (vC (cInt .i64)) (lCons (vC cStr) (lOne (vC (cInt .i64)))))))))) (lCons (oSome (bRow ec_9)) (lCons (oSome bMap) (lOne (oSome (bRow ec_45))))))) [false, false, false, false, false] [0, 3] (by decide) (fun _ => rfl)
def evaluate_run_match_h6_l2_o2 : SC ((Unit × Unit × Nat × Int × Int × Bool) × ((ByteArray × (List S118) × ByteArray × (List S55) × (List Int) × Int × Unit × Nat × Unit) × (Int × (List S48) × ByteArray × Int × ByteArray × Int) × (List ByteArray) × (List (ByteArray × ByteArray)) × (List S45))) := sLS [0, 4, 14, 15, 16, 17] (lCons (vPtr 0 0) (lCons (vPtr 1 0) (lCons (vRow 2) (lCons (vC (cInt .i64)) (lCons (vC (cInt .i64)) (lOne (vC cBool))))))) (lCons (oSome (bBox (lCons (vC cStr) (lCons (vC (cSl ec_118)) (lCons (vC cStr) (lCons (vC (cSl ec_55)) (lCons (vC (cSl ec_5)) (lCons (vC (cInt .i64)) (lCons (vMp 3) (lCons (vRow 4) (lOne (vFn 38 lNil)))))))))))) (lCons (oSome (bBox (lCons (vC (cInt .i64)) (lCons (vC (cSl ec_48)) (lCons (vC cStr) (lCons (vC (cInt .i64)) (lCons (vC cStr) (lOne (vC (cInt .i64)))))))))) (lCons (oSome (bRow ec_9)) (lCons (oSome bMap) (lOne (oSome (bRow ec_45))))))) [false, false, false, false, false] [0, 3] (by decide) (fun _ => rfl)
def evaluate_run_match_h6_l2_o1 : SC (Bool × ((ByteArray × (List S118) × ByteArray × (List S55) × (List Int) × Int × Unit × Nat × Unit) × (List (ByteArray × ByteArray)) × (List S45))) := sLS [6] (lOne (vC cBool)) (lCons (oSome (bBox (lCons (vC cStr) (lCons (vC (cSl ec_118)) (lCons (vC cStr) (lCons (vC (cSl ec_55)) (lCons (vC (cSl ec_5)) (lCons (vC (cInt .i64)) (lCons (vMp 1) (lCons (vRow 2) (lOne (vFn 38 lNil)))))))))))) (lCons (oSome bMap) (lOne (oSome (bRow ec_45))))) [false, false, false] [0, 1] (by decide) (fun _ => rfl)
def evaluate_run_match_h6_l2_o : OC ((Bool × ((ByteArray × (List S118) × ByteArray × (List S55) × (List Int) × Int × Unit × Nat × Unit) × (List (ByteArray × ByteArray)) × (List S45))) ⊕ ((Unit × Unit × Nat × Int × Int × Bool) × ((ByteArray × (List S118) × ByteArray × (List S55) × (List Int) × Int × Unit × Nat × Unit) × (Int × (List S48) × ByteArray × Int × ByteArray × Int) × (List ByteArray) × (List (ByteArray × ByteArray)) × (List S45)))) := oOr 1 evaluate_run_match_h6_l2_o1 (oAt 2 evaluate_run_match_h6_l2_o2) (fun x => (by decide : (2 : Nat) ≠ 1))
def evaluate_run_match_h6_l2 (t14 : Nat) (t15 : Int) (t16 : Int) (b0 : ByteArray) (b0_1 : (List S118)) (b0_2 : ByteArray) (b0_3 : (List S55)) (b0_4 : (List Int)) (b0_5 : Int) (b0_6 : Nat) (b1 : Int) (b1_1 : (List S48)) (b1_2 : ByteArray) (b1_3 : Int) (b1_4 : ByteArray) (b1_5 : Int) (b2 : (List ByteArray)) (b3 : (List (ByteArray × ByteArray))) (b4 : (List S45)) : Option ((Bool × ((ByteArray × (List S118) × ByteArray × (List S55) × (List Int) × Int × Unit × Nat × Unit) × (List (ByteArray × ByteArray)) × (List S45))) ⊕ ((Unit × Unit × Nat × Int × Int × Bool) × ((ByteArray × (List S118) × ByteArray × (List S55) × (List Int) × Int × Unit × Nat × Unit) × (Int × (List S48) × ByteArray × Int × ByteArray × Int) × (List ByteArray) × (List (ByteArray × ByteArray)) × (List S45)))) := lS Tryz.prog lv X0 103 61 (getLoop (cdF Tryz.f103) 2) evaluate_run_match_h6_l2_s evaluate_run_match_h6_l2_o (((), (), t14, t15, t16), ((b0, b0_1, b0_2, b0_3, b0_4, b0_5, (), b0_6, ()), (b1, b1_1, b1_2, b1_3, b1_4, b1_5), b2, b3, b4))
def evaluate_run_match_h6_l2_t (t14 : Nat) (t15 : Int) (t16 : Int) (b0 : ByteArray) (b0_1 : (List S118)) (b0_2 : ByteArray) (b0_3 : (List S55)) (b0_4 : (List Int)) (b0_5 : Int) (b0_6 : Nat) (b1 : Int) (b1_1 : (List S48)) (b1_2 : ByteArray) (b1_3 : Int) (b1_4 : ByteArray) (b1_5 : Int) (b2 : (List ByteArray)) (b3 : (List (ByteArray × ByteArray))) (b4 : (List S45)) : Option ((Bool × ((ByteArray × (List S118) × ByteArray × (List S55) × (List Int) × Int × Unit × Nat × Unit) × (List (ByteArray × ByteArray)) × (List S45))) ⊕ ((Unit × Unit × Nat × Int × Int × Bool) × ((ByteArray × (List S118) × ByteArray × (List S55) × (List Int) × Int × Unit × Nat × Unit) × (Int × (List S48) × ByteArray × Int × ByteArray × Int) × (List ByteArray) × (List (ByteArray × ByteArray)) × (List S45)))) :=
 (brE (decide (t16 < t15))
 (gdE ((decide ((0 : Int) ≤ t16)) && (decide (t16 < ((t14 : Nat) : Int)))) <|
 (gdE ((decide ((Int.toNat t16) < (List.length (EC.encL ec_9 b2)))) && ((List.length (List.getD (EC.encL ec_9 b2) (Int.toNat t16) [])) == (1 : Nat))) <|
 (gdE (isP [K1.str] (0 : Nat) (List.getD (EC.encL ec_9 b2) (Int.toNat t16) [])) <|
 (Option.bind (patterns_Match_s b1_3 b1_4 (strOf (List.getD (List.getD (EC.encL ec_9 b2) (Int.toNat t16) []) (0 : Nat) C.ne))) fun r0 =>
 (Option.bind (basic_Failed_s ((((r0).1).2).2).1 ((((r0).1).2).2).2) fun r1 =>
 (brE (r1 == false)
 (brE (!((r0).1).1)
 (gdE (EC.isL ec_118 (EC.encL ec_118 b0_1)) <|
 (gdE (EC.isL ec_55 (EC.encL ec_55 b0_3)) <|
 (gdE (EC.isL ec_5 (EC.encL ec_5 b0_4)) <|
 (gdE (EC.isL ec_48 (EC.encL ec_48 b1_1)) <|
 (gdE (EC.isL ec_9 (EC.encL ec_9 b2)) <|
 (gdE (EC.isL ec_45 (EC.encL ec_45 b4)) <|
 (evaluate_run_match_h6_l2 t14 t15 (IntKind.wrap .i64 (t16 + (1 : Int))) b0 (EC.decL ec_118 (EC.encL ec_118 b0_1)) b0_2 (EC.decL ec_55 (EC.encL ec_55 b0_3)) (EC.decL ec_5 (EC.encL ec_5 b0_4)) b0_5 b0_6 b1 (EC.decL ec_48 (EC.encL ec_48 b1_1)) b1_2 b1_3 b1_4 b1_5 (EC.decL ec_9 (EC.encL ec_9 b2)) b3 (EC.decL ec_45 (EC.encL ec_45 b4)))))))))
 (brE (b1_3 == 3)
 (Option.bind (delP b3) fun r2 =>
 (gdE (EC.isL ec_118 (EC.encL ec_118 b0_1)) <|
 (gdE (EC.isL ec_55 (EC.encL ec_55 b0_3)) <|
 (gdE (EC.isL ec_5 (EC.encL ec_5 b0_4)) <|
 (gdE (EC.isL ec_9 (EC.encL ec_9 (r0).2)) <|
 (gdE (EC.isL ec_45 (EC.encL ec_45 b4)) <|
 (Option.bind (evaluate_run_match_h6_l9 (((r0).1).2).1 (((((r0).1).2).1 : Nat) : Int) (0 : Int) b0 (EC.decL ec_118 (EC.encL ec_118 b0_1)) b0_2 (EC.decL ec_55 (EC.encL ec_55 b0_3)) (EC.decL ec_5 (EC.encL ec_5 b0_4)) b0_5 b0_6 (EC.decL ec_9 (EC.encL ec_9 (r0).2)) r2 (EC.decL ec_45 (EC.encL ec_45 b4))) fun r3 =>
 (gdE (EC.isL ec_118 (EC.encL ec_118 ((((r3).2).1).2).1)) <|
 (gdE (EC.isL ec_55 (EC.encL ec_55 ((((((r3).2).1).2).2).2).1)) <|
 (gdE (EC.isL ec_5 (EC.encL ec_5 (((((((r3).2).1).2).2).2).2).1)) <|
 (gdE (EC.isL ec_45 (EC.encL ec_45 ((((r3).2).2).2).2)) <|
 (some (.inl (true, (((((r3).2).1).1, ((EC.decL ec_118 (EC.encL ec_118 ((((r3).2).1).2).1)), ((((((r3).2).1).2).2).1, ((EC.decL ec_55 (EC.encL ec_55 ((((((r3).2).1).2).2).2).1)), ((EC.decL ec_5 (EC.encL ec_5 (((((((r3).2).1).2).2).2).2).1)), (((((((((r3).2).1).2).2).2).2).2).1, ((), (((((((((((r3).2).1).2).2).2).2).2).2).2).1, ())))))))), (((((r3).2).2).2).1, (EC.decL ec_45 (EC.encL ec_45 ((((r3).2).2).2).2))))))))))))))))))
 (gdE (EC.isL ec_118 (EC.encL ec_118 b0_1)) <|
 (gdE (EC.isL ec_55 (EC.encL ec_55 b0_3)) <|
 (gdE (EC.isL ec_5 (EC.encL ec_5 b0_4)) <|
 (gdE (EC.isL ec_45 (EC.encL ec_45 b4)) <|
 (some (.inl (true, ((b0, ((EC.decL ec_118 (EC.encL ec_118 b0_1)), (b0_2, ((EC.decL ec_55 (EC.encL ec_55 b0_3)), ((EC.decL ec_5 (EC.encL ec_5 b0_4)), (b0_5, ((), (b0_6, ())))))))), (b3, (EC.decL ec_45 (EC.encL ec_45 b4)))))))))))))
 (gdE (EC.isL ec_118 (EC.encL ec_118 b0_1)) <|
 (gdE (EC.isL ec_55 (EC.encL ec_55 b0_3)) <|
 (gdE (EC.isL ec_5 (EC.encL ec_5 b0_4)) <|
 (gdE (EC.isL ec_48 (EC.encL ec_48 b1_1)) <|
 (gdE (EC.isL ec_9 (EC.encL ec_9 b2)) <|
 (gdE (EC.isL ec_45 (EC.encL ec_45 b4)) <|
 (evaluate_run_match_h6_l2 t14 t15 (IntKind.wrap .i64 (t16 + (1 : Int))) b0 (EC.decL ec_118 (EC.encL ec_118 b0_1)) b0_2 (EC.decL ec_55 (EC.encL ec_55 b0_3)) (EC.decL ec_5 (EC.encL ec_5 b0_4)) b0_5 b0_6 b1 (EC.decL ec_48 (EC.encL ec_48 b1_1)) b1_2 b1_3 b1_4 b1_5 (EC.decL ec_9 (EC.encL ec_9 b2)) b3 (EC.decL ec_45 (EC.encL ec_45 b4)))))))))))))))
 (gdE (EC.isL ec_118 (EC.encL ec_118 b0_1)) <|
 (gdE (EC.isL ec_55 (EC.encL ec_55 b0_3)) <|
 (gdE (EC.isL ec_5 (EC.encL ec_5 b0_4)) <|
 (gdE (EC.isL ec_48 (EC.encL ec_48 b1_1)) <|
 (gdE (EC.isL ec_9 (EC.encL ec_9 b2)) <|
 (gdE (EC.isL ec_45 (EC.encL ec_45 b4)) <|
 (some (.inr (((), ((), (t14, (t15, (t16, false))))), ((b0, ((EC.decL ec_118 (EC.encL ec_118 b0_1)), (b0_2, ((EC.decL ec_55 (EC.encL ec_55 b0_3)), ((EC.decL ec_5 (EC.encL ec_5 b0_4)), (b0_5, ((), (b0_6, ())))))))), ((b1, ((EC.decL ec_48 (EC.encL ec_48 b1_1)), (b1_2, (b1_3, (b1_4, b1_5))))), ((EC.decL ec_9 (EC.encL ec_9 b2)), (b3, (EC.decL ec_45 (EC.encL ec_45 b4))))))))))))))))
theorem evaluate_run_match_h6_l2_eq {t14 : Nat} {t15 : Int} {t16 : Int} {b0 : ByteArray} {b0_1 : (List S118)} {b0_2 : ByteArray} {b0_3 : (List S55)} {b0_4 : (List Int)} {b0_5 : Int} {b0_6 : Nat} {b1 : Int} {b1_1 : (List S48)} {b1_2 : ByteArray} {b1_3 : Int} {b1_4 : ByteArray} {b1_5 : Int} {b2 : (List ByteArray)} {b3 : (List (ByteArray × ByteArray))} {b4 : (List S45)} {r : ((Bool × ((ByteArray × (List S118) × ByteArray × (List S55) × (List Int) × Int × Unit × Nat × Unit) × (List (ByteArray × ByteArray)) × (List S45))) ⊕ ((Unit × Unit × Nat × Int × Int × Bool) × ((ByteArray × (List S118) × ByteArray × (List S55) × (List Int) × Int × Unit × Nat × Unit) × (Int × (List S48) × ByteArray × Int × ByteArray × Int) × (List ByteArray) × (List (ByteArray × ByteArray)) × (List S45))))} (h : evaluate_run_match_h6_l2_t t14 t15 t16 b0 b0_1 b0_2 b0_3 b0_4 b0_5 b0_6 b1 b1_1 b1_2 b1_3 b1_4 b1_5 b2 b3 b4 = some r) : evaluate_run_match_h6_l2 t14 t15 t16 b0 b0_1 b0_2 b0_3 b0_4 b0_5 b0_6 b1 b1_1 b1_2 b1_3 b1_4 b1_5 b2 b3 b4 = some r :=
  lS_tree (es := tab_posthouseref6_Decides) (hs := htab_evaluate_run_fields_h5) [evaluate_run_match_h6_l9_e] (by kernel_rfl) ⟨⟨_, rfl, rfl⟩, trivial⟩ trivial (by kernel_rfl) h
def evaluate_run_match_h6_l2_e : LEnt Tryz.prog lv X0 103 61 := lentS Tryz.prog lv X0 2 (getLoop (cdF Tryz.f103) 2) evaluate_run_match_h6_l2_s evaluate_run_match_h6_l2_o (fun x => evaluate_run_match_h6_l2 x.1.2.2.1 x.1.2.2.2.1 x.1.2.2.2.2 x.2.1.1 x.2.1.2.1 x.2.1.2.2.1 x.2.1.2.2.2.1 x.2.1.2.2.2.2.1 x.2.1.2.2.2.2.2.1 x.2.1.2.2.2.2.2.2.2.1 x.2.2.1.1 x.2.2.1.2.1 x.2.2.1.2.2.1 x.2.2.1.2.2.2.1 x.2.2.1.2.2.2.2.1 x.2.2.1.2.2.2.2.2 x.2.2.2.1 x.2.2.2.2.1 x.2.2.2.2.2) (fun _ _ h => lS_from h)
def evaluate_run_match_h6_q : SC (Bool × ((ByteArray × (List S118) × ByteArray × (List S55) × (List Int) × Int × Unit × Nat × Unit) × (List (ByteArray × ByteArray)) × (List S45))) := sLS [0] (lOne (vC cBool)) (lCons (oSome (bBox (lCons (vC cStr) (lCons (vC (cSl ec_118)) (lCons (vC cStr) (lCons (vC (cSl ec_55)) (lCons (vC (cSl ec_5)) (lCons (vC (cInt .i64)) (lCons (vMp 1) (lCons (vRow 2) (lOne (vFn 38 lNil)))))))))))) (lCons (oSome bMap) (lOne (oSome (bRow ec_45))))) [false, false, false] [0, 1] (by decide) (fun _ => rfl)
def evaluate_run_match_h6_o : HC (Bool × (Bool × ((ByteArray × (List S118) × ByteArray × (List S55) × (List Int) × Int × Unit × Nat × Unit) × (List (ByteArray × ByteArray)) × (List S45)))) := hPair (vC cBool) evaluate_run_match_h6_q
def evaluate_run_match_h6 (t : Int) (t_1 : (List S48)) (t_2 : ByteArray) (t_3 : Int) (t_4 : ByteArray) (t_5 : Int) (l : Nat) (b0 : ByteArray) (b0_1 : (List S118)) (b0_2 : ByteArray) (b0_3 : (List S55)) (b0_4 : (List Int)) (b0_5 : Int) (b0_6 : Nat) (b1 : (List ByteArray)) (b2 : (List (ByteArray × ByteArray))) (b3 : (List S45)) : Option (Bool × (Bool × ((ByteArray × (List S118) × ByteArray × (List S55) × (List Int) × Int × Unit × Nat × Unit) × (List (ByteArray × ByteArray)) × (List S45)))) := hS Tryz.prog lv X0 103 evaluate_run_match_h6_s evaluate_run_match_h6_o (((), (t, t_1, t_2, t_3, t_4, t_5), l), ((b0, b0_1, b0_2, b0_3, b0_4, b0_5, (), b0_6, ()), b1, b2, b3))
def evaluate_run_match_h6_t (t : Int) (t_1 : (List S48)) (t_2 : ByteArray) (t_3 : Int) (t_4 : ByteArray) (t_5 : Int) (l : Nat) (b0 : ByteArray) (b0_1 : (List S118)) (b0_2 : ByteArray) (b0_3 : (List S55)) (b0_4 : (List Int)) (b0_5 : Int) (b0_6 : Nat) (b1 : (List ByteArray)) (b2 : (List (ByteArray × ByteArray))) (b3 : (List S45)) : Option (Bool × (Bool × ((ByteArray × (List S118) × ByteArray × (List S55) × (List Int) × Int × Unit × Nat × Unit) × (List (ByteArray × ByteArray)) × (List S45)))) :=
 (gdE (EC.isL ec_118 (EC.encL ec_118 b0_1)) <|
 (gdE (EC.isL ec_55 (EC.encL ec_55 b0_3)) <|
 (gdE (EC.isL ec_5 (EC.encL ec_5 b0_4)) <|
 (gdE (EC.isL ec_48 (EC.encL ec_48 t_1)) <|
 (gdE (EC.isL ec_9 (EC.encL ec_9 b1)) <|
 (gdE (EC.isL ec_45 (EC.encL ec_45 b3)) <|
 (Option.bind (evaluate_run_match_h6_l2 l ((l : Nat) : Int) (0 : Int) b0 (EC.decL ec_118 (EC.encL ec_118 b0_1)) b0_2 (EC.decL ec_55 (EC.encL ec_55 b0_3)) (EC.decL ec_5 (EC.encL ec_5 b0_4)) b0_5 b0_6 t (EC.decL ec_48 (EC.encL ec_48 t_1)) t_2 t_3 t_4 t_5 (EC.decL ec_9 (EC.encL ec_9 b1)) b2 (EC.decL ec_45 (EC.encL ec_45 b3))) fun r0 =>
 (Sum.elim (fun r1 => (gdE (EC.isL ec_118 (EC.encL ec_118 ((((r1).2).1).2).1)) <|
 (gdE (EC.isL ec_55 (EC.encL ec_55 ((((((r1).2).1).2).2).2).1)) <|
 (gdE (EC.isL ec_5 (EC.encL ec_5 (((((((r1).2).1).2).2).2).2).1)) <|
 (gdE (EC.isL ec_45 (EC.encL ec_45 (((r1).2).2).2)) <|
 (some ((r1).1, ((r1).1, (((((r1).2).1).1, ((EC.decL ec_118 (EC.encL ec_118 ((((r1).2).1).2).1)), ((((((r1).2).1).2).2).1, ((EC.decL ec_55 (EC.encL ec_55 ((((((r1).2).1).2).2).2).1)), ((EC.decL ec_5 (EC.encL ec_5 (((((((r1).2).1).2).2).2).2).1)), (((((((((r1).2).1).2).2).2).2).2).1, ((), (((((((((((r1).2).1).2).2).2).2).2).2).2).1, ())))))))), ((((r1).2).2).1, (EC.decL ec_45 (EC.encL ec_45 (((r1).2).2).2))))))))))))
 (fun r1 => (gdE (EC.isL ec_118 (EC.encL ec_118 ((((r1).2).1).2).1)) <|
 (gdE (EC.isL ec_55 (EC.encL ec_55 ((((((r1).2).1).2).2).2).1)) <|
 (gdE (EC.isL ec_5 (EC.encL ec_5 (((((((r1).2).1).2).2).2).2).1)) <|
 (gdE (EC.isL ec_45 (EC.encL ec_45 (((((r1).2).2).2).2).2)) <|
 (some (false, (false, (((((r1).2).1).1, ((EC.decL ec_118 (EC.encL ec_118 ((((r1).2).1).2).1)), ((((((r1).2).1).2).2).1, ((EC.decL ec_55 (EC.encL ec_55 ((((((r1).2).1).2).2).2).1)), ((EC.decL ec_5 (EC.encL ec_5 (((((((r1).2).1).2).2).2).2).1)), (((((((((r1).2).1).2).2).2).2).2).1, ((), (((((((((((r1).2).1).2).2).2).2).2).2).2).1, ())))))))), ((((((r1).2).2).2).2).1, (EC.decL ec_45 (EC.encL ec_45 (((((r1).2).2).2).2).2)))))))))))) r0))))))))
theorem evaluate_run_match_h6_eq {t : Int} {t_1 : (List S48)} {t_2 : ByteArray} {t_3 : Int} {t_4 : ByteArray} {t_5 : Int} {l : Nat} {b0 : ByteArray} {b0_1 : (List S118)} {b0_2 : ByteArray} {b0_3 : (List S55)} {b0_4 : (List Int)} {b0_5 : Int} {b0_6 : Nat} {b1 : (List ByteArray)} {b2 : (List (ByteArray × ByteArray))} {b3 : (List S45)} {r : (Bool × (Bool × ((ByteArray × (List S118) × ByteArray × (List S55) × (List Int) × Int × Unit × Nat × Unit) × (List (ByteArray × ByteArray)) × (List S45))))} (h : evaluate_run_match_h6_t t t_1 t_2 t_3 t_4 t_5 l b0 b0_1 b0_2 b0_3 b0_4 b0_5 b0_6 b1 b2 b3 = some r) : evaluate_run_match_h6 t t_1 t_2 t_3 t_4 t_5 l b0 b0_1 b0_2 b0_3 b0_4 b0_5 b0_6 b1 b2 b3 = some r :=
  hS_tree (fn := Tryz.f103) (es := tab_posthouseref6_Decides) (hs := htab_evaluate_run_fields_h5) [evaluate_run_match_h6_l2_e] (by kernel_rfl) rfl (by kernel_rfl) ⟨⟨_, rfl, rfl⟩, trivial⟩ trivial (by kernel_rfl) h
def evaluate_run_match_h6_e : HEnt Tryz.prog lv X0 := hentS Tryz.prog lv X0 103 [0, 3, 0, 0, 1, 7, 6, 1, 1, 1, 4, 1, 3, 1, 1, 1, 3, 1, 1, 2, 2, 1, 1, 9, 1, 3, 1, 4, 1, 3, 1, 4, 1, 4, 1, 1, 8, 2, 2, 3, 6, 38, 0, 2, 4, 2, 0, 2] evaluate_run_match_h6_s evaluate_run_match_h6_o (fun x => evaluate_run_match_h6 x.1.2.1.1 x.1.2.1.2.1 x.1.2.1.2.2.1 x.1.2.1.2.2.2.1 x.1.2.1.2.2.2.2.1 x.1.2.1.2.2.2.2.2 x.1.2.2 x.2.1.1 x.2.1.2.1 x.2.1.2.2.1 x.2.1.2.2.2.1 x.2.1.2.2.2.2.1 x.2.1.2.2.2.2.2.1 x.2.1.2.2.2.2.2.2.2.1 x.2.2.1 x.2.2.2.1 x.2.2.2.2) (fun _ _ h => hS_from h)
def htab_evaluate_run_match_h6 : List (HEnt Tryz.prog lv X0) := evaluate_run_match_h6_e :: htab_evaluate_run_fields_h5
def evaluate_run_test_h4_l7_s : SC ((Unit × Unit × (List S48) × Int × Int) × ((ByteArray × (List S118) × ByteArray × (List S55) × (List Int) × Int × Unit × Nat × Unit) × (Int × (List S48) × ByteArray × Int × ByteArray × Int) × (List (ByteArray × ByteArray)) × (List S45))) := sLS [0, 3, 25, 26, 27] (lCons (vPtr 0 0) (lCons (vPtr 1 0) (lCons (vC (cSl ec_48)) (lCons (vC (cInt .i64)) (lOne (vC (cInt .i64))))))) (lCons (oSome (bBox (lCons (vC cStr) (lCons (vC (cSl ec_118)) (lCons (vC cStr) (lCons (vC (cSl ec_55)) (lCons (vC (cSl ec_5)) (lCons (vC (cInt .i64)) (lCons (vMp 2) (lCons (vRow 3) (lOne (vFn 38 lNil)))))))))))) (lCons (oSome (bBox (lCons (vC (cInt .i64)) (lCons (vC (cSl ec_48)) (lCons (vC cStr) (lCons (vC (cInt .i64)) (lCons (vC cStr) (lOne (vC (cInt .i64)))))))))) (lCons (oSome bMap) (lOne (oSome (bRow ec_45)))))) [false, false, false, false] [0, 2] (by decide) (fun _ => rfl)
def evaluate_run_test_h4_l7_o3 : SC ((Unit × Unit × (List S48) × Int × Int × Bool) × ((ByteArray × (List S118) × ByteArray × (List S55) × (List Int) × Int × Unit × Nat × Unit) × (Int × (List S48) × ByteArray × Int × ByteArray × Int) × (List (ByteArray × ByteArray)) × (List S45))) := sLS [0, 3, 25, 26, 27, 28] (lCons (vPtr 0 0) (lCons (vPtr 1 0) (lCons (vC (cSl ec_48)) (lCons (vC (cInt .i64)) (lCons (vC (cInt .i64)) (lOne (vC cBool))))))) (lCons (oSome (bBox (lCons (vC cStr) (lCons (vC (cSl ec_118)) (lCons (vC cStr) (lCons (vC (cSl ec_55)) (lCons (vC (cSl ec_5)) (lCons (vC (cInt .i64)) (lCons (vMp 2) (lCons (vRow 3) (lOne (vFn 38 lNil)))))))))))) (lCons (oSome (bBox (lCons (vC (cInt .i64)) (lCons (vC (cSl ec_48)) (lCons (vC cStr) (lCons (vC (cInt .i64)) (lCons (vC cStr) (lOne (vC (cInt .i64)))))))))) (lCons (oSome bMap) (lOne (oSome (bRow ec_45)))))) [false, false, false, false] [0, 2] (by decide) (fun _ => rfl)
def evaluate_run_test_h4_l7_o1 : SC (Bool × ((ByteArray × (List S118) × ByteArray × (List S55) × (List Int) × Int × Unit × Nat × Unit) × (List (ByteArray × ByteArray)) × (List S45))) := sLS [4] (lOne (vC cBool)) (lCons (oSome (bBox (lCons (vC cStr) (lCons (vC (cSl ec_118)) (lCons (vC cStr) (lCons (vC (cSl ec_55)) (lCons (vC (cSl ec_5)) (lCons (vC (cInt .i64)) (lCons (vMp 1) (lCons (vRow 2) (lOne (vFn 38 lNil)))))))))))) (lCons (oSome bMap) (lOne (oSome (bRow ec_45))))) [false, false, false] [0, 1] (by decide) (fun _ => rfl)
def evaluate_run_test_h4_l7_o : OC ((Bool × ((ByteArray × (List S118) × ByteArray × (List S55) × (List Int) × Int × Unit × Nat × Unit) × (List (ByteArray × ByteArray)) × (List S45))) ⊕ ((Unit × Unit × (List S48) × Int × Int × Bool) × ((ByteArray × (List S118) × ByteArray × (List S55) × (List Int) × Int × Unit × Nat × Unit) × (Int × (List S48) × ByteArray × Int × ByteArray × Int) × (List (ByteArray × ByteArray)) × (List S45)))) := oOr 1 evaluate_run_test_h4_l7_o1 (oAt 3 evaluate_run_test_h4_l7_o3) (fun x => (by decide : (3 : Nat) ≠ 1))
def evaluate_run_test_h4_l7 (t25 : (List S48)) (t26 : Int) (t27 : Int) (b0 : ByteArray) (b0_1 : (List S118)) (b0_2 : ByteArray) (b0_3 : (List S55)) (b0_4 : (List Int)) (b0_5 : Int) (b0_6 : Nat) (b1 : Int) (b1_1 : (List S48)) (b1_2 : ByteArray) (b1_3 : Int) (b1_4 : ByteArray) (b1_5 : Int) (b2 : (List (ByteArray × ByteArray))) (b3 : (List S45)) : Option ((Bool × ((ByteArray × (List S118) × ByteArray × (List S55) × (List Int) × Int × Unit × Nat × Unit) × (List (ByteArray × ByteArray)) × (List S45))) ⊕ ((Unit × Unit × (List S48) × Int × Int × Bool) × ((ByteArray × (List S118) × ByteArray × (List S55) × (List Int) × Int × Unit × Nat × Unit) × (Int × (List S48) × ByteArray × Int × ByteArray × Int) × (List (ByteArray × ByteArray)) × (List S45)))) := lS Tryz.prog lv X0 80 106 (getLoop (cdF Tryz.f80) 7) evaluate_run_test_h4_l7_s evaluate_run_test_h4_l7_o (((), (), t25, t26, t27), ((b0, b0_1, b0_2, b0_3, b0_4, b0_5, (), b0_6, ()), (b1, b1_1, b1_2, b1_3, b1_4, b1_5), b2, b3))
def evaluate_run_test_h4_l7_t (t25 : (List S48)) (t26 : Int) (t27 : Int) (b0 : ByteArray) (b0_1 : (List S118)) (b0_2 : ByteArray) (b0_3 : (List S55)) (b0_4 : (List Int)) (b0_5 : Int) (b0_6 : Nat) (b1 : Int) (b1_1 : (List S48)) (b1_2 : ByteArray) (b1_3 : Int) (b1_4 : ByteArray) (b1_5 : Int) (b2 : (List (ByteArray × ByteArray))) (b3 : (List S45)) : Option ((Bool × ((ByteArray × (List S118) × ByteArray × (List S55) × (List Int) × Int × Unit × Nat × Unit) × (List (ByteArray × ByteArray)) × (List S45))) ⊕ ((Unit × Unit × (List S48) × Int × Int × Bool) × ((ByteArray × (List S118) × ByteArray × (List S55) × (List Int) × Int × Unit × Nat × Unit) × (Int × (List S48) × ByteArray × Int × ByteArray × Int) × (List (ByteArray × ByteArray)) × (List S45)))) :=
 (brE (decide (t27 < t26))
 (gdE (decide ((0 : Int) ≤ t27)) <|
 (gdE ((decide ((Int.toNat t27) < (List.length (EC.encL ec_48 t25)))) && (isE [(K1.int Go.IntKind.i64), K1.sl, K1.str, (K1.int Go.IntKind.i64), K1.str, (K1.int Go.IntKind.i64)] (0 : Nat) (List.getD (EC.encL ec_48 t25) (Int.toNat t27) []))) <|
 (gdE (EC.isL ec_48 (slOf (List.getD (List.getD (EC.encL ec_48 t25) (Int.toNat t27) []) (1 : Nat) C.ne))) <|
 (gdE (EC.isL ec_118 (EC.encL ec_118 b0_1)) <|
 (gdE (EC.isL ec_55 (EC.encL ec_55 b0_3)) <|
 (gdE (EC.isL ec_5 (EC.encL ec_5 b0_4)) <|
 (gdE (EC.isL ec_45 (EC.encL ec_45 b3)) <|
 (Option.bind (evaluate_run_test_h4 (intOf (List.getD (List.getD (EC.encL ec_48 t25) (Int.toNat t27) []) (0 : Nat) C.ne)) (EC.decL ec_48 (slOf (List.getD (List.getD (EC.encL ec_48 t25) (Int.toNat t27) []) (1 : Nat) C.ne))) (strOf (List.getD (List.getD (EC.encL ec_48 t25) (Int.toNat t27) []) (2 : Nat) C.ne)) (intOf (List.getD (List.getD (EC.encL ec_48 t25) (Int.toNat t27) []) (3 : Nat) C.ne)) (strOf (List.getD (List.getD (EC.encL ec_48 t25) (Int.toNat t27) []) (4 : Nat) C.ne)) (intOf (List.getD (List.getD (EC.encL ec_48 t25) (Int.toNat t27) []) (5 : Nat) C.ne)) b0 (EC.decL ec_118 (EC.encL ec_118 b0_1)) b0_2 (EC.decL ec_55 (EC.encL ec_55 b0_3)) (EC.decL ec_5 (EC.encL ec_5 b0_4)) b0_5 b0_6 b2 (EC.decL ec_45 (EC.encL ec_45 b3))) fun r0 =>
 (brE ((r0).1 == (b1 == 4))
 (gdE (EC.isL ec_118 (EC.encL ec_118 (((((r0).2).2).1).2).1)) <|
 (gdE (EC.isL ec_55 (EC.encL ec_55 (((((((r0).2).2).1).2).2).2).1)) <|
 (gdE (EC.isL ec_5 (EC.encL ec_5 ((((((((r0).2).2).1).2).2).2).2).1)) <|
 (gdE (EC.isL ec_45 (EC.encL ec_45 ((((r0).2).2).2).2)) <|
 (some (.inl ((b1 == 4), ((((((r0).2).2).1).1, ((EC.decL ec_118 (EC.encL ec_118 (((((r0).2).2).1).2).1)), (((((((r0).2).2).1).2).2).1, ((EC.decL ec_55 (EC.encL ec_55 (((((((r0).2).2).1).2).2).2).1)), ((EC.decL ec_5 (EC.encL ec_5 ((((((((r0).2).2).1).2).2).2).2).1)), ((((((((((r0).2).2).1).2).2).2).2).2).1, ((), ((((((((((((r0).2).2).1).2).2).2).2).2).2).2).1, ())))))))), (((((r0).2).2).2).1, (EC.decL ec_45 (EC.encL ec_45 ((((r0).2).2).2).2)))))))))))
 (gdE (EC.isL ec_48 (EC.encL ec_48 t25)) <|
 (gdE (EC.isL ec_118 (EC.encL ec_118 (((((r0).2).2).1).2).1)) <|
 (gdE (EC.isL ec_55 (EC.encL ec_55 (((((((r0).2).2).1).2).2).2).1)) <|
 (gdE (EC.isL ec_5 (EC.encL ec_5 ((((((((r0).2).2).1).2).2).2).2).1)) <|
 (gdE (EC.isL ec_48 (EC.encL ec_48 b1_1)) <|
 (gdE (EC.isL ec_45 (EC.encL ec_45 ((((r0).2).2).2).2)) <|
 (evaluate_run_test_h4_l7 (EC.decL ec_48 (EC.encL ec_48 t25)) t26 (IntKind.wrap .i64 (t27 + (1 : Int))) ((((r0).2).2).1).1 (EC.decL ec_118 (EC.encL ec_118 (((((r0).2).2).1).2).1)) ((((((r0).2).2).1).2).2).1 (EC.decL ec_55 (EC.encL ec_55 (((((((r0).2).2).1).2).2).2).1)) (EC.decL ec_5 (EC.encL ec_5 ((((((((r0).2).2).1).2).2).2).2).1)) (((((((((r0).2).2).1).2).2).2).2).2).1 (((((((((((r0).2).2).1).2).2).2).2).2).2).2).1 b1 (EC.decL ec_48 (EC.encL ec_48 b1_1)) b1_2 b1_3 b1_4 b1_5 ((((r0).2).2).2).1 (EC.decL ec_45 (EC.encL ec_45 ((((r0).2).2).2).2))))))))))))))))))
 (gdE (EC.isL ec_48 (EC.encL ec_48 t25)) <|
 (gdE (EC.isL ec_118 (EC.encL ec_118 b0_1)) <|
 (gdE (EC.isL ec_55 (EC.encL ec_55 b0_3)) <|
 (gdE (EC.isL ec_5 (EC.encL ec_5 b0_4)) <|
 (gdE (EC.isL ec_48 (EC.encL ec_48 b1_1)) <|
 (gdE (EC.isL ec_45 (EC.encL ec_45 b3)) <|
 (some (.inr (((), ((), ((EC.decL ec_48 (EC.encL ec_48 t25)), (t26, (t27, false))))), ((b0, ((EC.decL ec_118 (EC.encL ec_118 b0_1)), (b0_2, ((EC.decL ec_55 (EC.encL ec_55 b0_3)), ((EC.decL ec_5 (EC.encL ec_5 b0_4)), (b0_5, ((), (b0_6, ())))))))), ((b1, ((EC.decL ec_48 (EC.encL ec_48 b1_1)), (b1_2, (b1_3, (b1_4, b1_5))))), (b2, (EC.decL ec_45 (EC.encL ec_45 b3)))))))))))))))
theorem evaluate_run_test_h4_l7_eq {t25 : (List S48)} {t26 : Int} {t27 : Int} {b0 : ByteArray} {b0_1 : (List S118)} {b0_2 : ByteArray} {b0_3 : (List S55)} {b0_4 : (List Int)} {b0_5 : Int} {b0_6 : Nat} {b1 : Int} {b1_1 : (List S48)} {b1_2 : ByteArray} {b1_3 : Int} {b1_4 : ByteArray} {b1_5 : Int} {b2 : (List (ByteArray × ByteArray))} {b3 : (List S45)} {r : ((Bool × ((ByteArray × (List S118) × ByteArray × (List S55) × (List Int) × Int × Unit × Nat × Unit) × (List (ByteArray × ByteArray)) × (List S45))) ⊕ ((Unit × Unit × (List S48) × Int × Int × Bool) × ((ByteArray × (List S118) × ByteArray × (List S55) × (List Int) × Int × Unit × Nat × Unit) × (Int × (List S48) × ByteArray × Int × ByteArray × Int) × (List (ByteArray × ByteArray)) × (List S45))))} (h : evaluate_run_test_h4_l7_t t25 t26 t27 b0 b0_1 b0_2 b0_3 b0_4 b0_5 b0_6 b1 b1_1 b1_2 b1_3 b1_4 b1_5 b2 b3 = some r) : evaluate_run_test_h4_l7 t25 t26 t27 b0 b0_1 b0_2 b0_3 b0_4 b0_5 b0_6 b1 b1_1 b1_2 b1_3 b1_4 b1_5 b2 b3 = some r :=
  lS_tree (es := tab_posthouseref6_Decides) (hs := htab_evaluate_run_match_h6) [] (by kernel_rfl) trivial trivial (by kernel_rfl) h
def evaluate_run_test_h4_l7_e : LEnt Tryz.prog lv X0 80 106 := lentS Tryz.prog lv X0 7 (getLoop (cdF Tryz.f80) 7) evaluate_run_test_h4_l7_s evaluate_run_test_h4_l7_o (fun x => evaluate_run_test_h4_l7 x.1.2.2.1 x.1.2.2.2.1 x.1.2.2.2.2 x.2.1.1 x.2.1.2.1 x.2.1.2.2.1 x.2.1.2.2.2.1 x.2.1.2.2.2.2.1 x.2.1.2.2.2.2.2.1 x.2.1.2.2.2.2.2.2.2.1 x.2.2.1.1 x.2.2.1.2.1 x.2.2.1.2.2.1 x.2.2.1.2.2.2.1 x.2.2.1.2.2.2.2.1 x.2.2.1.2.2.2.2.2 x.2.2.2.1 x.2.2.2.2) (fun _ _ h => lS_from h)
def evaluate_run_test_h4_l20_s : SC ((Unit × Unit × Nat × (List S118) × Int × Int) × ((ByteArray × (List S118) × ByteArray × (List S55) × (List Int) × Int × Unit × Nat × Unit) × (Int × (List S48) × ByteArray × Int × ByteArray × Int) × (List ByteArray) × (List (ByteArray × ByteArray)) × (List S45))) := sLS [0, 3, 7, 73, 74, 75] (lCons (vPtr 0 0) (lCons (vPtr 1 0) (lCons (vRow 2) (lCons (vC (cSl ec_118)) (lCons (vC (cInt .i64)) (lOne (vC (cInt .i64)))))))) (lCons (oSome (bBox (lCons (vC cStr) (lCons (vC (cSl ec_118)) (lCons (vC cStr) (lCons (vC (cSl ec_55)) (lCons (vC (cSl ec_5)) (lCons (vC (cInt .i64)) (lCons (vMp 3) (lCons (vRow 4) (lOne (vFn 38 lNil)))))))))))) (lCons (oSome (bBox (lCons (vC (cInt .i64)) (lCons (vC (cSl ec_48)) (lCons (vC cStr) (lCons (vC (cInt .i64)) (lCons (vC cStr) (lOne (vC (cInt .i64)))))))))) (lCons (oSome (bRow ec_9)) (lCons (oSome bMap) (lOne (oSome (bRow ec_45))))))) [false, false, false, false, false] [0, 3] (by decide) (fun _ => rfl)
def evaluate_run_test_h4_l20_o5 : SC ((Unit × Unit × Nat × (List S118) × Int × Int × Bool) × ((ByteArray × (List S118) × ByteArray × (List S55) × (List Int) × Int × Unit × Nat × Unit) × (Int × (List S48) × ByteArray × Int × ByteArray × Int) × (List ByteArray) × (List (ByteArray × ByteArray)) × (List S45))) := sLS [0, 3, 7, 73, 74, 75, 76] (lCons (vPtr 0 0) (lCons (vPtr 1 0) (lCons (vRow 2) (lCons (vC (cSl ec_118)) (lCons (vC (cInt .i64)) (lCons (vC (cInt .i64)) (lOne (vC cBool)))))))) (lCons (oSome (bBox (lCons (vC cStr) (lCons (vC (cSl ec_118)) (lCons (vC cStr) (lCons (vC (cSl ec_55)) (lCons (vC (cSl ec_5)) (lCons (vC (cInt .i64)) (lCons (vMp 3) (lCons (vRow 4) (lOne (vFn 38 lNil)))))))))))) (lCons (oSome (bBox (lCons (vC (cInt .i64)) (lCons (vC (cSl ec_48)) (lCons (vC cStr) (lCons (vC (cInt .i64)) (lCons (vC cStr) (lOne (vC (cInt .i64)))))))))) (lCons (oSome (bRow ec_9)) (lCons (oSome bMap) (lOne (oSome (bRow ec_45))))))) [false, false, false, false, false] [0, 3] (by decide) (fun _ => rfl)
def evaluate_run_test_h4_l20_o : OC ((Unit × Unit × Nat × (List S118) × Int × Int × Bool) × ((ByteArray × (List S118) × ByteArray × (List S55) × (List Int) × Int × Unit × Nat × Unit) × (Int × (List S48) × ByteArray × Int × ByteArray × Int) × (List ByteArray) × (List (ByteArray × ByteArray)) × (List S45))) := oAt 5 evaluate_run_test_h4_l20_o5
def evaluate_run_test_h4_l20 (l : Nat) (t73 : (List S118)) (t74 : Int) (t75 : Int) (b0 : ByteArray) (b0_1 : (List S118)) (b0_2 : ByteArray) (b0_3 : (List S55)) (b0_4 : (List Int)) (b0_5 : Int) (b0_6 : Nat) (b1 : Int) (b1_1 : (List S48)) (b1_2 : ByteArray) (b1_3 : Int) (b1_4 : ByteArray) (b1_5 : Int) (b2 : (List ByteArray)) (b3 : (List (ByteArray × ByteArray))) (b4 : (List S45)) : Option ((Unit × Unit × Nat × (List S118) × Int × Int × Bool) × ((ByteArray × (List S118) × ByteArray × (List S55) × (List Int) × Int × Unit × Nat × Unit) × (Int × (List S48) × ByteArray × Int × ByteArray × Int) × (List ByteArray) × (List (ByteArray × ByteArray)) × (List S45))) := lS Tryz.prog lv X0 80 106 (getLoop (cdF Tryz.f80) 20) evaluate_run_test_h4_l20_s evaluate_run_test_h4_l20_o (((), (), l, t73, t74, t75), ((b0, b0_1, b0_2, b0_3, b0_4, b0_5, (), b0_6, ()), (b1, b1_1, b1_2, b1_3, b1_4, b1_5), b2, b3, b4))
def evaluate_run_test_h4_l20_t (l : Nat) (t73 : (List S118)) (t74 : Int) (t75 : Int) (b0 : ByteArray) (b0_1 : (List S118)) (b0_2 : ByteArray) (b0_3 : (List S55)) (b0_4 : (List Int)) (b0_5 : Int) (b0_6 : Nat) (b1 : Int) (b1_1 : (List S48)) (b1_2 : ByteArray) (b1_3 : Int) (b1_4 : ByteArray) (b1_5 : Int) (b2 : (List ByteArray)) (b3 : (List (ByteArray × ByteArray))) (b4 : (List S45)) : Option ((Unit × Unit × Nat × (List S118) × Int × Int × Bool) × ((ByteArray × (List S118) × ByteArray × (List S55) × (List Int) × Int × Unit × Nat × Unit) × (Int × (List S48) × ByteArray × Int × ByteArray × Int) × (List ByteArray) × (List (ByteArray × ByteArray)) × (List S45))) :=
 (brE (decide (t75 < t74))
 (gdE (decide ((0 : Int) ≤ t75)) <|
 (gdE ((decide ((Int.toNat t75) < (List.length (EC.encL ec_118 t73)))) && (isE [K1.str, (K1.int Go.IntKind.i64)] (0 : Nat) (List.getD (EC.encL ec_118 t73) (Int.toNat t75) []))) <|
 (gdE ((((List.all [[(C.str (strOf (List.getD (List.getD (EC.encL ec_118 t73) (Int.toNat t75) []) (0 : Nat) C.ne)))]] (fun (el : (List C)) => ((List.length el) == (1 : Nat)))) && (List.all (EC.encL ec_9 b2) (fun (el : (List C)) => ((List.length el) == (1 : Nat))))) && (decide (((((l + (List.length [[(C.str (strOf (List.getD (List.getD (EC.encL ec_118 t73) (Int.toNat t75) []) (0 : Nat) C.ne)))]])) + ((l + (List.length [[(C.str (strOf (List.getD (List.getD (EC.encL ec_118 t73) (Int.toNat t75) []) (0 : Nat) C.ne)))]])) / (4 : Nat))) + (192 : Nat)) * (16 : Nat)) ≤ (281474976710656 : Nat)))) && (decide ((l + (List.length [[(C.str (strOf (List.getD (List.getD (EC.encL ec_118 t73) (Int.toNat t75) []) (0 : Nat) C.ne)))]])) ≤ (9223372036854775807 : Nat)))) <|
 (gdE (EC.isL ec_118 (EC.encL ec_118 t73)) <|
 (gdE (EC.isL ec_118 (EC.encL ec_118 b0_1)) <|
 (gdE (EC.isL ec_55 (EC.encL ec_55 b0_3)) <|
 (gdE (EC.isL ec_5 (EC.encL ec_5 b0_4)) <|
 (gdE (EC.isL ec_48 (EC.encL ec_48 b1_1)) <|
 (gdE (EC.isL ec_9 ((EC.encL ec_9 b2) ++ [[(C.str (strOf (List.getD (List.getD (EC.encL ec_118 t73) (Int.toNat t75) []) (0 : Nat) C.ne)))]])) <|
 (gdE (EC.isL ec_45 (EC.encL ec_45 b4)) <|
 (evaluate_run_test_h4_l20 (l + (List.length [[(C.str (strOf (List.getD (List.getD (EC.encL ec_118 t73) (Int.toNat t75) []) (0 : Nat) C.ne)))]])) (EC.decL ec_118 (EC.encL ec_118 t73)) t74 (IntKind.wrap .i64 (t75 + (1 : Int))) b0 (EC.decL ec_118 (EC.encL ec_118 b0_1)) b0_2 (EC.decL ec_55 (EC.encL ec_55 b0_3)) (EC.decL ec_5 (EC.encL ec_5 b0_4)) b0_5 b0_6 b1 (EC.decL ec_48 (EC.encL ec_48 b1_1)) b1_2 b1_3 b1_4 b1_5 (EC.decL ec_9 ((EC.encL ec_9 b2) ++ [[(C.str (strOf (List.getD (List.getD (EC.encL ec_118 t73) (Int.toNat t75) []) (0 : Nat) C.ne)))]])) b3 (EC.decL ec_45 (EC.encL ec_45 b4)))))))))))))
 (gdE (EC.isL ec_118 (EC.encL ec_118 t73)) <|
 (gdE (EC.isL ec_118 (EC.encL ec_118 b0_1)) <|
 (gdE (EC.isL ec_55 (EC.encL ec_55 b0_3)) <|
 (gdE (EC.isL ec_5 (EC.encL ec_5 b0_4)) <|
 (gdE (EC.isL ec_48 (EC.encL ec_48 b1_1)) <|
 (gdE (EC.isL ec_9 (EC.encL ec_9 b2)) <|
 (gdE (EC.isL ec_45 (EC.encL ec_45 b4)) <|
 (some (((), ((), (l, ((EC.decL ec_118 (EC.encL ec_118 t73)), (t74, (t75, false)))))), ((b0, ((EC.decL ec_118 (EC.encL ec_118 b0_1)), (b0_2, ((EC.decL ec_55 (EC.encL ec_55 b0_3)), ((EC.decL ec_5 (EC.encL ec_5 b0_4)), (b0_5, ((), (b0_6, ())))))))), ((b1, ((EC.decL ec_48 (EC.encL ec_48 b1_1)), (b1_2, (b1_3, (b1_4, b1_5))))), ((EC.decL ec_9 (EC.encL ec_9 b2)), (b3, (EC.decL ec_45 (EC.encL ec_45 b4))))))))))))))))
theorem evaluate_run_test_h4_l20_eq {l : Nat} {t73 : (List S118)} {t74 : Int} {t75 : Int} {b0 : ByteArray} {b0_1 : (List S118)} {b0_2 : ByteArray} {b0_3 : (List S55)} {b0_4 : (List Int)} {b0_5 : Int} {b0_6 : Nat} {b1 : Int} {b1_1 : (List S48)} {b1_2 : ByteArray} {b1_3 : Int} {b1_4 : ByteArray} {b1_5 : Int} {b2 : (List ByteArray)} {b3 : (List (ByteArray × ByteArray))} {b4 : (List S45)} {r : ((Unit × Unit × Nat × (List S118) × Int × Int × Bool) × ((ByteArray × (List S118) × ByteArray × (List S55) × (List Int) × Int × Unit × Nat × Unit) × (Int × (List S48) × ByteArray × Int × ByteArray × Int) × (List ByteArray) × (List (ByteArray × ByteArray)) × (List S45)))} (h : evaluate_run_test_h4_l20_t l t73 t74 t75 b0 b0_1 b0_2 b0_3 b0_4 b0_5 b0_6 b1 b1_1 b1_2 b1_3 b1_4 b1_5 b2 b3 b4 = some r) : evaluate_run_test_h4_l20 l t73 t74 t75 b0 b0_1 b0_2 b0_3 b0_4 b0_5 b0_6 b1 b1_1 b1_2 b1_3 b1_4 b1_5 b2 b3 b4 = some r :=
  lS_tree (es := tab_posthouseref6_Decides) (hs := htab_evaluate_run_match_h6) [] (by kernel_rfl) trivial trivial (by kernel_rfl) h
def evaluate_run_test_h4_l20_e : LEnt Tryz.prog lv X0 80 106 := lentS Tryz.prog lv X0 20 (getLoop (cdF Tryz.f80) 20) evaluate_run_test_h4_l20_s evaluate_run_test_h4_l20_o (fun x => evaluate_run_test_h4_l20 x.1.2.2.1 x.1.2.2.2.1 x.1.2.2.2.2.1 x.1.2.2.2.2.2 x.2.1.1 x.2.1.2.1 x.2.1.2.2.1 x.2.1.2.2.2.1 x.2.1.2.2.2.2.1 x.2.1.2.2.2.2.2.1 x.2.1.2.2.2.2.2.2.2.1 x.2.2.1.1 x.2.2.1.2.1 x.2.2.1.2.2.1 x.2.2.1.2.2.2.1 x.2.2.1.2.2.2.2.1 x.2.2.1.2.2.2.2.2 x.2.2.2.1 x.2.2.2.2.1 x.2.2.2.2.2) (fun _ _ h => lS_from h)
def evaluate_run_test_h4_t (t : Int) (t_1 : (List S48)) (t_2 : ByteArray) (t_3 : Int) (t_4 : ByteArray) (t_5 : Int) (b0 : ByteArray) (b0_1 : (List S118)) (b0_2 : ByteArray) (b0_3 : (List S55)) (b0_4 : (List Int)) (b0_5 : Int) (b0_6 : Nat) (b1 : (List (ByteArray × ByteArray))) (b2 : (List S45)) : Option (Bool × (Bool × ((ByteArray × (List S118) × ByteArray × (List S55) × (List Int) × Int × Unit × Nat × Unit) × (List (ByteArray × ByteArray)) × (List S45)))) :=
 (brE (t == 2)
 (gdE ((decide ((Int.toNat (0 : Int)) < (List.length (EC.encL ec_48 t_1)))) && (isE [(K1.int Go.IntKind.i64), K1.sl, K1.str, (K1.int Go.IntKind.i64), K1.str, (K1.int Go.IntKind.i64)] (0 : Nat) (List.getD (EC.encL ec_48 t_1) (Int.toNat (0 : Int)) []))) <|
 (gdE (EC.isL ec_48 (slOf (List.getD (List.getD (EC.encL ec_48 t_1) (Int.toNat (0 : Int)) []) (1 : Nat) C.ne))) <|
 (gdE (EC.isL ec_118 (EC.encL ec_118 b0_1)) <|
 (gdE (EC.isL ec_55 (EC.encL ec_55 b0_3)) <|
 (gdE (EC.isL ec_5 (EC.encL ec_5 b0_4)) <|
 (gdE (EC.isL ec_45 (EC.encL ec_45 b2)) <|
 (Option.bind (evaluate_run_test_h4 (intOf (List.getD (List.getD (EC.encL ec_48 t_1) (Int.toNat (0 : Int)) []) (0 : Nat) C.ne)) (EC.decL ec_48 (slOf (List.getD (List.getD (EC.encL ec_48 t_1) (Int.toNat (0 : Int)) []) (1 : Nat) C.ne))) (strOf (List.getD (List.getD (EC.encL ec_48 t_1) (Int.toNat (0 : Int)) []) (2 : Nat) C.ne)) (intOf (List.getD (List.getD (EC.encL ec_48 t_1) (Int.toNat (0 : Int)) []) (3 : Nat) C.ne)) (strOf (List.getD (List.getD (EC.encL ec_48 t_1) (Int.toNat (0 : Int)) []) (4 : Nat) C.ne)) (intOf (List.getD (List.getD (EC.encL ec_48 t_1) (Int.toNat (0 : Int)) []) (5 : Nat) C.ne)) b0 (EC.decL ec_118 (EC.encL ec_118 b0_1)) b0_2 (EC.decL ec_55 (EC.encL ec_55 b0_3)) (EC.decL ec_5 (EC.encL ec_5 b0_4)) b0_5 b0_6 b1 (EC.decL ec_45 (EC.encL ec_45 b2))) fun r0 =>
 (gdE (EC.isL ec_118 (EC.encL ec_118 (((((r0).2).2).1).2).1)) <|
 (gdE (EC.isL ec_55 (EC.encL ec_55 (((((((r0).2).2).1).2).2).2).1)) <|
 (gdE (EC.isL ec_5 (EC.encL ec_5 ((((((((r0).2).2).1).2).2).2).2).1)) <|
 (gdE (EC.isL ec_45 (EC.encL ec_45 ((((r0).2).2).2).2)) <|
 (some ((!(r0).1), ((!(r0).1), ((((((r0).2).2).1).1, ((EC.decL ec_118 (EC.encL ec_118 (((((r0).2).2).1).2).1)), (((((((r0).2).2).1).2).2).1, ((EC.decL ec_55 (EC.encL ec_55 (((((((r0).2).2).1).2).2).2).1)), ((EC.decL ec_5 (EC.encL ec_5 ((((((((r0).2).2).1).2).2).2).2).1)), ((((((((((r0).2).2).1).2).2).2).2).2).1, ((), ((((((((((((r0).2).2).1).2).2).2).2).2).2).2).1, ())))))))), (((((r0).2).2).2).1, (EC.decL ec_45 (EC.encL ec_45 ((((r0).2).2).2).2))))))))))))))))))
 (brE (t == 3)
 (gdE (EC.isL ec_48 (EC.encL ec_48 t_1)) <|
 (gdE (EC.isL ec_118 (EC.encL ec_118 b0_1)) <|
 (gdE (EC.isL ec_55 (EC.encL ec_55 b0_3)) <|
 (gdE (EC.isL ec_5 (EC.encL ec_5 b0_4)) <|
 (gdE (EC.isL ec_48 (EC.encL ec_48 t_1)) <|
 (gdE (EC.isL ec_45 (EC.encL ec_45 b2)) <|
 (Option.bind (evaluate_run_test_h4_l7 (EC.decL ec_48 (EC.encL ec_48 t_1)) (((List.length (EC.encL ec_48 t_1)) : Nat) : Int) (0 : Int) b0 (EC.decL ec_118 (EC.encL ec_118 b0_1)) b0_2 (EC.decL ec_55 (EC.encL ec_55 b0_3)) (EC.decL ec_5 (EC.encL ec_5 b0_4)) b0_5 b0_6 t (EC.decL ec_48 (EC.encL ec_48 t_1)) t_2 t_3 t_4 t_5 b1 (EC.decL ec_45 (EC.encL ec_45 b2))) fun r0 =>
 (Sum.elim (fun r1 => (gdE (EC.isL ec_118 (EC.encL ec_118 ((((r1).2).1).2).1)) <|
 (gdE (EC.isL ec_55 (EC.encL ec_55 ((((((r1).2).1).2).2).2).1)) <|
 (gdE (EC.isL ec_5 (EC.encL ec_5 (((((((r1).2).1).2).2).2).2).1)) <|
 (gdE (EC.isL ec_45 (EC.encL ec_45 (((r1).2).2).2)) <|
 (some ((r1).1, ((r1).1, (((((r1).2).1).1, ((EC.decL ec_118 (EC.encL ec_118 ((((r1).2).1).2).1)), ((((((r1).2).1).2).2).1, ((EC.decL ec_55 (EC.encL ec_55 ((((((r1).2).1).2).2).2).1)), ((EC.decL ec_5 (EC.encL ec_5 (((((((r1).2).1).2).2).2).2).1)), (((((((((r1).2).1).2).2).2).2).2).1, ((), (((((((((((r1).2).1).2).2).2).2).2).2).2).1, ())))))))), ((((r1).2).2).1, (EC.decL ec_45 (EC.encL ec_45 (((r1).2).2).2))))))))))))
 (fun r1 => (gdE (EC.isL ec_118 (EC.encL ec_118 ((((r1).2).1).2).1)) <|
 (gdE (EC.isL ec_55 (EC.encL ec_55 ((((((r1).2).1).2).2).2).1)) <|
 (gdE (EC.isL ec_5 (EC.encL ec_5 (((((((r1).2).1).2).2).2).2).1)) <|
 (gdE (EC.isL ec_45 (EC.encL ec_45 ((((r1).2).2).2).2)) <|
 (some ((((((r1).2).2).1).1 == 3), ((((((r1).2).2).1).1 == 3), (((((r1).2).1).1, ((EC.decL ec_118 (EC.encL ec_118 ((((r1).2).1).2).1)), ((((((r1).2).1).2).2).1, ((EC.decL ec_55 (EC.encL ec_55 ((((((r1).2).1).2).2).2).1)), ((EC.decL ec_5 (EC.encL ec_5 (((((((r1).2).1).2).2).2).2).1)), (((((((((r1).2).1).2).2).2).2).2).1, ((), (((((((((((r1).2).1).2).2).2).2).2).2).2).1, ())))))))), (((((r1).2).2).2).1, (EC.decL ec_45 (EC.encL ec_45 ((((r1).2).2).2).2)))))))))))) r0))))))))
 (brE (t == 4)
 (gdE (EC.isL ec_48 (EC.encL ec_48 t_1)) <|
 (gdE (EC.isL ec_118 (EC.encL ec_118 b0_1)) <|
 (gdE (EC.isL ec_55 (EC.encL ec_55 b0_3)) <|
 (gdE (EC.isL ec_5 (EC.encL ec_5 b0_4)) <|
 (gdE (EC.isL ec_48 (EC.encL ec_48 t_1)) <|
 (gdE (EC.isL ec_45 (EC.encL ec_45 b2)) <|
 (Option.bind (evaluate_run_test_h4_l7 (EC.decL ec_48 (EC.encL ec_48 t_1)) (((List.length (EC.encL ec_48 t_1)) : Nat) : Int) (0 : Int) b0 (EC.decL ec_118 (EC.encL ec_118 b0_1)) b0_2 (EC.decL ec_55 (EC.encL ec_55 b0_3)) (EC.decL ec_5 (EC.encL ec_5 b0_4)) b0_5 b0_6 t (EC.decL ec_48 (EC.encL ec_48 t_1)) t_2 t_3 t_4 t_5 b1 (EC.decL ec_45 (EC.encL ec_45 b2))) fun r0 =>
 (Sum.elim (fun r1 => (gdE (EC.isL ec_118 (EC.encL ec_118 ((((r1).2).1).2).1)) <|
 (gdE (EC.isL ec_55 (EC.encL ec_55 ((((((r1).2).1).2).2).2).1)) <|
 (gdE (EC.isL ec_5 (EC.encL ec_5 (((((((r1).2).1).2).2).2).2).1)) <|
 (gdE (EC.isL ec_45 (EC.encL ec_45 (((r1).2).2).2)) <|
 (some ((r1).1, ((r1).1, (((((r1).2).1).1, ((EC.decL ec_118 (EC.encL ec_118 ((((r1).2).1).2).1)), ((((((r1).2).1).2).2).1, ((EC.decL ec_55 (EC.encL ec_55 ((((((r1).2).1).2).2).2).1)), ((EC.decL ec_5 (EC.encL ec_5 (((((((r1).2).1).2).2).2).2).1)), (((((((((r1).2).1).2).2).2).2).2).1, ((), (((((((((((r1).2).1).2).2).2).2).2).2).2).1, ())))))))), ((((r1).2).2).1, (EC.decL ec_45 (EC.encL ec_45 (((r1).2).2).2))))))))))))
 (fun r1 => (gdE (EC.isL ec_118 (EC.encL ec_118 ((((r1).2).1).2).1)) <|
 (gdE (EC.isL ec_55 (EC.encL ec_55 ((((((r1).2).1).2).2).2).1)) <|
 (gdE (EC.isL ec_5 (EC.encL ec_5 (((((((r1).2).1).2).2).2).2).1)) <|
 (gdE (EC.isL ec_45 (EC.encL ec_45 ((((r1).2).2).2).2)) <|
 (some ((((((r1).2).2).1).1 == 3), ((((((r1).2).2).1).1 == 3), (((((r1).2).1).1, ((EC.decL ec_118 (EC.encL ec_118 ((((r1).2).1).2).1)), ((((((r1).2).1).2).2).1, ((EC.decL ec_55 (EC.encL ec_55 ((((((r1).2).1).2).2).2).1)), ((EC.decL ec_5 (EC.encL ec_5 (((((((r1).2).1).2).2).2).2).1)), (((((((((r1).2).1).2).2).2).2).2).1, ((), (((((((((((r1).2).1).2).2).2).2).2).2).2).1, ())))))))), (((((r1).2).2).2).1, (EC.decL ec_45 (EC.encL ec_45 ((((r1).2).2).2).2)))))))))))) r0))))))))
 (brE (t == 5)
 (gdE (EC.isL ec_118 (EC.encL ec_118 b0_1)) <|
 (gdE (EC.isL ec_55 (EC.encL ec_55 b0_3)) <|
 (gdE (EC.isL ec_5 (EC.encL ec_5 b0_4)) <|
 (gdE (EC.isL ec_45 (EC.encL ec_45 b2)) <|
 (Option.bind (evaluate_run_fields_h5 t_2 b0 (EC.decL ec_118 (EC.encL ec_118 b0_1)) b0_2 (EC.decL ec_55 (EC.encL ec_55 b0_3)) (EC.decL ec_5 (EC.encL ec_5 b0_4)) b0_5 b0_6 b1 (EC.decL ec_45 (EC.encL ec_45 b2))) fun r0 =>
 (gdE (EC.isL ec_48 (EC.encL ec_48 t_1)) <|
 (gdE (EC.isL ec_118 (EC.encL ec_118 ((((((r0).2).2).2).1).2).1)) <|
 (gdE (EC.isL ec_55 (EC.encL ec_55 ((((((((r0).2).2).2).1).2).2).2).1)) <|
 (gdE (EC.isL ec_5 (EC.encL ec_5 (((((((((r0).2).2).2).1).2).2).2).2).1)) <|
 (gdE (EC.isL ec_9 (EC.encL ec_9 (((r0).2).2).1)) <|
 (gdE (EC.isL ec_45 (EC.encL ec_45 (((((r0).2).2).2).2).2)) <|
 (Option.bind (evaluate_run_match_h6 t (EC.decL ec_48 (EC.encL ec_48 t_1)) t_2 t_3 t_4 t_5 (r0).1 (((((r0).2).2).2).1).1 (EC.decL ec_118 (EC.encL ec_118 ((((((r0).2).2).2).1).2).1)) (((((((r0).2).2).2).1).2).2).1 (EC.decL ec_55 (EC.encL ec_55 ((((((((r0).2).2).2).1).2).2).2).1)) (EC.decL ec_5 (EC.encL ec_5 (((((((((r0).2).2).2).1).2).2).2).2).1)) ((((((((((r0).2).2).2).1).2).2).2).2).2).1 ((((((((((((r0).2).2).2).1).2).2).2).2).2).2).2).1 (EC.decL ec_9 (EC.encL ec_9 (((r0).2).2).1)) (((((r0).2).2).2).2).1 (EC.decL ec_45 (EC.encL ec_45 (((((r0).2).2).2).2).2))) fun r1 =>
 (gdE (EC.isL ec_118 (EC.encL ec_118 (((((r1).2).2).1).2).1)) <|
 (gdE (EC.isL ec_55 (EC.encL ec_55 (((((((r1).2).2).1).2).2).2).1)) <|
 (gdE (EC.isL ec_5 (EC.encL ec_5 ((((((((r1).2).2).1).2).2).2).2).1)) <|
 (gdE (EC.isL ec_45 (EC.encL ec_45 ((((r1).2).2).2).2)) <|
 (some ((r1).1, ((r1).1, ((((((r1).2).2).1).1, ((EC.decL ec_118 (EC.encL ec_118 (((((r1).2).2).1).2).1)), (((((((r1).2).2).1).2).2).1, ((EC.decL ec_55 (EC.encL ec_55 (((((((r1).2).2).1).2).2).2).1)), ((EC.decL ec_5 (EC.encL ec_5 ((((((((r1).2).2).1).2).2).2).2).1)), ((((((((((r1).2).2).1).2).2).2).2).2).1, ((), ((((((((((((r1).2).2).1).2).2).2).2).2).2).2).1, ())))))))), (((((r1).2).2).2).1, (EC.decL ec_45 (EC.encL ec_45 ((((r1).2).2).2).2)))))))))))))))))))))))
 (brE (t == 6)
 (gdE (EC.isL ec_48 (EC.encL ec_48 t_1)) <|
 (gdE (EC.isL ec_118 (EC.encL ec_118 b0_1)) <|
 (gdE (EC.isL ec_55 (EC.encL ec_55 b0_3)) <|
 (gdE (EC.isL ec_5 (EC.encL ec_5 b0_4)) <|
 (gdE (EC.isL ec_45 (EC.encL ec_45 b2)) <|
 (Option.bind (evaluate_run_match_h6 t (EC.decL ec_48 (EC.encL ec_48 t_1)) t_2 t_3 t_4 t_5 (1 : Nat) b0 (EC.decL ec_118 (EC.encL ec_118 b0_1)) b0_2 (EC.decL ec_55 (EC.encL ec_55 b0_3)) (EC.decL ec_5 (EC.encL ec_5 b0_4)) b0_5 b0_6 (EC.decL ec_9 [[(C.str b0)]]) b1 (EC.decL ec_45 (EC.encL ec_45 b2))) fun r0 =>
 (gdE (EC.isL ec_118 (EC.encL ec_118 (((((r0).2).2).1).2).1)) <|
 (gdE (EC.isL ec_55 (EC.encL ec_55 (((((((r0).2).2).1).2).2).2).1)) <|
 (gdE (EC.isL ec_5 (EC.encL ec_5 ((((((((r0).2).2).1).2).2).2).2).1)) <|
 (gdE (EC.isL ec_45 (EC.encL ec_45 ((((r0).2).2).2).2)) <|
 (some ((r0).1, ((r0).1, ((((((r0).2).2).1).1, ((EC.decL ec_118 (EC.encL ec_118 (((((r0).2).2).1).2).1)), (((((((r0).2).2).1).2).2).1, ((EC.decL ec_55 (EC.encL ec_55 (((((((r0).2).2).1).2).2).2).1)), ((EC.decL ec_5 (EC.encL ec_5 ((((((((r0).2).2).1).2).2).2).2).1)), ((((((((((r0).2).2).1).2).2).2).2).2).1, ((), ((((((((((((r0).2).2).1).2).2).2).2).2).2).2).1, ())))))))), (((((r0).2).2).2).1, (EC.decL ec_45 (EC.encL ec_45 ((((r0).2).2).2).2)))))))))))))))))
 (brE (t == 7)
 (gdE (EC.isL ec_118 (EC.encL ec_118 b0_1)) <|
 (gdE (EC.isL ec_118 (EC.encL ec_118 b0_1)) <|
 (gdE (EC.isL ec_55 (EC.encL ec_55 b0_3)) <|
 (gdE (EC.isL ec_5 (EC.encL ec_5 b0_4)) <|
 (gdE (EC.isL ec_48 (EC.encL ec_48 t_1)) <|
 (gdE (EC.isL ec_45 (EC.encL ec_45 b2)) <|
 (Option.bind (evaluate_run_test_h4_l20 (0 : Nat) (EC.decL ec_118 (EC.encL ec_118 b0_1)) (((List.length (EC.encL ec_118 b0_1)) : Nat) : Int) (0 : Int) b0 (EC.decL ec_118 (EC.encL ec_118 b0_1)) b0_2 (EC.decL ec_55 (EC.encL ec_55 b0_3)) (EC.decL ec_5 (EC.encL ec_5 b0_4)) b0_5 b0_6 t (EC.decL ec_48 (EC.encL ec_48 t_1)) t_2 t_3 t_4 t_5 (EC.decL ec_9 []) b1 (EC.decL ec_45 (EC.encL ec_45 b2))) fun r0 =>
 (gdE (EC.isL ec_48 (EC.encL ec_48 (((((r0).2).2).1).2).1)) <|
 (gdE (EC.isL ec_118 (EC.encL ec_118 ((((r0).2).1).2).1)) <|
 (gdE (EC.isL ec_55 (EC.encL ec_55 ((((((r0).2).1).2).2).2).1)) <|
 (gdE (EC.isL ec_5 (EC.encL ec_5 (((((((r0).2).1).2).2).2).2).1)) <|
 (gdE (EC.isL ec_9 (EC.encL ec_9 ((((r0).2).2).2).1)) <|
 (gdE (EC.isL ec_45 (EC.encL ec_45 (((((r0).2).2).2).2).2)) <|
 (Option.bind (evaluate_run_match_h6 ((((r0).2).2).1).1 (EC.decL ec_48 (EC.encL ec_48 (((((r0).2).2).1).2).1)) ((((((r0).2).2).1).2).2).1 (((((((r0).2).2).1).2).2).2).1 ((((((((r0).2).2).1).2).2).2).2).1 ((((((((r0).2).2).1).2).2).2).2).2 ((((r0).1).2).2).1 (((r0).2).1).1 (EC.decL ec_118 (EC.encL ec_118 ((((r0).2).1).2).1)) (((((r0).2).1).2).2).1 (EC.decL ec_55 (EC.encL ec_55 ((((((r0).2).1).2).2).2).1)) (EC.decL ec_5 (EC.encL ec_5 (((((((r0).2).1).2).2).2).2).1)) ((((((((r0).2).1).2).2).2).2).2).1 ((((((((((r0).2).1).2).2).2).2).2).2).2).1 (EC.decL ec_9 (EC.encL ec_9 ((((r0).2).2).2).1)) (((((r0).2).2).2).2).1 (EC.decL ec_45 (EC.encL ec_45 (((((r0).2).2).2).2).2))) fun r1 =>
 (gdE (EC.isL ec_118 (EC.encL ec_118 (((((r1).2).2).1).2).1)) <|
 (gdE (EC.isL ec_55 (EC.encL ec_55 (((((((r1).2).2).1).2).2).2).1)) <|
 (gdE (EC.isL ec_5 (EC.encL ec_5 ((((((((r1).2).2).1).2).2).2).2).1)) <|
 (gdE (EC.isL ec_45 (EC.encL ec_45 ((((r1).2).2).2).2)) <|
 (some ((r1).1, ((r1).1, ((((((r1).2).2).1).1, ((EC.decL ec_118 (EC.encL ec_118 (((((r1).2).2).1).2).1)), (((((((r1).2).2).1).2).2).1, ((EC.decL ec_55 (EC.encL ec_55 (((((((r1).2).2).1).2).2).2).1)), ((EC.decL ec_5 (EC.encL ec_5 ((((((((r1).2).2).1).2).2).2).2).1)), ((((((((((r1).2).2).1).2).2).2).2).2).1, ((), ((((((((((((r1).2).2).1).2).2).2).2).2).2).2).1, ())))))))), (((((r1).2).2).2).1, (EC.decL ec_45 (EC.encL ec_45 ((((r1).2).2).2).2)))))))))))))))))))))))))
 (brE (t == 8)
 (gdE (EC.isL ec_118 (EC.encL ec_118 b0_1)) <|
 (gdE (EC.isL ec_55 (EC.encL ec_55 b0_3)) <|
 (gdE (EC.isL ec_5 (EC.encL ec_5 b0_4)) <|
 (gdE (EC.isL ec_45 (EC.encL ec_45 b2)) <|
 (some ((decide (b0_5 > t_5)), ((decide (b0_5 > t_5)), ((b0, ((EC.decL ec_118 (EC.encL ec_118 b0_1)), (b0_2, ((EC.decL ec_55 (EC.encL ec_55 b0_3)), ((EC.decL ec_5 (EC.encL ec_5 b0_4)), (b0_5, ((), (b0_6, ())))))))), (b1, (EC.decL ec_45 (EC.encL ec_45 b2)))))))))))
 (brE (t == 9)
 (gdE (EC.isL ec_118 (EC.encL ec_118 b0_1)) <|
 (gdE (EC.isL ec_55 (EC.encL ec_55 b0_3)) <|
 (gdE (EC.isL ec_5 (EC.encL ec_5 b0_4)) <|
 (gdE (EC.isL ec_45 (EC.encL ec_45 b2)) <|
 (Option.bind (evaluate_run_fields_h5 t_2 b0 (EC.decL ec_118 (EC.encL ec_118 b0_1)) b0_2 (EC.decL ec_55 (EC.encL ec_55 b0_3)) (EC.decL ec_5 (EC.encL ec_5 b0_4)) b0_5 b0_6 b1 (EC.decL ec_45 (EC.encL ec_45 b2))) fun r0 =>
 (gdE (EC.isL ec_118 (EC.encL ec_118 ((((((r0).2).2).2).1).2).1)) <|
 (gdE (EC.isL ec_55 (EC.encL ec_55 ((((((((r0).2).2).2).1).2).2).2).1)) <|
 (gdE (EC.isL ec_5 (EC.encL ec_5 (((((((((r0).2).2).2).1).2).2).2).2).1)) <|
 (gdE (EC.isL ec_45 (EC.encL ec_45 (((((r0).2).2).2).2).2)) <|
 (some ((decide ((((r0).1 : Nat) : Int) > (0 : Int))), ((decide ((((r0).1 : Nat) : Int) > (0 : Int))), (((((((r0).2).2).2).1).1, ((EC.decL ec_118 (EC.encL ec_118 ((((((r0).2).2).2).1).2).1)), ((((((((r0).2).2).2).1).2).2).1, ((EC.decL ec_55 (EC.encL ec_55 ((((((((r0).2).2).2).1).2).2).2).1)), ((EC.decL ec_5 (EC.encL ec_5 (((((((((r0).2).2).2).1).2).2).2).2).1)), (((((((((((r0).2).2).2).1).2).2).2).2).2).1, ((), (((((((((((((r0).2).2).2).1).2).2).2).2).2).2).2).1, ())))))))), ((((((r0).2).2).2).2).1, (EC.decL ec_45 (EC.encL ec_45 (((((r0).2).2).2).2).2))))))))))))))))
 (gdE (EC.isL ec_118 (EC.encL ec_118 b0_1)) <|
 (gdE (EC.isL ec_55 (EC.encL ec_55 b0_3)) <|
 (gdE (EC.isL ec_5 (EC.encL ec_5 b0_4)) <|
 (gdE (EC.isL ec_45 (EC.encL ec_45 b2)) <|
 (some (true, (true, ((b0, ((EC.decL ec_118 (EC.encL ec_118 b0_1)), (b0_2, ((EC.decL ec_55 (EC.encL ec_55 b0_3)), ((EC.decL ec_5 (EC.encL ec_5 b0_4)), (b0_5, ((), (b0_6, ())))))))), (b1, (EC.decL ec_45 (EC.encL ec_45 b2)))))))))))))))))))
theorem evaluate_run_test_h4_eq {t : Int} {t_1 : (List S48)} {t_2 : ByteArray} {t_3 : Int} {t_4 : ByteArray} {t_5 : Int} {b0 : ByteArray} {b0_1 : (List S118)} {b0_2 : ByteArray} {b0_3 : (List S55)} {b0_4 : (List Int)} {b0_5 : Int} {b0_6 : Nat} {b1 : (List (ByteArray × ByteArray))} {b2 : (List S45)} {r : (Bool × (Bool × ((ByteArray × (List S118) × ByteArray × (List S55) × (List Int) × Int × Unit × Nat × Unit) × (List (ByteArray × ByteArray)) × (List S45))))} (h : evaluate_run_test_h4_t t t_1 t_2 t_3 t_4 t_5 b0 b0_1 b0_2 b0_3 b0_4 b0_5 b0_6 b1 b2 = some r) : evaluate_run_test_h4 t t_1 t_2 t_3 t_4 t_5 b0 b0_1 b0_2 b0_3 b0_4 b0_5 b0_6 b1 b2 = some r :=
  hS_tree (fn := Tryz.f80) (es := tab_posthouseref6_Decides) (hs := htab_evaluate_run_match_h6) [evaluate_run_test_h4_l7_e, evaluate_run_test_h4_l20_e] (by kernel_rfl) rfl (by kernel_rfl) ⟨⟨_, rfl, rfl⟩, ⟨_, rfl, rfl⟩, trivial⟩ trivial (by kernel_rfl) h
def evaluate_Run_1_h7_s : SC ((Int × Bool × ByteArray) × Unit) := sLS [0] (lOne (vAgg (lCons (vC (cInt .i64)) (lCons (vC cBool) (lOne (vC cStr)))))) lNil [] [] (by decide) (fun _ => rfl)
def evaluate_Run_1_h7_q : SC (Unit × Unit) := sLS [] lNil lNil [] [] (by decide) (fun _ => rfl)
def evaluate_Run_1_h7_o : HC (Unit × (Unit × Unit)) := hPair (vTup lNil) evaluate_Run_1_h7_q
def evaluate_Run_1_h7 (t0 : Int) (t0_1 : Bool) (t0_2 : ByteArray) : Option (Unit × (Unit × Unit)) := hS Tryz.prog lv X0 38 evaluate_Run_1_h7_s evaluate_Run_1_h7_o ((t0, t0_1, t0_2), ())
def evaluate_Run_1_h7_t (t0 : Int) (t0_1 : Bool) (t0_2 : ByteArray) : Option (Unit × (Unit × Unit)) :=
 (some ((), ((), ())))
theorem evaluate_Run_1_h7_eq {t0 : Int} {t0_1 : Bool} {t0_2 : ByteArray} {r : (Unit × (Unit × Unit))} (h : evaluate_Run_1_h7_t t0 t0_1 t0_2 = some r) : evaluate_Run_1_h7 t0 t0_1 t0_2 = some r :=
  hS_tree (fn := Tryz.f38) (es := tab_posthouseref6_Decides) (hs := htab_evaluate_run_match_h6) [] (by kernel_rfl) rfl (by kernel_rfl) trivial trivial (by kernel_rfl) h
def evaluate_Run_1_h7_e : HEnt Tryz.prog lv X0 := hentS Tryz.prog lv X0 38 [0, 7, 3, 1, 1, 1, 2, 1, 3] evaluate_Run_1_h7_s evaluate_Run_1_h7_o (fun x => evaluate_Run_1_h7 x.1.1 x.1.2.1 x.1.2.2) (fun _ _ h => hS_from h)
def htab_evaluate_Run_1_h7 : List (HEnt Tryz.prog lv X0) := evaluate_Run_1_h7_e :: htab_evaluate_run_match_h6
def evaluate_run_execute_h3_l2_s : SC ((Unit × Int × (List S50) × Int × Int) × ((ByteArray × (List S118) × ByteArray × (List S55) × (List Int) × Int × Unit × Nat × Unit) × (List (ByteArray × ByteArray)) × (List S45))) := sLS [0, 2, 12, 13, 14] (lCons (vPtr 0 0) (lCons (vC (cInt .i64)) (lCons (vC (cSl ec_50)) (lCons (vC (cInt .i64)) (lOne (vC (cInt .i64))))))) (lCons (oSome (bBox (lCons (vC cStr) (lCons (vC (cSl ec_118)) (lCons (vC cStr) (lCons (vC (cSl ec_55)) (lCons (vC (cSl ec_5)) (lCons (vC (cInt .i64)) (lCons (vMp 1) (lCons (vRow 2) (lOne (vFn 38 lNil)))))))))))) (lCons (oSome bMap) (lOne (oSome (bRow ec_45))))) [false, false, false] [0, 1] (by decide) (fun _ => rfl)
def evaluate_run_execute_h3_l2_o2 : SC ((Unit × Int × (List S50) × Int × Int × Bool) × ((ByteArray × (List S118) × ByteArray × (List S55) × (List Int) × Int × Unit × Nat × Unit) × (List (ByteArray × ByteArray)) × (List S45))) := sLS [0, 2, 12, 13, 14, 15] (lCons (vPtr 0 0) (lCons (vC (cInt .i64)) (lCons (vC (cSl ec_50)) (lCons (vC (cInt .i64)) (lCons (vC (cInt .i64)) (lOne (vC cBool))))))) (lCons (oSome (bBox (lCons (vC cStr) (lCons (vC (cSl ec_118)) (lCons (vC cStr) (lCons (vC (cSl ec_55)) (lCons (vC (cSl ec_5)) (lCons (vC (cInt .i64)) (lCons (vMp 1) (lCons (vRow 2) (lOne (vFn 38 lNil)))))))))))) (lCons (oSome bMap) (lOne (oSome (bRow ec_45))))) [false, false, false] [0, 1] (by decide) (fun _ => rfl)
def evaluate_run_execute_h3_l2_o1 : SC (Bool × ((ByteArray × (List S118) × ByteArray × (List S55) × (List Int) × Int × Unit × Nat × Unit) × (List (ByteArray × ByteArray)) × (List S45))) := sLS [6] (lOne (vC cBool)) (lCons (oSome (bBox (lCons (vC cStr) (lCons (vC (cSl ec_118)) (lCons (vC cStr) (lCons (vC (cSl ec_55)) (lCons (vC (cSl ec_5)) (lCons (vC (cInt .i64)) (lCons (vMp 1) (lCons (vRow 2) (lOne (vFn 38 lNil)))))))))))) (lCons (oSome bMap) (lOne (oSome (bRow ec_45))))) [false, false, false] [0, 1] (by decide) (fun _ => rfl)
def evaluate_run_execute_h3_l2_o : OC ((Bool × ((ByteArray × (List S118) × ByteArray × (List S55) × (List Int) × Int × Unit × Nat × Unit) × (List (ByteArray × ByteArray)) × (List S45))) ⊕ ((Unit × Int × (List S50) × Int × Int × Bool) × ((ByteArray × (List S118) × ByteArray × (List S55) × (List Int) × Int × Unit × Nat × Unit) × (List (ByteArray × ByteArray)) × (List S45)))) := oOr 1 evaluate_run_execute_h3_l2_o1 (oAt 2 evaluate_run_execute_h3_l2_o2) (fun x => (by decide : (2 : Nat) ≠ 1))
def evaluate_run_execute_h3_l2 (number : Int) (t12 : (List S50)) (t13 : Int) (t14 : Int) (b0 : ByteArray) (b0_1 : (List S118)) (b0_2 : ByteArray) (b0_3 : (List S55)) (b0_4 : (List Int)) (b0_5 : Int) (b0_6 : Nat) (b1 : (List (ByteArray × ByteArray))) (b2 : (List S45)) : Option ((Bool × ((ByteArray × (List S118) × ByteArray × (List S55) × (List Int) × Int × Unit × Nat × Unit) × (List (ByteArray × ByteArray)) × (List S45))) ⊕ ((Unit × Int × (List S50) × Int × Int × Bool) × ((ByteArray × (List S118) × ByteArray × (List S55) × (List Int) × Int × Unit × Nat × Unit) × (List (ByteArray × ByteArray)) × (List S45)))) := lS Tryz.prog lv X0 61 122 (getLoop (cdF Tryz.f61) 2) evaluate_run_execute_h3_l2_s evaluate_run_execute_h3_l2_o (((), number, t12, t13, t14), ((b0, b0_1, b0_2, b0_3, b0_4, b0_5, (), b0_6, ()), b1, b2))
def evaluate_run_execute_h3_l2_t (number : Int) (t12 : (List S50)) (t13 : Int) (t14 : Int) (b0 : ByteArray) (b0_1 : (List S118)) (b0_2 : ByteArray) (b0_3 : (List S55)) (b0_4 : (List Int)) (b0_5 : Int) (b0_6 : Nat) (b1 : (List (ByteArray × ByteArray))) (b2 : (List S45)) : Option ((Bool × ((ByteArray × (List S118) × ByteArray × (List S55) × (List Int) × Int × Unit × Nat × Unit) × (List (ByteArray × ByteArray)) × (List S45))) ⊕ ((Unit × Int × (List S50) × Int × Int × Bool) × ((ByteArray × (List S118) × ByteArray × (List S55) × (List Int) × Int × Unit × Nat × Unit) × (List (ByteArray × ByteArray)) × (List S45)))) :=
 (brE (decide (t14 < t13))
 (gdE (decide ((0 : Int) ≤ t14)) <|
 (gdE ((decide ((Int.toNat t14) < (List.length (EC.encL ec_50 t12)))) && (isE [(K1.int Go.IntKind.i64), (K1.int Go.IntKind.i64), K1.sl, K1.str, (K1.int Go.IntKind.i64), K1.str, (K1.int Go.IntKind.i64), K1.sl, K1.sl, (K1.int Go.IntKind.i64), K1.str, K1.str, (K1.int Go.IntKind.i64)] (0 : Nat) (List.getD (EC.encL ec_50 t12) (Int.toNat t14) []))) <|
 (brE ((intOf (List.getD (List.getD (EC.encL ec_50 t12) (Int.toNat t14) []) (0 : Nat) C.ne)) == 1)
 (gdE (EC.isL ec_48 (slOf (List.getD (List.getD (EC.encL ec_50 t12) (Int.toNat t14) []) (2 : Nat) C.ne))) <|
 (gdE (EC.isL ec_118 (EC.encL ec_118 b0_1)) <|
 (gdE (EC.isL ec_55 (EC.encL ec_55 b0_3)) <|
 (gdE (EC.isL ec_5 (EC.encL ec_5 b0_4)) <|
 (gdE (EC.isL ec_45 (EC.encL ec_45 b2)) <|
 (Option.bind (evaluate_run_test_h4 (intOf (List.getD (List.getD (EC.encL ec_50 t12) (Int.toNat t14) []) (1 : Nat) C.ne)) (EC.decL ec_48 (slOf (List.getD (List.getD (EC.encL ec_50 t12) (Int.toNat t14) []) (2 : Nat) C.ne))) (strOf (List.getD (List.getD (EC.encL ec_50 t12) (Int.toNat t14) []) (3 : Nat) C.ne)) (intOf (List.getD (List.getD (EC.encL ec_50 t12) (Int.toNat t14) []) (4 : Nat) C.ne)) (strOf (List.getD (List.getD (EC.encL ec_50 t12) (Int.toNat t14) []) (5 : Nat) C.ne)) (intOf (List.getD (List.getD (EC.encL ec_50 t12) (Int.toNat t14) []) (6 : Nat) C.ne)) b0 (EC.decL ec_118 (EC.encL ec_118 b0_1)) b0_2 (EC.decL ec_55 (EC.encL ec_55 b0_3)) (EC.decL ec_5 (EC.encL ec_5 b0_4)) b0_5 b0_6 b1 (EC.decL ec_45 (EC.encL ec_45 b2))) fun r0 =>
 (Option.bind (evaluate_Run_1_h7 number (r0).1 ⟨#[]⟩) fun r1 =>
 (brE (!(r0).1)
 (gdE (EC.isL ec_50 (slOf (List.getD (List.getD (EC.encL ec_50 t12) (Int.toNat t14) []) (7 : Nat) C.ne))) <|
 (Option.bind (rules_Size_s (EC.decL ec_50 (slOf (List.getD (List.getD (EC.encL ec_50 t12) (Int.toNat t14) []) (7 : Nat) C.ne)))) fun r2 =>
 (gdE (EC.isL ec_50 (slOf (List.getD (List.getD (EC.encL ec_50 t12) (Int.toNat t14) []) (8 : Nat) C.ne))) <|
 (gdE (EC.isL ec_118 (EC.encL ec_118 (((((r0).2).2).1).2).1)) <|
 (gdE (EC.isL ec_55 (EC.encL ec_55 (((((((r0).2).2).1).2).2).2).1)) <|
 (gdE (EC.isL ec_5 (EC.encL ec_5 ((((((((r0).2).2).1).2).2).2).2).1)) <|
 (gdE (EC.isL ec_45 (EC.encL ec_45 ((((r0).2).2).2).2)) <|
 (Option.bind (evaluate_run_execute_h3 (EC.decL ec_50 (slOf (List.getD (List.getD (EC.encL ec_50 t12) (Int.toNat t14) []) (8 : Nat) C.ne))) (IntKind.wrap .i64 ((IntKind.wrap .i64 (number + (1 : Int))) + r2)) ((((r0).2).2).1).1 (EC.decL ec_118 (EC.encL ec_118 (((((r0).2).2).1).2).1)) ((((((r0).2).2).1).2).2).1 (EC.decL ec_55 (EC.encL ec_55 (((((((r0).2).2).1).2).2).2).1)) (EC.decL ec_5 (EC.encL ec_5 ((((((((r0).2).2).1).2).2).2).2).1)) (((((((((r0).2).2).1).2).2).2).2).2).1 (((((((((((r0).2).2).1).2).2).2).2).2).2).2).1 ((((r0).2).2).2).1 (EC.decL ec_45 (EC.encL ec_45 ((((r0).2).2).2).2))) fun r3 =>
 (brE (!(r3).1)
 (gdE (EC.isL ec_118 (EC.encL ec_118 (((((r3).2).2).1).2).1)) <|
 (gdE (EC.isL ec_55 (EC.encL ec_55 (((((((r3).2).2).1).2).2).2).1)) <|
 (gdE (EC.isL ec_5 (EC.encL ec_5 ((((((((r3).2).2).1).2).2).2).2).1)) <|
 (gdE (EC.isL ec_45 (EC.encL ec_45 ((((r3).2).2).2).2)) <|
 (some (.inl (false, ((((((r3).2).2).1).1, ((EC.decL ec_118 (EC.encL ec_118 (((((r3).2).2).1).2).1)), (((((((r3).2).2).1).2).2).1, ((EC.decL ec_55 (EC.encL ec_55 (((((((r3).2).2).1).2).2).2).1)), ((EC.decL ec_5 (EC.encL ec_5 ((((((((r3).2).2).1).2).2).2).2).1)), ((((((((((r3).2).2).1).2).2).2).2).2).1, ((), ((((((((((((r3).2).2).1).2).2).2).2).2).2).2).1, ())))))))), (((((r3).2).2).2).1, (EC.decL ec_45 (EC.encL ec_45 ((((r3).2).2).2).2)))))))))))
 (gdE (EC.isL ec_50 (slOf (List.getD (List.getD (EC.encL ec_50 t12) (Int.toNat t14) []) (7 : Nat) C.ne))) <|
 (Option.bind (rules_Size_s (EC.decL ec_50 (slOf (List.getD (List.getD (EC.encL ec_50 t12) (Int.toNat t14) []) (7 : Nat) C.ne)))) fun r4 =>
 (gdE (EC.isL ec_50 (slOf (List.getD (List.getD (EC.encL ec_50 t12) (Int.toNat t14) []) (8 : Nat) C.ne))) <|
 (Option.bind (rules_Size_s (EC.decL ec_50 (slOf (List.getD (List.getD (EC.encL ec_50 t12) (Int.toNat t14) []) (8 : Nat) C.ne)))) fun r5 =>
 (gdE (EC.isL ec_50 (EC.encL ec_50 t12)) <|
 (gdE (EC.isL ec_118 (EC.encL ec_118 (((((r3).2).2).1).2).1)) <|
 (gdE (EC.isL ec_55 (EC.encL ec_55 (((((((r3).2).2).1).2).2).2).1)) <|
 (gdE (EC.isL ec_5 (EC.encL ec_5 ((((((((r3).2).2).1).2).2).2).2).1)) <|
 (gdE (EC.isL ec_45 (EC.encL ec_45 ((((r3).2).2).2).2)) <|
 (evaluate_run_execute_h3_l2 (IntKind.wrap .i64 (number + (IntKind.wrap .i64 ((IntKind.wrap .i64 ((1 : Int) + r4)) + r5)))) (EC.decL ec_50 (EC.encL ec_50 t12)) t13 (IntKind.wrap .i64 (t14 + (1 : Int))) ((((r3).2).2).1).1 (EC.decL ec_118 (EC.encL ec_118 (((((r3).2).2).1).2).1)) ((((((r3).2).2).1).2).2).1 (EC.decL ec_55 (EC.encL ec_55 (((((((r3).2).2).1).2).2).2).1)) (EC.decL ec_5 (EC.encL ec_5 ((((((((r3).2).2).1).2).2).2).2).1)) (((((((((r3).2).2).1).2).2).2).2).2).1 (((((((((((r3).2).2).1).2).2).2).2).2).2).2).1 ((((r3).2).2).2).1 (EC.decL ec_45 (EC.encL ec_45 ((((r3).2).2).2).2)))))))))))))))))))))
 (gdE (EC.isL ec_50 (slOf (List.getD (List.getD (EC.encL ec_50 t12) (Int.toNat t14) []) (7 : Nat) C.ne))) <|
 (gdE (EC.isL ec_118 (EC.encL ec_118 (((((r0).2).2).1).2).1)) <|
 (gdE (EC.isL ec_55 (EC.encL ec_55 (((((((r0).2).2).1).2).2).2).1)) <|
 (gdE (EC.isL ec_5 (EC.encL ec_5 ((((((((r0).2).2).1).2).2).2).2).1)) <|
 (gdE (EC.isL ec_45 (EC.encL ec_45 ((((r0).2).2).2).2)) <|
 (Option.bind (evaluate_run_execute_h3 (EC.decL ec_50 (slOf (List.getD (List.getD (EC.encL ec_50 t12) (Int.toNat t14) []) (7 : Nat) C.ne))) (IntKind.wrap .i64 (number + (1 : Int))) ((((r0).2).2).1).1 (EC.decL ec_118 (EC.encL ec_118 (((((r0).2).2).1).2).1)) ((((((r0).2).2).1).2).2).1 (EC.decL ec_55 (EC.encL ec_55 (((((((r0).2).2).1).2).2).2).1)) (EC.decL ec_5 (EC.encL ec_5 ((((((((r0).2).2).1).2).2).2).2).1)) (((((((((r0).2).2).1).2).2).2).2).2).1 (((((((((((r0).2).2).1).2).2).2).2).2).2).2).1 ((((r0).2).2).2).1 (EC.decL ec_45 (EC.encL ec_45 ((((r0).2).2).2).2))) fun r2 =>
 (brE (!(r2).1)
 (gdE (EC.isL ec_118 (EC.encL ec_118 (((((r2).2).2).1).2).1)) <|
 (gdE (EC.isL ec_55 (EC.encL ec_55 (((((((r2).2).2).1).2).2).2).1)) <|
 (gdE (EC.isL ec_5 (EC.encL ec_5 ((((((((r2).2).2).1).2).2).2).2).1)) <|
 (gdE (EC.isL ec_45 (EC.encL ec_45 ((((r2).2).2).2).2)) <|
 (some (.inl (false, ((((((r2).2).2).1).1, ((EC.decL ec_118 (EC.encL ec_118 (((((r2).2).2).1).2).1)), (((((((r2).2).2).1).2).2).1, ((EC.decL ec_55 (EC.encL ec_55 (((((((r2).2).2).1).2).2).2).1)), ((EC.decL ec_5 (EC.encL ec_5 ((((((((r2).2).2).1).2).2).2).2).1)), ((((((((((r2).2).2).1).2).2).2).2).2).1, ((), ((((((((((((r2).2).2).1).2).2).2).2).2).2).2).1, ())))))))), (((((r2).2).2).2).1, (EC.decL ec_45 (EC.encL ec_45 ((((r2).2).2).2).2)))))))))))
 (gdE (EC.isL ec_50 (slOf (List.getD (List.getD (EC.encL ec_50 t12) (Int.toNat t14) []) (7 : Nat) C.ne))) <|
 (Option.bind (rules_Size_s (EC.decL ec_50 (slOf (List.getD (List.getD (EC.encL ec_50 t12) (Int.toNat t14) []) (7 : Nat) C.ne)))) fun r3 =>
 (gdE (EC.isL ec_50 (slOf (List.getD (List.getD (EC.encL ec_50 t12) (Int.toNat t14) []) (8 : Nat) C.ne))) <|
 (Option.bind (rules_Size_s (EC.decL ec_50 (slOf (List.getD (List.getD (EC.encL ec_50 t12) (Int.toNat t14) []) (8 : Nat) C.ne)))) fun r4 =>
 (gdE (EC.isL ec_50 (EC.encL ec_50 t12)) <|
 (gdE (EC.isL ec_118 (EC.encL ec_118 (((((r2).2).2).1).2).1)) <|
 (gdE (EC.isL ec_55 (EC.encL ec_55 (((((((r2).2).2).1).2).2).2).1)) <|
 (gdE (EC.isL ec_5 (EC.encL ec_5 ((((((((r2).2).2).1).2).2).2).2).1)) <|
 (gdE (EC.isL ec_45 (EC.encL ec_45 ((((r2).2).2).2).2)) <|
 (evaluate_run_execute_h3_l2 (IntKind.wrap .i64 (number + (IntKind.wrap .i64 ((IntKind.wrap .i64 ((1 : Int) + r3)) + r4)))) (EC.decL ec_50 (EC.encL ec_50 t12)) t13 (IntKind.wrap .i64 (t14 + (1 : Int))) ((((r2).2).2).1).1 (EC.decL ec_118 (EC.encL ec_118 (((((r2).2).2).1).2).1)) ((((((r2).2).2).1).2).2).1 (EC.decL ec_55 (EC.encL ec_55 (((((((r2).2).2).1).2).2).2).1)) (EC.decL ec_5 (EC.encL ec_5 ((((((((r2).2).2).1).2).2).2).2).1)) (((((((((r2).2).2).1).2).2).2).2).2).1 (((((((((((r2).2).2).1).2).2).2).2).2).2).2).1 ((((r2).2).2).2).1 (EC.decL ec_45 (EC.encL ec_45 ((((r2).2).2).2).2)))))))))))))))))))))))))))
 (brE ((intOf (List.getD (List.getD (EC.encL ec_50 t12) (Int.toNat t14) []) (0 : Nat) C.ne)) == 2)
 (Option.bind (expP b1 (strOf (List.getD (List.getD (EC.encL ec_50 t12) (Int.toNat t14) []) (11 : Nat) C.ne))) fun r0 =>
 (gdE ((((List.all [[(C.int Go.IntKind.i64 (intOf (List.getD (List.getD (EC.encL ec_50 t12) (Int.toNat t14) []) (9 : Nat) C.ne))), (C.str r0), (C.int Go.IntKind.i64 (intOf (List.getD (List.getD (EC.encL ec_50 t12) (Int.toNat t14) []) (12 : Nat) C.ne)))]] (fun (el : (List C)) => ((List.length el) == (3 : Nat)))) && (List.all (EC.encL ec_45 b2) (fun (el : (List C)) => ((List.length el) == (3 : Nat))))) && (decide (((((b0_6 + (List.length [[(C.int Go.IntKind.i64 (intOf (List.getD (List.getD (EC.encL ec_50 t12) (Int.toNat t14) []) (9 : Nat) C.ne))), (C.str r0), (C.int Go.IntKind.i64 (intOf (List.getD (List.getD (EC.encL ec_50 t12) (Int.toNat t14) []) (12 : Nat) C.ne)))]])) + ((b0_6 + (List.length [[(C.int Go.IntKind.i64 (intOf (List.getD (List.getD (EC.encL ec_50 t12) (Int.toNat t14) []) (9 : Nat) C.ne))), (C.str r0), (C.int Go.IntKind.i64 (intOf (List.getD (List.getD (EC.encL ec_50 t12) (Int.toNat t14) []) (12 : Nat) C.ne)))]])) / (4 : Nat))) + (192 : Nat)) * (32 : Nat)) ≤ (281474976710656 : Nat)))) && (decide ((b0_6 + (List.length [[(C.int Go.IntKind.i64 (intOf (List.getD (List.getD (EC.encL ec_50 t12) (Int.toNat t14) []) (9 : Nat) C.ne))), (C.str r0), (C.int Go.IntKind.i64 (intOf (List.getD (List.getD (EC.encL ec_50 t12) (Int.toNat t14) []) (12 : Nat) C.ne)))]])) ≤ (9223372036854775807 : Nat)))) <|
 (Option.bind (evaluate_Run_1_h7 number false r0) fun r1 =>
 (gdE (EC.isL ec_50 (slOf (List.getD (List.getD (EC.encL ec_50 t12) (Int.toNat t14) []) (7 : Nat) C.ne))) <|
 (Option.bind (rules_Size_s (EC.decL ec_50 (slOf (List.getD (List.getD (EC.encL ec_50 t12) (Int.toNat t14) []) (7 : Nat) C.ne)))) fun r2 =>
 (gdE (EC.isL ec_50 (slOf (List.getD (List.getD (EC.encL ec_50 t12) (Int.toNat t14) []) (8 : Nat) C.ne))) <|
 (Option.bind (rules_Size_s (EC.decL ec_50 (slOf (List.getD (List.getD (EC.encL ec_50 t12) (Int.toNat t14) []) (8 : Nat) C.ne)))) fun r3 =>
 (gdE (EC.isL ec_50 (EC.encL ec_50 t12)) <|
 (gdE (EC.isL ec_118 (EC.encL ec_118 b0_1)) <|
 (gdE (EC.isL ec_55 (EC.encL ec_55 b0_3)) <|
 (gdE (EC.isL ec_5 (EC.encL ec_5 b0_4)) <|
 (gdE (EC.isL ec_45 ((EC.encL ec_45 b2) ++ [[(C.int Go.IntKind.i64 (intOf (List.getD (List.getD (EC.encL ec_50 t12) (Int.toNat t14) []) (9 : Nat) C.ne))), (C.str r0), (C.int Go.IntKind.i64 (intOf (List.getD (List.getD (EC.encL ec_50 t12) (Int.toNat t14) []) (12 : Nat) C.ne)))]])) <|
 (evaluate_run_execute_h3_l2 (IntKind.wrap .i64 (number + (IntKind.wrap .i64 ((IntKind.wrap .i64 ((1 : Int) + r2)) + r3)))) (EC.decL ec_50 (EC.encL ec_50 t12)) t13 (IntKind.wrap .i64 (t14 + (1 : Int))) b0 (EC.decL ec_118 (EC.encL ec_118 b0_1)) b0_2 (EC.decL ec_55 (EC.encL ec_55 b0_3)) (EC.decL ec_5 (EC.encL ec_5 b0_4)) b0_5 (b0_6 + (List.length [[(C.int Go.IntKind.i64 (intOf (List.getD (List.getD (EC.encL ec_50 t12) (Int.toNat t14) []) (9 : Nat) C.ne))), (C.str r0), (C.int Go.IntKind.i64 (intOf (List.getD (List.getD (EC.encL ec_50 t12) (Int.toNat t14) []) (12 : Nat) C.ne)))]])) b1 (EC.decL ec_45 ((EC.encL ec_45 b2) ++ [[(C.int Go.IntKind.i64 (intOf (List.getD (List.getD (EC.encL ec_50 t12) (Int.toNat t14) []) (9 : Nat) C.ne))), (C.str r0), (C.int Go.IntKind.i64 (intOf (List.getD (List.getD (EC.encL ec_50 t12) (Int.toNat t14) []) (12 : Nat) C.ne)))]])))))))))))))))
 (brE ((intOf (List.getD (List.getD (EC.encL ec_50 t12) (Int.toNat t14) []) (0 : Nat) C.ne)) == 3)
 (Option.bind (expP b1 (strOf (List.getD (List.getD (EC.encL ec_50 t12) (Int.toNat t14) []) (11 : Nat) C.ne))) fun r0 =>
 (gdE (((decide ((ByteArray.size (strOf (List.getD (List.getD (EC.encL ec_50 t12) (Int.toNat t14) []) (10 : Nat) C.ne))) ≤ Go.maxLen)) && (decide ((ByteArray.size r0) ≤ Go.maxLen))) && (decide ((List.length b1) < Go.maxLen))) <|
 (Option.bind (evaluate_Run_1_h7 number false r0) fun r1 =>
 (gdE (EC.isL ec_50 (slOf (List.getD (List.getD (EC.encL ec_50 t12) (Int.toNat t14) []) (7 : Nat) C.ne))) <|
 (Option.bind (rules_Size_s (EC.decL ec_50 (slOf (List.getD (List.getD (EC.encL ec_50 t12) (Int.toNat t14) []) (7 : Nat) C.ne)))) fun r2 =>
 (gdE (EC.isL ec_50 (slOf (List.getD (List.getD (EC.encL ec_50 t12) (Int.toNat t14) []) (8 : Nat) C.ne))) <|
 (Option.bind (rules_Size_s (EC.decL ec_50 (slOf (List.getD (List.getD (EC.encL ec_50 t12) (Int.toNat t14) []) (8 : Nat) C.ne)))) fun r3 =>
 (gdE (EC.isL ec_50 (EC.encL ec_50 t12)) <|
 (gdE (EC.isL ec_118 (EC.encL ec_118 b0_1)) <|
 (gdE (EC.isL ec_55 (EC.encL ec_55 b0_3)) <|
 (gdE (EC.isL ec_5 (EC.encL ec_5 b0_4)) <|
 (gdE (EC.isL ec_45 (EC.encL ec_45 b2)) <|
 (evaluate_run_execute_h3_l2 (IntKind.wrap .i64 (number + (IntKind.wrap .i64 ((IntKind.wrap .i64 ((1 : Int) + r2)) + r3)))) (EC.decL ec_50 (EC.encL ec_50 t12)) t13 (IntKind.wrap .i64 (t14 + (1 : Int))) b0 (EC.decL ec_118 (EC.encL ec_118 b0_1)) b0_2 (EC.decL ec_55 (EC.encL ec_55 b0_3)) (EC.decL ec_5 (EC.encL ec_5 b0_4)) b0_5 b0_6 (putM b1 (strOf (List.getD (List.getD (EC.encL ec_50 t12) (Int.toNat t14) []) (10 : Nat) C.ne)) r0) (EC.decL ec_45 (EC.encL ec_45 b2)))))))))))))))
 (Option.bind (evaluate_Run_1_h7 number false ⟨#[]⟩) fun r0 =>
 (gdE (EC.isL ec_118 (EC.encL ec_118 b0_1)) <|
 (gdE (EC.isL ec_55 (EC.encL ec_55 b0_3)) <|
 (gdE (EC.isL ec_5 (EC.encL ec_5 b0_4)) <|
 (gdE (EC.isL ec_45 (EC.encL ec_45 b2)) <|
 (some (.inl (false, ((b0, ((EC.decL ec_118 (EC.encL ec_118 b0_1)), (b0_2, ((EC.decL ec_55 (EC.encL ec_55 b0_3)), ((EC.decL ec_5 (EC.encL ec_5 b0_4)), (b0_5, ((), (b0_6, ())))))))), (b1, (EC.decL ec_45 (EC.encL ec_45 b2)))))))))))))))))
 (gdE (EC.isL ec_50 (EC.encL ec_50 t12)) <|
 (gdE (EC.isL ec_118 (EC.encL ec_118 b0_1)) <|
 (gdE (EC.isL ec_55 (EC.encL ec_55 b0_3)) <|
 (gdE (EC.isL ec_5 (EC.encL ec_5 b0_4)) <|
 (gdE (EC.isL ec_45 (EC.encL ec_45 b2)) <|
 (some (.inr (((), (number, ((EC.decL ec_50 (EC.encL ec_50 t12)), (t13, (t14, false))))), ((b0, ((EC.decL ec_118 (EC.encL ec_118 b0_1)), (b0_2, ((EC.decL ec_55 (EC.encL ec_55 b0_3)), ((EC.decL ec_5 (EC.encL ec_5 b0_4)), (b0_5, ((), (b0_6, ())))))))), (b1, (EC.decL ec_45 (EC.encL ec_45 b2)))))))))))))
theorem evaluate_run_execute_h3_l2_eq {number : Int} {t12 : (List S50)} {t13 : Int} {t14 : Int} {b0 : ByteArray} {b0_1 : (List S118)} {b0_2 : ByteArray} {b0_3 : (List S55)} {b0_4 : (List Int)} {b0_5 : Int} {b0_6 : Nat} {b1 : (List (ByteArray × ByteArray))} {b2 : (List S45)} {r : ((Bool × ((ByteArray × (List S118) × ByteArray × (List S55) × (List Int) × Int × Unit × Nat × Unit) × (List (ByteArray × ByteArray)) × (List S45))) ⊕ ((Unit × Int × (List S50) × Int × Int × Bool) × ((ByteArray × (List S118) × ByteArray × (List S55) × (List Int) × Int × Unit × Nat × Unit) × (List (ByteArray × ByteArray)) × (List S45))))} (h : evaluate_run_execute_h3_l2_t number t12 t13 t14 b0 b0_1 b0_2 b0_3 b0_4 b0_5 b0_6 b1 b2 = some r) : evaluate_run_execute_h3_l2 number t12 t13 t14 b0 b0_1 b0_2 b0_3 b0_4 b0_5 b0_6 b1 b2 = some r :=
  lS_tree (es := tab_posthouseref6_Decides) (hs := htab_evaluate_Run_1_h7) [] (by kernel_rfl) trivial trivial (by kernel_rfl) h
def evaluate_run_execute_h3_l2_e : LEnt Tryz.prog lv X0 61 122 := lentS Tryz.prog lv X0 2 (getLoop (cdF Tryz.f61) 2) evaluate_run_execute_h3_l2_s evaluate_run_execute_h3_l2_o (fun x => evaluate_run_execute_h3_l2 x.1.2.1 x.1.2.2.1 x.1.2.2.2.1 x.1.2.2.2.2 x.2.1.1 x.2.1.2.1 x.2.1.2.2.1 x.2.1.2.2.2.1 x.2.1.2.2.2.2.1 x.2.1.2.2.2.2.2.1 x.2.1.2.2.2.2.2.2.2.1 x.2.2.1 x.2.2.2) (fun _ _ h => lS_from h)
def evaluate_run_execute_h3_t (s : (List S50)) (number : Int) (b0 : ByteArray) (b0_1 : (List S118)) (b0_2 : ByteArray) (b0_3 : (List S55)) (b0_4 : (List Int)) (b0_5 : Int) (b0_6 : Nat) (b1 : (List (ByteArray × ByteArray))) (b2 : (List S45)) : Option (Bool × (Bool × ((ByteArray × (List S118) × ByteArray × (List S55) × (List Int) × Int × Unit × Nat × Unit) × (List (ByteArray × ByteArray)) × (List S45)))) :=
 (gdE (EC.isL ec_50 (EC.encL ec_50 s)) <|
 (gdE (EC.isL ec_118 (EC.encL ec_118 b0_1)) <|
 (gdE (EC.isL ec_55 (EC.encL ec_55 b0_3)) <|
 (gdE (EC.isL ec_5 (EC.encL ec_5 b0_4)) <|
 (gdE (EC.isL ec_45 (EC.encL ec_45 b2)) <|
 (Option.bind (evaluate_run_execute_h3_l2 number (EC.decL ec_50 (EC.encL ec_50 s)) (((List.length (EC.encL ec_50 s)) : Nat) : Int) (0 : Int) b0 (EC.decL ec_118 (EC.encL ec_118 b0_1)) b0_2 (EC.decL ec_55 (EC.encL ec_55 b0_3)) (EC.decL ec_5 (EC.encL ec_5 b0_4)) b0_5 b0_6 b1 (EC.decL ec_45 (EC.encL ec_45 b2))) fun r0 =>
 (Sum.elim (fun r1 => (gdE (EC.isL ec_118 (EC.encL ec_118 ((((r1).2).1).2).1)) <|
 (gdE (EC.isL ec_55 (EC.encL ec_55 ((((((r1).2).1).2).2).2).1)) <|
 (gdE (EC.isL ec_5 (EC.encL ec_5 (((((((r1).2).1).2).2).2).2).1)) <|
 (gdE (EC.isL ec_45 (EC.encL ec_45 (((r1).2).2).2)) <|
 (some ((r1).1, ((r1).1, (((((r1).2).1).1, ((EC.decL ec_118 (EC.encL ec_118 ((((r1).2).1).2).1)), ((((((r1).2).1).2).2).1, ((EC.decL ec_55 (EC.encL ec_55 ((((((r1).2).1).2).2).2).1)), ((EC.decL ec_5 (EC.encL ec_5 (((((((r1).2).1).2).2).2).2).1)), (((((((((r1).2).1).2).2).2).2).2).1, ((), (((((((((((r1).2).1).2).2).2).2).2).2).2).1, ())))))))), ((((r1).2).2).1, (EC.decL ec_45 (EC.encL ec_45 (((r1).2).2).2))))))))))))
 (fun r1 => (gdE (EC.isL ec_118 (EC.encL ec_118 ((((r1).2).1).2).1)) <|
 (gdE (EC.isL ec_55 (EC.encL ec_55 ((((((r1).2).1).2).2).2).1)) <|
 (gdE (EC.isL ec_5 (EC.encL ec_5 (((((((r1).2).1).2).2).2).2).1)) <|
 (gdE (EC.isL ec_45 (EC.encL ec_45 (((r1).2).2).2)) <|
 (some (true, (true, (((((r1).2).1).1, ((EC.decL ec_118 (EC.encL ec_118 ((((r1).2).1).2).1)), ((((((r1).2).1).2).2).1, ((EC.decL ec_55 (EC.encL ec_55 ((((((r1).2).1).2).2).2).1)), ((EC.decL ec_5 (EC.encL ec_5 (((((((r1).2).1).2).2).2).2).1)), (((((((((r1).2).1).2).2).2).2).2).1, ((), (((((((((((r1).2).1).2).2).2).2).2).2).2).1, ())))))))), ((((r1).2).2).1, (EC.decL ec_45 (EC.encL ec_45 (((r1).2).2).2)))))))))))) r0)))))))
theorem evaluate_run_execute_h3_eq {s : (List S50)} {number : Int} {b0 : ByteArray} {b0_1 : (List S118)} {b0_2 : ByteArray} {b0_3 : (List S55)} {b0_4 : (List Int)} {b0_5 : Int} {b0_6 : Nat} {b1 : (List (ByteArray × ByteArray))} {b2 : (List S45)} {r : (Bool × (Bool × ((ByteArray × (List S118) × ByteArray × (List S55) × (List Int) × Int × Unit × Nat × Unit) × (List (ByteArray × ByteArray)) × (List S45))))} (h : evaluate_run_execute_h3_t s number b0 b0_1 b0_2 b0_3 b0_4 b0_5 b0_6 b1 b2 = some r) : evaluate_run_execute_h3 s number b0 b0_1 b0_2 b0_3 b0_4 b0_5 b0_6 b1 b2 = some r :=
  hS_tree (fn := Tryz.f61) (es := tab_posthouseref6_Decides) (hs := htab_evaluate_Run_1_h7) [evaluate_run_execute_h3_l2_e] (by kernel_rfl) rfl (by kernel_rfl) ⟨⟨_, rfl, rfl⟩, trivial⟩ trivial (by kernel_rfl) h
def evaluate_Noted_h2_t (s : (List S50)) (m_ : ByteArray) (m__1 : (List S118)) (m__2 : ByteArray) (m__3 : (List S55)) (m__4 : (List Int)) : Option ((Nat × (Int × Int)) × ((Nat × (Int × Int)) × (List S45))) :=
 (gdE (EC.isL ec_50 (EC.encL ec_50 s)) <|
 (Option.bind (rules_Validate_s (EC.decL ec_50 (EC.encL ec_50 s))) fun r0 =>
 (Option.bind (basic_Failed_s (r0).1 (r0).2) fun r1 =>
 (brE r1
 (some (((0 : Nat), ((r0).1, (r0).2)), (((0 : Nat), ((r0).1, (r0).2)), (EC.decL ec_45 []))))
 (gdE (EC.isL ec_118 (EC.encL ec_118 m__1)) <|
 (Option.bind (envelope_Validate_s m_ (EC.decL ec_118 (EC.encL ec_118 m__1)) m__2) fun r2 =>
 (Option.bind (basic_Failed_s (r2).1 (r2).2) fun r3 =>
 (brE r3
 (Option.bind (basic_Fault_s (r2).1 (-(3 : Int))) fun r4 =>
 (some (((0 : Nat), ((r4).1, (r4).2)), (((0 : Nat), ((r4).1, (r4).2)), (EC.decL ec_45 [])))))
 (gdE (EC.isL ec_55 (EC.encL ec_55 m__3)) <|
 (gdE (EC.isL ec_5 (EC.encL ec_5 m__4)) <|
 (Option.bind (message_Write_s (EC.decL ec_55 (EC.encL ec_55 m__3)) (EC.decL ec_5 (EC.encL ec_5 m__4))) fun r4 =>
 (Option.bind (basic_Failed_s (((r4).1).2).1 (((r4).1).2).2) fun r5 =>
 (brE r5
 (Option.bind (basic_Fault_s (((r4).1).2).1 (-(2 : Int))) fun r6 =>
 (some (((0 : Nat), ((r6).1, (r6).2)), (((0 : Nat), ((r6).1, (r6).2)), (EC.decL ec_45 [])))))
 (gdE (EC.isL ec_50 (EC.encL ec_50 s)) <|
 (gdE (EC.isL ec_118 (EC.encL ec_118 m__1)) <|
 (gdE (EC.isL ec_55 (EC.encL ec_55 m__3)) <|
 (gdE (EC.isL ec_5 (EC.encL ec_5 m__4)) <|
 (Option.bind (evaluate_run_execute_h3 (EC.decL ec_50 (EC.encL ec_50 s)) (0 : Int) m_ (EC.decL ec_118 (EC.encL ec_118 m__1)) m__2 (EC.decL ec_55 (EC.encL ec_55 m__3)) (EC.decL ec_5 (EC.encL ec_5 m__4)) ((((r4).1).1 : Nat) : Int) (0 : Nat) [] (EC.decL ec_45 [])) fun r6 =>
 (gdE (EC.isL ec_45 (EC.encL ec_45 ((((r6).2).2).2).2)) <|
 (Option.bind (evaluate_Decided_s (EC.decL ec_45 (EC.encL ec_45 ((((r6).2).2).2).2))) fun r7 =>
 (brE (!r7)
 (gdE ((((List.all [[(C.int Go.IntKind.i64 (1 : Int)), (C.str ⟨#[]⟩), (C.int Go.IntKind.i64 (0 : Int))]] (fun (el : (List C)) => ((List.length el) == (3 : Nat)))) && (List.all (EC.encL ec_45 ((((r6).2).2).2).2) (fun (el : (List C)) => ((List.length el) == (3 : Nat))))) && (decide ((((((((((((((((r6).2).2).1).2).2).2).2).2).2).2).1 + (List.length [[(C.int Go.IntKind.i64 (1 : Int)), (C.str ⟨#[]⟩), (C.int Go.IntKind.i64 (0 : Int))]])) + (((((((((((((r6).2).2).1).2).2).2).2).2).2).2).1 + (List.length [[(C.int Go.IntKind.i64 (1 : Int)), (C.str ⟨#[]⟩), (C.int Go.IntKind.i64 (0 : Int))]])) / (4 : Nat))) + (192 : Nat)) * (32 : Nat)) ≤ (281474976710656 : Nat)))) && (decide (((((((((((((r6).2).2).1).2).2).2).2).2).2).2).1 + (List.length [[(C.int Go.IntKind.i64 (1 : Int)), (C.str ⟨#[]⟩), (C.int Go.IntKind.i64 (0 : Int))]])) ≤ (9223372036854775807 : Nat)))) <|
 (Option.bind basic_None_s fun r8 =>
 (gdE (EC.isL ec_45 ((EC.encL ec_45 ((((r6).2).2).2).2) ++ [[(C.int Go.IntKind.i64 (1 : Int)), (C.str ⟨#[]⟩), (C.int Go.IntKind.i64 (0 : Int))]])) <|
 (some ((((((((((((((r6).2).2).1).2).2).2).2).2).2).2).1 + (List.length [[(C.int Go.IntKind.i64 (1 : Int)), (C.str ⟨#[]⟩), (C.int Go.IntKind.i64 (0 : Int))]])), ((r8).1, (r8).2)), ((((((((((((((r6).2).2).1).2).2).2).2).2).2).2).1 + (List.length [[(C.int Go.IntKind.i64 (1 : Int)), (C.str ⟨#[]⟩), (C.int Go.IntKind.i64 (0 : Int))]])), ((r8).1, (r8).2)), (EC.decL ec_45 ((EC.encL ec_45 ((((r6).2).2).2).2) ++ [[(C.int Go.IntKind.i64 (1 : Int)), (C.str ⟨#[]⟩), (C.int Go.IntKind.i64 (0 : Int))]]))))))))
 (Option.bind basic_None_s fun r8 =>
 (gdE (EC.isL ec_45 (EC.encL ec_45 ((((r6).2).2).2).2)) <|
 (some (((((((((((((r6).2).2).1).2).2).2).2).2).2).2).1, ((r8).1, (r8).2)), (((((((((((((r6).2).2).1).2).2).2).2).2).2).2).1, ((r8).1, (r8).2)), (EC.decL ec_45 (EC.encL ec_45 ((((r6).2).2).2).2))))))))))))))))))))))))))))
theorem evaluate_Noted_h2_eq {s : (List S50)} {m_ : ByteArray} {m__1 : (List S118)} {m__2 : ByteArray} {m__3 : (List S55)} {m__4 : (List Int)} {r : ((Nat × (Int × Int)) × ((Nat × (Int × Int)) × (List S45)))} (h : evaluate_Noted_h2_t s m_ m__1 m__2 m__3 m__4 = some r) : evaluate_Noted_h2 s m_ m__1 m__2 m__3 m__4 = some r :=
  hS_tree (fn := Tryz.f37) (es := tab_posthouseref6_Decides) (hs := htab_evaluate_Run_1_h7) [] (by kernel_rfl) rfl (by kernel_rfl) trivial trivial (by kernel_rfl) h
def evaluate_Run_cr : Cod (V × List B) ((Nat × (Int × Int)) × (List S45)) := (cPair (vTup (lCons (vRow 0) (lOne (vAgg (lCons (vC (cInt .i64)) (lOne (vC (cInt .i64)))))))) (lOne (bRow ec_45)))
def evaluate_Run_s (s : (List S50)) (m_Envelope_From : ByteArray) (m_Envelope_To : (List S118)) (m_Envelope_Id : ByteArray) (m_Message_Fields : (List S55)) (m_Message_Body : (List Int)) : Option ((Nat × (Int × Int)) × (List S45)) := fS Tryz.prog lv X0 14 evaluate_Run_ca evaluate_Run_cr (s, (m_Envelope_From, m_Envelope_To, m_Envelope_Id, m_Message_Fields, m_Message_Body))
def evaluate_Run_t (s : (List S50)) (m_Envelope_From : ByteArray) (m_Envelope_To : (List S118)) (m_Envelope_Id : ByteArray) (m_Message_Fields : (List S55)) (m_Message_Body : (List Int)) : Option ((Nat × (Int × Int)) × (List S45)) :=
 (gdE (EC.isL ec_50 (EC.encL ec_50 s)) <|
 (gdE (EC.isL ec_118 (EC.encL ec_118 m_Envelope_To)) <|
 (gdE (EC.isL ec_55 (EC.encL ec_55 m_Message_Fields)) <|
 (gdE (EC.isL ec_5 (EC.encL ec_5 m_Message_Body)) <|
 (Option.bind (evaluate_Noted_h2 (EC.decL ec_50 (EC.encL ec_50 s)) m_Envelope_From (EC.decL ec_118 (EC.encL ec_118 m_Envelope_To)) m_Envelope_Id (EC.decL ec_55 (EC.encL ec_55 m_Message_Fields)) (EC.decL ec_5 (EC.encL ec_5 m_Message_Body))) fun r0 =>
 (gdE (EC.isL ec_45 (EC.encL ec_45 ((r0).2).2)) <|
 (some ((((r0).1).1, ((((r0).1).2).1, (((r0).1).2).2)), (EC.decL ec_45 (EC.encL ec_45 ((r0).2).2))))))))))
theorem evaluate_Run_eq {s : (List S50)} {m_Envelope_From : ByteArray} {m_Envelope_To : (List S118)} {m_Envelope_Id : ByteArray} {m_Message_Fields : (List S55)} {m_Message_Body : (List Int)} {r : ((Nat × (Int × Int)) × (List S45))} (h : evaluate_Run_t s m_Envelope_From m_Envelope_To m_Envelope_Id m_Message_Fields m_Message_Body = some r) : evaluate_Run_s s m_Envelope_From m_Envelope_To m_Envelope_Id m_Message_Fields m_Message_Body = some r :=
  fS_tree (es := tab_posthouseref6_Decides) (hs := htab_evaluate_Run_1_h7) [] Tryz.func14 rfl (by kernel_rfl) rfl (by kernel_rfl) (by kernel_rfl) trivial trivial (by kernel_rfl) h
def evaluate_Run_e : Ent Tryz.prog lv X0 := entS Tryz.prog lv X0 14 [] evaluate_Run_ca evaluate_Run_cr (fun x => evaluate_Run_s x.1 x.2.1 x.2.2.1 x.2.2.2.1 x.2.2.2.2.1 x.2.2.2.2.2) (fun _ _ h => fS_call h)
def tab_evaluate_Run : List (Ent Tryz.prog lv X0) := evaluate_Run_e :: tab_posthouseref6_Decides
end
end Go.Proofs.YtokahibbkdbndaaGreatDoor
