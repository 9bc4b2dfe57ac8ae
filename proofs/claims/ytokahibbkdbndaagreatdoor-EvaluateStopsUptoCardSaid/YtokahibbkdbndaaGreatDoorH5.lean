/- Functions of the program as plain functions: made by program from the machine. -/
import Derived.Test.YtokahibbkdbndaaGreatDoorZ22
namespace Go.Proofs.YtokahibbkdbndaaGreatDoor
open Go.RowKit
set_option maxRecDepth 100000
noncomputable section
def qd5 := (lCons (vC (cSl ec_50)) (lOne (vAgg (lCons (vC cStr) (lCons (vC (cSl ec_118)) (lCons (vC cStr) (lCons (vC (cSl ec_55)) (lOne (vC (cSl ec_5))))))))))
def qcw := sLS [0, 1, 2] (lCons (vC (cSl ec_50)) (lCons (vAgg (lCons (vC cStr) (lCons (vC (cSl ec_118)) (lCons (vC cStr) (lCons (vC (cSl ec_55)) (lOne (vC (cSl ec_5)))))))) (lOne (vFn 38 lNil)))) lNil [] [] (by decide) (fun _ => rfl)
def qcv : SC ((Nat × (Int × Int)) × (List S45)) := sLS [0, 1] (lCons (vRow 0) (lOne (vAgg (lCons (vC (cInt .i64)) (lOne (vC (cInt .i64))))))) (lOne (oSome (bRow ec_45))) [false] [] (by decide) (fun _ => rfl)
def qcu : HC ((Nat × (Int × Int)) × ((Nat × (Int × Int)) × (List S45))) := hPair (vTup (lCons (vRow 0) (lOne (vAgg (lCons (vC (cInt .i64)) (lOne (vC (cInt .i64)))))))) qcv
def qcr (s : (List S50)) (m_ : ByteArray) (m__1 : (List S118)) (m__2 : ByteArray) (m__3 : (List S55)) (m__4 : (List Int)) : Option ((Nat × (Int × Int)) × ((Nat × (Int × Int)) × (List S45))) := hS Tryz.prog lv X0 37 qcw qcu ((s, (m_, m__1, m__2, m__3, m__4), ()), ())
def qcs := hentS Tryz.prog lv X0 37 [0, 1, 4, 1, 7, 5, 1, 3, 1, 4, 1, 3, 1, 4, 1, 4, 2, 6, 38, 0] qcw qcu (fun x => qcr x.1.1 x.1.2.1.1 x.1.2.1.2.1 x.1.2.1.2.2.1 x.1.2.1.2.2.2.1 x.1.2.1.2.2.2.2) (fun _ _ h => qj5 h)
def qks := qcs :: qky
def qdo := sLS [0, 1, 2] (lCons (vPtr 0 0) (lCons (vC (cSl ec_50)) (lOne (vC (cInt .i64))))) (lCons (oSome (bBox (lCons (vC cStr) (lCons (vC (cSl ec_118)) (lCons (vC cStr) (lCons (vC (cSl ec_55)) (lCons (vC (cSl ec_5)) (lCons (vC (cInt .i64)) (lCons (vMp 1) (lCons (vRow 2) (lOne (vFn 38 lNil)))))))))))) (lCons (oSome bMap) (lOne (oSome (bRow ec_45))))) [false, false, false] [0, 1] (by decide) (fun _ => rfl)
def qdn : SC (Bool × ((ByteArray × (List S118) × ByteArray × (List S55) × (List Int) × Int × Unit × Nat × Unit) × (List (ByteArray × ByteArray)) × (List S45))) := sLS [0] (lOne (vC cBool)) (lCons (oSome (bBox (lCons (vC cStr) (lCons (vC (cSl ec_118)) (lCons (vC cStr) (lCons (vC (cSl ec_55)) (lCons (vC (cSl ec_5)) (lCons (vC (cInt .i64)) (lCons (vMp 1) (lCons (vRow 2) (lOne (vFn 38 lNil)))))))))))) (lCons (oSome bMap) (lOne (oSome (bRow ec_45))))) [false, false, false] [0, 1] (by decide) (fun _ => rfl)
def qdm : HC (Bool × (Bool × ((ByteArray × (List S118) × ByteArray × (List S55) × (List Int) × Int × Unit × Nat × Unit) × (List (ByteArray × ByteArray)) × (List S45)))) := hPair (vC cBool) qdn
def qdb (s : (List S50)) (number : Int) (b0 : ByteArray) (b0_1 : (List S118)) (b0_2 : ByteArray) (b0_3 : (List S55)) (b0_4 : (List Int)) (b0_5 : Int) (b0_6 : Nat) (b1 : (List (ByteArray × ByteArray))) (b2 : (List S45)) : Option (Bool × (Bool × ((ByteArray × (List S118) × ByteArray × (List S55) × (List Int) × Int × Unit × Nat × Unit) × (List (ByteArray × ByteArray)) × (List S45)))) := hS Tryz.prog lv X0 61 qdo qdm (((), s, number), ((b0, b0_1, b0_2, b0_3, b0_4, b0_5, (), b0_6, ()), b1, b2))
def qdc := hentS Tryz.prog lv X0 61 [0, 3, 0, 0, 1, 1, 4, 2, 1, 1, 1, 9, 1, 3, 1, 4, 1, 3, 1, 4, 1, 4, 1, 1, 8, 1, 2, 2, 6, 38, 0, 4, 2, 0, 1] qdo qdm (fun x => qdb x.1.2.1 x.1.2.2 x.2.1.1 x.2.1.2.1 x.2.1.2.2.1 x.2.1.2.2.2.1 x.2.1.2.2.2.2.1 x.2.1.2.2.2.2.2.1 x.2.1.2.2.2.2.2.2.2.1 x.2.2.1 x.2.2.2) (fun _ _ h => qj5 h)
def qku := qdc :: qks
def qf3 := sLS [0, 1] (lCons (vPtr 0 0) (lOne (vAgg (lCons (vC (cInt .i64)) (lCons (vC (cSl ec_48)) (lCons (vC cStr) (lCons (vC (cInt .i64)) (lCons (vC cStr) (lOne (vC (cInt .i64))))))))))) (lCons (oSome (bBox (lCons (vC cStr) (lCons (vC (cSl ec_118)) (lCons (vC cStr) (lCons (vC (cSl ec_55)) (lCons (vC (cSl ec_5)) (lCons (vC (cInt .i64)) (lCons (vMp 1) (lCons (vRow 2) (lOne (vFn 38 lNil)))))))))))) (lCons (oSome bMap) (lOne (oSome (bRow ec_45))))) [false, false, false] [0, 1] (by decide) (fun _ => rfl)
def qf2 : SC (Bool × ((ByteArray × (List S118) × ByteArray × (List S55) × (List Int) × Int × Unit × Nat × Unit) × (List (ByteArray × ByteArray)) × (List S45))) := sLS [0] (lOne (vC cBool)) (lCons (oSome (bBox (lCons (vC cStr) (lCons (vC (cSl ec_118)) (lCons (vC cStr) (lCons (vC (cSl ec_55)) (lCons (vC (cSl ec_5)) (lCons (vC (cInt .i64)) (lCons (vMp 1) (lCons (vRow 2) (lOne (vFn 38 lNil)))))))))))) (lCons (oSome bMap) (lOne (oSome (bRow ec_45))))) [false, false, false] [0, 1] (by decide) (fun _ => rfl)
def qf1 : HC (Bool × (Bool × ((ByteArray × (List S118) × ByteArray × (List S55) × (List Int) × Int × Unit × Nat × Unit) × (List (ByteArray × ByteArray)) × (List S45)))) := hPair (vC cBool) qf2
def qej (t : Int) (t_1 : (List S48)) (t_2 : ByteArray) (t_3 : Int) (t_4 : ByteArray) (t_5 : Int) (b0 : ByteArray) (b0_1 : (List S118)) (b0_2 : ByteArray) (b0_3 : (List S55)) (b0_4 : (List Int)) (b0_5 : Int) (b0_6 : Nat) (b1 : (List (ByteArray × ByteArray))) (b2 : (List S45)) : Option (Bool × (Bool × ((ByteArray × (List S118) × ByteArray × (List S55) × (List Int) × Int × Unit × Nat × Unit) × (List (ByteArray × ByteArray)) × (List S45)))) := hS Tryz.prog lv X0 80 qf3 qf1 (((), (t, t_1, t_2, t_3, t_4, t_5)), ((b0, b0_1, b0_2, b0_3, b0_4, b0_5, (), b0_6, ()), b1, b2))
def qek := hentS Tryz.prog lv X0 80 [0, 3, 0, 0, 1, 7, 6, 1, 1, 1, 4, 1, 3, 1, 1, 1, 3, 1, 1, 1, 9, 1, 3, 1, 4, 1, 3, 1, 4, 1, 4, 1, 1, 8, 1, 2, 2, 6, 38, 0, 4, 2, 0, 1] qf3 qf1 (fun x => qej x.1.2.1 x.1.2.2.1 x.1.2.2.2.1 x.1.2.2.2.2.1 x.1.2.2.2.2.2.1 x.1.2.2.2.2.2.2 x.2.1.1 x.2.1.2.1 x.2.1.2.2.1 x.2.1.2.2.2.1 x.2.1.2.2.2.2.1 x.2.1.2.2.2.2.2.1 x.2.1.2.2.2.2.2.2.2.1 x.2.2.1 x.2.2.2) (fun _ _ h => qj5 h)
def qkx := qek :: qku
def qdv := sLS [0, 1] (lCons (vPtr 0 0) (lOne (vC cStr))) (lCons (oSome (bBox (lCons (vC cStr) (lCons (vC (cSl ec_118)) (lCons (vC cStr) (lCons (vC (cSl ec_55)) (lCons (vC (cSl ec_5)) (lCons (vC (cInt .i64)) (lCons (vMp 1) (lCons (vRow 2) (lOne (vFn 38 lNil)))))))))))) (lCons (oSome bMap) (lOne (oSome (bRow ec_45))))) [false, false, false] [0, 1] (by decide) (fun _ => rfl)
def qdu : SC (Nat × ((List ByteArray) × (ByteArray × (List S118) × ByteArray × (List S55) × (List Int) × Int × Unit × Nat × Unit) × (List (ByteArray × ByteArray)) × (List S45))) := sLS [0] (lOne (vRow 0)) (lCons (oSome (bRow ec_9)) (lCons (oSome (bBox (lCons (vC cStr) (lCons (vC (cSl ec_118)) (lCons (vC cStr) (lCons (vC (cSl ec_55)) (lCons (vC (cSl ec_5)) (lCons (vC (cInt .i64)) (lCons (vMp 2) (lCons (vRow 3) (lOne (vFn 38 lNil)))))))))))) (lCons (oSome bMap) (lOne (oSome (bRow ec_45)))))) [false, false, false, false] [1, 2] (by decide) (fun _ => rfl)
def qdt : HC (Nat × (Nat × ((List ByteArray) × (ByteArray × (List S118) × ByteArray × (List S55) × (List Int) × Int × Unit × Nat × Unit) × (List (ByteArray × ByteArray)) × (List S45)))) := hPair (vRow 0) qdu
def qdq (name : ByteArray) (b0 : ByteArray) (b0_1 : (List S118)) (b0_2 : ByteArray) (b0_3 : (List S55)) (b0_4 : (List Int)) (b0_5 : Int) (b0_6 : Nat) (b1 : (List (ByteArray × ByteArray))) (b2 : (List S45)) : Option (Nat × (Nat × ((List ByteArray) × (ByteArray × (List S118) × ByteArray × (List S55) × (List Int) × Int × Unit × Nat × Unit) × (List (ByteArray × ByteArray)) × (List S45)))) := hS Tryz.prog lv X0 104 qdv qdt (((), name), ((b0, b0_1, b0_2, b0_3, b0_4, b0_5, (), b0_6, ()), b1, b2))
def qdw (name : ByteArray) (b0 : ByteArray) (b0_1 : (List S118)) (b0_2 : ByteArray) (b0_3 : (List S55)) (b0_4 : (List Int)) (b0_5 : Int) (b0_6 : Nat) (b1 : (List (ByteArray × ByteArray))) (b2 : (List S45)) : Option (Nat × (Nat × ((List ByteArray) × (ByteArray × (List S118) × ByteArray × (List S55) × (List Int) × Int × Unit × Nat × Unit) × (List (ByteArray × ByteArray)) × (List S45)))) :=
 (gdE (EC.isL ec_55 (EC.encL ec_55 b0_3)) <|
 (Option.bind (qjt (EC.decL ec_55 (EC.encL ec_55 b0_3)) name) fun r0 =>
 (gdE (EC.isL ec_9 (EC.encL ec_9 r0.2)) <|
 (gdE (EC.isL ec_118 (EC.encL ec_118 b0_1)) <|
 (gdE (EC.isL ec_55 (EC.encL ec_55 b0_3)) <|
 (gdE (EC.isL ec_5 (EC.encL ec_5 b0_4)) <|
 (gdE (EC.isL ec_45 (EC.encL ec_45 b2)) <|
 (some (r0.1.1, (r0.1.1, ((EC.decL ec_9 (EC.encL ec_9 r0.2)), ((b0, ((EC.decL ec_118 (EC.encL ec_118 b0_1)), (b0_2, ((EC.decL ec_55 (EC.encL ec_55 b0_3)), ((EC.decL ec_5 (EC.encL ec_5 b0_4)), (b0_5, ((), (b0_6, ())))))))), (b1, (EC.decL ec_45 (EC.encL ec_45 b2)))))))))))))))
theorem qds {name} {b0} {b0_1} {b0_2} {b0_3} {b0_4} {b0_5} {b0_6} {b1} {b2} {r} (h : qdw name b0 b0_1 b0_2 b0_3 b0_4 b0_5 b0_6 b1 b2 = some r) : qdq name b0 b0_1 b0_2 b0_3 b0_4 b0_5 b0_6 b1 b2 = some r :=
 qj6 (fn := Tryz.f104) (es := q118) (hs := qkx) [] (by kernel_rfl) rfl (by kernel_rfl) trivial trivial (by kernel_rfl) h
def qdr := hentS Tryz.prog lv X0 104 [0, 3, 0, 0, 1, 1, 3, 1, 9, 1, 3, 1, 4, 1, 3, 1, 4, 1, 4, 1, 1, 8, 1, 2, 2, 6, 38, 0, 4, 2, 0, 1] qdv qdt (fun x => qdq x.1.2 x.2.1.1 x.2.1.2.1 x.2.1.2.2.1 x.2.1.2.2.2.1 x.2.1.2.2.2.2.1 x.2.1.2.2.2.2.2.1 x.2.1.2.2.2.2.2.2.2.1 x.2.2.1 x.2.2.2) (fun _ _ h => qj5 h)
def qkv := qdr :: qkx
def qeh := sLS [0, 1, 2] (lCons (vPtr 0 0) (lCons (vAgg (lCons (vC (cInt .i64)) (lCons (vC (cSl ec_48)) (lCons (vC cStr) (lCons (vC (cInt .i64)) (lCons (vC cStr) (lOne (vC (cInt .i64))))))))) (lOne (vRow 1)))) (lCons (oSome (bBox (lCons (vC cStr) (lCons (vC (cSl ec_118)) (lCons (vC cStr) (lCons (vC (cSl ec_55)) (lCons (vC (cSl ec_5)) (lCons (vC (cInt .i64)) (lCons (vMp 2) (lCons (vRow 3) (lOne (vFn 38 lNil)))))))))))) (lCons (oSome (bRow ec_9)) (lCons (oSome bMap) (lOne (oSome (bRow ec_45)))))) [false, false, false, false] [0, 2] (by decide) (fun _ => rfl)
def qed := sLS [0, 44, 45, 46] (lCons (vPtr 0 0) (lCons (vRow 1) (lCons (vC (cInt .i64)) (lOne (vC (cInt .i64)))))) (lCons (oSome (bBox (lCons (vC cStr) (lCons (vC (cSl ec_118)) (lCons (vC cStr) (lCons (vC (cSl ec_55)) (lCons (vC (cSl ec_5)) (lCons (vC (cInt .i64)) (lCons (vMp 2) (lCons (vRow 3) (lOne (vFn 38 lNil)))))))))))) (lCons (oSome (bRow ec_9)) (lCons (oSome bMap) (lOne (oSome (bRow ec_45)))))) [false, false, false, false] [0, 2] (by decide) (fun _ => rfl)
def qec := sLS [0, 44, 45, 46, 47] (lCons (vPtr 0 0) (lCons (vRow 1) (lCons (vC (cInt .i64)) (lCons (vC (cInt .i64)) (lOne (vC cBool)))))) (lCons (oSome (bBox (lCons (vC cStr) (lCons (vC (cSl ec_118)) (lCons (vC cStr) (lCons (vC (cSl ec_55)) (lCons (vC (cSl ec_5)) (lCons (vC (cInt .i64)) (lCons (vMp 2) (lCons (vRow 3) (lOne (vFn 38 lNil)))))))))))) (lCons (oSome (bRow ec_9)) (lCons (oSome bMap) (lOne (oSome (bRow ec_45)))))) [false, false, false, false] [0, 2] (by decide) (fun _ => rfl)
def qeb := oAt 4 qec
def qe8 (t44 : Nat) (t45 : Int) (t46 : Int) (b0 : ByteArray) (b0_1 : (List S118)) (b0_2 : ByteArray) (b0_3 : (List S55)) (b0_4 : (List Int)) (b0_5 : Int) (b0_6 : Nat) (b1 : (List ByteArray)) (b2 : (List (ByteArray × ByteArray))) (b3 : (List S45)) : Option ((Unit × Nat × Int × Int × Bool) × ((ByteArray × (List S118) × ByteArray × (List S55) × (List Int) × Int × Unit × Nat × Unit) × (List ByteArray) × (List (ByteArray × ByteArray)) × (List S45))) := lS Tryz.prog lv X0 103 61 (getLoop (cdF Tryz.f103) 9) qed qeb (((), t44, t45, t46), ((b0, b0_1, b0_2, b0_3, b0_4, b0_5, (), b0_6, ()), b1, b2, b3))
def qee (t44 : Nat) (t45 : Int) (t46 : Int) (b0 : ByteArray) (b0_1 : (List S118)) (b0_2 : ByteArray) (b0_3 : (List S55)) (b0_4 : (List Int)) (b0_5 : Int) (b0_6 : Nat) (b1 : (List ByteArray)) (b2 : (List (ByteArray × ByteArray))) (b3 : (List S45)) : Option ((Unit × Nat × Int × Int × Bool) × ((ByteArray × (List S118) × ByteArray × (List S55) × (List Int) × Int × Unit × Nat × Unit) × (List ByteArray) × (List (ByteArray × ByteArray)) × (List S45))) :=
 (brE (decide (t46 < t45))
 (gdE ((decide (0 ≤ t46)) && (decide (t46 < ((t44 : Nat) : Int)))) <|
 (gdE ((decide ((Int.toNat t46) < (List.length (EC.encL ec_9 b1)))) && ((List.length (List.getD (EC.encL ec_9 b1) (Int.toNat t46) [])) == 1)) <|
 (gdE (isP [K1.str] 0 (List.getD (EC.encL ec_9 b1) (Int.toNat t46) [])) <|
 (Option.bind (itoaP (IntKind.wrap .i64 (t46 + 1))) fun r0 =>
 (gdE (((decide ((ByteArray.size r0) ≤ Go.maxLen)) && (decide ((ByteArray.size (strOf (List.getD (List.getD (EC.encL ec_9 b1) (Int.toNat t46) []) 0 C.ne))) ≤ Go.maxLen))) && (decide ((List.length b2) < Go.maxLen))) <|
 (gdE (EC.isL ec_118 (EC.encL ec_118 b0_1)) <|
 (gdE (EC.isL ec_55 (EC.encL ec_55 b0_3)) <|
 (gdE (EC.isL ec_5 (EC.encL ec_5 b0_4)) <|
 (gdE (EC.isL ec_9 (EC.encL ec_9 b1)) <|
 (gdE (EC.isL ec_45 (EC.encL ec_45 b3)) <|
 (qe8 t44 t45 (IntKind.wrap .i64 (t46 + 1)) b0 (EC.decL ec_118 (EC.encL ec_118 b0_1)) b0_2 (EC.decL ec_55 (EC.encL ec_55 b0_3)) (EC.decL ec_5 (EC.encL ec_5 b0_4)) b0_5 b0_6 (EC.decL ec_9 (EC.encL ec_9 b1)) (putM b2 r0 (strOf (List.getD (List.getD (EC.encL ec_9 b1) (Int.toNat t46) []) 0 C.ne))) (EC.decL ec_45 (EC.encL ec_45 b3)))))))))))))
 (gdE (EC.isL ec_118 (EC.encL ec_118 b0_1)) <|
 (gdE (EC.isL ec_55 (EC.encL ec_55 b0_3)) <|
 (gdE (EC.isL ec_5 (EC.encL ec_5 b0_4)) <|
 (gdE (EC.isL ec_9 (EC.encL ec_9 b1)) <|
 (gdE (EC.isL ec_45 (EC.encL ec_45 b3)) <|
 (some (((), (t44, (t45, (t46, false)))), ((b0, ((EC.decL ec_118 (EC.encL ec_118 b0_1)), (b0_2, ((EC.decL ec_55 (EC.encL ec_55 b0_3)), ((EC.decL ec_5 (EC.encL ec_5 b0_4)), (b0_5, ((), (b0_6, ())))))))), ((EC.decL ec_9 (EC.encL ec_9 b1)), (b2, (EC.decL ec_45 (EC.encL ec_45 b3)))))))))))))
theorem qea {t44} {t45} {t46} {b0} {b0_1} {b0_2} {b0_3} {b0_4} {b0_5} {b0_6} {b1} {b2} {b3} {r} (h : qee t44 t45 t46 b0 b0_1 b0_2 b0_3 b0_4 b0_5 b0_6 b1 b2 b3 = some r) : qe8 t44 t45 t46 b0 b0_1 b0_2 b0_3 b0_4 b0_5 b0_6 b1 b2 b3 = some r :=
 qmj (es := q118) (hs := qkv) [] (by kernel_rfl) trivial trivial (by kernel_rfl) h
def qe9 := lentS Tryz.prog lv X0 9 (getLoop (cdF Tryz.f103) 9) qed qeb (fun x => qe8 x.1.2.1 x.1.2.2.1 x.1.2.2.2 x.2.1.1 x.2.1.2.1 x.2.1.2.2.1 x.2.1.2.2.2.1 x.2.1.2.2.2.2.1 x.2.1.2.2.2.2.2.1 x.2.1.2.2.2.2.2.2.2.1 x.2.2.1 x.2.2.2.1 x.2.2.2.2) (fun _ _ h => qmi h)
def qe6 := sLS [0, 4, 14, 15, 16] (lCons (vPtr 0 0) (lCons (vPtr 1 0) (lCons (vRow 2) (lCons (vC (cInt .i64)) (lOne (vC (cInt .i64))))))) (lCons (oSome (bBox (lCons (vC cStr) (lCons (vC (cSl ec_118)) (lCons (vC cStr) (lCons (vC (cSl ec_55)) (lCons (vC (cSl ec_5)) (lCons (vC (cInt .i64)) (lCons (vMp 3) (lCons (vRow 4) (lOne (vFn 38 lNil)))))))))))) (lCons (oSome (bBox (lCons (vC (cInt .i64)) (lCons (vC (cSl ec_48)) (lCons (vC cStr) (lCons (vC (cInt .i64)) (lCons (vC cStr) (lOne (vC (cInt .i64)))))))))) (lCons (oSome (bRow ec_9)) (lCons (oSome bMap) (lOne (oSome (bRow ec_45))))))) [false, false, false, false, false] [0, 3] (by decide) (fun _ => rfl)
def qe5 := sLS [0, 4, 14, 15, 16, 17] (lCons (vPtr 0 0) (lCons (vPtr 1 0) (lCons (vRow 2) (lCons (vC (cInt .i64)) (lCons (vC (cInt .i64)) (lOne (vC cBool))))))) (lCons (oSome (bBox (lCons (vC cStr) (lCons (vC (cSl ec_118)) (lCons (vC cStr) (lCons (vC (cSl ec_55)) (lCons (vC (cSl ec_5)) (lCons (vC (cInt .i64)) (lCons (vMp 3) (lCons (vRow 4) (lOne (vFn 38 lNil)))))))))))) (lCons (oSome (bBox (lCons (vC (cInt .i64)) (lCons (vC (cSl ec_48)) (lCons (vC cStr) (lCons (vC (cInt .i64)) (lCons (vC cStr) (lOne (vC (cInt .i64)))))))))) (lCons (oSome (bRow ec_9)) (lCons (oSome bMap) (lOne (oSome (bRow ec_45))))))) [false, false, false, false, false] [0, 3] (by decide) (fun _ => rfl)
def qe4 := sLS [6] (lOne (vC cBool)) (lCons (oSome (bBox (lCons (vC cStr) (lCons (vC (cSl ec_118)) (lCons (vC cStr) (lCons (vC (cSl ec_55)) (lCons (vC (cSl ec_5)) (lCons (vC (cInt .i64)) (lCons (vMp 1) (lCons (vRow 2) (lOne (vFn 38 lNil)))))))))))) (lCons (oSome bMap) (lOne (oSome (bRow ec_45))))) [false, false, false] [0, 1] (by decide) (fun _ => rfl)
def qe3 := oOr 1 qe4 (oAt 2 qe5) (fun x => (by decide : (2 : Nat) ≠ 1))
def qe0 (t14 : Nat) (t15 : Int) (t16 : Int) (b0 : ByteArray) (b0_1 : (List S118)) (b0_2 : ByteArray) (b0_3 : (List S55)) (b0_4 : (List Int)) (b0_5 : Int) (b0_6 : Nat) (b1 : Int) (b1_1 : (List S48)) (b1_2 : ByteArray) (b1_3 : Int) (b1_4 : ByteArray) (b1_5 : Int) (b2 : (List ByteArray)) (b3 : (List (ByteArray × ByteArray))) (b4 : (List S45)) : Option ((Bool × ((ByteArray × (List S118) × ByteArray × (List S55) × (List Int) × Int × Unit × Nat × Unit) × (List (ByteArray × ByteArray)) × (List S45))) ⊕ ((Unit × Unit × Nat × Int × Int × Bool) × ((ByteArray × (List S118) × ByteArray × (List S55) × (List Int) × Int × Unit × Nat × Unit) × (Int × (List S48) × ByteArray × Int × ByteArray × Int) × (List ByteArray) × (List (ByteArray × ByteArray)) × (List S45)))) := lS Tryz.prog lv X0 103 61 (getLoop (cdF Tryz.f103) 2) qe6 qe3 (((), (), t14, t15, t16), ((b0, b0_1, b0_2, b0_3, b0_4, b0_5, (), b0_6, ()), (b1, b1_1, b1_2, b1_3, b1_4, b1_5), b2, b3, b4))
def qe7 (t14 : Nat) (t15 : Int) (t16 : Int) (b0 : ByteArray) (b0_1 : (List S118)) (b0_2 : ByteArray) (b0_3 : (List S55)) (b0_4 : (List Int)) (b0_5 : Int) (b0_6 : Nat) (b1 : Int) (b1_1 : (List S48)) (b1_2 : ByteArray) (b1_3 : Int) (b1_4 : ByteArray) (b1_5 : Int) (b2 : (List ByteArray)) (b3 : (List (ByteArray × ByteArray))) (b4 : (List S45)) : Option ((Bool × ((ByteArray × (List S118) × ByteArray × (List S55) × (List Int) × Int × Unit × Nat × Unit) × (List (ByteArray × ByteArray)) × (List S45))) ⊕ ((Unit × Unit × Nat × Int × Int × Bool) × ((ByteArray × (List S118) × ByteArray × (List S55) × (List Int) × Int × Unit × Nat × Unit) × (Int × (List S48) × ByteArray × Int × ByteArray × Int) × (List ByteArray) × (List (ByteArray × ByteArray)) × (List S45)))) :=
 (brE (decide (t16 < t15))
 (gdE ((decide (0 ≤ t16)) && (decide (t16 < ((t14 : Nat) : Int)))) <|
 (gdE ((decide ((Int.toNat t16) < (List.length (EC.encL ec_9 b2)))) && ((List.length (List.getD (EC.encL ec_9 b2) (Int.toNat t16) [])) == 1)) <|
 (gdE (isP [K1.str] 0 (List.getD (EC.encL ec_9 b2) (Int.toNat t16) [])) <|
 (Option.bind (qqh b1_3 b1_4 (strOf (List.getD (List.getD (EC.encL ec_9 b2) (Int.toNat t16) []) 0 C.ne))) fun r0 =>
 (Option.bind (q59 r0.1.2.2.1 r0.1.2.2.2) fun r1 =>
 (brE (r1 == false)
 (brE (!r0.1.1)
 (gdE (EC.isL ec_118 (EC.encL ec_118 b0_1)) <|
 (gdE (EC.isL ec_55 (EC.encL ec_55 b0_3)) <|
 (gdE (EC.isL ec_5 (EC.encL ec_5 b0_4)) <|
 (gdE (EC.isL ec_48 (EC.encL ec_48 b1_1)) <|
 (gdE (EC.isL ec_9 (EC.encL ec_9 b2)) <|
 (gdE (EC.isL ec_45 (EC.encL ec_45 b4)) <|
 (qe0 t14 t15 (IntKind.wrap .i64 (t16 + 1)) b0 (EC.decL ec_118 (EC.encL ec_118 b0_1)) b0_2 (EC.decL ec_55 (EC.encL ec_55 b0_3)) (EC.decL ec_5 (EC.encL ec_5 b0_4)) b0_5 b0_6 b1 (EC.decL ec_48 (EC.encL ec_48 b1_1)) b1_2 b1_3 b1_4 b1_5 (EC.decL ec_9 (EC.encL ec_9 b2)) b3 (EC.decL ec_45 (EC.encL ec_45 b4)))))))))
 (brE (b1_3 == 3)
 (Option.bind (delP b3) fun r2 =>
 (gdE (EC.isL ec_118 (EC.encL ec_118 b0_1)) <|
 (gdE (EC.isL ec_55 (EC.encL ec_55 b0_3)) <|
 (gdE (EC.isL ec_5 (EC.encL ec_5 b0_4)) <|
 (gdE (EC.isL ec_9 (EC.encL ec_9 r0.2)) <|
 (gdE (EC.isL ec_45 (EC.encL ec_45 b4)) <|
 (Option.bind (qe8 r0.1.2.1 ((r0.1.2.1 : Nat) : Int) 0 b0 (EC.decL ec_118 (EC.encL ec_118 b0_1)) b0_2 (EC.decL ec_55 (EC.encL ec_55 b0_3)) (EC.decL ec_5 (EC.encL ec_5 b0_4)) b0_5 b0_6 (EC.decL ec_9 (EC.encL ec_9 r0.2)) r2 (EC.decL ec_45 (EC.encL ec_45 b4))) fun r3 =>
 (gdE (EC.isL ec_118 (EC.encL ec_118 r3.2.1.2.1)) <|
 (gdE (EC.isL ec_55 (EC.encL ec_55 r3.2.1.2.2.2.1)) <|
 (gdE (EC.isL ec_5 (EC.encL ec_5 r3.2.1.2.2.2.2.1)) <|
 (gdE (EC.isL ec_45 (EC.encL ec_45 r3.2.2.2.2)) <|
 (some (.inl (true, ((r3.2.1.1, ((EC.decL ec_118 (EC.encL ec_118 r3.2.1.2.1)), (r3.2.1.2.2.1, ((EC.decL ec_55 (EC.encL ec_55 r3.2.1.2.2.2.1)), ((EC.decL ec_5 (EC.encL ec_5 r3.2.1.2.2.2.2.1)), (r3.2.1.2.2.2.2.2.1, ((), (r3.2.1.2.2.2.2.2.2.2.1, ())))))))), (r3.2.2.2.1, (EC.decL ec_45 (EC.encL ec_45 r3.2.2.2.2))))))))))))))))))
 (gdE (EC.isL ec_118 (EC.encL ec_118 b0_1)) <|
 (gdE (EC.isL ec_55 (EC.encL ec_55 b0_3)) <|
 (gdE (EC.isL ec_5 (EC.encL ec_5 b0_4)) <|
 (gdE (EC.isL ec_45 (EC.encL ec_45 b4)) <|
 (some (.inl (true, ((b0, ((EC.decL ec_118 (EC.encL ec_118 b0_1)), (b0_2, ((EC.decL ec_55 (EC.encL ec_55 b0_3)), ((EC.decL ec_5 (EC.encL ec_5 b0_4)), (b0_5, ((), (b0_6, ())))))))), (b3, (EC.decL ec_45 (EC.encL ec_45 b4)))))))))))))
 (gdE (EC.isL ec_118 (EC.encL ec_118 b0_1)) <|
 (gdE (EC.isL ec_55 (EC.encL ec_55 b0_3)) <|
 (gdE (EC.isL ec_5 (EC.encL ec_5 b0_4)) <|
 (gdE (EC.isL ec_48 (EC.encL ec_48 b1_1)) <|
 (gdE (EC.isL ec_9 (EC.encL ec_9 b2)) <|
 (gdE (EC.isL ec_45 (EC.encL ec_45 b4)) <|
 (qe0 t14 t15 (IntKind.wrap .i64 (t16 + 1)) b0 (EC.decL ec_118 (EC.encL ec_118 b0_1)) b0_2 (EC.decL ec_55 (EC.encL ec_55 b0_3)) (EC.decL ec_5 (EC.encL ec_5 b0_4)) b0_5 b0_6 b1 (EC.decL ec_48 (EC.encL ec_48 b1_1)) b1_2 b1_3 b1_4 b1_5 (EC.decL ec_9 (EC.encL ec_9 b2)) b3 (EC.decL ec_45 (EC.encL ec_45 b4)))))))))))))))
 (gdE (EC.isL ec_118 (EC.encL ec_118 b0_1)) <|
 (gdE (EC.isL ec_55 (EC.encL ec_55 b0_3)) <|
 (gdE (EC.isL ec_5 (EC.encL ec_5 b0_4)) <|
 (gdE (EC.isL ec_48 (EC.encL ec_48 b1_1)) <|
 (gdE (EC.isL ec_9 (EC.encL ec_9 b2)) <|
 (gdE (EC.isL ec_45 (EC.encL ec_45 b4)) <|
 (some (.inr (((), ((), (t14, (t15, (t16, false))))), ((b0, ((EC.decL ec_118 (EC.encL ec_118 b0_1)), (b0_2, ((EC.decL ec_55 (EC.encL ec_55 b0_3)), ((EC.decL ec_5 (EC.encL ec_5 b0_4)), (b0_5, ((), (b0_6, ())))))))), ((b1, ((EC.decL ec_48 (EC.encL ec_48 b1_1)), (b1_2, (b1_3, (b1_4, b1_5))))), ((EC.decL ec_9 (EC.encL ec_9 b2)), (b3, (EC.decL ec_45 (EC.encL ec_45 b4))))))))))))))))
theorem qe2 {t14} {t15} {t16} {b0} {b0_1} {b0_2} {b0_3} {b0_4} {b0_5} {b0_6} {b1} {b1_1} {b1_2} {b1_3} {b1_4} {b1_5} {b2} {b3} {b4} {r} (h : qe7 t14 t15 t16 b0 b0_1 b0_2 b0_3 b0_4 b0_5 b0_6 b1 b1_1 b1_2 b1_3 b1_4 b1_5 b2 b3 b4 = some r) : qe0 t14 t15 t16 b0 b0_1 b0_2 b0_3 b0_4 b0_5 b0_6 b1 b1_1 b1_2 b1_3 b1_4 b1_5 b2 b3 b4 = some r :=
 qmj (es := q118) (hs := qkv) [qe9] (by kernel_rfl) ⟨⟨_, rfl, rfl⟩, trivial⟩ trivial (by kernel_rfl) h
def qe1 := lentS Tryz.prog lv X0 2 (getLoop (cdF Tryz.f103) 2) qe6 qe3 (fun x => qe0 x.1.2.2.1 x.1.2.2.2.1 x.1.2.2.2.2 x.2.1.1 x.2.1.2.1 x.2.1.2.2.1 x.2.1.2.2.2.1 x.2.1.2.2.2.2.1 x.2.1.2.2.2.2.2.1 x.2.1.2.2.2.2.2.2.2.1 x.2.2.1.1 x.2.2.1.2.1 x.2.2.1.2.2.1 x.2.2.1.2.2.2.1 x.2.2.1.2.2.2.2.1 x.2.2.1.2.2.2.2.2 x.2.2.2.1 x.2.2.2.2.1 x.2.2.2.2.2) (fun _ _ h => qmi h)
def qeg : SC (Bool × ((ByteArray × (List S118) × ByteArray × (List S55) × (List Int) × Int × Unit × Nat × Unit) × (List (ByteArray × ByteArray)) × (List S45))) := sLS [0] (lOne (vC cBool)) (lCons (oSome (bBox (lCons (vC cStr) (lCons (vC (cSl ec_118)) (lCons (vC cStr) (lCons (vC (cSl ec_55)) (lCons (vC (cSl ec_5)) (lCons (vC (cInt .i64)) (lCons (vMp 1) (lCons (vRow 2) (lOne (vFn 38 lNil)))))))))))) (lCons (oSome bMap) (lOne (oSome (bRow ec_45))))) [false, false, false] [0, 1] (by decide) (fun _ => rfl)
def qef : HC (Bool × (Bool × ((ByteArray × (List S118) × ByteArray × (List S55) × (List Int) × Int × Unit × Nat × Unit) × (List (ByteArray × ByteArray)) × (List S45)))) := hPair (vC cBool) qeg
def qdx (t : Int) (t_1 : (List S48)) (t_2 : ByteArray) (t_3 : Int) (t_4 : ByteArray) (t_5 : Int) (l : Nat) (b0 : ByteArray) (b0_1 : (List S118)) (b0_2 : ByteArray) (b0_3 : (List S55)) (b0_4 : (List Int)) (b0_5 : Int) (b0_6 : Nat) (b1 : (List ByteArray)) (b2 : (List (ByteArray × ByteArray))) (b3 : (List S45)) : Option (Bool × (Bool × ((ByteArray × (List S118) × ByteArray × (List S55) × (List Int) × Int × Unit × Nat × Unit) × (List (ByteArray × ByteArray)) × (List S45)))) := hS Tryz.prog lv X0 103 qeh qef (((), (t, t_1, t_2, t_3, t_4, t_5), l), ((b0, b0_1, b0_2, b0_3, b0_4, b0_5, (), b0_6, ()), b1, b2, b3))
def qei (t : Int) (t_1 : (List S48)) (t_2 : ByteArray) (t_3 : Int) (t_4 : ByteArray) (t_5 : Int) (l : Nat) (b0 : ByteArray) (b0_1 : (List S118)) (b0_2 : ByteArray) (b0_3 : (List S55)) (b0_4 : (List Int)) (b0_5 : Int) (b0_6 : Nat) (b1 : (List ByteArray)) (b2 : (List (ByteArray × ByteArray))) (b3 : (List S45)) : Option (Bool × (Bool × ((ByteArray × (List S118) × ByteArray × (List S55) × (List Int) × Int × Unit × Nat × Unit) × (List (ByteArray × ByteArray)) × (List S45)))) :=
 (gdE (EC.isL ec_118 (EC.encL ec_118 b0_1)) <|
 (gdE (EC.isL ec_55 (EC.encL ec_55 b0_3)) <|
 (gdE (EC.isL ec_5 (EC.encL ec_5 b0_4)) <|
 (gdE (EC.isL ec_48 (EC.encL ec_48 t_1)) <|
 (gdE (EC.isL ec_9 (EC.encL ec_9 b1)) <|
 (gdE (EC.isL ec_45 (EC.encL ec_45 b3)) <|
 (Option.bind (qe0 l ((l : Nat) : Int) 0 b0 (EC.decL ec_118 (EC.encL ec_118 b0_1)) b0_2 (EC.decL ec_55 (EC.encL ec_55 b0_3)) (EC.decL ec_5 (EC.encL ec_5 b0_4)) b0_5 b0_6 t (EC.decL ec_48 (EC.encL ec_48 t_1)) t_2 t_3 t_4 t_5 (EC.decL ec_9 (EC.encL ec_9 b1)) b2 (EC.decL ec_45 (EC.encL ec_45 b3))) fun r0 =>
 (Sum.elim (fun r1 => (gdE (EC.isL ec_118 (EC.encL ec_118 r1.2.1.2.1)) <|
 (gdE (EC.isL ec_55 (EC.encL ec_55 r1.2.1.2.2.2.1)) <|
 (gdE (EC.isL ec_5 (EC.encL ec_5 r1.2.1.2.2.2.2.1)) <|
 (gdE (EC.isL ec_45 (EC.encL ec_45 r1.2.2.2)) <|
 (some (r1.1, (r1.1, ((r1.2.1.1, ((EC.decL ec_118 (EC.encL ec_118 r1.2.1.2.1)), (r1.2.1.2.2.1, ((EC.decL ec_55 (EC.encL ec_55 r1.2.1.2.2.2.1)), ((EC.decL ec_5 (EC.encL ec_5 r1.2.1.2.2.2.2.1)), (r1.2.1.2.2.2.2.2.1, ((), (r1.2.1.2.2.2.2.2.2.2.1, ())))))))), (r1.2.2.1, (EC.decL ec_45 (EC.encL ec_45 r1.2.2.2))))))))))))
 (fun r1 => (gdE (EC.isL ec_118 (EC.encL ec_118 r1.2.1.2.1)) <|
 (gdE (EC.isL ec_55 (EC.encL ec_55 r1.2.1.2.2.2.1)) <|
 (gdE (EC.isL ec_5 (EC.encL ec_5 r1.2.1.2.2.2.2.1)) <|
 (gdE (EC.isL ec_45 (EC.encL ec_45 r1.2.2.2.2.2)) <|
 (some (false, (false, ((r1.2.1.1, ((EC.decL ec_118 (EC.encL ec_118 r1.2.1.2.1)), (r1.2.1.2.2.1, ((EC.decL ec_55 (EC.encL ec_55 r1.2.1.2.2.2.1)), ((EC.decL ec_5 (EC.encL ec_5 r1.2.1.2.2.2.2.1)), (r1.2.1.2.2.2.2.2.1, ((), (r1.2.1.2.2.2.2.2.2.2.1, ())))))))), (r1.2.2.2.2.1, (EC.decL ec_45 (EC.encL ec_45 r1.2.2.2.2.2)))))))))))) r0))))))))
theorem qdz {t} {t_1} {t_2} {t_3} {t_4} {t_5} {l} {b0} {b0_1} {b0_2} {b0_3} {b0_4} {b0_5} {b0_6} {b1} {b2} {b3} {r} (h : qei t t_1 t_2 t_3 t_4 t_5 l b0 b0_1 b0_2 b0_3 b0_4 b0_5 b0_6 b1 b2 b3 = some r) : qdx t t_1 t_2 t_3 t_4 t_5 l b0 b0_1 b0_2 b0_3 b0_4 b0_5 b0_6 b1 b2 b3 = some r :=
 qj6 (fn := Tryz.f103) (es := q118) (hs := qkv) [qe1] (by kernel_rfl) rfl (by kernel_rfl) ⟨⟨_, rfl, rfl⟩, trivial⟩ trivial (by kernel_rfl) h
def qdy := hentS Tryz.prog lv X0 103 [0, 3, 0, 0, 1, 7, 6, 1, 1, 1, 4, 1, 3, 1, 1, 1, 3, 1, 1, 2, 2, 1, 1, 9, 1, 3, 1, 4, 1, 3, 1, 4, 1, 4, 1, 1, 8, 2, 2, 3, 6, 38, 0, 2, 4, 2, 0, 2] qeh qef (fun x => qdx x.1.2.1.1 x.1.2.1.2.1 x.1.2.1.2.2.1 x.1.2.1.2.2.2.1 x.1.2.1.2.2.2.2.1 x.1.2.1.2.2.2.2.2 x.1.2.2 x.2.1.1 x.2.1.2.1 x.2.1.2.2.1 x.2.1.2.2.2.1 x.2.1.2.2.2.2.1 x.2.1.2.2.2.2.2.1 x.2.1.2.2.2.2.2.2.2.1 x.2.2.1 x.2.2.2.1 x.2.2.2.2) (fun _ _ h => qj5 h)
def qkw := qdy :: qkv
def qez := sLS [0, 3, 25, 26, 27] (lCons (vPtr 0 0) (lCons (vPtr 1 0) (lCons (vC (cSl ec_48)) (lCons (vC (cInt .i64)) (lOne (vC (cInt .i64))))))) (lCons (oSome (bBox (lCons (vC cStr) (lCons (vC (cSl ec_118)) (lCons (vC cStr) (lCons (vC (cSl ec_55)) (lCons (vC (cSl ec_5)) (lCons (vC (cInt .i64)) (lCons (vMp 2) (lCons (vRow 3) (lOne (vFn 38 lNil)))))))))))) (lCons (oSome (bBox (lCons (vC (cInt .i64)) (lCons (vC (cSl ec_48)) (lCons (vC cStr) (lCons (vC (cInt .i64)) (lCons (vC cStr) (lOne (vC (cInt .i64)))))))))) (lCons (oSome bMap) (lOne (oSome (bRow ec_45)))))) [false, false, false, false] [0, 2] (by decide) (fun _ => rfl)
def qey := sLS [0, 3, 25, 26, 27, 28] (lCons (vPtr 0 0) (lCons (vPtr 1 0) (lCons (vC (cSl ec_48)) (lCons (vC (cInt .i64)) (lCons (vC (cInt .i64)) (lOne (vC cBool))))))) (lCons (oSome (bBox (lCons (vC cStr) (lCons (vC (cSl ec_118)) (lCons (vC cStr) (lCons (vC (cSl ec_55)) (lCons (vC (cSl ec_5)) (lCons (vC (cInt .i64)) (lCons (vMp 2) (lCons (vRow 3) (lOne (vFn 38 lNil)))))))))))) (lCons (oSome (bBox (lCons (vC (cInt .i64)) (lCons (vC (cSl ec_48)) (lCons (vC cStr) (lCons (vC (cInt .i64)) (lCons (vC cStr) (lOne (vC (cInt .i64)))))))))) (lCons (oSome bMap) (lOne (oSome (bRow ec_45)))))) [false, false, false, false] [0, 2] (by decide) (fun _ => rfl)
def qex := sLS [4] (lOne (vC cBool)) (lCons (oSome (bBox (lCons (vC cStr) (lCons (vC (cSl ec_118)) (lCons (vC cStr) (lCons (vC (cSl ec_55)) (lCons (vC (cSl ec_5)) (lCons (vC (cInt .i64)) (lCons (vMp 1) (lCons (vRow 2) (lOne (vFn 38 lNil)))))))))))) (lCons (oSome bMap) (lOne (oSome (bRow ec_45))))) [false, false, false] [0, 1] (by decide) (fun _ => rfl)
def qew := oOr 1 qex (oAt 3 qey) (fun x => (by decide : (3 : Nat) ≠ 1))
def qet (t25 : (List S48)) (t26 : Int) (t27 : Int) (b0 : ByteArray) (b0_1 : (List S118)) (b0_2 : ByteArray) (b0_3 : (List S55)) (b0_4 : (List Int)) (b0_5 : Int) (b0_6 : Nat) (b1 : Int) (b1_1 : (List S48)) (b1_2 : ByteArray) (b1_3 : Int) (b1_4 : ByteArray) (b1_5 : Int) (b2 : (List (ByteArray × ByteArray))) (b3 : (List S45)) : Option ((Bool × ((ByteArray × (List S118) × ByteArray × (List S55) × (List Int) × Int × Unit × Nat × Unit) × (List (ByteArray × ByteArray)) × (List S45))) ⊕ ((Unit × Unit × (List S48) × Int × Int × Bool) × ((ByteArray × (List S118) × ByteArray × (List S55) × (List Int) × Int × Unit × Nat × Unit) × (Int × (List S48) × ByteArray × Int × ByteArray × Int) × (List (ByteArray × ByteArray)) × (List S45)))) := lS Tryz.prog lv X0 80 106 (getLoop (cdF Tryz.f80) 7) qez qew (((), (), t25, t26, t27), ((b0, b0_1, b0_2, b0_3, b0_4, b0_5, (), b0_6, ()), (b1, b1_1, b1_2, b1_3, b1_4, b1_5), b2, b3))
def qf0 (t25 : (List S48)) (t26 : Int) (t27 : Int) (b0 : ByteArray) (b0_1 : (List S118)) (b0_2 : ByteArray) (b0_3 : (List S55)) (b0_4 : (List Int)) (b0_5 : Int) (b0_6 : Nat) (b1 : Int) (b1_1 : (List S48)) (b1_2 : ByteArray) (b1_3 : Int) (b1_4 : ByteArray) (b1_5 : Int) (b2 : (List (ByteArray × ByteArray))) (b3 : (List S45)) : Option ((Bool × ((ByteArray × (List S118) × ByteArray × (List S55) × (List Int) × Int × Unit × Nat × Unit) × (List (ByteArray × ByteArray)) × (List S45))) ⊕ ((Unit × Unit × (List S48) × Int × Int × Bool) × ((ByteArray × (List S118) × ByteArray × (List S55) × (List Int) × Int × Unit × Nat × Unit) × (Int × (List S48) × ByteArray × Int × ByteArray × Int) × (List (ByteArray × ByteArray)) × (List S45)))) :=
 (brE (decide (t27 < t26))
 (gdE (decide (0 ≤ t27)) <|
 (gdE ((decide ((Int.toNat t27) < (List.length (EC.encL ec_48 t25)))) && (isE [(K1.int Go.IntKind.i64), K1.sl, K1.str, (K1.int Go.IntKind.i64), K1.str, (K1.int Go.IntKind.i64)] 0 (List.getD (EC.encL ec_48 t25) (Int.toNat t27) []))) <|
 (gdE (EC.isL ec_48 (slOf (List.getD (List.getD (EC.encL ec_48 t25) (Int.toNat t27) []) 1 C.ne))) <|
 (gdE (EC.isL ec_118 (EC.encL ec_118 b0_1)) <|
 (gdE (EC.isL ec_55 (EC.encL ec_55 b0_3)) <|
 (gdE (EC.isL ec_5 (EC.encL ec_5 b0_4)) <|
 (gdE (EC.isL ec_45 (EC.encL ec_45 b3)) <|
 (Option.bind (qej (intOf (List.getD (List.getD (EC.encL ec_48 t25) (Int.toNat t27) []) 0 C.ne)) (EC.decL ec_48 (slOf (List.getD (List.getD (EC.encL ec_48 t25) (Int.toNat t27) []) 1 C.ne))) (strOf (List.getD (List.getD (EC.encL ec_48 t25) (Int.toNat t27) []) 2 C.ne)) (intOf (List.getD (List.getD (EC.encL ec_48 t25) (Int.toNat t27) []) 3 C.ne)) (strOf (List.getD (List.getD (EC.encL ec_48 t25) (Int.toNat t27) []) 4 C.ne)) (intOf (List.getD (List.getD (EC.encL ec_48 t25) (Int.toNat t27) []) 5 C.ne)) b0 (EC.decL ec_118 (EC.encL ec_118 b0_1)) b0_2 (EC.decL ec_55 (EC.encL ec_55 b0_3)) (EC.decL ec_5 (EC.encL ec_5 b0_4)) b0_5 b0_6 b2 (EC.decL ec_45 (EC.encL ec_45 b3))) fun r0 =>
 (brE (r0.1 == (b1 == 4))
 (gdE (EC.isL ec_118 (EC.encL ec_118 r0.2.2.1.2.1)) <|
 (gdE (EC.isL ec_55 (EC.encL ec_55 r0.2.2.1.2.2.2.1)) <|
 (gdE (EC.isL ec_5 (EC.encL ec_5 r0.2.2.1.2.2.2.2.1)) <|
 (gdE (EC.isL ec_45 (EC.encL ec_45 r0.2.2.2.2)) <|
 (some (.inl ((b1 == 4), ((r0.2.2.1.1, ((EC.decL ec_118 (EC.encL ec_118 r0.2.2.1.2.1)), (r0.2.2.1.2.2.1, ((EC.decL ec_55 (EC.encL ec_55 r0.2.2.1.2.2.2.1)), ((EC.decL ec_5 (EC.encL ec_5 r0.2.2.1.2.2.2.2.1)), (r0.2.2.1.2.2.2.2.2.1, ((), (r0.2.2.1.2.2.2.2.2.2.2.1, ())))))))), (r0.2.2.2.1, (EC.decL ec_45 (EC.encL ec_45 r0.2.2.2.2)))))))))))
 (gdE (EC.isL ec_48 (EC.encL ec_48 t25)) <|
 (gdE (EC.isL ec_118 (EC.encL ec_118 r0.2.2.1.2.1)) <|
 (gdE (EC.isL ec_55 (EC.encL ec_55 r0.2.2.1.2.2.2.1)) <|
 (gdE (EC.isL ec_5 (EC.encL ec_5 r0.2.2.1.2.2.2.2.1)) <|
 (gdE (EC.isL ec_48 (EC.encL ec_48 b1_1)) <|
 (gdE (EC.isL ec_45 (EC.encL ec_45 r0.2.2.2.2)) <|
 (qet (EC.decL ec_48 (EC.encL ec_48 t25)) t26 (IntKind.wrap .i64 (t27 + 1)) r0.2.2.1.1 (EC.decL ec_118 (EC.encL ec_118 r0.2.2.1.2.1)) r0.2.2.1.2.2.1 (EC.decL ec_55 (EC.encL ec_55 r0.2.2.1.2.2.2.1)) (EC.decL ec_5 (EC.encL ec_5 r0.2.2.1.2.2.2.2.1)) r0.2.2.1.2.2.2.2.2.1 r0.2.2.1.2.2.2.2.2.2.2.1 b1 (EC.decL ec_48 (EC.encL ec_48 b1_1)) b1_2 b1_3 b1_4 b1_5 r0.2.2.2.1 (EC.decL ec_45 (EC.encL ec_45 r0.2.2.2.2))))))))))))))))))
 (gdE (EC.isL ec_48 (EC.encL ec_48 t25)) <|
 (gdE (EC.isL ec_118 (EC.encL ec_118 b0_1)) <|
 (gdE (EC.isL ec_55 (EC.encL ec_55 b0_3)) <|
 (gdE (EC.isL ec_5 (EC.encL ec_5 b0_4)) <|
 (gdE (EC.isL ec_48 (EC.encL ec_48 b1_1)) <|
 (gdE (EC.isL ec_45 (EC.encL ec_45 b3)) <|
 (some (.inr (((), ((), ((EC.decL ec_48 (EC.encL ec_48 t25)), (t26, (t27, false))))), ((b0, ((EC.decL ec_118 (EC.encL ec_118 b0_1)), (b0_2, ((EC.decL ec_55 (EC.encL ec_55 b0_3)), ((EC.decL ec_5 (EC.encL ec_5 b0_4)), (b0_5, ((), (b0_6, ())))))))), ((b1, ((EC.decL ec_48 (EC.encL ec_48 b1_1)), (b1_2, (b1_3, (b1_4, b1_5))))), (b2, (EC.decL ec_45 (EC.encL ec_45 b3)))))))))))))))
theorem qev {t25} {t26} {t27} {b0} {b0_1} {b0_2} {b0_3} {b0_4} {b0_5} {b0_6} {b1} {b1_1} {b1_2} {b1_3} {b1_4} {b1_5} {b2} {b3} {r} (h : qf0 t25 t26 t27 b0 b0_1 b0_2 b0_3 b0_4 b0_5 b0_6 b1 b1_1 b1_2 b1_3 b1_4 b1_5 b2 b3 = some r) : qet t25 t26 t27 b0 b0_1 b0_2 b0_3 b0_4 b0_5 b0_6 b1 b1_1 b1_2 b1_3 b1_4 b1_5 b2 b3 = some r :=
 qmj (es := q118) (hs := qkw) [] (by kernel_rfl) trivial trivial (by kernel_rfl) h
def qeu := lentS Tryz.prog lv X0 7 (getLoop (cdF Tryz.f80) 7) qez qew (fun x => qet x.1.2.2.1 x.1.2.2.2.1 x.1.2.2.2.2 x.2.1.1 x.2.1.2.1 x.2.1.2.2.1 x.2.1.2.2.2.1 x.2.1.2.2.2.2.1 x.2.1.2.2.2.2.2.1 x.2.1.2.2.2.2.2.2.2.1 x.2.2.1.1 x.2.2.1.2.1 x.2.2.1.2.2.1 x.2.2.1.2.2.2.1 x.2.2.1.2.2.2.2.1 x.2.2.1.2.2.2.2.2 x.2.2.2.1 x.2.2.2.2) (fun _ _ h => qmi h)
def qer := sLS [0, 3, 7, 73, 74, 75] (lCons (vPtr 0 0) (lCons (vPtr 1 0) (lCons (vRow 2) (lCons (vC (cSl ec_118)) (lCons (vC (cInt .i64)) (lOne (vC (cInt .i64)))))))) (lCons (oSome (bBox (lCons (vC cStr) (lCons (vC (cSl ec_118)) (lCons (vC cStr) (lCons (vC (cSl ec_55)) (lCons (vC (cSl ec_5)) (lCons (vC (cInt .i64)) (lCons (vMp 3) (lCons (vRow 4) (lOne (vFn 38 lNil)))))))))))) (lCons (oSome (bBox (lCons (vC (cInt .i64)) (lCons (vC (cSl ec_48)) (lCons (vC cStr) (lCons (vC (cInt .i64)) (lCons (vC cStr) (lOne (vC (cInt .i64)))))))))) (lCons (oSome (bRow ec_9)) (lCons (oSome bMap) (lOne (oSome (bRow ec_45))))))) [false, false, false, false, false] [0, 3] (by decide) (fun _ => rfl)
def qeq := sLS [0, 3, 7, 73, 74, 75, 76] (lCons (vPtr 0 0) (lCons (vPtr 1 0) (lCons (vRow 2) (lCons (vC (cSl ec_118)) (lCons (vC (cInt .i64)) (lCons (vC (cInt .i64)) (lOne (vC cBool)))))))) (lCons (oSome (bBox (lCons (vC cStr) (lCons (vC (cSl ec_118)) (lCons (vC cStr) (lCons (vC (cSl ec_55)) (lCons (vC (cSl ec_5)) (lCons (vC (cInt .i64)) (lCons (vMp 3) (lCons (vRow 4) (lOne (vFn 38 lNil)))))))))))) (lCons (oSome (bBox (lCons (vC (cInt .i64)) (lCons (vC (cSl ec_48)) (lCons (vC cStr) (lCons (vC (cInt .i64)) (lCons (vC cStr) (lOne (vC (cInt .i64)))))))))) (lCons (oSome (bRow ec_9)) (lCons (oSome bMap) (lOne (oSome (bRow ec_45))))))) [false, false, false, false, false] [0, 3] (by decide) (fun _ => rfl)
def qep := oAt 5 qeq
def qem (l : Nat) (t73 : (List S118)) (t74 : Int) (t75 : Int) (b0 : ByteArray) (b0_1 : (List S118)) (b0_2 : ByteArray) (b0_3 : (List S55)) (b0_4 : (List Int)) (b0_5 : Int) (b0_6 : Nat) (b1 : Int) (b1_1 : (List S48)) (b1_2 : ByteArray) (b1_3 : Int) (b1_4 : ByteArray) (b1_5 : Int) (b2 : (List ByteArray)) (b3 : (List (ByteArray × ByteArray))) (b4 : (List S45)) : Option ((Unit × Unit × Nat × (List S118) × Int × Int × Bool) × ((ByteArray × (List S118) × ByteArray × (List S55) × (List Int) × Int × Unit × Nat × Unit) × (Int × (List S48) × ByteArray × Int × ByteArray × Int) × (List ByteArray) × (List (ByteArray × ByteArray)) × (List S45))) := lS Tryz.prog lv X0 80 106 (getLoop (cdF Tryz.f80) 20) qer qep (((), (), l, t73, t74, t75), ((b0, b0_1, b0_2, b0_3, b0_4, b0_5, (), b0_6, ()), (b1, b1_1, b1_2, b1_3, b1_4, b1_5), b2, b3, b4))
def qes (l : Nat) (t73 : (List S118)) (t74 : Int) (t75 : Int) (b0 : ByteArray) (b0_1 : (List S118)) (b0_2 : ByteArray) (b0_3 : (List S55)) (b0_4 : (List Int)) (b0_5 : Int) (b0_6 : Nat) (b1 : Int) (b1_1 : (List S48)) (b1_2 : ByteArray) (b1_3 : Int) (b1_4 : ByteArray) (b1_5 : Int) (b2 : (List ByteArray)) (b3 : (List (ByteArray × ByteArray))) (b4 : (List S45)) : Option ((Unit × Unit × Nat × (List S118) × Int × Int × Bool) × ((ByteArray × (List S118) × ByteArray × (List S55) × (List Int) × Int × Unit × Nat × Unit) × (Int × (List S48) × ByteArray × Int × ByteArray × Int) × (List ByteArray) × (List (ByteArray × ByteArray)) × (List S45))) :=
 (brE (decide (t75 < t74))
 (gdE (decide (0 ≤ t75)) <|
 (gdE ((decide ((Int.toNat t75) < (List.length (EC.encL ec_118 t73)))) && (isE [K1.str, (K1.int Go.IntKind.i64)] 0 (List.getD (EC.encL ec_118 t73) (Int.toNat t75) []))) <|
 (gdE ((((List.all [[(C.str (strOf (List.getD (List.getD (EC.encL ec_118 t73) (Int.toNat t75) []) 0 C.ne)))]] (fun (el : (List C)) => ((List.length el) == 1))) && (List.all (EC.encL ec_9 b2) (fun (el : (List C)) => ((List.length el) == 1)))) && (decide (((((l + (List.length [[(C.str (strOf (List.getD (List.getD (EC.encL ec_118 t73) (Int.toNat t75) []) 0 C.ne)))]])) + ((l + (List.length [[(C.str (strOf (List.getD (List.getD (EC.encL ec_118 t73) (Int.toNat t75) []) 0 C.ne)))]])) / 4)) + 192) * 16) ≤ 281474976710656))) && (decide ((l + (List.length [[(C.str (strOf (List.getD (List.getD (EC.encL ec_118 t73) (Int.toNat t75) []) 0 C.ne)))]])) ≤ 9223372036854775807))) <|
 (gdE (EC.isL ec_118 (EC.encL ec_118 t73)) <|
 (gdE (EC.isL ec_118 (EC.encL ec_118 b0_1)) <|
 (gdE (EC.isL ec_55 (EC.encL ec_55 b0_3)) <|
 (gdE (EC.isL ec_5 (EC.encL ec_5 b0_4)) <|
 (gdE (EC.isL ec_48 (EC.encL ec_48 b1_1)) <|
 (gdE (EC.isL ec_9 ((EC.encL ec_9 b2) ++ [[(C.str (strOf (List.getD (List.getD (EC.encL ec_118 t73) (Int.toNat t75) []) 0 C.ne)))]])) <|
 (gdE (EC.isL ec_45 (EC.encL ec_45 b4)) <|
 (qem (l + (List.length [[(C.str (strOf (List.getD (List.getD (EC.encL ec_118 t73) (Int.toNat t75) []) 0 C.ne)))]])) (EC.decL ec_118 (EC.encL ec_118 t73)) t74 (IntKind.wrap .i64 (t75 + 1)) b0 (EC.decL ec_118 (EC.encL ec_118 b0_1)) b0_2 (EC.decL ec_55 (EC.encL ec_55 b0_3)) (EC.decL ec_5 (EC.encL ec_5 b0_4)) b0_5 b0_6 b1 (EC.decL ec_48 (EC.encL ec_48 b1_1)) b1_2 b1_3 b1_4 b1_5 (EC.decL ec_9 ((EC.encL ec_9 b2) ++ [[(C.str (strOf (List.getD (List.getD (EC.encL ec_118 t73) (Int.toNat t75) []) 0 C.ne)))]])) b3 (EC.decL ec_45 (EC.encL ec_45 b4)))))))))))))
 (gdE (EC.isL ec_118 (EC.encL ec_118 t73)) <|
 (gdE (EC.isL ec_118 (EC.encL ec_118 b0_1)) <|
 (gdE (EC.isL ec_55 (EC.encL ec_55 b0_3)) <|
 (gdE (EC.isL ec_5 (EC.encL ec_5 b0_4)) <|
 (gdE (EC.isL ec_48 (EC.encL ec_48 b1_1)) <|
 (gdE (EC.isL ec_9 (EC.encL ec_9 b2)) <|
 (gdE (EC.isL ec_45 (EC.encL ec_45 b4)) <|
 (some (((), ((), (l, ((EC.decL ec_118 (EC.encL ec_118 t73)), (t74, (t75, false)))))), ((b0, ((EC.decL ec_118 (EC.encL ec_118 b0_1)), (b0_2, ((EC.decL ec_55 (EC.encL ec_55 b0_3)), ((EC.decL ec_5 (EC.encL ec_5 b0_4)), (b0_5, ((), (b0_6, ())))))))), ((b1, ((EC.decL ec_48 (EC.encL ec_48 b1_1)), (b1_2, (b1_3, (b1_4, b1_5))))), ((EC.decL ec_9 (EC.encL ec_9 b2)), (b3, (EC.decL ec_45 (EC.encL ec_45 b4))))))))))))))))
theorem qeo {l} {t73} {t74} {t75} {b0} {b0_1} {b0_2} {b0_3} {b0_4} {b0_5} {b0_6} {b1} {b1_1} {b1_2} {b1_3} {b1_4} {b1_5} {b2} {b3} {b4} {r} (h : qes l t73 t74 t75 b0 b0_1 b0_2 b0_3 b0_4 b0_5 b0_6 b1 b1_1 b1_2 b1_3 b1_4 b1_5 b2 b3 b4 = some r) : qem l t73 t74 t75 b0 b0_1 b0_2 b0_3 b0_4 b0_5 b0_6 b1 b1_1 b1_2 b1_3 b1_4 b1_5 b2 b3 b4 = some r :=
 qmj (es := q118) (hs := qkw) [] (by kernel_rfl) trivial trivial (by kernel_rfl) h
def qen := lentS Tryz.prog lv X0 20 (getLoop (cdF Tryz.f80) 20) qer qep (fun x => qem x.1.2.2.1 x.1.2.2.2.1 x.1.2.2.2.2.1 x.1.2.2.2.2.2 x.2.1.1 x.2.1.2.1 x.2.1.2.2.1 x.2.1.2.2.2.1 x.2.1.2.2.2.2.1 x.2.1.2.2.2.2.2.1 x.2.1.2.2.2.2.2.2.2.1 x.2.2.1.1 x.2.2.1.2.1 x.2.2.1.2.2.1 x.2.2.1.2.2.2.1 x.2.2.1.2.2.2.2.1 x.2.2.1.2.2.2.2.2 x.2.2.2.1 x.2.2.2.2.1 x.2.2.2.2.2) (fun _ _ h => qmi h)
def qf4 (t : Int) (t_1 : (List S48)) (t_2 : ByteArray) (t_3 : Int) (t_4 : ByteArray) (t_5 : Int) (b0 : ByteArray) (b0_1 : (List S118)) (b0_2 : ByteArray) (b0_3 : (List S55)) (b0_4 : (List Int)) (b0_5 : Int) (b0_6 : Nat) (b1 : (List (ByteArray × ByteArray))) (b2 : (List S45)) : Option (Bool × (Bool × ((ByteArray × (List S118) × ByteArray × (List S55) × (List Int) × Int × Unit × Nat × Unit) × (List (ByteArray × ByteArray)) × (List S45)))) :=
 (brE (t == 2)
 (gdE ((decide ((Int.toNat 0) < (List.length (EC.encL ec_48 t_1)))) && (isE [(K1.int Go.IntKind.i64), K1.sl, K1.str, (K1.int Go.IntKind.i64), K1.str, (K1.int Go.IntKind.i64)] 0 (List.getD (EC.encL ec_48 t_1) (Int.toNat 0) []))) <|
 (gdE (EC.isL ec_48 (slOf (List.getD (List.getD (EC.encL ec_48 t_1) (Int.toNat 0) []) 1 C.ne))) <|
 (gdE (EC.isL ec_118 (EC.encL ec_118 b0_1)) <|
 (gdE (EC.isL ec_55 (EC.encL ec_55 b0_3)) <|
 (gdE (EC.isL ec_5 (EC.encL ec_5 b0_4)) <|
 (gdE (EC.isL ec_45 (EC.encL ec_45 b2)) <|
 (Option.bind (qej (intOf (List.getD (List.getD (EC.encL ec_48 t_1) (Int.toNat 0) []) 0 C.ne)) (EC.decL ec_48 (slOf (List.getD (List.getD (EC.encL ec_48 t_1) (Int.toNat 0) []) 1 C.ne))) (strOf (List.getD (List.getD (EC.encL ec_48 t_1) (Int.toNat 0) []) 2 C.ne)) (intOf (List.getD (List.getD (EC.encL ec_48 t_1) (Int.toNat 0) []) 3 C.ne)) (strOf (List.getD (List.getD (EC.encL ec_48 t_1) (Int.toNat 0) []) 4 C.ne)) (intOf (List.getD (List.getD (EC.encL ec_48 t_1) (Int.toNat 0) []) 5 C.ne)) b0 (EC.decL ec_118 (EC.encL ec_118 b0_1)) b0_2 (EC.decL ec_55 (EC.encL ec_55 b0_3)) (EC.decL ec_5 (EC.encL ec_5 b0_4)) b0_5 b0_6 b1 (EC.decL ec_45 (EC.encL ec_45 b2))) fun r0 =>
 (gdE (EC.isL ec_118 (EC.encL ec_118 r0.2.2.1.2.1)) <|
 (gdE (EC.isL ec_55 (EC.encL ec_55 r0.2.2.1.2.2.2.1)) <|
 (gdE (EC.isL ec_5 (EC.encL ec_5 r0.2.2.1.2.2.2.2.1)) <|
 (gdE (EC.isL ec_45 (EC.encL ec_45 r0.2.2.2.2)) <|
 (some ((!r0.1), ((!r0.1), ((r0.2.2.1.1, ((EC.decL ec_118 (EC.encL ec_118 r0.2.2.1.2.1)), (r0.2.2.1.2.2.1, ((EC.decL ec_55 (EC.encL ec_55 r0.2.2.1.2.2.2.1)), ((EC.decL ec_5 (EC.encL ec_5 r0.2.2.1.2.2.2.2.1)), (r0.2.2.1.2.2.2.2.2.1, ((), (r0.2.2.1.2.2.2.2.2.2.2.1, ())))))))), (r0.2.2.2.1, (EC.decL ec_45 (EC.encL ec_45 r0.2.2.2.2))))))))))))))))))
 (brE (t == 3)
 (gdE (EC.isL ec_48 (EC.encL ec_48 t_1)) <|
 (gdE (EC.isL ec_118 (EC.encL ec_118 b0_1)) <|
 (gdE (EC.isL ec_55 (EC.encL ec_55 b0_3)) <|
 (gdE (EC.isL ec_5 (EC.encL ec_5 b0_4)) <|
 (gdE (EC.isL ec_48 (EC.encL ec_48 t_1)) <|
 (gdE (EC.isL ec_45 (EC.encL ec_45 b2)) <|
 (Option.bind (qet (EC.decL ec_48 (EC.encL ec_48 t_1)) (List.length (EC.encL ec_48 t_1) : Int) 0 b0 (EC.decL ec_118 (EC.encL ec_118 b0_1)) b0_2 (EC.decL ec_55 (EC.encL ec_55 b0_3)) (EC.decL ec_5 (EC.encL ec_5 b0_4)) b0_5 b0_6 t (EC.decL ec_48 (EC.encL ec_48 t_1)) t_2 t_3 t_4 t_5 b1 (EC.decL ec_45 (EC.encL ec_45 b2))) fun r0 =>
 (Sum.elim (fun r1 => (gdE (EC.isL ec_118 (EC.encL ec_118 r1.2.1.2.1)) <|
 (gdE (EC.isL ec_55 (EC.encL ec_55 r1.2.1.2.2.2.1)) <|
 (gdE (EC.isL ec_5 (EC.encL ec_5 r1.2.1.2.2.2.2.1)) <|
 (gdE (EC.isL ec_45 (EC.encL ec_45 r1.2.2.2)) <|
 (some (r1.1, (r1.1, ((r1.2.1.1, ((EC.decL ec_118 (EC.encL ec_118 r1.2.1.2.1)), (r1.2.1.2.2.1, ((EC.decL ec_55 (EC.encL ec_55 r1.2.1.2.2.2.1)), ((EC.decL ec_5 (EC.encL ec_5 r1.2.1.2.2.2.2.1)), (r1.2.1.2.2.2.2.2.1, ((), (r1.2.1.2.2.2.2.2.2.2.1, ())))))))), (r1.2.2.1, (EC.decL ec_45 (EC.encL ec_45 r1.2.2.2))))))))))))
 (fun r1 => (gdE (EC.isL ec_118 (EC.encL ec_118 r1.2.1.2.1)) <|
 (gdE (EC.isL ec_55 (EC.encL ec_55 r1.2.1.2.2.2.1)) <|
 (gdE (EC.isL ec_5 (EC.encL ec_5 r1.2.1.2.2.2.2.1)) <|
 (gdE (EC.isL ec_45 (EC.encL ec_45 r1.2.2.2.2)) <|
 (some ((r1.2.2.1.1 == 3), ((r1.2.2.1.1 == 3), ((r1.2.1.1, ((EC.decL ec_118 (EC.encL ec_118 r1.2.1.2.1)), (r1.2.1.2.2.1, ((EC.decL ec_55 (EC.encL ec_55 r1.2.1.2.2.2.1)), ((EC.decL ec_5 (EC.encL ec_5 r1.2.1.2.2.2.2.1)), (r1.2.1.2.2.2.2.2.1, ((), (r1.2.1.2.2.2.2.2.2.2.1, ())))))))), (r1.2.2.2.1, (EC.decL ec_45 (EC.encL ec_45 r1.2.2.2.2)))))))))))) r0))))))))
 (brE (t == 4)
 (gdE (EC.isL ec_48 (EC.encL ec_48 t_1)) <|
 (gdE (EC.isL ec_118 (EC.encL ec_118 b0_1)) <|
 (gdE (EC.isL ec_55 (EC.encL ec_55 b0_3)) <|
 (gdE (EC.isL ec_5 (EC.encL ec_5 b0_4)) <|
 (gdE (EC.isL ec_48 (EC.encL ec_48 t_1)) <|
 (gdE (EC.isL ec_45 (EC.encL ec_45 b2)) <|
 (Option.bind (qet (EC.decL ec_48 (EC.encL ec_48 t_1)) (List.length (EC.encL ec_48 t_1) : Int) 0 b0 (EC.decL ec_118 (EC.encL ec_118 b0_1)) b0_2 (EC.decL ec_55 (EC.encL ec_55 b0_3)) (EC.decL ec_5 (EC.encL ec_5 b0_4)) b0_5 b0_6 t (EC.decL ec_48 (EC.encL ec_48 t_1)) t_2 t_3 t_4 t_5 b1 (EC.decL ec_45 (EC.encL ec_45 b2))) fun r0 =>
 (Sum.elim (fun r1 => (gdE (EC.isL ec_118 (EC.encL ec_118 r1.2.1.2.1)) <|
 (gdE (EC.isL ec_55 (EC.encL ec_55 r1.2.1.2.2.2.1)) <|
 (gdE (EC.isL ec_5 (EC.encL ec_5 r1.2.1.2.2.2.2.1)) <|
 (gdE (EC.isL ec_45 (EC.encL ec_45 r1.2.2.2)) <|
 (some (r1.1, (r1.1, ((r1.2.1.1, ((EC.decL ec_118 (EC.encL ec_118 r1.2.1.2.1)), (r1.2.1.2.2.1, ((EC.decL ec_55 (EC.encL ec_55 r1.2.1.2.2.2.1)), ((EC.decL ec_5 (EC.encL ec_5 r1.2.1.2.2.2.2.1)), (r1.2.1.2.2.2.2.2.1, ((), (r1.2.1.2.2.2.2.2.2.2.1, ())))))))), (r1.2.2.1, (EC.decL ec_45 (EC.encL ec_45 r1.2.2.2))))))))))))
 (fun r1 => (gdE (EC.isL ec_118 (EC.encL ec_118 r1.2.1.2.1)) <|
 (gdE (EC.isL ec_55 (EC.encL ec_55 r1.2.1.2.2.2.1)) <|
 (gdE (EC.isL ec_5 (EC.encL ec_5 r1.2.1.2.2.2.2.1)) <|
 (gdE (EC.isL ec_45 (EC.encL ec_45 r1.2.2.2.2)) <|
 (some ((r1.2.2.1.1 == 3), ((r1.2.2.1.1 == 3), ((r1.2.1.1, ((EC.decL ec_118 (EC.encL ec_118 r1.2.1.2.1)), (r1.2.1.2.2.1, ((EC.decL ec_55 (EC.encL ec_55 r1.2.1.2.2.2.1)), ((EC.decL ec_5 (EC.encL ec_5 r1.2.1.2.2.2.2.1)), (r1.2.1.2.2.2.2.2.1, ((), (r1.2.1.2.2.2.2.2.2.2.1, ())))))))), (r1.2.2.2.1, (EC.decL ec_45 (EC.encL ec_45 r1.2.2.2.2)))))))))))) r0))))))))
 (brE (t == 5)
 (gdE (EC.isL ec_118 (EC.encL ec_118 b0_1)) <|
 (gdE (EC.isL ec_55 (EC.encL ec_55 b0_3)) <|
 (gdE (EC.isL ec_5 (EC.encL ec_5 b0_4)) <|
 (gdE (EC.isL ec_45 (EC.encL ec_45 b2)) <|
 (Option.bind (qdq t_2 b0 (EC.decL ec_118 (EC.encL ec_118 b0_1)) b0_2 (EC.decL ec_55 (EC.encL ec_55 b0_3)) (EC.decL ec_5 (EC.encL ec_5 b0_4)) b0_5 b0_6 b1 (EC.decL ec_45 (EC.encL ec_45 b2))) fun r0 =>
 (gdE (EC.isL ec_48 (EC.encL ec_48 t_1)) <|
 (gdE (EC.isL ec_118 (EC.encL ec_118 r0.2.2.2.1.2.1)) <|
 (gdE (EC.isL ec_55 (EC.encL ec_55 r0.2.2.2.1.2.2.2.1)) <|
 (gdE (EC.isL ec_5 (EC.encL ec_5 r0.2.2.2.1.2.2.2.2.1)) <|
 (gdE (EC.isL ec_9 (EC.encL ec_9 r0.2.2.1)) <|
 (gdE (EC.isL ec_45 (EC.encL ec_45 r0.2.2.2.2.2)) <|
 (Option.bind (qdx t (EC.decL ec_48 (EC.encL ec_48 t_1)) t_2 t_3 t_4 t_5 r0.1 r0.2.2.2.1.1 (EC.decL ec_118 (EC.encL ec_118 r0.2.2.2.1.2.1)) r0.2.2.2.1.2.2.1 (EC.decL ec_55 (EC.encL ec_55 r0.2.2.2.1.2.2.2.1)) (EC.decL ec_5 (EC.encL ec_5 r0.2.2.2.1.2.2.2.2.1)) r0.2.2.2.1.2.2.2.2.2.1 r0.2.2.2.1.2.2.2.2.2.2.2.1 (EC.decL ec_9 (EC.encL ec_9 r0.2.2.1)) r0.2.2.2.2.1 (EC.decL ec_45 (EC.encL ec_45 r0.2.2.2.2.2))) fun r1 =>
 (gdE (EC.isL ec_118 (EC.encL ec_118 r1.2.2.1.2.1)) <|
 (gdE (EC.isL ec_55 (EC.encL ec_55 r1.2.2.1.2.2.2.1)) <|
 (gdE (EC.isL ec_5 (EC.encL ec_5 r1.2.2.1.2.2.2.2.1)) <|
 (gdE (EC.isL ec_45 (EC.encL ec_45 r1.2.2.2.2)) <|
 (some (r1.1, (r1.1, ((r1.2.2.1.1, ((EC.decL ec_118 (EC.encL ec_118 r1.2.2.1.2.1)), (r1.2.2.1.2.2.1, ((EC.decL ec_55 (EC.encL ec_55 r1.2.2.1.2.2.2.1)), ((EC.decL ec_5 (EC.encL ec_5 r1.2.2.1.2.2.2.2.1)), (r1.2.2.1.2.2.2.2.2.1, ((), (r1.2.2.1.2.2.2.2.2.2.2.1, ())))))))), (r1.2.2.2.1, (EC.decL ec_45 (EC.encL ec_45 r1.2.2.2.2)))))))))))))))))))))))
 (brE (t == 6)
 (gdE (EC.isL ec_48 (EC.encL ec_48 t_1)) <|
 (gdE (EC.isL ec_118 (EC.encL ec_118 b0_1)) <|
 (gdE (EC.isL ec_55 (EC.encL ec_55 b0_3)) <|
 (gdE (EC.isL ec_5 (EC.encL ec_5 b0_4)) <|
 (gdE (EC.isL ec_45 (EC.encL ec_45 b2)) <|
 (Option.bind (qdx t (EC.decL ec_48 (EC.encL ec_48 t_1)) t_2 t_3 t_4 t_5 1 b0 (EC.decL ec_118 (EC.encL ec_118 b0_1)) b0_2 (EC.decL ec_55 (EC.encL ec_55 b0_3)) (EC.decL ec_5 (EC.encL ec_5 b0_4)) b0_5 b0_6 (EC.decL ec_9 [[(C.str b0)]]) b1 (EC.decL ec_45 (EC.encL ec_45 b2))) fun r0 =>
 (gdE (EC.isL ec_118 (EC.encL ec_118 r0.2.2.1.2.1)) <|
 (gdE (EC.isL ec_55 (EC.encL ec_55 r0.2.2.1.2.2.2.1)) <|
 (gdE (EC.isL ec_5 (EC.encL ec_5 r0.2.2.1.2.2.2.2.1)) <|
 (gdE (EC.isL ec_45 (EC.encL ec_45 r0.2.2.2.2)) <|
 (some (r0.1, (r0.1, ((r0.2.2.1.1, ((EC.decL ec_118 (EC.encL ec_118 r0.2.2.1.2.1)), (r0.2.2.1.2.2.1, ((EC.decL ec_55 (EC.encL ec_55 r0.2.2.1.2.2.2.1)), ((EC.decL ec_5 (EC.encL ec_5 r0.2.2.1.2.2.2.2.1)), (r0.2.2.1.2.2.2.2.2.1, ((), (r0.2.2.1.2.2.2.2.2.2.2.1, ())))))))), (r0.2.2.2.1, (EC.decL ec_45 (EC.encL ec_45 r0.2.2.2.2)))))))))))))))))
 (brE (t == 7)
 (gdE (EC.isL ec_118 (EC.encL ec_118 b0_1)) <|
 (gdE (EC.isL ec_118 (EC.encL ec_118 b0_1)) <|
 (gdE (EC.isL ec_55 (EC.encL ec_55 b0_3)) <|
 (gdE (EC.isL ec_5 (EC.encL ec_5 b0_4)) <|
 (gdE (EC.isL ec_48 (EC.encL ec_48 t_1)) <|
 (gdE (EC.isL ec_45 (EC.encL ec_45 b2)) <|
 (Option.bind (qem 0 (EC.decL ec_118 (EC.encL ec_118 b0_1)) (List.length (EC.encL ec_118 b0_1) : Int) 0 b0 (EC.decL ec_118 (EC.encL ec_118 b0_1)) b0_2 (EC.decL ec_55 (EC.encL ec_55 b0_3)) (EC.decL ec_5 (EC.encL ec_5 b0_4)) b0_5 b0_6 t (EC.decL ec_48 (EC.encL ec_48 t_1)) t_2 t_3 t_4 t_5 (EC.decL ec_9 []) b1 (EC.decL ec_45 (EC.encL ec_45 b2))) fun r0 =>
 (gdE (EC.isL ec_48 (EC.encL ec_48 r0.2.2.1.2.1)) <|
 (gdE (EC.isL ec_118 (EC.encL ec_118 r0.2.1.2.1)) <|
 (gdE (EC.isL ec_55 (EC.encL ec_55 r0.2.1.2.2.2.1)) <|
 (gdE (EC.isL ec_5 (EC.encL ec_5 r0.2.1.2.2.2.2.1)) <|
 (gdE (EC.isL ec_9 (EC.encL ec_9 r0.2.2.2.1)) <|
 (gdE (EC.isL ec_45 (EC.encL ec_45 r0.2.2.2.2.2)) <|
 (Option.bind (qdx r0.2.2.1.1 (EC.decL ec_48 (EC.encL ec_48 r0.2.2.1.2.1)) r0.2.2.1.2.2.1 r0.2.2.1.2.2.2.1 r0.2.2.1.2.2.2.2.1 r0.2.2.1.2.2.2.2.2 r0.1.2.2.1 r0.2.1.1 (EC.decL ec_118 (EC.encL ec_118 r0.2.1.2.1)) r0.2.1.2.2.1 (EC.decL ec_55 (EC.encL ec_55 r0.2.1.2.2.2.1)) (EC.decL ec_5 (EC.encL ec_5 r0.2.1.2.2.2.2.1)) r0.2.1.2.2.2.2.2.1 r0.2.1.2.2.2.2.2.2.2.1 (EC.decL ec_9 (EC.encL ec_9 r0.2.2.2.1)) r0.2.2.2.2.1 (EC.decL ec_45 (EC.encL ec_45 r0.2.2.2.2.2))) fun r1 =>
 (gdE (EC.isL ec_118 (EC.encL ec_118 r1.2.2.1.2.1)) <|
 (gdE (EC.isL ec_55 (EC.encL ec_55 r1.2.2.1.2.2.2.1)) <|
 (gdE (EC.isL ec_5 (EC.encL ec_5 r1.2.2.1.2.2.2.2.1)) <|
 (gdE (EC.isL ec_45 (EC.encL ec_45 r1.2.2.2.2)) <|
 (some (r1.1, (r1.1, ((r1.2.2.1.1, ((EC.decL ec_118 (EC.encL ec_118 r1.2.2.1.2.1)), (r1.2.2.1.2.2.1, ((EC.decL ec_55 (EC.encL ec_55 r1.2.2.1.2.2.2.1)), ((EC.decL ec_5 (EC.encL ec_5 r1.2.2.1.2.2.2.2.1)), (r1.2.2.1.2.2.2.2.2.1, ((), (r1.2.2.1.2.2.2.2.2.2.2.1, ())))))))), (r1.2.2.2.1, (EC.decL ec_45 (EC.encL ec_45 r1.2.2.2.2)))))))))))))))))))))))))
 (brE (t == 8)
 (gdE (EC.isL ec_118 (EC.encL ec_118 b0_1)) <|
 (gdE (EC.isL ec_55 (EC.encL ec_55 b0_3)) <|
 (gdE (EC.isL ec_5 (EC.encL ec_5 b0_4)) <|
 (gdE (EC.isL ec_45 (EC.encL ec_45 b2)) <|
 (some ((decide (b0_5 > t_5)), ((decide (b0_5 > t_5)), ((b0, ((EC.decL ec_118 (EC.encL ec_118 b0_1)), (b0_2, ((EC.decL ec_55 (EC.encL ec_55 b0_3)), ((EC.decL ec_5 (EC.encL ec_5 b0_4)), (b0_5, ((), (b0_6, ())))))))), (b1, (EC.decL ec_45 (EC.encL ec_45 b2)))))))))))
 (brE (t == 9)
 (gdE (EC.isL ec_118 (EC.encL ec_118 b0_1)) <|
 (gdE (EC.isL ec_55 (EC.encL ec_55 b0_3)) <|
 (gdE (EC.isL ec_5 (EC.encL ec_5 b0_4)) <|
 (gdE (EC.isL ec_45 (EC.encL ec_45 b2)) <|
 (Option.bind (qdq t_2 b0 (EC.decL ec_118 (EC.encL ec_118 b0_1)) b0_2 (EC.decL ec_55 (EC.encL ec_55 b0_3)) (EC.decL ec_5 (EC.encL ec_5 b0_4)) b0_5 b0_6 b1 (EC.decL ec_45 (EC.encL ec_45 b2))) fun r0 =>
 (gdE (EC.isL ec_118 (EC.encL ec_118 r0.2.2.2.1.2.1)) <|
 (gdE (EC.isL ec_55 (EC.encL ec_55 r0.2.2.2.1.2.2.2.1)) <|
 (gdE (EC.isL ec_5 (EC.encL ec_5 r0.2.2.2.1.2.2.2.2.1)) <|
 (gdE (EC.isL ec_45 (EC.encL ec_45 r0.2.2.2.2.2)) <|
 (some ((decide (((r0.1 : Nat) : Int) > 0)), ((decide (((r0.1 : Nat) : Int) > 0)), ((r0.2.2.2.1.1, ((EC.decL ec_118 (EC.encL ec_118 r0.2.2.2.1.2.1)), (r0.2.2.2.1.2.2.1, ((EC.decL ec_55 (EC.encL ec_55 r0.2.2.2.1.2.2.2.1)), ((EC.decL ec_5 (EC.encL ec_5 r0.2.2.2.1.2.2.2.2.1)), (r0.2.2.2.1.2.2.2.2.2.1, ((), (r0.2.2.2.1.2.2.2.2.2.2.2.1, ())))))))), (r0.2.2.2.2.1, (EC.decL ec_45 (EC.encL ec_45 r0.2.2.2.2.2))))))))))))))))
 (gdE (EC.isL ec_118 (EC.encL ec_118 b0_1)) <|
 (gdE (EC.isL ec_55 (EC.encL ec_55 b0_3)) <|
 (gdE (EC.isL ec_5 (EC.encL ec_5 b0_4)) <|
 (gdE (EC.isL ec_45 (EC.encL ec_45 b2)) <|
 (some (true, (true, ((b0, ((EC.decL ec_118 (EC.encL ec_118 b0_1)), (b0_2, ((EC.decL ec_55 (EC.encL ec_55 b0_3)), ((EC.decL ec_5 (EC.encL ec_5 b0_4)), (b0_5, ((), (b0_6, ())))))))), (b1, (EC.decL ec_45 (EC.encL ec_45 b2)))))))))))))))))))
theorem qel {t} {t_1} {t_2} {t_3} {t_4} {t_5} {b0} {b0_1} {b0_2} {b0_3} {b0_4} {b0_5} {b0_6} {b1} {b2} {r} (h : qf4 t t_1 t_2 t_3 t_4 t_5 b0 b0_1 b0_2 b0_3 b0_4 b0_5 b0_6 b1 b2 = some r) : qej t t_1 t_2 t_3 t_4 t_5 b0 b0_1 b0_2 b0_3 b0_4 b0_5 b0_6 b1 b2 = some r :=
 qj6 (fn := Tryz.f80) (es := q118) (hs := qkw) [qeu, qen] (by kernel_rfl) rfl (by kernel_rfl) ⟨⟨_, rfl, rfl⟩, ⟨_, rfl, rfl⟩, trivial⟩ trivial (by kernel_rfl) h
def qd3 := sLS [0] (lOne (vAgg (lCons (vC (cInt .i64)) (lCons (vC cBool) (lOne (vC cStr)))))) lNil [] [] (by decide) (fun _ => rfl)
def qd2 : SC (Unit × Unit) := sLS [] lNil lNil [] [] (by decide) (fun _ => rfl)
def qd1 : HC (Unit × (Unit × Unit)) := hPair (vTup lNil) qd2
def qcy (t0 : Int) (t0_1 : Bool) (t0_2 : ByteArray) : Option (Unit × (Unit × Unit)) := hS Tryz.prog lv X0 38 qd3 qd1 ((t0, t0_1, t0_2), ())
def qd4 (t0 : Int) (t0_1 : Bool) (t0_2 : ByteArray) : Option (Unit × (Unit × Unit)) :=
 (some ((), ((), ())))
theorem qd0 {t0} {t0_1} {t0_2} {r} (h : qd4 t0 t0_1 t0_2 = some r) : qcy t0 t0_1 t0_2 = some r :=
 qj6 (fn := Tryz.f38) (es := q118) (hs := qkw) [] (by kernel_rfl) rfl (by kernel_rfl) trivial trivial (by kernel_rfl) h
def qcz := hentS Tryz.prog lv X0 38 [0, 7, 3, 1, 1, 1, 2, 1, 3] qd3 qd1 (fun x => qcy x.1.1 x.1.2.1 x.1.2.2) (fun _ _ h => qj5 h)
def qkt := qcz :: qkw
def qdk := sLS [0, 2, 12, 13, 14] (lCons (vPtr 0 0) (lCons (vC (cInt .i64)) (lCons (vC (cSl ec_50)) (lCons (vC (cInt .i64)) (lOne (vC (cInt .i64))))))) (lCons (oSome (bBox (lCons (vC cStr) (lCons (vC (cSl ec_118)) (lCons (vC cStr) (lCons (vC (cSl ec_55)) (lCons (vC (cSl ec_5)) (lCons (vC (cInt .i64)) (lCons (vMp 1) (lCons (vRow 2) (lOne (vFn 38 lNil)))))))))))) (lCons (oSome bMap) (lOne (oSome (bRow ec_45))))) [false, false, false] [0, 1] (by decide) (fun _ => rfl)
def qdj := sLS [0, 2, 12, 13, 14, 15] (lCons (vPtr 0 0) (lCons (vC (cInt .i64)) (lCons (vC (cSl ec_50)) (lCons (vC (cInt .i64)) (lCons (vC (cInt .i64)) (lOne (vC cBool))))))) (lCons (oSome (bBox (lCons (vC cStr) (lCons (vC (cSl ec_118)) (lCons (vC cStr) (lCons (vC (cSl ec_55)) (lCons (vC (cSl ec_5)) (lCons (vC (cInt .i64)) (lCons (vMp 1) (lCons (vRow 2) (lOne (vFn 38 lNil)))))))))))) (lCons (oSome bMap) (lOne (oSome (bRow ec_45))))) [false, false, false] [0, 1] (by decide) (fun _ => rfl)
def qdi := sLS [6] (lOne (vC cBool)) (lCons (oSome (bBox (lCons (vC cStr) (lCons (vC (cSl ec_118)) (lCons (vC cStr) (lCons (vC (cSl ec_55)) (lCons (vC (cSl ec_5)) (lCons (vC (cInt .i64)) (lCons (vMp 1) (lCons (vRow 2) (lOne (vFn 38 lNil)))))))))))) (lCons (oSome bMap) (lOne (oSome (bRow ec_45))))) [false, false, false] [0, 1] (by decide) (fun _ => rfl)
def qdh := oOr 1 qdi (oAt 2 qdj) (fun x => (by decide : (2 : Nat) ≠ 1))
def qde (number : Int) (t12 : (List S50)) (t13 : Int) (t14 : Int) (b0 : ByteArray) (b0_1 : (List S118)) (b0_2 : ByteArray) (b0_3 : (List S55)) (b0_4 : (List Int)) (b0_5 : Int) (b0_6 : Nat) (b1 : (List (ByteArray × ByteArray))) (b2 : (List S45)) : Option ((Bool × ((ByteArray × (List S118) × ByteArray × (List S55) × (List Int) × Int × Unit × Nat × Unit) × (List (ByteArray × ByteArray)) × (List S45))) ⊕ ((Unit × Int × (List S50) × Int × Int × Bool) × ((ByteArray × (List S118) × ByteArray × (List S55) × (List Int) × Int × Unit × Nat × Unit) × (List (ByteArray × ByteArray)) × (List S45)))) := lS Tryz.prog lv X0 61 122 (getLoop (cdF Tryz.f61) 2) qdk qdh (((), number, t12, t13, t14), ((b0, b0_1, b0_2, b0_3, b0_4, b0_5, (), b0_6, ()), b1, b2))
def qdl (number : Int) (t12 : (List S50)) (t13 : Int) (t14 : Int) (b0 : ByteArray) (b0_1 : (List S118)) (b0_2 : ByteArray) (b0_3 : (List S55)) (b0_4 : (List Int)) (b0_5 : Int) (b0_6 : Nat) (b1 : (List (ByteArray × ByteArray))) (b2 : (List S45)) : Option ((Bool × ((ByteArray × (List S118) × ByteArray × (List S55) × (List Int) × Int × Unit × Nat × Unit) × (List (ByteArray × ByteArray)) × (List S45))) ⊕ ((Unit × Int × (List S50) × Int × Int × Bool) × ((ByteArray × (List S118) × ByteArray × (List S55) × (List Int) × Int × Unit × Nat × Unit) × (List (ByteArray × ByteArray)) × (List S45)))) :=
 (brE (decide (t14 < t13))
 (gdE (decide (0 ≤ t14)) <|
 (gdE ((decide ((Int.toNat t14) < (List.length (EC.encL ec_50 t12)))) && (isE [(K1.int Go.IntKind.i64), (K1.int Go.IntKind.i64), K1.sl, K1.str, (K1.int Go.IntKind.i64), K1.str, (K1.int Go.IntKind.i64), K1.sl, K1.sl, (K1.int Go.IntKind.i64), K1.str, K1.str, (K1.int Go.IntKind.i64)] 0 (List.getD (EC.encL ec_50 t12) (Int.toNat t14) []))) <|
 (brE ((intOf (List.getD (List.getD (EC.encL ec_50 t12) (Int.toNat t14) []) 0 C.ne)) == 1)
 (gdE (EC.isL ec_48 (slOf (List.getD (List.getD (EC.encL ec_50 t12) (Int.toNat t14) []) 2 C.ne))) <|
 (gdE (EC.isL ec_118 (EC.encL ec_118 b0_1)) <|
 (gdE (EC.isL ec_55 (EC.encL ec_55 b0_3)) <|
 (gdE (EC.isL ec_5 (EC.encL ec_5 b0_4)) <|
 (gdE (EC.isL ec_45 (EC.encL ec_45 b2)) <|
 (Option.bind (qej (intOf (List.getD (List.getD (EC.encL ec_50 t12) (Int.toNat t14) []) 1 C.ne)) (EC.decL ec_48 (slOf (List.getD (List.getD (EC.encL ec_50 t12) (Int.toNat t14) []) 2 C.ne))) (strOf (List.getD (List.getD (EC.encL ec_50 t12) (Int.toNat t14) []) 3 C.ne)) (intOf (List.getD (List.getD (EC.encL ec_50 t12) (Int.toNat t14) []) 4 C.ne)) (strOf (List.getD (List.getD (EC.encL ec_50 t12) (Int.toNat t14) []) 5 C.ne)) (intOf (List.getD (List.getD (EC.encL ec_50 t12) (Int.toNat t14) []) 6 C.ne)) b0 (EC.decL ec_118 (EC.encL ec_118 b0_1)) b0_2 (EC.decL ec_55 (EC.encL ec_55 b0_3)) (EC.decL ec_5 (EC.encL ec_5 b0_4)) b0_5 b0_6 b1 (EC.decL ec_45 (EC.encL ec_45 b2))) fun r0 =>
 (Option.bind (qcy number r0.1 ⟨#[]⟩) fun r1 =>
 (brE (!r0.1)
 (gdE (EC.isL ec_50 (slOf (List.getD (List.getD (EC.encL ec_50 t12) (Int.toNat t14) []) 7 C.ne))) <|
 (Option.bind (quc (EC.decL ec_50 (slOf (List.getD (List.getD (EC.encL ec_50 t12) (Int.toNat t14) []) 7 C.ne)))) fun r2 =>
 (gdE (EC.isL ec_50 (slOf (List.getD (List.getD (EC.encL ec_50 t12) (Int.toNat t14) []) 8 C.ne))) <|
 (gdE (EC.isL ec_118 (EC.encL ec_118 r0.2.2.1.2.1)) <|
 (gdE (EC.isL ec_55 (EC.encL ec_55 r0.2.2.1.2.2.2.1)) <|
 (gdE (EC.isL ec_5 (EC.encL ec_5 r0.2.2.1.2.2.2.2.1)) <|
 (gdE (EC.isL ec_45 (EC.encL ec_45 r0.2.2.2.2)) <|
 (Option.bind (qdb (EC.decL ec_50 (slOf (List.getD (List.getD (EC.encL ec_50 t12) (Int.toNat t14) []) 8 C.ne))) (IntKind.wrap .i64 ((IntKind.wrap .i64 (number + 1)) + r2)) r0.2.2.1.1 (EC.decL ec_118 (EC.encL ec_118 r0.2.2.1.2.1)) r0.2.2.1.2.2.1 (EC.decL ec_55 (EC.encL ec_55 r0.2.2.1.2.2.2.1)) (EC.decL ec_5 (EC.encL ec_5 r0.2.2.1.2.2.2.2.1)) r0.2.2.1.2.2.2.2.2.1 r0.2.2.1.2.2.2.2.2.2.2.1 r0.2.2.2.1 (EC.decL ec_45 (EC.encL ec_45 r0.2.2.2.2))) fun r3 =>
 (brE (!r3.1)
 (gdE (EC.isL ec_118 (EC.encL ec_118 r3.2.2.1.2.1)) <|
 (gdE (EC.isL ec_55 (EC.encL ec_55 r3.2.2.1.2.2.2.1)) <|
 (gdE (EC.isL ec_5 (EC.encL ec_5 r3.2.2.1.2.2.2.2.1)) <|
 (gdE (EC.isL ec_45 (EC.encL ec_45 r3.2.2.2.2)) <|
 (some (.inl (false, ((r3.2.2.1.1, ((EC.decL ec_118 (EC.encL ec_118 r3.2.2.1.2.1)), (r3.2.2.1.2.2.1, ((EC.decL ec_55 (EC.encL ec_55 r3.2.2.1.2.2.2.1)), ((EC.decL ec_5 (EC.encL ec_5 r3.2.2.1.2.2.2.2.1)), (r3.2.2.1.2.2.2.2.2.1, ((), (r3.2.2.1.2.2.2.2.2.2.2.1, ())))))))), (r3.2.2.2.1, (EC.decL ec_45 (EC.encL ec_45 r3.2.2.2.2)))))))))))
 (gdE (EC.isL ec_50 (slOf (List.getD (List.getD (EC.encL ec_50 t12) (Int.toNat t14) []) 7 C.ne))) <|
 (Option.bind (quc (EC.decL ec_50 (slOf (List.getD (List.getD (EC.encL ec_50 t12) (Int.toNat t14) []) 7 C.ne)))) fun r4 =>
 (gdE (EC.isL ec_50 (slOf (List.getD (List.getD (EC.encL ec_50 t12) (Int.toNat t14) []) 8 C.ne))) <|
 (Option.bind (quc (EC.decL ec_50 (slOf (List.getD (List.getD (EC.encL ec_50 t12) (Int.toNat t14) []) 8 C.ne)))) fun r5 =>
 (gdE (EC.isL ec_50 (EC.encL ec_50 t12)) <|
 (gdE (EC.isL ec_118 (EC.encL ec_118 r3.2.2.1.2.1)) <|
 (gdE (EC.isL ec_55 (EC.encL ec_55 r3.2.2.1.2.2.2.1)) <|
 (gdE (EC.isL ec_5 (EC.encL ec_5 r3.2.2.1.2.2.2.2.1)) <|
 (gdE (EC.isL ec_45 (EC.encL ec_45 r3.2.2.2.2)) <|
 (qde (IntKind.wrap .i64 (number + (IntKind.wrap .i64 ((IntKind.wrap .i64 (1 + r4)) + r5)))) (EC.decL ec_50 (EC.encL ec_50 t12)) t13 (IntKind.wrap .i64 (t14 + 1)) r3.2.2.1.1 (EC.decL ec_118 (EC.encL ec_118 r3.2.2.1.2.1)) r3.2.2.1.2.2.1 (EC.decL ec_55 (EC.encL ec_55 r3.2.2.1.2.2.2.1)) (EC.decL ec_5 (EC.encL ec_5 r3.2.2.1.2.2.2.2.1)) r3.2.2.1.2.2.2.2.2.1 r3.2.2.1.2.2.2.2.2.2.2.1 r3.2.2.2.1 (EC.decL ec_45 (EC.encL ec_45 r3.2.2.2.2)))))))))))))))))))))
 (gdE (EC.isL ec_50 (slOf (List.getD (List.getD (EC.encL ec_50 t12) (Int.toNat t14) []) 7 C.ne))) <|
 (gdE (EC.isL ec_118 (EC.encL ec_118 r0.2.2.1.2.1)) <|
 (gdE (EC.isL ec_55 (EC.encL ec_55 r0.2.2.1.2.2.2.1)) <|
 (gdE (EC.isL ec_5 (EC.encL ec_5 r0.2.2.1.2.2.2.2.1)) <|
 (gdE (EC.isL ec_45 (EC.encL ec_45 r0.2.2.2.2)) <|
 (Option.bind (qdb (EC.decL ec_50 (slOf (List.getD (List.getD (EC.encL ec_50 t12) (Int.toNat t14) []) 7 C.ne))) (IntKind.wrap .i64 (number + 1)) r0.2.2.1.1 (EC.decL ec_118 (EC.encL ec_118 r0.2.2.1.2.1)) r0.2.2.1.2.2.1 (EC.decL ec_55 (EC.encL ec_55 r0.2.2.1.2.2.2.1)) (EC.decL ec_5 (EC.encL ec_5 r0.2.2.1.2.2.2.2.1)) r0.2.2.1.2.2.2.2.2.1 r0.2.2.1.2.2.2.2.2.2.2.1 r0.2.2.2.1 (EC.decL ec_45 (EC.encL ec_45 r0.2.2.2.2))) fun r2 =>
 (brE (!r2.1)
 (gdE (EC.isL ec_118 (EC.encL ec_118 r2.2.2.1.2.1)) <|
 (gdE (EC.isL ec_55 (EC.encL ec_55 r2.2.2.1.2.2.2.1)) <|
 (gdE (EC.isL ec_5 (EC.encL ec_5 r2.2.2.1.2.2.2.2.1)) <|
 (gdE (EC.isL ec_45 (EC.encL ec_45 r2.2.2.2.2)) <|
 (some (.inl (false, ((r2.2.2.1.1, ((EC.decL ec_118 (EC.encL ec_118 r2.2.2.1.2.1)), (r2.2.2.1.2.2.1, ((EC.decL ec_55 (EC.encL ec_55 r2.2.2.1.2.2.2.1)), ((EC.decL ec_5 (EC.encL ec_5 r2.2.2.1.2.2.2.2.1)), (r2.2.2.1.2.2.2.2.2.1, ((), (r2.2.2.1.2.2.2.2.2.2.2.1, ())))))))), (r2.2.2.2.1, (EC.decL ec_45 (EC.encL ec_45 r2.2.2.2.2)))))))))))
 (gdE (EC.isL ec_50 (slOf (List.getD (List.getD (EC.encL ec_50 t12) (Int.toNat t14) []) 7 C.ne))) <|
 (Option.bind (quc (EC.decL ec_50 (slOf (List.getD (List.getD (EC.encL ec_50 t12) (Int.toNat t14) []) 7 C.ne)))) fun r3 =>
 (gdE (EC.isL ec_50 (slOf (List.getD (List.getD (EC.encL ec_50 t12) (Int.toNat t14) []) 8 C.ne))) <|
 (Option.bind (quc (EC.decL ec_50 (slOf (List.getD (List.getD (EC.encL ec_50 t12) (Int.toNat t14) []) 8 C.ne)))) fun r4 =>
 (gdE (EC.isL ec_50 (EC.encL ec_50 t12)) <|
 (gdE (EC.isL ec_118 (EC.encL ec_118 r2.2.2.1.2.1)) <|
 (gdE (EC.isL ec_55 (EC.encL ec_55 r2.2.2.1.2.2.2.1)) <|
 (gdE (EC.isL ec_5 (EC.encL ec_5 r2.2.2.1.2.2.2.2.1)) <|
 (gdE (EC.isL ec_45 (EC.encL ec_45 r2.2.2.2.2)) <|
 (qde (IntKind.wrap .i64 (number + (IntKind.wrap .i64 ((IntKind.wrap .i64 (1 + r3)) + r4)))) (EC.decL ec_50 (EC.encL ec_50 t12)) t13 (IntKind.wrap .i64 (t14 + 1)) r2.2.2.1.1 (EC.decL ec_118 (EC.encL ec_118 r2.2.2.1.2.1)) r2.2.2.1.2.2.1 (EC.decL ec_55 (EC.encL ec_55 r2.2.2.1.2.2.2.1)) (EC.decL ec_5 (EC.encL ec_5 r2.2.2.1.2.2.2.2.1)) r2.2.2.1.2.2.2.2.2.1 r2.2.2.1.2.2.2.2.2.2.2.1 r2.2.2.2.1 (EC.decL ec_45 (EC.encL ec_45 r2.2.2.2.2)))))))))))))))))))))))))))
 (brE ((intOf (List.getD (List.getD (EC.encL ec_50 t12) (Int.toNat t14) []) 0 C.ne)) == 2)
 (Option.bind (expP b1 (strOf (List.getD (List.getD (EC.encL ec_50 t12) (Int.toNat t14) []) 11 C.ne))) fun r0 =>
 (gdE ((((List.all [[(C.int Go.IntKind.i64 (intOf (List.getD (List.getD (EC.encL ec_50 t12) (Int.toNat t14) []) 9 C.ne))), (C.str r0), (C.int Go.IntKind.i64 (intOf (List.getD (List.getD (EC.encL ec_50 t12) (Int.toNat t14) []) 12 C.ne)))]] (fun (el : (List C)) => ((List.length el) == 3))) && (List.all (EC.encL ec_45 b2) (fun (el : (List C)) => ((List.length el) == 3)))) && (decide (((((b0_6 + (List.length [[(C.int Go.IntKind.i64 (intOf (List.getD (List.getD (EC.encL ec_50 t12) (Int.toNat t14) []) 9 C.ne))), (C.str r0), (C.int Go.IntKind.i64 (intOf (List.getD (List.getD (EC.encL ec_50 t12) (Int.toNat t14) []) 12 C.ne)))]])) + ((b0_6 + (List.length [[(C.int Go.IntKind.i64 (intOf (List.getD (List.getD (EC.encL ec_50 t12) (Int.toNat t14) []) 9 C.ne))), (C.str r0), (C.int Go.IntKind.i64 (intOf (List.getD (List.getD (EC.encL ec_50 t12) (Int.toNat t14) []) 12 C.ne)))]])) / 4)) + 192) * 32) ≤ 281474976710656))) && (decide ((b0_6 + (List.length [[(C.int Go.IntKind.i64 (intOf (List.getD (List.getD (EC.encL ec_50 t12) (Int.toNat t14) []) 9 C.ne))), (C.str r0), (C.int Go.IntKind.i64 (intOf (List.getD (List.getD (EC.encL ec_50 t12) (Int.toNat t14) []) 12 C.ne)))]])) ≤ 9223372036854775807))) <|
 (Option.bind (qcy number false r0) fun r1 =>
 (gdE (EC.isL ec_50 (slOf (List.getD (List.getD (EC.encL ec_50 t12) (Int.toNat t14) []) 7 C.ne))) <|
 (Option.bind (quc (EC.decL ec_50 (slOf (List.getD (List.getD (EC.encL ec_50 t12) (Int.toNat t14) []) 7 C.ne)))) fun r2 =>
 (gdE (EC.isL ec_50 (slOf (List.getD (List.getD (EC.encL ec_50 t12) (Int.toNat t14) []) 8 C.ne))) <|
 (Option.bind (quc (EC.decL ec_50 (slOf (List.getD (List.getD (EC.encL ec_50 t12) (Int.toNat t14) []) 8 C.ne)))) fun r3 =>
 (gdE (EC.isL ec_50 (EC.encL ec_50 t12)) <|
 (gdE (EC.isL ec_118 (EC.encL ec_118 b0_1)) <|
 (gdE (EC.isL ec_55 (EC.encL ec_55 b0_3)) <|
 (gdE (EC.isL ec_5 (EC.encL ec_5 b0_4)) <|
 (gdE (EC.isL ec_45 ((EC.encL ec_45 b2) ++ [[(C.int Go.IntKind.i64 (intOf (List.getD (List.getD (EC.encL ec_50 t12) (Int.toNat t14) []) 9 C.ne))), (C.str r0), (C.int Go.IntKind.i64 (intOf (List.getD (List.getD (EC.encL ec_50 t12) (Int.toNat t14) []) 12 C.ne)))]])) <|
 (qde (IntKind.wrap .i64 (number + (IntKind.wrap .i64 ((IntKind.wrap .i64 (1 + r2)) + r3)))) (EC.decL ec_50 (EC.encL ec_50 t12)) t13 (IntKind.wrap .i64 (t14 + 1)) b0 (EC.decL ec_118 (EC.encL ec_118 b0_1)) b0_2 (EC.decL ec_55 (EC.encL ec_55 b0_3)) (EC.decL ec_5 (EC.encL ec_5 b0_4)) b0_5 (b0_6 + (List.length [[(C.int Go.IntKind.i64 (intOf (List.getD (List.getD (EC.encL ec_50 t12) (Int.toNat t14) []) 9 C.ne))), (C.str r0), (C.int Go.IntKind.i64 (intOf (List.getD (List.getD (EC.encL ec_50 t12) (Int.toNat t14) []) 12 C.ne)))]])) b1 (EC.decL ec_45 ((EC.encL ec_45 b2) ++ [[(C.int Go.IntKind.i64 (intOf (List.getD (List.getD (EC.encL ec_50 t12) (Int.toNat t14) []) 9 C.ne))), (C.str r0), (C.int Go.IntKind.i64 (intOf (List.getD (List.getD (EC.encL ec_50 t12) (Int.toNat t14) []) 12 C.ne)))]])))))))))))))))
 (brE ((intOf (List.getD (List.getD (EC.encL ec_50 t12) (Int.toNat t14) []) 0 C.ne)) == 3)
 (Option.bind (expP b1 (strOf (List.getD (List.getD (EC.encL ec_50 t12) (Int.toNat t14) []) 11 C.ne))) fun r0 =>
 (gdE (((decide ((ByteArray.size (strOf (List.getD (List.getD (EC.encL ec_50 t12) (Int.toNat t14) []) 10 C.ne))) ≤ Go.maxLen)) && (decide ((ByteArray.size r0) ≤ Go.maxLen))) && (decide ((List.length b1) < Go.maxLen))) <|
 (Option.bind (qcy number false r0) fun r1 =>
 (gdE (EC.isL ec_50 (slOf (List.getD (List.getD (EC.encL ec_50 t12) (Int.toNat t14) []) 7 C.ne))) <|
 (Option.bind (quc (EC.decL ec_50 (slOf (List.getD (List.getD (EC.encL ec_50 t12) (Int.toNat t14) []) 7 C.ne)))) fun r2 =>
 (gdE (EC.isL ec_50 (slOf (List.getD (List.getD (EC.encL ec_50 t12) (Int.toNat t14) []) 8 C.ne))) <|
 (Option.bind (quc (EC.decL ec_50 (slOf (List.getD (List.getD (EC.encL ec_50 t12) (Int.toNat t14) []) 8 C.ne)))) fun r3 =>
 (gdE (EC.isL ec_50 (EC.encL ec_50 t12)) <|
 (gdE (EC.isL ec_118 (EC.encL ec_118 b0_1)) <|
 (gdE (EC.isL ec_55 (EC.encL ec_55 b0_3)) <|
 (gdE (EC.isL ec_5 (EC.encL ec_5 b0_4)) <|
 (gdE (EC.isL ec_45 (EC.encL ec_45 b2)) <|
 (qde (IntKind.wrap .i64 (number + (IntKind.wrap .i64 ((IntKind.wrap .i64 (1 + r2)) + r3)))) (EC.decL ec_50 (EC.encL ec_50 t12)) t13 (IntKind.wrap .i64 (t14 + 1)) b0 (EC.decL ec_118 (EC.encL ec_118 b0_1)) b0_2 (EC.decL ec_55 (EC.encL ec_55 b0_3)) (EC.decL ec_5 (EC.encL ec_5 b0_4)) b0_5 b0_6 (putM b1 (strOf (List.getD (List.getD (EC.encL ec_50 t12) (Int.toNat t14) []) 10 C.ne)) r0) (EC.decL ec_45 (EC.encL ec_45 b2)))))))))))))))
 (Option.bind (qcy number false ⟨#[]⟩) fun r0 =>
 (gdE (EC.isL ec_118 (EC.encL ec_118 b0_1)) <|
 (gdE (EC.isL ec_55 (EC.encL ec_55 b0_3)) <|
 (gdE (EC.isL ec_5 (EC.encL ec_5 b0_4)) <|
 (gdE (EC.isL ec_45 (EC.encL ec_45 b2)) <|
 (some (.inl (false, ((b0, ((EC.decL ec_118 (EC.encL ec_118 b0_1)), (b0_2, ((EC.decL ec_55 (EC.encL ec_55 b0_3)), ((EC.decL ec_5 (EC.encL ec_5 b0_4)), (b0_5, ((), (b0_6, ())))))))), (b1, (EC.decL ec_45 (EC.encL ec_45 b2)))))))))))))))))
 (gdE (EC.isL ec_50 (EC.encL ec_50 t12)) <|
 (gdE (EC.isL ec_118 (EC.encL ec_118 b0_1)) <|
 (gdE (EC.isL ec_55 (EC.encL ec_55 b0_3)) <|
 (gdE (EC.isL ec_5 (EC.encL ec_5 b0_4)) <|
 (gdE (EC.isL ec_45 (EC.encL ec_45 b2)) <|
 (some (.inr (((), (number, ((EC.decL ec_50 (EC.encL ec_50 t12)), (t13, (t14, false))))), ((b0, ((EC.decL ec_118 (EC.encL ec_118 b0_1)), (b0_2, ((EC.decL ec_55 (EC.encL ec_55 b0_3)), ((EC.decL ec_5 (EC.encL ec_5 b0_4)), (b0_5, ((), (b0_6, ())))))))), (b1, (EC.decL ec_45 (EC.encL ec_45 b2)))))))))))))
theorem qdg {number} {t12} {t13} {t14} {b0} {b0_1} {b0_2} {b0_3} {b0_4} {b0_5} {b0_6} {b1} {b2} {r} (h : qdl number t12 t13 t14 b0 b0_1 b0_2 b0_3 b0_4 b0_5 b0_6 b1 b2 = some r) : qde number t12 t13 t14 b0 b0_1 b0_2 b0_3 b0_4 b0_5 b0_6 b1 b2 = some r :=
 qmj (es := q118) (hs := qkt) [] (by kernel_rfl) trivial trivial (by kernel_rfl) h
def qdf := lentS Tryz.prog lv X0 2 (getLoop (cdF Tryz.f61) 2) qdk qdh (fun x => qde x.1.2.1 x.1.2.2.1 x.1.2.2.2.1 x.1.2.2.2.2 x.2.1.1 x.2.1.2.1 x.2.1.2.2.1 x.2.1.2.2.2.1 x.2.1.2.2.2.2.1 x.2.1.2.2.2.2.2.1 x.2.1.2.2.2.2.2.2.2.1 x.2.2.1 x.2.2.2) (fun _ _ h => qmi h)
def qdp (s : (List S50)) (number : Int) (b0 : ByteArray) (b0_1 : (List S118)) (b0_2 : ByteArray) (b0_3 : (List S55)) (b0_4 : (List Int)) (b0_5 : Int) (b0_6 : Nat) (b1 : (List (ByteArray × ByteArray))) (b2 : (List S45)) : Option (Bool × (Bool × ((ByteArray × (List S118) × ByteArray × (List S55) × (List Int) × Int × Unit × Nat × Unit) × (List (ByteArray × ByteArray)) × (List S45)))) :=
 (gdE (EC.isL ec_50 (EC.encL ec_50 s)) <|
 (gdE (EC.isL ec_118 (EC.encL ec_118 b0_1)) <|
 (gdE (EC.isL ec_55 (EC.encL ec_55 b0_3)) <|
 (gdE (EC.isL ec_5 (EC.encL ec_5 b0_4)) <|
 (gdE (EC.isL ec_45 (EC.encL ec_45 b2)) <|
 (Option.bind (qde number (EC.decL ec_50 (EC.encL ec_50 s)) (List.length (EC.encL ec_50 s) : Int) 0 b0 (EC.decL ec_118 (EC.encL ec_118 b0_1)) b0_2 (EC.decL ec_55 (EC.encL ec_55 b0_3)) (EC.decL ec_5 (EC.encL ec_5 b0_4)) b0_5 b0_6 b1 (EC.decL ec_45 (EC.encL ec_45 b2))) fun r0 =>
 (Sum.elim (fun r1 => (gdE (EC.isL ec_118 (EC.encL ec_118 r1.2.1.2.1)) <|
 (gdE (EC.isL ec_55 (EC.encL ec_55 r1.2.1.2.2.2.1)) <|
 (gdE (EC.isL ec_5 (EC.encL ec_5 r1.2.1.2.2.2.2.1)) <|
 (gdE (EC.isL ec_45 (EC.encL ec_45 r1.2.2.2)) <|
 (some (r1.1, (r1.1, ((r1.2.1.1, ((EC.decL ec_118 (EC.encL ec_118 r1.2.1.2.1)), (r1.2.1.2.2.1, ((EC.decL ec_55 (EC.encL ec_55 r1.2.1.2.2.2.1)), ((EC.decL ec_5 (EC.encL ec_5 r1.2.1.2.2.2.2.1)), (r1.2.1.2.2.2.2.2.1, ((), (r1.2.1.2.2.2.2.2.2.2.1, ())))))))), (r1.2.2.1, (EC.decL ec_45 (EC.encL ec_45 r1.2.2.2))))))))))))
 (fun r1 => (gdE (EC.isL ec_118 (EC.encL ec_118 r1.2.1.2.1)) <|
 (gdE (EC.isL ec_55 (EC.encL ec_55 r1.2.1.2.2.2.1)) <|
 (gdE (EC.isL ec_5 (EC.encL ec_5 r1.2.1.2.2.2.2.1)) <|
 (gdE (EC.isL ec_45 (EC.encL ec_45 r1.2.2.2)) <|
 (some (true, (true, ((r1.2.1.1, ((EC.decL ec_118 (EC.encL ec_118 r1.2.1.2.1)), (r1.2.1.2.2.1, ((EC.decL ec_55 (EC.encL ec_55 r1.2.1.2.2.2.1)), ((EC.decL ec_5 (EC.encL ec_5 r1.2.1.2.2.2.2.1)), (r1.2.1.2.2.2.2.2.1, ((), (r1.2.1.2.2.2.2.2.2.2.1, ())))))))), (r1.2.2.1, (EC.decL ec_45 (EC.encL ec_45 r1.2.2.2)))))))))))) r0)))))))
theorem qdd {s} {number} {b0} {b0_1} {b0_2} {b0_3} {b0_4} {b0_5} {b0_6} {b1} {b2} {r} (h : qdp s number b0 b0_1 b0_2 b0_3 b0_4 b0_5 b0_6 b1 b2 = some r) : qdb s number b0 b0_1 b0_2 b0_3 b0_4 b0_5 b0_6 b1 b2 = some r :=
 qj6 (fn := Tryz.f61) (es := q118) (hs := qkt) [qdf] (by kernel_rfl) rfl (by kernel_rfl) ⟨⟨_, rfl, rfl⟩, trivial⟩ trivial (by kernel_rfl) h
def qcx (s : (List S50)) (m_ : ByteArray) (m__1 : (List S118)) (m__2 : ByteArray) (m__3 : (List S55)) (m__4 : (List Int)) : Option ((Nat × (Int × Int)) × ((Nat × (Int × Int)) × (List S45))) :=
 (gdE (EC.isL ec_50 (EC.encL ec_50 s)) <|
 (Option.bind (qv6 (EC.decL ec_50 (EC.encL ec_50 s))) fun r0 =>
 (Option.bind (q59 r0.1 r0.2) fun r1 =>
 (brE r1
 (some ((0, (r0.1, r0.2)), ((0, (r0.1, r0.2)), (EC.decL ec_45 []))))
 (gdE (EC.isL ec_118 (EC.encL ec_118 m__1)) <|
 (Option.bind (qbs m_ (EC.decL ec_118 (EC.encL ec_118 m__1)) m__2) fun r2 =>
 (Option.bind (q59 r2.1 r2.2) fun r3 =>
 (brE r3
 (Option.bind (q5f r2.1 (-3)) fun r4 =>
 (some ((0, (r4.1, r4.2)), ((0, (r4.1, r4.2)), (EC.decL ec_45 [])))))
 (gdE (EC.isL ec_55 (EC.encL ec_55 m__3)) <|
 (gdE (EC.isL ec_5 (EC.encL ec_5 m__4)) <|
 (Option.bind (qoa (EC.decL ec_55 (EC.encL ec_55 m__3)) (EC.decL ec_5 (EC.encL ec_5 m__4))) fun r4 =>
 (Option.bind (q59 r4.1.2.1 r4.1.2.2) fun r5 =>
 (brE r5
 (Option.bind (q5f r4.1.2.1 (-2)) fun r6 =>
 (some ((0, (r6.1, r6.2)), ((0, (r6.1, r6.2)), (EC.decL ec_45 [])))))
 (gdE (EC.isL ec_50 (EC.encL ec_50 s)) <|
 (gdE (EC.isL ec_118 (EC.encL ec_118 m__1)) <|
 (gdE (EC.isL ec_55 (EC.encL ec_55 m__3)) <|
 (gdE (EC.isL ec_5 (EC.encL ec_5 m__4)) <|
 (Option.bind (qdb (EC.decL ec_50 (EC.encL ec_50 s)) 0 m_ (EC.decL ec_118 (EC.encL ec_118 m__1)) m__2 (EC.decL ec_55 (EC.encL ec_55 m__3)) (EC.decL ec_5 (EC.encL ec_5 m__4)) ((r4.1.1 : Nat) : Int) 0 [] (EC.decL ec_45 [])) fun r6 =>
 (gdE (EC.isL ec_45 (EC.encL ec_45 r6.2.2.2.2)) <|
 (Option.bind (qcp (EC.decL ec_45 (EC.encL ec_45 r6.2.2.2.2))) fun r7 =>
 (brE (!r7)
 (gdE ((((List.all [[(C.int Go.IntKind.i64 1), (C.str ⟨#[]⟩), (C.int Go.IntKind.i64 0)]] (fun (el : (List C)) => ((List.length el) == 3))) && (List.all (EC.encL ec_45 r6.2.2.2.2) (fun (el : (List C)) => ((List.length el) == 3)))) && (decide (((((r6.2.2.1.2.2.2.2.2.2.2.1 + (List.length [[(C.int Go.IntKind.i64 1), (C.str ⟨#[]⟩), (C.int Go.IntKind.i64 0)]])) + ((r6.2.2.1.2.2.2.2.2.2.2.1 + (List.length [[(C.int Go.IntKind.i64 1), (C.str ⟨#[]⟩), (C.int Go.IntKind.i64 0)]])) / 4)) + 192) * 32) ≤ 281474976710656))) && (decide ((r6.2.2.1.2.2.2.2.2.2.2.1 + (List.length [[(C.int Go.IntKind.i64 1), (C.str ⟨#[]⟩), (C.int Go.IntKind.i64 0)]])) ≤ 9223372036854775807))) <|
 (Option.bind q6g fun r8 =>
 (gdE (EC.isL ec_45 ((EC.encL ec_45 r6.2.2.2.2) ++ [[(C.int Go.IntKind.i64 1), (C.str ⟨#[]⟩), (C.int Go.IntKind.i64 0)]])) <|
 (some (((r6.2.2.1.2.2.2.2.2.2.2.1 + (List.length [[(C.int Go.IntKind.i64 1), (C.str ⟨#[]⟩), (C.int Go.IntKind.i64 0)]])), (r8.1, r8.2)), (((r6.2.2.1.2.2.2.2.2.2.2.1 + (List.length [[(C.int Go.IntKind.i64 1), (C.str ⟨#[]⟩), (C.int Go.IntKind.i64 0)]])), (r8.1, r8.2)), (EC.decL ec_45 ((EC.encL ec_45 r6.2.2.2.2) ++ [[(C.int Go.IntKind.i64 1), (C.str ⟨#[]⟩), (C.int Go.IntKind.i64 0)]]))))))))
 (Option.bind q6g fun r8 =>
 (gdE (EC.isL ec_45 (EC.encL ec_45 r6.2.2.2.2)) <|
 (some ((r6.2.2.1.2.2.2.2.2.2.2.1, (r8.1, r8.2)), ((r6.2.2.1.2.2.2.2.2.2.2.1, (r8.1, r8.2)), (EC.decL ec_45 (EC.encL ec_45 r6.2.2.2.2))))))))))))))))))))))))))))
theorem qct {s} {m_} {m__1} {m__2} {m__3} {m__4} {r} (h : qcx s m_ m__1 m__2 m__3 m__4 = some r) : qcr s m_ m__1 m__2 m__3 m__4 = some r :=
 qj6 (fn := Tryz.f37) (es := q118) (hs := qkt) [] (by kernel_rfl) rfl (by kernel_rfl) trivial trivial (by kernel_rfl) h
def qd6 : Cod (V × List B) ((Nat × (Int × Int)) × (List S45)) := (cPair (vTup (lCons (vRow 0) (lOne (vAgg (lCons (vC (cInt .i64)) (lOne (vC (cInt .i64)))))))) (lOne (bRow ec_45)))
def qd9 (s : (List S50)) (m_Envelope_From : ByteArray) (m_Envelope_To : (List S118)) (m_Envelope_Id : ByteArray) (m_Message_Fields : (List S55)) (m_Message_Body : (List Int)) : Option ((Nat × (Int × Int)) × (List S45)) := fS Tryz.prog lv X0 14 qd5 qd6 (s, (m_Envelope_From, m_Envelope_To, m_Envelope_Id, m_Message_Fields, m_Message_Body))
def qda (s : (List S50)) (m_Envelope_From : ByteArray) (m_Envelope_To : (List S118)) (m_Envelope_Id : ByteArray) (m_Message_Fields : (List S55)) (m_Message_Body : (List Int)) : Option ((Nat × (Int × Int)) × (List S45)) :=
 (gdE (EC.isL ec_50 (EC.encL ec_50 s)) <|
 (gdE (EC.isL ec_118 (EC.encL ec_118 m_Envelope_To)) <|
 (gdE (EC.isL ec_55 (EC.encL ec_55 m_Message_Fields)) <|
 (gdE (EC.isL ec_5 (EC.encL ec_5 m_Message_Body)) <|
 (Option.bind (qcr (EC.decL ec_50 (EC.encL ec_50 s)) m_Envelope_From (EC.decL ec_118 (EC.encL ec_118 m_Envelope_To)) m_Envelope_Id (EC.decL ec_55 (EC.encL ec_55 m_Message_Fields)) (EC.decL ec_5 (EC.encL ec_5 m_Message_Body))) fun r0 =>
 (gdE (EC.isL ec_45 (EC.encL ec_45 r0.2.2)) <|
 (some ((r0.1.1, (r0.1.2.1, r0.1.2.2)), (EC.decL ec_45 (EC.encL ec_45 r0.2.2))))))))))
theorem qd8 {s} {m_Envelope_From} {m_Envelope_To} {m_Envelope_Id} {m_Message_Fields} {m_Message_Body} {r} (h : qda s m_Envelope_From m_Envelope_To m_Envelope_Id m_Message_Fields m_Message_Body = some r) : qd9 s m_Envelope_From m_Envelope_To m_Envelope_Id m_Message_Fields m_Message_Body = some r :=
 qfh (es := q118) (hs := qkt) [] Tryz.func14 rfl (by kernel_rfl) rfl (by kernel_rfl) (by kernel_rfl) trivial trivial (by kernel_rfl) h
def qd7 := entS Tryz.prog lv X0 14 [] qd5 qd6 (fun x => qd9 x.1 x.2.1 x.2.2.1 x.2.2.2.1 x.2.2.2.2.1 x.2.2.2.2.2) (fun _ _ h => qfg h)
def q10i := qd7 :: q118
end
end Go.Proofs.YtokahibbkdbndaaGreatDoor
