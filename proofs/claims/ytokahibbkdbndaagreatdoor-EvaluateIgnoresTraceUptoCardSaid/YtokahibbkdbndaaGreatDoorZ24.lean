/- Functions of the program as plain functions: made by program from the machine. -/
import Derived.Test.YtokahibbkdbndaaGreatDoorH5
namespace Go.Proofs.YtokahibbkdbndaaGreatDoor
open Go.RowKit
set_option maxRecDepth 100000
noncomputable section
structure S62 where
 Rule : Int
 Outcome : Bool
 Text : ByteArray
end
end Go.Proofs.YtokahibbkdbndaaGreatDoor
namespace Go.Proofs.YtokahibbkdbndaaGreatDoor
open Go.RowKit
set_option maxRecDepth 100000
noncomputable section
def q17j := (lCons (vC (cSl ec_45)) (lOne (vC (cSl ec_45))))
def q17t := sLS [0, 1, 5] (lCons (vC (cSl ec_45)) (lCons (vC (cSl ec_45)) (lOne (vC (cInt .i64))))) lNil [] [] (by decide) (fun _ => rfl)
def q17s := sLS [0, 1, 5, 14] (lCons (vC (cSl ec_45)) (lCons (vC (cSl ec_45)) (lCons (vC (cInt .i64)) (lOne (vC cBool))))) lNil [] [] (by decide) (fun _ => rfl)
def q17r := sLS [4] (lOne (vC cBool)) lNil [] [] (by decide) (fun _ => rfl)
def q17q := oOr 1 q17r (oAt 2 q17s) (fun x => (by decide : (2 : Nat) ≠ 1))
def q17n (a : (List S45)) (b : (List S45)) (i : Int) : Option ((Bool × Unit) ⊕ (((List S45) × (List S45) × Int × Bool) × Unit)) := lS Tryz.prog lv X0 17 26 (getLoop (cdF Tryz.f17) 4) q17t q17q ((a, b, i), ())
def q17u (a : (List S45)) (b : (List S45)) (i : Int) : Option ((Bool × Unit) ⊕ (((List S45) × (List S45) × Int × Bool) × Unit)) :=
 (brE (decide (i < (List.length (EC.encL ec_45 a) : Int)))
 (gdE (decide (0 ≤ i)) <|
 (gdE ((decide ((Int.toNat i) < (List.length (EC.encL ec_45 a)))) && (isE [(K1.int Go.IntKind.i64), K1.str, (K1.int Go.IntKind.i64)] 0 (List.getD (EC.encL ec_45 a) (Int.toNat i) []))) <|
 (gdE (decide (0 ≤ i)) <|
 (gdE ((decide ((Int.toNat i) < (List.length (EC.encL ec_45 b)))) && (isE [(K1.int Go.IntKind.i64), K1.str, (K1.int Go.IntKind.i64)] 0 (List.getD (EC.encL ec_45 b) (Int.toNat i) []))) <|
 (brE (!(((intOf (List.getD (List.getD (EC.encL ec_45 a) (Int.toNat i) []) 0 C.ne)) == (intOf (List.getD (List.getD (EC.encL ec_45 b) (Int.toNat i) []) 0 C.ne))) && (((strOf (List.getD (List.getD (EC.encL ec_45 a) (Int.toNat i) []) 1 C.ne)) == (strOf (List.getD (List.getD (EC.encL ec_45 b) (Int.toNat i) []) 1 C.ne))) && (((intOf (List.getD (List.getD (EC.encL ec_45 a) (Int.toNat i) []) 2 C.ne)) == (intOf (List.getD (List.getD (EC.encL ec_45 b) (Int.toNat i) []) 2 C.ne))) && true))))
 (some (.inl (false, ())))
 (gdE (EC.isL ec_45 (EC.encL ec_45 a)) <|
 (gdE (EC.isL ec_45 (EC.encL ec_45 b)) <|
 (q17n (EC.decL ec_45 (EC.encL ec_45 a)) (EC.decL ec_45 (EC.encL ec_45 b)) (IntKind.wrap .i64 (i + 1))))))))))
 (gdE (EC.isL ec_45 (EC.encL ec_45 a)) <|
 (gdE (EC.isL ec_45 (EC.encL ec_45 b)) <|
 (some (.inr (((EC.decL ec_45 (EC.encL ec_45 a)), ((EC.decL ec_45 (EC.encL ec_45 b)), (i, false))), ()))))))
theorem q17p {a} {b} {i} {r} (h : q17u a b i = some r) : q17n a b i = some r :=
 qm5 (es := q19p) (hs := q161) [] (by kernel_rfl) trivial trivial (by kernel_rfl) h
def q17o := lentS Tryz.prog lv X0 4 (getLoop (cdF Tryz.f17) 4) q17t q17q (fun x => q17n x.1.1 x.1.2.1 x.1.2.2) (fun _ _ h => qm4 h)
def q17k : Cod (V × List B) Bool := (cFstU (cPair (vC cBool) lNil))
def q17v (a : (List S45)) (b : (List S45)) : Option Bool := fS Tryz.prog lv X0 17 q17j q17k (a, b)
def q17w (a : (List S45)) (b : (List S45)) : Option Bool :=
 (brE ((List.length (EC.encL ec_45 a) : Int) != (List.length (EC.encL ec_45 b) : Int))
 (some false)
 (gdE (EC.isL ec_45 (EC.encL ec_45 a)) <|
 (gdE (EC.isL ec_45 (EC.encL ec_45 b)) <|
 (Option.bind (q17n (EC.decL ec_45 (EC.encL ec_45 a)) (EC.decL ec_45 (EC.encL ec_45 b)) 0) fun r0 =>
 (Sum.elim (fun r1 => (some r1.1))
 (fun r1 => (some true)) r0)))))
theorem q17m {a} {b} {r} (h : q17w a b = some r) : q17v a b = some r :=
 qf2 (es := q19p) (hs := q161) [q17o] Tryz.func17 rfl (by kernel_rfl) rfl (by kernel_rfl) (by kernel_rfl) ⟨⟨_, rfl, rfl⟩, trivial⟩ trivial (by kernel_rfl) h
def q17l := entS Tryz.prog lv X0 17 [] q17j q17k (fun x => q17v x.1 x.2) (fun _ _ h => qf1 h)
def q19s := q17l :: q19p
end
end Go.Proofs.YtokahibbkdbndaaGreatDoor
namespace Go.Proofs.YtokahibbkdbndaaGreatDoor
open Go.RowKit
set_option maxRecDepth 1000000 in
theorem q15v : callD Tryz.prog (fzL lv) X0.c (execD Tryz.prog lv X0 200) 16 [] = some (.c (.bool true), []) := by kernel_rfl
def evd_ca : Cod (List V) Unit := lNil
def evd_cr : Cod (V × List B) Bool := cFstU (cPair (vC cBool) lNil)
def evdS : Option Bool := some true
theorem q15u (x : Unit) (r : Bool) (h : evdS = some r) : Call Tryz.prog lv X0 16 (evd_ca.enc x) = some (evd_cr.enc r) := by
 cases r with
 | true => exact qc q15v
 | false => unfold evdS at h; cases h
noncomputable def evd_e := entS Tryz.prog lv X0 16 [] evd_ca evd_cr (fun _ => evdS) q15u
noncomputable def tabk := evd_e :: q19s
end Go.Proofs.YtokahibbkdbndaaGreatDoor
namespace Go.Proofs.YtokahibbkdbndaaGreatDoor
open Go.RowKit
set_option maxRecDepth 100000
noncomputable section
end
end Go.Proofs.YtokahibbkdbndaaGreatDoor
namespace Go.Proofs.YtokahibbkdbndaaGreatDoor
open Go.RowKit
set_option maxRecDepth 100000
noncomputable section
def q17x := (lCons (vAgg (lCons (vC (cInt .i64)) (lCons (vC (cSl ec_48)) (lCons (vC cStr) (lCons (vC (cInt .i64)) (lCons (vC cStr) (lOne (vC (cInt .i64))))))))) (lOne (vAgg (lCons (vC (cInt .i64)) (lCons (vC (cSl ec_48)) (lCons (vC cStr) (lCons (vC (cInt .i64)) (lCons (vC cStr) (lOne (vC (cInt .i64)))))))))))
def q17y : Cod (V × List B) Bool := (cFstU (cPair (vC cBool) lNil))
def q18g (a_Kind : Int) (a_Tests : (List S48)) (a_Name : ByteArray) (a_Pattern : Int) (a_Text : ByteArray) (a_N : Int) (b_Kind : Int) (b_Tests : (List S48)) (b_Name : ByteArray) (b_Pattern : Int) (b_Text : ByteArray) (b_N : Int) : Option Bool := fS Tryz.prog lv X0 71 q17x q17y ((a_Kind, a_Tests, a_Name, a_Pattern, a_Text, a_N), (b_Kind, b_Tests, b_Name, b_Pattern, b_Text, b_N))
def q17z := entS Tryz.prog lv X0 71 [] q17x q17y (fun x => q18g x.1.1 x.1.2.1 x.1.2.2.1 x.1.2.2.2.1 x.1.2.2.2.2.1 x.1.2.2.2.2.2 x.2.1 x.2.2.1 x.2.2.2.1 x.2.2.2.2.1 x.2.2.2.2.2.1 x.2.2.2.2.2.2) (fun _ _ h => qf1 h)
def q19t := q17z :: tabk
def q18e := sLS [2, 3, 5] (lCons (vPtr 0 0) (lCons (vPtr 1 0) (lOne (vC (cInt .i64))))) (lCons (oSome (bBox (lCons (vC (cInt .i64)) (lCons (vC (cSl ec_48)) (lCons (vC cStr) (lCons (vC (cInt .i64)) (lCons (vC cStr) (lOne (vC (cInt .i64)))))))))) (lOne (oSome (bBox (lCons (vC (cInt .i64)) (lCons (vC (cSl ec_48)) (lCons (vC cStr) (lCons (vC (cInt .i64)) (lCons (vC cStr) (lOne (vC (cInt .i64)))))))))))) [false, false] [] (by decide) (fun _ => rfl)
def q18d := sLS [2, 3, 5, 52] (lCons (vPtr 0 0) (lCons (vPtr 1 0) (lCons (vC (cInt .i64)) (lOne (vC cBool))))) (lCons (oSome (bBox (lCons (vC (cInt .i64)) (lCons (vC (cSl ec_48)) (lCons (vC cStr) (lCons (vC (cInt .i64)) (lCons (vC cStr) (lOne (vC (cInt .i64)))))))))) (lOne (oSome (bBox (lCons (vC (cInt .i64)) (lCons (vC (cSl ec_48)) (lCons (vC cStr) (lCons (vC (cInt .i64)) (lCons (vC cStr) (lOne (vC (cInt .i64)))))))))))) [false, false] [] (by decide) (fun _ => rfl)
def q18c := sLS [4] (lOne (vC cBool)) lNil [] [] (by decide) (fun _ => rfl)
def q18b := oOr 1 q18c (oAt 2 q18d) (fun x => (by decide : (2 : Nat) ≠ 1))
def q188 (i : Int) (b0 : Int) (b0_1 : (List S48)) (b0_2 : ByteArray) (b0_3 : Int) (b0_4 : ByteArray) (b0_5 : Int) (b1 : Int) (b1_1 : (List S48)) (b1_2 : ByteArray) (b1_3 : Int) (b1_4 : ByteArray) (b1_5 : Int) : Option ((Bool × Unit) ⊕ ((Unit × Unit × Int × Bool) × ((Int × (List S48) × ByteArray × Int × ByteArray × Int) × (Int × (List S48) × ByteArray × Int × ByteArray × Int)))) := lS Tryz.prog lv X0 71 67 (getLoop (cdF Tryz.f71) 4) q18e q18b (((), (), i), ((b0, b0_1, b0_2, b0_3, b0_4, b0_5), (b1, b1_1, b1_2, b1_3, b1_4, b1_5)))
def q18f (i : Int) (b0 : Int) (b0_1 : (List S48)) (b0_2 : ByteArray) (b0_3 : Int) (b0_4 : ByteArray) (b0_5 : Int) (b1 : Int) (b1_1 : (List S48)) (b1_2 : ByteArray) (b1_3 : Int) (b1_4 : ByteArray) (b1_5 : Int) : Option ((Bool × Unit) ⊕ ((Unit × Unit × Int × Bool) × ((Int × (List S48) × ByteArray × Int × ByteArray × Int) × (Int × (List S48) × ByteArray × Int × ByteArray × Int)))) :=
 (brE (decide (i < (List.length (EC.encL ec_48 b0_1) : Int)))
 (gdE (decide (0 ≤ i)) <|
 (gdE ((decide ((Int.toNat i) < (List.length (EC.encL ec_48 b0_1)))) && (isE [(K1.int Go.IntKind.i64), K1.sl, K1.str, (K1.int Go.IntKind.i64), K1.str, (K1.int Go.IntKind.i64)] 0 (List.getD (EC.encL ec_48 b0_1) (Int.toNat i) []))) <|
 (gdE (decide (0 ≤ i)) <|
 (gdE ((decide ((Int.toNat i) < (List.length (EC.encL ec_48 b1_1)))) && (isE [(K1.int Go.IntKind.i64), K1.sl, K1.str, (K1.int Go.IntKind.i64), K1.str, (K1.int Go.IntKind.i64)] 0 (List.getD (EC.encL ec_48 b1_1) (Int.toNat i) []))) <|
 (gdE (EC.isL ec_48 (slOf (List.getD (List.getD (EC.encL ec_48 b0_1) (Int.toNat i) []) 1 C.ne))) <|
 (gdE (EC.isL ec_48 (slOf (List.getD (List.getD (EC.encL ec_48 b1_1) (Int.toNat i) []) 1 C.ne))) <|
 (Option.bind (q18g (intOf (List.getD (List.getD (EC.encL ec_48 b0_1) (Int.toNat i) []) 0 C.ne)) (EC.decL ec_48 (slOf (List.getD (List.getD (EC.encL ec_48 b0_1) (Int.toNat i) []) 1 C.ne))) (strOf (List.getD (List.getD (EC.encL ec_48 b0_1) (Int.toNat i) []) 2 C.ne)) (intOf (List.getD (List.getD (EC.encL ec_48 b0_1) (Int.toNat i) []) 3 C.ne)) (strOf (List.getD (List.getD (EC.encL ec_48 b0_1) (Int.toNat i) []) 4 C.ne)) (intOf (List.getD (List.getD (EC.encL ec_48 b0_1) (Int.toNat i) []) 5 C.ne)) (intOf (List.getD (List.getD (EC.encL ec_48 b1_1) (Int.toNat i) []) 0 C.ne)) (EC.decL ec_48 (slOf (List.getD (List.getD (EC.encL ec_48 b1_1) (Int.toNat i) []) 1 C.ne))) (strOf (List.getD (List.getD (EC.encL ec_48 b1_1) (Int.toNat i) []) 2 C.ne)) (intOf (List.getD (List.getD (EC.encL ec_48 b1_1) (Int.toNat i) []) 3 C.ne)) (strOf (List.getD (List.getD (EC.encL ec_48 b1_1) (Int.toNat i) []) 4 C.ne)) (intOf (List.getD (List.getD (EC.encL ec_48 b1_1) (Int.toNat i) []) 5 C.ne))) fun r0 =>
 (brE (!r0)
 (some (.inl (false, ())))
 (gdE (EC.isL ec_48 (EC.encL ec_48 b0_1)) <|
 (gdE (EC.isL ec_48 (EC.encL ec_48 b1_1)) <|
 (q188 (IntKind.wrap .i64 (i + 1)) b0 (EC.decL ec_48 (EC.encL ec_48 b0_1)) b0_2 b0_3 b0_4 b0_5 b1 (EC.decL ec_48 (EC.encL ec_48 b1_1)) b1_2 b1_3 b1_4 b1_5)))))))))))
 (gdE (EC.isL ec_48 (EC.encL ec_48 b0_1)) <|
 (gdE (EC.isL ec_48 (EC.encL ec_48 b1_1)) <|
 (some (.inr (((), ((), (i, false))), ((b0, ((EC.decL ec_48 (EC.encL ec_48 b0_1)), (b0_2, (b0_3, (b0_4, b0_5))))), (b1, ((EC.decL ec_48 (EC.encL ec_48 b1_1)), (b1_2, (b1_3, (b1_4, b1_5))))))))))))
theorem q18a {i} {b0} {b0_1} {b0_2} {b0_3} {b0_4} {b0_5} {b1} {b1_1} {b1_2} {b1_3} {b1_4} {b1_5} {r} (h : q18f i b0 b0_1 b0_2 b0_3 b0_4 b0_5 b1 b1_1 b1_2 b1_3 b1_4 b1_5 = some r) : q188 i b0 b0_1 b0_2 b0_3 b0_4 b0_5 b1 b1_1 b1_2 b1_3 b1_4 b1_5 = some r :=
 qm5 (es := q19t) (hs := q161) [] (by kernel_rfl) trivial trivial (by kernel_rfl) h
def q189 := lentS Tryz.prog lv X0 4 (getLoop (cdF Tryz.f71) 4) q18e q18b (fun x => q188 x.1.2.2 x.2.1.1 x.2.1.2.1 x.2.1.2.2.1 x.2.1.2.2.2.1 x.2.1.2.2.2.2.1 x.2.1.2.2.2.2.2 x.2.2.1 x.2.2.2.1 x.2.2.2.2.1 x.2.2.2.2.2.1 x.2.2.2.2.2.2.1 x.2.2.2.2.2.2.2) (fun _ _ h => qm4 h)
def q186 := sLS [2, 3] (lCons (vPtr 0 0) (lOne (vPtr 1 0))) (lCons (oSome (bBox (lCons (vC (cInt .i64)) (lCons (vC (cSl ec_48)) (lCons (vC cStr) (lCons (vC (cInt .i64)) (lCons (vC cStr) (lOne (vC (cInt .i64)))))))))) (lOne (oSome (bBox (lCons (vC (cInt .i64)) (lCons (vC (cSl ec_48)) (lCons (vC cStr) (lCons (vC (cInt .i64)) (lCons (vC cStr) (lOne (vC (cInt .i64)))))))))))) [false, false] [] (by decide) (fun _ => rfl)
def q185 := sLS [4] (lOne (vC cBool)) lNil [] [] (by decide) (fun _ => rfl)
def q184 := oAt 1 q185
def q181 (b0 : Int) (b0_1 : (List S48)) (b0_2 : ByteArray) (b0_3 : Int) (b0_4 : ByteArray) (b0_5 : Int) (b1 : Int) (b1_1 : (List S48)) (b1_2 : ByteArray) (b1_3 : Int) (b1_4 : ByteArray) (b1_5 : Int) : Option (Bool × Unit) := gS Tryz.prog lv X0 71 67 (getSeg (cdF Tryz.f71) 3) q186 q184 (((), ()), ((b0, b0_1, b0_2, b0_3, b0_4, b0_5), (b1, b1_1, b1_2, b1_3, b1_4, b1_5)))
def q187 (b0 : Int) (b0_1 : (List S48)) (b0_2 : ByteArray) (b0_3 : Int) (b0_4 : ByteArray) (b0_5 : Int) (b1 : Int) (b1_1 : (List S48)) (b1_2 : ByteArray) (b1_3 : Int) (b1_4 : ByteArray) (b1_5 : Int) : Option (Bool × Unit) :=
 (gdE (EC.isL ec_48 (EC.encL ec_48 b0_1)) <|
 (gdE (EC.isL ec_48 (EC.encL ec_48 b1_1)) <|
 (Option.bind (q188 0 b0 (EC.decL ec_48 (EC.encL ec_48 b0_1)) b0_2 b0_3 b0_4 b0_5 b1 (EC.decL ec_48 (EC.encL ec_48 b1_1)) b1_2 b1_3 b1_4 b1_5) fun r0 =>
 (Sum.elim (fun r1 => (some (r1.1, ())))
 (fun r1 => (some (true, ()))) r0))))
theorem q183 {b0} {b0_1} {b0_2} {b0_3} {b0_4} {b0_5} {b1} {b1_1} {b1_2} {b1_3} {b1_4} {b1_5} {r} (h : q187 b0 b0_1 b0_2 b0_3 b0_4 b0_5 b1 b1_1 b1_2 b1_3 b1_4 b1_5 = some r) : q181 b0 b0_1 b0_2 b0_3 b0_4 b0_5 b1 b1_1 b1_2 b1_3 b1_4 b1_5 = some r :=
 qih (es := q19t) (hs := q161) [q189] (by kernel_rfl) ⟨⟨_, rfl, rfl⟩, trivial⟩ trivial (by kernel_rfl) h
def q182 := gentS Tryz.prog lv X0 3 (getSeg (cdF Tryz.f71) 3) (by kernel_rfl) q186 q184 (fun x => q181 x.2.1.1 x.2.1.2.1 x.2.1.2.2.1 x.2.1.2.2.2.1 x.2.1.2.2.2.2.1 x.2.1.2.2.2.2.2 x.2.2.1 x.2.2.2.1 x.2.2.2.2.1 x.2.2.2.2.2.1 x.2.2.2.2.2.2.1 x.2.2.2.2.2.2.2) (fun _ _ h => qig h)
def q18h (a_Kind : Int) (a_Tests : (List S48)) (a_Name : ByteArray) (a_Pattern : Int) (a_Text : ByteArray) (a_N : Int) (b_Kind : Int) (b_Tests : (List S48)) (b_Name : ByteArray) (b_Pattern : Int) (b_Text : ByteArray) (b_N : Int) : Option Bool :=
 (brE ((a_Kind != b_Kind) == false)
 (brE ((!((ByteArray.toList a_Name) == (ByteArray.toList b_Name))) == false)
 (brE ((a_Pattern != b_Pattern) == false)
 (brE ((!((ByteArray.toList a_Text) == (ByteArray.toList b_Text))) == false)
 (brE ((a_N != b_N) == false)
 (brE ((List.length (EC.encL ec_48 a_Tests) : Int) != (List.length (EC.encL ec_48 b_Tests) : Int))
 (some false)
 (gdE (EC.isL ec_48 (EC.encL ec_48 a_Tests)) <|
 (gdE (EC.isL ec_48 (EC.encL ec_48 b_Tests)) <|
 (Option.bind (q181 a_Kind (EC.decL ec_48 (EC.encL ec_48 a_Tests)) a_Name a_Pattern a_Text a_N b_Kind (EC.decL ec_48 (EC.encL ec_48 b_Tests)) b_Name b_Pattern b_Text b_N) fun r0 =>
 (some r0.1)))))
 (some false))
 (some false))
 (some false))
 (some false))
 (some false))
theorem q180 {a_Kind} {a_Tests} {a_Name} {a_Pattern} {a_Text} {a_N} {b_Kind} {b_Tests} {b_Name} {b_Pattern} {b_Text} {b_N} {r} (h : q18h a_Kind a_Tests a_Name a_Pattern a_Text a_N b_Kind b_Tests b_Name b_Pattern b_Text b_N = some r) : q18g a_Kind a_Tests a_Name a_Pattern a_Text a_N b_Kind b_Tests b_Name b_Pattern b_Text b_N = some r :=
 qf2 (es := q19t) (hs := q161) [q182] Tryz.func71 rfl (by kernel_rfl) rfl (by kernel_rfl) (by kernel_rfl) trivial ⟨⟨_, rfl, rfl⟩, trivial⟩ (by kernel_rfl) h
def q18v := (lCons (vC (cSl ec_48)) (lOne (vAgg (lCons (vC (cInt .i64)) (lCons (vC (cSl ec_48)) (lCons (vC cStr) (lCons (vC (cInt .i64)) (lCons (vC cStr) (lOne (vC (cInt .i64)))))))))))
def q18w : Cod (V × List B) (List S48) := (cFstU (cPair (vC (cSl ec_48)) lNil))
def q19e (l : (List S48)) (t_Kind : Int) (t_Tests : (List S48)) (t_Name : ByteArray) (t_Pattern : Int) (t_Text : ByteArray) (t_N : Int) : Option (List S48) := fS Tryz.prog lv X0 46 q18v q18w (l, (t_Kind, t_Tests, t_Name, t_Pattern, t_Text, t_N))
def q18x := entS Tryz.prog lv X0 46 [] q18v q18w (fun x => q19e x.1 x.2.1 x.2.2.1 x.2.2.2.1 x.2.2.2.2.1 x.2.2.2.2.2.1 x.2.2.2.2.2.2) (fun _ _ h => qf1 h)
def q19u := q18x :: q19t
def q194 := sLS [0, 3, 5] (lCons (vC (cSl ec_48)) (lCons (vPtr 0 0) (lOne (vC (cInt .i64))))) (lOne (oSome (bBox (lCons (vC (cInt .i64)) (lCons (vC (cSl ec_48)) (lCons (vC cStr) (lCons (vC (cInt .i64)) (lCons (vC cStr) (lOne (vC (cInt .i64))))))))))) [false] [] (by decide) (fun _ => rfl)
def q193 := sLS [0, 3, 5, 14] (lCons (vC (cSl ec_48)) (lCons (vPtr 0 0) (lCons (vC (cInt .i64)) (lOne (vC cBool))))) (lOne (oSome (bBox (lCons (vC (cInt .i64)) (lCons (vC (cSl ec_48)) (lCons (vC cStr) (lCons (vC (cInt .i64)) (lCons (vC cStr) (lOne (vC (cInt .i64))))))))))) [false] [] (by decide) (fun _ => rfl)
def q192 := oAt 2 q193
def q18z (l : (List S48)) (i : Int) (b0 : Int) (b0_1 : (List S48)) (b0_2 : ByteArray) (b0_3 : Int) (b0_4 : ByteArray) (b0_5 : Int) : Option (((List S48) × Unit × Int × Bool) × (Int × (List S48) × ByteArray × Int × ByteArray × Int)) := lS Tryz.prog lv X0 46 48 (getLoop (cdF Tryz.f46) 3) q194 q192 ((l, (), i), (b0, b0_1, b0_2, b0_3, b0_4, b0_5))
def q195 (l : (List S48)) (i : Int) (b0 : Int) (b0_1 : (List S48)) (b0_2 : ByteArray) (b0_3 : Int) (b0_4 : ByteArray) (b0_5 : Int) : Option (((List S48) × Unit × Int × Bool) × (Int × (List S48) × ByteArray × Int × ByteArray × Int)) :=
 (brE (decide (i < (List.length (EC.encL ec_48 b0_1) : Int)))
 (gdE (decide (0 ≤ i)) <|
 (gdE ((decide ((Int.toNat i) < (List.length (EC.encL ec_48 b0_1)))) && (isE [(K1.int Go.IntKind.i64), K1.sl, K1.str, (K1.int Go.IntKind.i64), K1.str, (K1.int Go.IntKind.i64)] 0 (List.getD (EC.encL ec_48 b0_1) (Int.toNat i) []))) <|
 (gdE (EC.isL ec_48 (EC.encL ec_48 l)) <|
 (gdE (EC.isL ec_48 (slOf (List.getD (List.getD (EC.encL ec_48 b0_1) (Int.toNat i) []) 1 C.ne))) <|
 (Option.bind (q19e (EC.decL ec_48 (EC.encL ec_48 l)) (intOf (List.getD (List.getD (EC.encL ec_48 b0_1) (Int.toNat i) []) 0 C.ne)) (EC.decL ec_48 (slOf (List.getD (List.getD (EC.encL ec_48 b0_1) (Int.toNat i) []) 1 C.ne))) (strOf (List.getD (List.getD (EC.encL ec_48 b0_1) (Int.toNat i) []) 2 C.ne)) (intOf (List.getD (List.getD (EC.encL ec_48 b0_1) (Int.toNat i) []) 3 C.ne)) (strOf (List.getD (List.getD (EC.encL ec_48 b0_1) (Int.toNat i) []) 4 C.ne)) (intOf (List.getD (List.getD (EC.encL ec_48 b0_1) (Int.toNat i) []) 5 C.ne))) fun r0 =>
 (gdE (EC.isL ec_48 (EC.encL ec_48 r0)) <|
 (gdE (EC.isL ec_48 (EC.encL ec_48 b0_1)) <|
 (q18z (EC.decL ec_48 (EC.encL ec_48 r0)) (IntKind.wrap .i64 (i + 1)) b0 (EC.decL ec_48 (EC.encL ec_48 b0_1)) b0_2 b0_3 b0_4 b0_5))))))))
 (gdE (EC.isL ec_48 (EC.encL ec_48 l)) <|
 (gdE (EC.isL ec_48 (EC.encL ec_48 b0_1)) <|
 (some (((EC.decL ec_48 (EC.encL ec_48 l)), ((), (i, false))), (b0, ((EC.decL ec_48 (EC.encL ec_48 b0_1)), (b0_2, (b0_3, (b0_4, b0_5))))))))))
theorem q191 {l} {i} {b0} {b0_1} {b0_2} {b0_3} {b0_4} {b0_5} {r} (h : q195 l i b0 b0_1 b0_2 b0_3 b0_4 b0_5 = some r) : q18z l i b0 b0_1 b0_2 b0_3 b0_4 b0_5 = some r :=
 qm5 (es := q19u) (hs := q161) [] (by kernel_rfl) trivial trivial (by kernel_rfl) h
def q190 := lentS Tryz.prog lv X0 3 (getLoop (cdF Tryz.f46) 3) q194 q192 (fun x => q18z x.1.1 x.1.2.2 x.2.1 x.2.2.1 x.2.2.2.1 x.2.2.2.2.1 x.2.2.2.2.2.1 x.2.2.2.2.2.2) (fun _ _ h => qm4 h)
def q19c := sLS [0, 3, 6] (lCons (vC (cSl ec_48)) (lCons (vPtr 0 0) (lOne (vC (cInt .i64))))) (lOne (oSome (bBox (lCons (vC (cInt .i64)) (lCons (vC (cSl ec_48)) (lCons (vC cStr) (lCons (vC (cInt .i64)) (lCons (vC cStr) (lOne (vC (cInt .i64))))))))))) [false] [] (by decide) (fun _ => rfl)
def q19b := sLS [0, 3, 6, 28] (lCons (vC (cSl ec_48)) (lCons (vPtr 0 0) (lCons (vC (cInt .i64)) (lOne (vC cBool))))) (lOne (oSome (bBox (lCons (vC (cInt .i64)) (lCons (vC (cSl ec_48)) (lCons (vC cStr) (lCons (vC (cInt .i64)) (lCons (vC cStr) (lOne (vC (cInt .i64))))))))))) [false] [] (by decide) (fun _ => rfl)
def q19a := sLS [4] (lOne (vC (cSl ec_48))) lNil [] [] (by decide) (fun _ => rfl)
def q199 := oOr 1 q19a (oAt 4 q19b) (fun x => (by decide : (4 : Nat) ≠ 1))
def q196 (l : (List S48)) (i : Int) (b0 : Int) (b0_1 : (List S48)) (b0_2 : ByteArray) (b0_3 : Int) (b0_4 : ByteArray) (b0_5 : Int) : Option (((List S48) × Unit) ⊕ (((List S48) × Unit × Int × Bool) × (Int × (List S48) × ByteArray × Int × ByteArray × Int))) := lS Tryz.prog lv X0 46 48 (getLoop (cdF Tryz.f46) 8) q19c q199 ((l, (), i), (b0, b0_1, b0_2, b0_3, b0_4, b0_5))
def q19d (l : (List S48)) (i : Int) (b0 : Int) (b0_1 : (List S48)) (b0_2 : ByteArray) (b0_3 : Int) (b0_4 : ByteArray) (b0_5 : Int) : Option (((List S48) × Unit) ⊕ (((List S48) × Unit × Int × Bool) × (Int × (List S48) × ByteArray × Int × ByteArray × Int))) :=
 (brE (decide (i < (List.length (EC.encL ec_48 l) : Int)))
 (gdE (decide (0 ≤ i)) <|
 (gdE ((decide ((Int.toNat i) < (List.length (EC.encL ec_48 l)))) && (isE [(K1.int Go.IntKind.i64), K1.sl, K1.str, (K1.int Go.IntKind.i64), K1.str, (K1.int Go.IntKind.i64)] 0 (List.getD (EC.encL ec_48 l) (Int.toNat i) []))) <|
 (gdE (EC.isL ec_48 (slOf (List.getD (List.getD (EC.encL ec_48 l) (Int.toNat i) []) 1 C.ne))) <|
 (gdE (EC.isL ec_48 (EC.encL ec_48 b0_1)) <|
 (Option.bind (q18g (intOf (List.getD (List.getD (EC.encL ec_48 l) (Int.toNat i) []) 0 C.ne)) (EC.decL ec_48 (slOf (List.getD (List.getD (EC.encL ec_48 l) (Int.toNat i) []) 1 C.ne))) (strOf (List.getD (List.getD (EC.encL ec_48 l) (Int.toNat i) []) 2 C.ne)) (intOf (List.getD (List.getD (EC.encL ec_48 l) (Int.toNat i) []) 3 C.ne)) (strOf (List.getD (List.getD (EC.encL ec_48 l) (Int.toNat i) []) 4 C.ne)) (intOf (List.getD (List.getD (EC.encL ec_48 l) (Int.toNat i) []) 5 C.ne)) b0 (EC.decL ec_48 (EC.encL ec_48 b0_1)) b0_2 b0_3 b0_4 b0_5) fun r0 =>
 (brE r0
 (gdE (EC.isL ec_48 (EC.encL ec_48 l)) <|
 (some (.inl ((EC.decL ec_48 (EC.encL ec_48 l)), ()))))
 (gdE (EC.isL ec_48 (EC.encL ec_48 l)) <|
 (gdE (EC.isL ec_48 (EC.encL ec_48 b0_1)) <|
 (q196 (EC.decL ec_48 (EC.encL ec_48 l)) (IntKind.wrap .i64 (i + 1)) b0 (EC.decL ec_48 (EC.encL ec_48 b0_1)) b0_2 b0_3 b0_4 b0_5)))))))))
 (gdE (EC.isL ec_48 (EC.encL ec_48 l)) <|
 (gdE (EC.isL ec_48 (EC.encL ec_48 b0_1)) <|
 (some (.inr (((EC.decL ec_48 (EC.encL ec_48 l)), ((), (i, false))), (b0, ((EC.decL ec_48 (EC.encL ec_48 b0_1)), (b0_2, (b0_3, (b0_4, b0_5)))))))))))
theorem q198 {l} {i} {b0} {b0_1} {b0_2} {b0_3} {b0_4} {b0_5} {r} (h : q19d l i b0 b0_1 b0_2 b0_3 b0_4 b0_5 = some r) : q196 l i b0 b0_1 b0_2 b0_3 b0_4 b0_5 = some r :=
 qm5 (es := q19u) (hs := q161) [] (by kernel_rfl) trivial trivial (by kernel_rfl) h
def q197 := lentS Tryz.prog lv X0 8 (getLoop (cdF Tryz.f46) 8) q19c q199 (fun x => q196 x.1.1 x.1.2.2 x.2.1 x.2.2.1 x.2.2.2.1 x.2.2.2.2.1 x.2.2.2.2.2.1 x.2.2.2.2.2.2) (fun _ _ h => qm4 h)
def q19f (l : (List S48)) (t_Kind : Int) (t_Tests : (List S48)) (t_Name : ByteArray) (t_Pattern : Int) (t_Text : ByteArray) (t_N : Int) : Option (List S48) :=
 (Option.bind (qs4 t_Kind 2 4) fun r0 =>
 (brE r0
 (gdE (EC.isL ec_48 (EC.encL ec_48 l)) <|
 (gdE (EC.isL ec_48 (EC.encL ec_48 t_Tests)) <|
 (Option.bind (q18z (EC.decL ec_48 (EC.encL ec_48 l)) 0 t_Kind (EC.decL ec_48 (EC.encL ec_48 t_Tests)) t_Name t_Pattern t_Text t_N) fun r1 =>
 (gdE (EC.isL ec_48 (EC.encL ec_48 r1.1.1)) <|
 (some (EC.decL ec_48 (EC.encL ec_48 r1.1.1)))))))
 (gdE (EC.isL ec_48 (EC.encL ec_48 l)) <|
 (gdE (EC.isL ec_48 (EC.encL ec_48 t_Tests)) <|
 (Option.bind (q196 (EC.decL ec_48 (EC.encL ec_48 l)) 0 t_Kind (EC.decL ec_48 (EC.encL ec_48 t_Tests)) t_Name t_Pattern t_Text t_N) fun r1 =>
 (Sum.elim (fun r2 => (gdE (EC.isL ec_48 (EC.encL ec_48 r2.1)) <|
 (some (EC.decL ec_48 (EC.encL ec_48 r2.1)))))
 (fun r2 => (brE (r2.2.1 == 1)
 (gdE (EC.isL ec_48 (EC.encL ec_48 r2.1.1)) <|
 (some (EC.decL ec_48 (EC.encL ec_48 r2.1.1))))
 (gdE (((List.all (EC.encL ec_48 r2.1.1) (fun (el : (List C)) => ((List.length el) == 6))) && (decide (((((List.length (EC.encL ec_48 r2.1.1)) + ((List.length (EC.encL ec_48 r2.1.1)) / 4)) + 192) * 80) ≤ 281474976710656))) && (decide ((List.length (EC.encL ec_48 r2.1.1)) ≤ 9223372036854775807))) <|
 (gdE ((((List.all [[(C.int Go.IntKind.i64 r2.2.1), (C.sl (EC.encL ec_48 r2.2.2.1)), (C.str r2.2.2.2.1), (C.int Go.IntKind.i64 r2.2.2.2.2.1), (C.str r2.2.2.2.2.2.1), (C.int Go.IntKind.i64 r2.2.2.2.2.2.2)]] (fun (el : (List C)) => ((List.length el) == 6))) && (List.all (EC.encL ec_48 r2.1.1) (fun (el : (List C)) => ((List.length el) == 6)))) && (decide ((((((List.length (EC.encL ec_48 r2.1.1)) + (List.length [[(C.int Go.IntKind.i64 r2.2.1), (C.sl (EC.encL ec_48 r2.2.2.1)), (C.str r2.2.2.2.1), (C.int Go.IntKind.i64 r2.2.2.2.2.1), (C.str r2.2.2.2.2.2.1), (C.int Go.IntKind.i64 r2.2.2.2.2.2.2)]])) + (((List.length (EC.encL ec_48 r2.1.1)) + (List.length [[(C.int Go.IntKind.i64 r2.2.1), (C.sl (EC.encL ec_48 r2.2.2.1)), (C.str r2.2.2.2.1), (C.int Go.IntKind.i64 r2.2.2.2.2.1), (C.str r2.2.2.2.2.2.1), (C.int Go.IntKind.i64 r2.2.2.2.2.2.2)]])) / 4)) + 192) * 80) ≤ 281474976710656))) && (decide (((List.length (EC.encL ec_48 r2.1.1)) + (List.length [[(C.int Go.IntKind.i64 r2.2.1), (C.sl (EC.encL ec_48 r2.2.2.1)), (C.str r2.2.2.2.1), (C.int Go.IntKind.i64 r2.2.2.2.2.1), (C.str r2.2.2.2.2.2.1), (C.int Go.IntKind.i64 r2.2.2.2.2.2.2)]])) ≤ 9223372036854775807))) <|
 (gdE (EC.isL ec_48 ((EC.encL ec_48 r2.1.1) ++ [[(C.int Go.IntKind.i64 r2.2.1), (C.sl (EC.encL ec_48 r2.2.2.1)), (C.str r2.2.2.2.1), (C.int Go.IntKind.i64 r2.2.2.2.2.1), (C.str r2.2.2.2.2.2.1), (C.int Go.IntKind.i64 r2.2.2.2.2.2.2)]])) <|
 (some (EC.decL ec_48 ((EC.encL ec_48 r2.1.1) ++ [[(C.int Go.IntKind.i64 r2.2.1), (C.sl (EC.encL ec_48 r2.2.2.1)), (C.str r2.2.2.2.1), (C.int Go.IntKind.i64 r2.2.2.2.2.1), (C.str r2.2.2.2.2.2.1), (C.int Go.IntKind.i64 r2.2.2.2.2.2.2)]])))))))) r1))))))
theorem q18y {l} {t_Kind} {t_Tests} {t_Name} {t_Pattern} {t_Text} {t_N} {r} (h : q19f l t_Kind t_Tests t_Name t_Pattern t_Text t_N = some r) : q19e l t_Kind t_Tests t_Name t_Pattern t_Text t_N = some r :=
 qf2 (es := q19u) (hs := q161) [q190, q197] Tryz.func46 rfl (by kernel_rfl) rfl (by kernel_rfl) (by kernel_rfl) ⟨⟨_, rfl, rfl⟩, ⟨_, rfl, rfl⟩, trivial⟩ trivial (by kernel_rfl) h
def q18i := (lCons (vC (cSl ec_48)) (lOne (vC (cSl ec_50))))
def q18j : Cod (V × List B) (List S48) := (cFstU (cPair (vC (cSl ec_48)) lNil))
def q18t (l : (List S48)) (s : (List S50)) : Option (List S48) := fS Tryz.prog lv X0 20 q18i q18j (l, s)
def q18k := entS Tryz.prog lv X0 20 [] q18i q18j (fun x => q18t x.1 x.2) (fun _ _ h => qf1 h)
def q19v := q18k :: q19u
def q18r := sLS [0, 1, 5] (lCons (vC (cSl ec_48)) (lCons (vC (cSl ec_50)) (lOne (vC (cInt .i64))))) lNil [] [] (by decide) (fun _ => rfl)
def q18q := sLS [0, 1, 5, 9] (lCons (vC (cSl ec_48)) (lCons (vC (cSl ec_50)) (lCons (vC (cInt .i64)) (lOne (vC cBool))))) lNil [] [] (by decide) (fun _ => rfl)
def q18p := oAt 2 q18q
def q18m (l : (List S48)) (s : (List S50)) (i : Int) : Option (((List S48) × (List S50) × Int × Bool) × Unit) := lS Tryz.prog lv X0 20 40 (getLoop (cdF Tryz.f20) 2) q18r q18p ((l, s, i), ())
def q18s (l : (List S48)) (s : (List S50)) (i : Int) : Option (((List S48) × (List S50) × Int × Bool) × Unit) :=
 (brE (decide (i < (List.length (EC.encL ec_50 s) : Int)))
 (gdE (decide (0 ≤ i)) <|
 (gdE ((decide ((Int.toNat i) < (List.length (EC.encL ec_50 s)))) && (isE [(K1.int Go.IntKind.i64), (K1.int Go.IntKind.i64), K1.sl, K1.str, (K1.int Go.IntKind.i64), K1.str, (K1.int Go.IntKind.i64), K1.sl, K1.sl, (K1.int Go.IntKind.i64), K1.str, K1.str, (K1.int Go.IntKind.i64)] 0 (List.getD (EC.encL ec_50 s) (Int.toNat i) []))) <|
 (brE ((intOf (List.getD (List.getD (EC.encL ec_50 s) (Int.toNat i) []) 0 C.ne)) == 1)
 (gdE (decide (0 ≤ i)) <|
 (gdE ((decide ((Int.toNat i) < (List.length (EC.encL ec_50 s)))) && (isE [(K1.int Go.IntKind.i64), (K1.int Go.IntKind.i64), K1.sl, K1.str, (K1.int Go.IntKind.i64), K1.str, (K1.int Go.IntKind.i64), K1.sl, K1.sl, (K1.int Go.IntKind.i64), K1.str, K1.str, (K1.int Go.IntKind.i64)] 0 (List.getD (EC.encL ec_50 s) (Int.toNat i) []))) <|
 (gdE (EC.isL ec_48 (EC.encL ec_48 l)) <|
 (gdE (EC.isL ec_48 (slOf (List.getD (List.getD (EC.encL ec_50 s) (Int.toNat i) []) 2 C.ne))) <|
 (Option.bind (q19e (EC.decL ec_48 (EC.encL ec_48 l)) (intOf (List.getD (List.getD (EC.encL ec_50 s) (Int.toNat i) []) 1 C.ne)) (EC.decL ec_48 (slOf (List.getD (List.getD (EC.encL ec_50 s) (Int.toNat i) []) 2 C.ne))) (strOf (List.getD (List.getD (EC.encL ec_50 s) (Int.toNat i) []) 3 C.ne)) (intOf (List.getD (List.getD (EC.encL ec_50 s) (Int.toNat i) []) 4 C.ne)) (strOf (List.getD (List.getD (EC.encL ec_50 s) (Int.toNat i) []) 5 C.ne)) (intOf (List.getD (List.getD (EC.encL ec_50 s) (Int.toNat i) []) 6 C.ne))) fun r0 =>
 (gdE (decide (0 ≤ i)) <|
 (gdE ((decide ((Int.toNat i) < (List.length (EC.encL ec_50 s)))) && (isE [(K1.int Go.IntKind.i64), (K1.int Go.IntKind.i64), K1.sl, K1.str, (K1.int Go.IntKind.i64), K1.str, (K1.int Go.IntKind.i64), K1.sl, K1.sl, (K1.int Go.IntKind.i64), K1.str, K1.str, (K1.int Go.IntKind.i64)] 0 (List.getD (EC.encL ec_50 s) (Int.toNat i) []))) <|
 (gdE (EC.isL ec_48 (EC.encL ec_48 r0)) <|
 (gdE (EC.isL ec_50 (slOf (List.getD (List.getD (EC.encL ec_50 s) (Int.toNat i) []) 7 C.ne))) <|
 (Option.bind (q18t (EC.decL ec_48 (EC.encL ec_48 r0)) (EC.decL ec_50 (slOf (List.getD (List.getD (EC.encL ec_50 s) (Int.toNat i) []) 7 C.ne)))) fun r1 =>
 (gdE (decide (0 ≤ i)) <|
 (gdE ((decide ((Int.toNat i) < (List.length (EC.encL ec_50 s)))) && (isE [(K1.int Go.IntKind.i64), (K1.int Go.IntKind.i64), K1.sl, K1.str, (K1.int Go.IntKind.i64), K1.str, (K1.int Go.IntKind.i64), K1.sl, K1.sl, (K1.int Go.IntKind.i64), K1.str, K1.str, (K1.int Go.IntKind.i64)] 0 (List.getD (EC.encL ec_50 s) (Int.toNat i) []))) <|
 (gdE (EC.isL ec_48 (EC.encL ec_48 r1)) <|
 (gdE (EC.isL ec_50 (slOf (List.getD (List.getD (EC.encL ec_50 s) (Int.toNat i) []) 8 C.ne))) <|
 (Option.bind (q18t (EC.decL ec_48 (EC.encL ec_48 r1)) (EC.decL ec_50 (slOf (List.getD (List.getD (EC.encL ec_50 s) (Int.toNat i) []) 8 C.ne)))) fun r2 =>
 (gdE (EC.isL ec_48 (EC.encL ec_48 r2)) <|
 (gdE (EC.isL ec_50 (EC.encL ec_50 s)) <|
 (q18m (EC.decL ec_48 (EC.encL ec_48 r2)) (EC.decL ec_50 (EC.encL ec_50 s)) (IntKind.wrap .i64 (i + 1))))))))))))))))))))
 (gdE (decide (0 ≤ i)) <|
 (gdE ((decide ((Int.toNat i) < (List.length (EC.encL ec_50 s)))) && (isE [(K1.int Go.IntKind.i64), (K1.int Go.IntKind.i64), K1.sl, K1.str, (K1.int Go.IntKind.i64), K1.str, (K1.int Go.IntKind.i64), K1.sl, K1.sl, (K1.int Go.IntKind.i64), K1.str, K1.str, (K1.int Go.IntKind.i64)] 0 (List.getD (EC.encL ec_50 s) (Int.toNat i) []))) <|
 (gdE (EC.isL ec_48 (EC.encL ec_48 l)) <|
 (gdE (EC.isL ec_50 (slOf (List.getD (List.getD (EC.encL ec_50 s) (Int.toNat i) []) 7 C.ne))) <|
 (Option.bind (q18t (EC.decL ec_48 (EC.encL ec_48 l)) (EC.decL ec_50 (slOf (List.getD (List.getD (EC.encL ec_50 s) (Int.toNat i) []) 7 C.ne)))) fun r0 =>
 (gdE (decide (0 ≤ i)) <|
 (gdE ((decide ((Int.toNat i) < (List.length (EC.encL ec_50 s)))) && (isE [(K1.int Go.IntKind.i64), (K1.int Go.IntKind.i64), K1.sl, K1.str, (K1.int Go.IntKind.i64), K1.str, (K1.int Go.IntKind.i64), K1.sl, K1.sl, (K1.int Go.IntKind.i64), K1.str, K1.str, (K1.int Go.IntKind.i64)] 0 (List.getD (EC.encL ec_50 s) (Int.toNat i) []))) <|
 (gdE (EC.isL ec_48 (EC.encL ec_48 r0)) <|
 (gdE (EC.isL ec_50 (slOf (List.getD (List.getD (EC.encL ec_50 s) (Int.toNat i) []) 8 C.ne))) <|
 (Option.bind (q18t (EC.decL ec_48 (EC.encL ec_48 r0)) (EC.decL ec_50 (slOf (List.getD (List.getD (EC.encL ec_50 s) (Int.toNat i) []) 8 C.ne)))) fun r1 =>
 (gdE (EC.isL ec_48 (EC.encL ec_48 r1)) <|
 (gdE (EC.isL ec_50 (EC.encL ec_50 s)) <|
 (q18m (EC.decL ec_48 (EC.encL ec_48 r1)) (EC.decL ec_50 (EC.encL ec_50 s)) (IntKind.wrap .i64 (i + 1))))))))))))))))))
 (gdE (EC.isL ec_48 (EC.encL ec_48 l)) <|
 (gdE (EC.isL ec_50 (EC.encL ec_50 s)) <|
 (some (((EC.decL ec_48 (EC.encL ec_48 l)), ((EC.decL ec_50 (EC.encL ec_50 s)), (i, false))), ())))))
theorem q18o {l} {s} {i} {r} (h : q18s l s i = some r) : q18m l s i = some r :=
 qm5 (es := q19v) (hs := q161) [] (by kernel_rfl) trivial trivial (by kernel_rfl) h
def q18n := lentS Tryz.prog lv X0 2 (getLoop (cdF Tryz.f20) 2) q18r q18p (fun x => q18m x.1.1 x.1.2.1 x.1.2.2) (fun _ _ h => qm4 h)
def q18u (l : (List S48)) (s : (List S50)) : Option (List S48) :=
 (gdE (EC.isL ec_48 (EC.encL ec_48 l)) <|
 (gdE (EC.isL ec_50 (EC.encL ec_50 s)) <|
 (Option.bind (q18m (EC.decL ec_48 (EC.encL ec_48 l)) (EC.decL ec_50 (EC.encL ec_50 s)) 0) fun r0 =>
 (gdE (EC.isL ec_48 (EC.encL ec_48 r0.1.1)) <|
 (some (EC.decL ec_48 (EC.encL ec_48 r0.1.1)))))))
theorem q18l {l} {s} {r} (h : q18u l s = some r) : q18t l s = some r :=
 qf2 (es := q19v) (hs := q161) [q18n] Tryz.func20 rfl (by kernel_rfl) rfl (by kernel_rfl) (by kernel_rfl) ⟨⟨_, rfl, rfl⟩, trivial⟩ trivial (by kernel_rfl) h
end
end Go.Proofs.YtokahibbkdbndaaGreatDoor
