/- Functions of the program as plain functions: made by program from the machine. -/
import Derived.Test.YtokahibbkdbndaaGreatDoorZ18
namespace Go.Proofs.YtokahibbkdbndaaGreatDoor
open Go.RowKit
set_option maxRecDepth 100000
noncomputable section
def q5b := (lCons (vC (cInt .i64)) (lOne (vC (cInt .i64))))
def q5c : Cod (V × List B) (Int × Int) := (cFstU (cPair (vAgg (lCons (vC (cInt .i64)) (lOne (vC (cInt .i64))))) lNil))
def q5f (code : Int) (at_ : Int) : Option (Int × Int) := fS Tryz.prog lv X0 57 q5b q5c (code, at_)
def q5g (code : Int) (at_ : Int) : Option (Int × Int) :=
 (some (code, at_))
theorem q5e {code} {at_} {r} (h : q5g code at_ = some r) : q5f code at_ = some r :=
 qfh (es := tab0) (hs := []) [] Tryz.func57 rfl (by kernel_rfl) rfl (by kernel_rfl) (by kernel_rfl) trivial trivial (by kernel_rfl) h
def q5d := entS Tryz.prog lv X0 57 [] q5b q5c (fun x => q5f x.1 x.2) (fun _ _ h => qfg h)
def q102 := q5d :: tab0
def q6c : Cod (List V) Unit := lNil
def q6d : Cod (V × List B) (Int × Int) := (cFstU (cPair (vAgg (lCons (vC (cInt .i64)) (lOne (vC (cInt .i64))))) lNil))
def q6g  : Option (Int × Int) := fS Tryz.prog lv X0 59 q6c q6d ()
def q6h  : Option (Int × Int) :=
 (some (0, 0))
theorem q6f {r} (h : q6h  = some r) : q6g  = some r :=
 qfh (es := q102) (hs := []) [] Tryz.func59 rfl (by kernel_rfl) rfl (by kernel_rfl) (by kernel_rfl) trivial trivial (by kernel_rfl) h
def q6e := entS Tryz.prog lv X0 59 [] q6c q6d (fun x => q6g ) (fun _ _ h => qfg h)
def q107 := q6e :: q102
def q55 := (lOne (vAgg (lCons (vC (cInt .i64)) (lOne (vC (cInt .i64))))))
def q56 : Cod (V × List B) Bool := (cFstU (cPair (vC cBool) lNil))
def q59 (f_Code : Int) (f_Index : Int) : Option Bool := fS Tryz.prog lv X0 49 q55 q56 (f_Code, f_Index)
def q5a (f_Code : Int) (f_Index : Int) : Option Bool :=
 (some (f_Code != 0))
theorem q58 {f_Code} {f_Index} {r} (h : q5a f_Code f_Index = some r) : q59 f_Code f_Index = some r :=
 qfh (es := q107) (hs := []) [] Tryz.func49 rfl (by kernel_rfl) rfl (by kernel_rfl) (by kernel_rfl) trivial trivial (by kernel_rfl) h
def q57 := entS Tryz.prog lv X0 49 [] q55 q56 (fun x => q59 x.1 x.2) (fun _ _ h => qfg h)
def q101 := q57 :: q107
def q5h := (lOne (vC (cInt .u8)))
def q5i : Cod (V × List B) Bool := (cFstU (cPair (vC cBool) lNil))
def q5l (c : Int) : Option Bool := fS Tryz.prog lv X0 86 q5h q5i c
def q5m (c : Int) : Option Bool :=
 (brE ((decide (c ≥ 97)) == true)
 (brE ((decide (c ≤ 122)) == false)
 (brE ((decide (c ≥ 65)) == true)
 (brE ((decide (c ≤ 90)) == false)
 (brE ((decide (c ≥ 48)) == true)
 (some (decide (c ≤ 57)))
 (some false))
 (some true))
 (brE ((decide (c ≥ 48)) == true)
 (some (decide (c ≤ 57)))
 (some false)))
 (some true))
 (brE ((decide (c ≥ 65)) == true)
 (brE ((decide (c ≤ 90)) == false)
 (brE ((decide (c ≥ 48)) == true)
 (some (decide (c ≤ 57)))
 (some false))
 (some true))
 (brE ((decide (c ≥ 48)) == true)
 (some (decide (c ≤ 57)))
 (some false))))
theorem q5k {c} {r} (h : q5m c = some r) : q5l c = some r :=
 qfh (es := q101) (hs := []) [] Tryz.func86 rfl (by kernel_rfl) rfl (by kernel_rfl) (by kernel_rfl) trivial trivial (by kernel_rfl) h
def q5j := entS Tryz.prog lv X0 86 [] q5h q5i (fun x => q5l x) (fun _ _ h => qfg h)
def q103 := q5j :: q101
def q4l := (lOne (vC (cInt .u8)))
def q4m : Cod (V × List B) Bool := (cFstU (cPair (vC cBool) lNil))
def q4p (c : Int) : Option Bool := fS Tryz.prog lv X0 146 q4l q4m c
def q4q (c : Int) : Option Bool :=
 (brE ((c == 32) == false)
 (some (c == 9))
 (some true))
theorem q4o {c} {r} (h : q4q c = some r) : q4p c = some r :=
 qfh (es := q103) (hs := []) [] Tryz.func146 rfl (by kernel_rfl) rfl (by kernel_rfl) (by kernel_rfl) trivial trivial (by kernel_rfl) h
def q4n := entS Tryz.prog lv X0 146 [] q4l q4m (fun x => q4p x) (fun _ _ h => qfg h)
def qzz := q4n :: q103
def ec_5 : EC Int where
 enc x := [.int .u8 x]
 dec c := intOf (c.getD 0 .ne)
 is c := isE [.int .u8] 0 c
 enc_dec h := q8t h
 dec_enc x := by rfl
 is_enc x := by simp [isE, isK]
theorem enc_5 (x : Int) : ec_5.enc x = [.int .u8 x] := rfl
theorem isE_5 (xs : List Int) (n : Nat) : isE [.int .u8] 0 ((ec_5.encL xs).getD n []) = decide (n < xs.length) := by
 by_cases h : n < xs.length
 ·simp only [EC.getD_lt _ _ h]; simp [enc_5, isE, isK, h]
 ·simp only [EC.getD_ge _ _ (Nat.not_lt.1 h)]; simp [isE, isK, h]
theorem at_5_0 (xs : List Int) (n : Nat) : intOf (((ec_5.encL xs).getD n []).getD 0 .ne) = (xs.getD n (ec_5.dec [])) := by
 by_cases h : n < xs.length
 ·simp only [EC.getD_lt _ _ h]; simp [enc_5, h, intOf, List.getD_eq_getElem?_getD]
 ·simp only [EC.getD_ge _ _ (Nat.not_lt.1 h)]; simp [Nat.not_lt.1 h, ec_5, intOf, List.getD_eq_getElem?_getD]
theorem len_5 (xs : List Int) (n : Nat) (h : n < xs.length) : ((ec_5.encL xs).getD n []).length = 1 := by rw [EC.getD_lt _ _ h]; rfl
theorem all_5 (xs : List Int) : (ec_5.encL xs).all (fun (el : List C) => el.length == 1) = true := by induction xs with | nil => rfl | cons x xs ih => first | (simp [EC.encL, enc_5]; done) | simpa [EC.encL, enc_5] using ih
theorem qy3 (xs : List Int) (n : Nat) (a0 : Int) : (ec_5.encL xs).set n (splice ((ec_5.encL xs).getD n []) 0 [.int .u8 a0]) = ec_5.encL (xs.set n (a0)) := by
 by_cases h : n < xs.length
 ·rw [EC.getD_lt _ _ h]; simp [EC.encL, List.map_set, enc_5, splice]
 ·simp [EC.encL, List.set_eq_of_length_le, Nat.not_lt.1 h]
def q5n := (lOne (vC cStr))
def q5w := sLS [3, 8, 9, 10] (lCons (vRow 0) (lCons (vRow 0) (lCons (vC (cInt .i64)) (lOne (vC (cInt .i64)))))) (lOne (oSome (bRow ec_5))) [false] [] (by decide) (fun _ => rfl)
def q5v := sLS [3, 8, 9, 10, 11] (lCons (vRow 0) (lCons (vRow 0) (lCons (vC (cInt .i64)) (lCons (vC (cInt .i64)) (lOne (vC cBool)))))) (lOne (oSome (bRow ec_5))) [false] [] (by decide) (fun _ => rfl)
def q5u := oAt 2 q5v
def q5r (b : Nat) (t8 : Nat) (t9 : Int) (t10 : Int) (b0 : (List Int)) : Option ((Nat × Nat × Int × Int × Bool) × (List Int)) := lS Tryz.prog lv X0 154 30 (getLoop (cdF Tryz.f154) 3) q5w q5u ((b, t8, t9, t10), b0)
def q5x (b : Nat) (t8 : Nat) (t9 : Int) (t10 : Int) (b0 : (List Int)) : Option ((Nat × Nat × Int × Int × Bool) × (List Int)) :=
 (brE (decide (t10 < t9))
 (gdE ((decide (0 ≤ t10)) && (decide (t10 < ((t8 : Nat) : Int)))) <|
 (gdE ((decide ((Int.toNat t10) < (List.length (EC.encL ec_5 b0)))) && ((List.length (List.getD (EC.encL ec_5 b0) (Int.toNat t10) [])) == 1)) <|
 (gdE (isP [(K1.int Go.IntKind.u8)] 0 (List.getD (EC.encL ec_5 b0) (Int.toNat t10) [])) <|
 (brE ((decide ((intOf (List.getD (List.getD (EC.encL ec_5 b0) (Int.toNat t10) []) 0 C.ne)) ≥ 65)) == true)
 (brE (decide ((intOf (List.getD (List.getD (EC.encL ec_5 b0) (Int.toNat t10) []) 0 C.ne)) ≤ 90))
 (gdE ((decide (0 ≤ t10)) && (decide (t10 < ((b : Nat) : Int)))) <|
 (gdE ((decide ((Int.toNat t10) < (List.length (EC.encL ec_5 b0)))) && ((List.length (List.getD (EC.encL ec_5 b0) (Int.toNat t10) [])) == 1)) <|
 (gdE (EC.isL ec_5 (List.set (EC.encL ec_5 b0) (Int.toNat t10) (splice (List.getD (EC.encL ec_5 b0) (Int.toNat t10) []) 0 [(C.int Go.IntKind.u8 (IntKind.wrap .u8 ((IntKind.wrap .u8 ((intOf (List.getD (List.getD (EC.encL ec_5 b0) (Int.toNat t10) []) 0 C.ne)) + 97)) - 65)))]))) <|
 (q5r b t8 t9 (IntKind.wrap .i64 (t10 + 1)) (EC.decL ec_5 (List.set (EC.encL ec_5 b0) (Int.toNat t10) (splice (List.getD (EC.encL ec_5 b0) (Int.toNat t10) []) 0 [(C.int Go.IntKind.u8 (IntKind.wrap .u8 ((IntKind.wrap .u8 ((intOf (List.getD (List.getD (EC.encL ec_5 b0) (Int.toNat t10) []) 0 C.ne)) + 97)) - 65)))])))))))
 (gdE (EC.isL ec_5 (EC.encL ec_5 b0)) <|
 (q5r b t8 t9 (IntKind.wrap .i64 (t10 + 1)) (EC.decL ec_5 (EC.encL ec_5 b0)))))
 (gdE (EC.isL ec_5 (EC.encL ec_5 b0)) <|
 (q5r b t8 t9 (IntKind.wrap .i64 (t10 + 1)) (EC.decL ec_5 (EC.encL ec_5 b0))))))))
 (gdE (EC.isL ec_5 (EC.encL ec_5 b0)) <|
 (some ((b, (t8, (t9, (t10, false)))), (EC.decL ec_5 (EC.encL ec_5 b0))))))
theorem q5t {b} {t8} {t9} {t10} {b0} {r} (h : q5x b t8 t9 t10 b0 = some r) : q5r b t8 t9 t10 b0 = some r :=
 qmj (es := qzz) (hs := []) [] (by kernel_rfl) trivial trivial (by kernel_rfl) h
def q5s := lentS Tryz.prog lv X0 3 (getLoop (cdF Tryz.f154) 3) q5w q5u (fun x => q5r x.1.1 x.1.2.1 x.1.2.2.1 x.1.2.2.2 x.2) (fun _ _ h => qmi h)
def q5o : Cod (V × List B) ByteArray := (cFstU (cPair (vC cStr) lNil))
def q5y (s : ByteArray) : Option ByteArray := fS Tryz.prog lv X0 154 q5n q5o s
def q5z (s : ByteArray) : Option ByteArray :=
 (gdE ((decide ((ByteArray.size s) ≤ 9223372036854775807)) && (!((ByteArray.size s) == 0))) <|
 (gdE (EC.isL ec_5 (bytesL s)) <|
 (Option.bind (q5r (ByteArray.size s) (ByteArray.size s) (s.size : Int) 0 (EC.decL ec_5 (bytesL s))) fun r0 =>
 (Option.bind (bytesOf (EC.encL ec_5 r0.2)) fun r1 =>
 (some (ByteArray.mk (List.toArray r1)))))))
theorem q5q {s} {r} (h : q5z s = some r) : q5y s = some r :=
 qfh (es := qzz) (hs := []) [q5s] Tryz.func154 rfl (by kernel_rfl) rfl (by kernel_rfl) (by kernel_rfl) ⟨⟨_, rfl, rfl⟩, trivial⟩ trivial (by kernel_rfl) h
def q5p := entS Tryz.prog lv X0 154 [] q5n q5o (fun x => q5y x) (fun _ _ h => qfg h)
def q104 := q5p :: qzz
def q6i := (lCons (vC cStr) (lOne (vC cStr)))
def q6j : Cod (V × List B) Bool := (cFstU (cPair (vC cBool) lNil))
def q6m (a : ByteArray) (b : ByteArray) : Option Bool := fS Tryz.prog lv X0 153 q6i q6j (a, b)
def q6n (a : ByteArray) (b : ByteArray) : Option Bool :=
 (brE (((a.size : Int) == (b.size : Int)) == true)
 (Option.bind (q5y a) fun r0 =>
 (Option.bind (q5y b) fun r1 =>
 (some ((ByteArray.toList r0) == (ByteArray.toList r1)))))
 (some false))
theorem q6l {a} {b} {r} (h : q6n a b = some r) : q6m a b = some r :=
 qfh (es := q104) (hs := []) [] Tryz.func153 rfl (by kernel_rfl) rfl (by kernel_rfl) (by kernel_rfl) trivial trivial (by kernel_rfl) h
def q6k := entS Tryz.prog lv X0 153 [] q6i q6j (fun x => q6m x.1 x.2) (fun _ _ h => qfg h)
def q108 := q6k :: q104
def q4r := (lOne (vC (cSl ec_5)))
def q51 := sLS [0, 3, 4] (lCons (vC (cSl ec_5)) (lCons (vC (cInt .i64)) (lOne (vC (cInt .i64))))) lNil [] [] (by decide) (fun _ => rfl)
def q50 := sLS [0, 3, 4, 9] (lCons (vC (cSl ec_5)) (lCons (vC (cInt .i64)) (lCons (vC (cInt .i64)) (lOne (vC cBool))))) lNil [] [] (by decide) (fun _ => rfl)
def q4z := sLS [2] (lOne (vC (cInt .i64))) lNil [] [] (by decide) (fun _ => rfl)
def q4y := oOr 1 q4z (oAt 2 q50) (fun x => (by decide : (2 : Nat) ≠ 1))
def q4v (b : (List Int)) (column : Int) (i : Int) : Option ((Int × Unit) ⊕ (((List Int) × Int × Int × Bool) × Unit)) := lS Tryz.prog lv X0 115 45 (getLoop (cdF Tryz.f115) 3) q51 q4y ((b, column, i), ())
def q52 (b : (List Int)) (column : Int) (i : Int) : Option ((Int × Unit) ⊕ (((List Int) × Int × Int × Bool) × Unit)) :=
 (brE (decide (i < (List.length (EC.encL ec_5 b) : Int)))
 (gdE (decide (0 ≤ i)) <|
 (gdE ((decide ((Int.toNat i) < (List.length (EC.encL ec_5 b)))) && (isE [(K1.int Go.IntKind.u8)] 0 (List.getD (EC.encL ec_5 b) (Int.toNat i) []))) <|
 (brE (((intOf (List.getD (List.getD (EC.encL ec_5 b) (Int.toNat i) []) 0 C.ne)) == 13) == true)
 (brE ((decide ((IntKind.wrap .i64 (i + 1)) < (List.length (EC.encL ec_5 b) : Int))) == true)
 (gdE (decide (0 ≤ (IntKind.wrap .i64 (i + 1)))) <|
 (gdE ((decide ((Int.toNat (IntKind.wrap .i64 (i + 1))) < (List.length (EC.encL ec_5 b)))) && (isE [(K1.int Go.IntKind.u8)] 0 (List.getD (EC.encL ec_5 b) (Int.toNat (IntKind.wrap .i64 (i + 1))) []))) <|
 (brE ((intOf (List.getD (List.getD (EC.encL ec_5 b) (Int.toNat (IntKind.wrap .i64 (i + 1))) []) 0 C.ne)) == 10)
 (gdE (EC.isL ec_5 (EC.encL ec_5 b)) <|
 (q4v (EC.decL ec_5 (EC.encL ec_5 b)) 0 (IntKind.wrap .i64 ((IntKind.wrap .i64 (i + 1)) + 1))))
 (brE (((intOf (List.getD (List.getD (EC.encL ec_5 b) (Int.toNat i) []) 0 C.ne)) == 13) == false)
 (brE ((intOf (List.getD (List.getD (EC.encL ec_5 b) (Int.toNat i) []) 0 C.ne)) == 10)
 (some (.inl (11, ())))
 (brE (decide ((IntKind.wrap .i64 (column + 1)) > 998))
 (some (.inl (1, ())))
 (gdE (EC.isL ec_5 (EC.encL ec_5 b)) <|
 (q4v (EC.decL ec_5 (EC.encL ec_5 b)) (IntKind.wrap .i64 (column + 1)) (IntKind.wrap .i64 (i + 1))))))
 (some (.inl (11, ())))))))
 (brE (((intOf (List.getD (List.getD (EC.encL ec_5 b) (Int.toNat i) []) 0 C.ne)) == 13) == false)
 (brE ((intOf (List.getD (List.getD (EC.encL ec_5 b) (Int.toNat i) []) 0 C.ne)) == 10)
 (some (.inl (11, ())))
 (brE (decide ((IntKind.wrap .i64 (column + 1)) > 998))
 (some (.inl (1, ())))
 (gdE (EC.isL ec_5 (EC.encL ec_5 b)) <|
 (q4v (EC.decL ec_5 (EC.encL ec_5 b)) (IntKind.wrap .i64 (column + 1)) (IntKind.wrap .i64 (i + 1))))))
 (some (.inl (11, ())))))
 (brE (((intOf (List.getD (List.getD (EC.encL ec_5 b) (Int.toNat i) []) 0 C.ne)) == 13) == false)
 (brE ((intOf (List.getD (List.getD (EC.encL ec_5 b) (Int.toNat i) []) 0 C.ne)) == 10)
 (some (.inl (11, ())))
 (brE (decide ((IntKind.wrap .i64 (column + 1)) > 998))
 (some (.inl (1, ())))
 (gdE (EC.isL ec_5 (EC.encL ec_5 b)) <|
 (q4v (EC.decL ec_5 (EC.encL ec_5 b)) (IntKind.wrap .i64 (column + 1)) (IntKind.wrap .i64 (i + 1))))))
 (some (.inl (11, ())))))))
 (gdE (EC.isL ec_5 (EC.encL ec_5 b)) <|
 (some (.inr (((EC.decL ec_5 (EC.encL ec_5 b)), (column, (i, false))), ())))))
theorem q4x {b} {column} {i} {r} (h : q52 b column i = some r) : q4v b column i = some r :=
 qmj (es := q108) (hs := []) [] (by kernel_rfl) trivial trivial (by kernel_rfl) h
def q4w := lentS Tryz.prog lv X0 3 (getLoop (cdF Tryz.f115) 3) q51 q4y (fun x => q4v x.1.1 x.1.2.1 x.1.2.2) (fun _ _ h => qmi h)
def q4s : Cod (V × List B) Int := (cFstU (cPair (vC (cInt .i64)) lNil))
def q53 (b : (List Int)) : Option Int := fS Tryz.prog lv X0 115 q4r q4s b
def q54 (b : (List Int)) : Option Int :=
 (gdE (EC.isL ec_5 (EC.encL ec_5 b)) <|
 (Option.bind (q4v (EC.decL ec_5 (EC.encL ec_5 b)) 0 0) fun r0 =>
 (Sum.elim (fun r1 => (some r1.1))
 (fun r1 => (some 0)) r0)))
theorem q4u {b} {r} (h : q54 b = some r) : q53 b = some r :=
 qfh (es := q108) (hs := []) [q4w] Tryz.func115 rfl (by kernel_rfl) rfl (by kernel_rfl) (by kernel_rfl) ⟨⟨_, rfl, rfl⟩, trivial⟩ trivial (by kernel_rfl) h
def q4t := entS Tryz.prog lv X0 115 [] q4r q4s (fun x => q53 x) (fun _ _ h => qfg h)
def q100 := q4t :: q108
def q60 := (lOne (vC (cInt .u8)))
def q61 : Cod (V × List B) Bool := (cFstU (cPair (vC cBool) lNil))
def q64 (c : Int) : Option Bool := fS Tryz.prog lv X0 85 q60 q61 c
def q65 (c : Int) : Option Bool :=
 (Option.bind (q5l c) fun r0 =>
 (brE (r0 == false)
 (brE ((c == 45) == false)
 (brE ((c == 95) == false)
 (some (c == 46))
 (some true))
 (some true))
 (some true)))
theorem q63 {c} {r} (h : q65 c = some r) : q64 c = some r :=
 qfh (es := q100) (hs := []) [] Tryz.func85 rfl (by kernel_rfl) rfl (by kernel_rfl) (by kernel_rfl) trivial trivial (by kernel_rfl) h
def q62 := entS Tryz.prog lv X0 85 [] q60 q61 (fun x => q64 x) (fun _ _ h => qfg h)
def q106 := q62 :: q100
def q2f : Cod (List V) (ByteArray × Unit) := (lCons (vC cStr) (lOne (vFn 85 lNil)))
def q2p := sLS [0, 1, 7, 8] (lCons (vC cStr) (lCons (vFn 85 lNil) (lCons (vC (cInt .i64)) (lOne (vC (cInt .i64)))))) lNil [] [] (by decide) (fun _ => rfl)
def q2o := sLS [0, 1, 7, 8, 9] (lCons (vC cStr) (lCons (vFn 85 lNil) (lCons (vC (cInt .i64)) (lCons (vC (cInt .i64)) (lOne (vC cBool)))))) lNil [] [] (by decide) (fun _ => rfl)
def q2n := sLS [4] (lOne (vC cBool)) lNil [] [] (by decide) (fun _ => rfl)
def q2m := oOr 1 q2n (oAt 2 q2o) (fun x => (by decide : (2 : Nat) ≠ 1))
def q2j (s : ByteArray) (t7 : Int) (t8 : Int) : Option ((Bool × Unit) ⊕ ((ByteArray × Unit × Int × Int × Bool) × Unit)) := lS Tryz.prog lv X0 84 18 (getLoop (cdF Tryz.f84) 2) q2p q2m ((s, (), t7, t8), ())
def q2q (s : ByteArray) (t7 : Int) (t8 : Int) : Option ((Bool × Unit) ⊕ ((ByteArray × Unit × Int × Int × Bool) × Unit)) :=
 (brE (decide (t8 < t7))
 (gdE ((decide (0 ≤ t8)) && (decide ((Int.toNat t8) < (ByteArray.size s)))) <|
 (Option.bind (q64 (((UInt8.toNat (Array.getD (ByteArray.data s) (Int.toNat t8) (0 : UInt8))) : Nat) : Int)) fun r0 =>
 (brE (!r0)
 (some (.inl (false, ())))
 (q2j s t7 (IntKind.wrap .i64 (t8 + 1))))))
 (some (.inr ((s, ((), (t7, (t8, false)))), ()))))
theorem q2l {s} {t7} {t8} {r} (h : q2q s t7 t8 = some r) : q2j s t7 t8 = some r :=
 qmj (es := q106) (hs := []) [] (by kernel_rfl) trivial trivial (by kernel_rfl) h
def q2k := lentS Tryz.prog lv X0 2 (getLoop (cdF Tryz.f84) 2) q2p q2m (fun x => q2j x.1.1 x.1.2.2.1 x.1.2.2.2) (fun _ _ h => qmi h)
def q2g : Cod (V × List B) Bool := (cFstU (cPair (vC cBool) lNil))
def q2t (s : ByteArray) : Option Bool := fS Tryz.prog lv X0 84 q2f q2g (s, ())
def q2v (s : ByteArray) : Option Bool :=
 (Option.bind (q2j s (s.size : Int) 0) fun r0 =>
 (Sum.elim (fun r1 => (some r1.1))
 (fun r1 => (some true)) r0))
theorem q2i {s} {r} (h : q2v s = some r) : q2t s = some r :=
 qfh (es := q106) (hs := []) [q2k] Tryz.func84 rfl (by kernel_rfl) rfl (by kernel_rfl) (by kernel_rfl) ⟨⟨_, rfl, rfl⟩, trivial⟩ trivial (by kernel_rfl) h
def q2h := entS Tryz.prog lv X0 84 [85] q2f q2g (fun x => q2t x.1) (fun _ _ h => qfg h)
def qzx := q2h :: q106
def q66 := (lOne (vC cStr))
def q67 : Cod (V × List B) Bool := (cFstU (cPair (vC cBool) lNil))
def q6a (s : ByteArray) : Option Bool := fS Tryz.prog lv X0 64 q66 q67 s
def q6b (s : ByteArray) : Option Bool :=
 (brE ((!((ByteArray.toList s) == (ByteArray.toList ⟨#[]⟩))) == true)
 (brE ((decide ((s.size : Int) ≤ 60)) == true)
 (Option.bind (q2t s) fun r0 =>
 (some r0))
 (some false))
 (some false))
theorem q69 {s} {r} (h : q6b s = some r) : q6a s = some r :=
 qfh (es := qzx) (hs := []) [] Tryz.func64 rfl (by kernel_rfl) rfl (by kernel_rfl) (by kernel_rfl) trivial trivial (by kernel_rfl) h
def q68 := entS Tryz.prog lv X0 64 [] q66 q67 (fun x => q6a x) (fun _ _ h => qfg h)
def q105 := q68 :: qzx
def qza := (lCons (vC cStr) (lOne (vC cStr)))
def qzb : Cod (V × List B) Bool := (cFstU (cPair (vC cBool) lNil))
def qze (s : ByteArray) (prefix_ : ByteArray) : Option Bool := fS Tryz.prog lv X0 161 qza qzb (s, prefix_)
def qzf (s : ByteArray) (prefix_ : ByteArray) : Option Bool :=
 (brE ((decide ((s.size : Int) ≥ (prefix_.size : Int))) == true)
 (gdE ((decide (0 ≤ (prefix_.size : Int))) && (decide ((prefix_.size : Int) ≤ (s.size : Int)))) <|
 (some ((ByteArray.toList (ByteArray.extract s 0 (Int.toNat (prefix_.size : Int)))) == (ByteArray.toList prefix_))))
 (some false))
theorem qzd {s} {prefix_} {r} (h : qzf s prefix_ = some r) : qze s prefix_ = some r :=
 qfh (es := q105) (hs := []) [] Tryz.func161 rfl (by kernel_rfl) rfl (by kernel_rfl) (by kernel_rfl) trivial trivial (by kernel_rfl) h
def qzc := entS Tryz.prog lv X0 161 [] qza qzb (fun x => qze x.1 x.2) (fun _ _ h => qfg h)
def q11k := qzc :: q105
def qzg := (lCons (vC cStr) (lOne (vC cStr)))
def qzh : Cod (V × List B) Bool := (cFstU (cPair (vC cBool) lNil))
def qzk (s : ByteArray) (suffix : ByteArray) : Option Bool := fS Tryz.prog lv X0 162 qzg qzh (s, suffix)
def qzl (s : ByteArray) (suffix : ByteArray) : Option Bool :=
 (brE ((decide ((s.size : Int) ≥ (suffix.size : Int))) == true)
 (gdE ((decide (0 ≤ (IntKind.wrap .i64 ((s.size : Int) - (suffix.size : Int))))) && (decide ((IntKind.wrap .i64 ((s.size : Int) - (suffix.size : Int))) ≤ (s.size : Int)))) <|
 (some ((ByteArray.toList (ByteArray.extract s (Int.toNat (IntKind.wrap .i64 ((s.size : Int) - (suffix.size : Int)))) (ByteArray.size s))) == (ByteArray.toList suffix))))
 (some false))
theorem qzj {s} {suffix} {r} (h : qzl s suffix = some r) : qzk s suffix = some r :=
 qfh (es := q11k) (hs := []) [] Tryz.func162 rfl (by kernel_rfl) rfl (by kernel_rfl) (by kernel_rfl) trivial trivial (by kernel_rfl) h
def qzi := entS Tryz.prog lv X0 162 [] qzg qzh (fun x => qzk x.1 x.2) (fun _ _ h => qfg h)
def q11l := qzi :: q11k
def qyy := (lCons (vC cStr) (lOne (vC cStr)))
def qyz : Cod (V × List B) Bool := (cFstU (cPair (vC cBool) lNil))
def qz2 (s : ByteArray) (prefix_ : ByteArray) : Option Bool := fS Tryz.prog lv X0 141 qyy qyz (s, prefix_)
def qz3 (s : ByteArray) (prefix_ : ByteArray) : Option Bool :=
 (Option.bind (qze s prefix_) fun r0 =>
 (some r0))
theorem qz1 {s} {prefix_} {r} (h : qz3 s prefix_ = some r) : qz2 s prefix_ = some r :=
 qfh (es := q11l) (hs := []) [] Tryz.func141 rfl (by kernel_rfl) rfl (by kernel_rfl) (by kernel_rfl) trivial trivial (by kernel_rfl) h
def qz0 := entS Tryz.prog lv X0 141 [] qyy qyz (fun x => qz2 x.1 x.2) (fun _ _ h => qfg h)
def q11i := qz0 :: q11l
def qz4 := (lCons (vC cStr) (lOne (vC cStr)))
def qz5 : Cod (V × List B) Bool := (cFstU (cPair (vC cBool) lNil))
def qz8 (s : ByteArray) (suffix : ByteArray) : Option Bool := fS Tryz.prog lv X0 142 qz4 qz5 (s, suffix)
def qz9 (s : ByteArray) (suffix : ByteArray) : Option Bool :=
 (Option.bind (qzk s suffix) fun r0 =>
 (some r0))
theorem qz7 {s} {suffix} {r} (h : qz9 s suffix = some r) : qz8 s suffix = some r :=
 qfh (es := q11i) (hs := []) [] Tryz.func142 rfl (by kernel_rfl) rfl (by kernel_rfl) (by kernel_rfl) trivial trivial (by kernel_rfl) h
def qz6 := entS Tryz.prog lv X0 142 [] qz4 qz5 (fun x => qz8 x.1 x.2) (fun _ _ h => qfg h)
def q11j := qz6 :: q11i
def qh6 := (lOne (vC (cInt .u8)))
def qh7 : Cod (V × List B) Bool := (cFstU (cPair (vC cBool) lNil))
def qha (c : Int) : Option Bool := fS Tryz.prog lv X0 144 qh6 qh7 c
def qhb (c : Int) : Option Bool :=
 (brE ((decide (c ≥ 33)) == true)
 (brE ((decide (c ≤ 126)) == true)
 (some (c != 58))
 (some false))
 (some false))
theorem qh9 {c} {r} (h : qhb c = some r) : qha c = some r :=
 qfh (es := q11j) (hs := []) [] Tryz.func144 rfl (by kernel_rfl) rfl (by kernel_rfl) (by kernel_rfl) trivial trivial (by kernel_rfl) h
def qh8 := entS Tryz.prog lv X0 144 [] qh6 qh7 (fun x => qha x) (fun _ _ h => qfg h)
def q10n := qh8 :: q11j
def q1g : Cod (List V) (ByteArray × Unit) := (lCons (vC cStr) (lOne (vFn 144 lNil)))
def q1q := sLS [0, 1, 7, 8] (lCons (vC cStr) (lCons (vFn 144 lNil) (lCons (vC (cInt .i64)) (lOne (vC (cInt .i64)))))) lNil [] [] (by decide) (fun _ => rfl)
def q1p := sLS [0, 1, 7, 8, 9] (lCons (vC cStr) (lCons (vFn 144 lNil) (lCons (vC (cInt .i64)) (lCons (vC (cInt .i64)) (lOne (vC cBool)))))) lNil [] [] (by decide) (fun _ => rfl)
def q1o := sLS [4] (lOne (vC cBool)) lNil [] [] (by decide) (fun _ => rfl)
def q1n := oOr 1 q1o (oAt 2 q1p) (fun x => (by decide : (2 : Nat) ≠ 1))
def q1k (s : ByteArray) (t7 : Int) (t8 : Int) : Option ((Bool × Unit) ⊕ ((ByteArray × Unit × Int × Int × Bool) × Unit)) := lS Tryz.prog lv X0 84 18 (getLoop (cdF Tryz.f84) 2) q1q q1n ((s, (), t7, t8), ())
def q1r (s : ByteArray) (t7 : Int) (t8 : Int) : Option ((Bool × Unit) ⊕ ((ByteArray × Unit × Int × Int × Bool) × Unit)) :=
 (brE (decide (t8 < t7))
 (gdE ((decide (0 ≤ t8)) && (decide ((Int.toNat t8) < (ByteArray.size s)))) <|
 (Option.bind (qha (((UInt8.toNat (Array.getD (ByteArray.data s) (Int.toNat t8) (0 : UInt8))) : Nat) : Int)) fun r0 =>
 (brE (!r0)
 (some (.inl (false, ())))
 (q1k s t7 (IntKind.wrap .i64 (t8 + 1))))))
 (some (.inr ((s, ((), (t7, (t8, false)))), ()))))
theorem q1m {s} {t7} {t8} {r} (h : q1r s t7 t8 = some r) : q1k s t7 t8 = some r :=
 qmj (es := q10n) (hs := []) [] (by kernel_rfl) trivial trivial (by kernel_rfl) h
def q1l := lentS Tryz.prog lv X0 2 (getLoop (cdF Tryz.f84) 2) q1q q1n (fun x => q1k x.1.1 x.1.2.2.1 x.1.2.2.2) (fun _ _ h => qmi h)
def q1h : Cod (V × List B) Bool := (cFstU (cPair (vC cBool) lNil))
def q1u (s : ByteArray) : Option Bool := fS Tryz.prog lv X0 84 q1g q1h (s, ())
def q1w (s : ByteArray) : Option Bool :=
 (Option.bind (q1k s (s.size : Int) 0) fun r0 =>
 (Sum.elim (fun r1 => (some r1.1))
 (fun r1 => (some true)) r0))
theorem q1j {s} {r} (h : q1w s = some r) : q1u s = some r :=
 qfh (es := q10n) (hs := []) [q1l] Tryz.func84 rfl (by kernel_rfl) rfl (by kernel_rfl) (by kernel_rfl) ⟨⟨_, rfl, rfl⟩, trivial⟩ trivial (by kernel_rfl) h
def q1i := entS Tryz.prog lv X0 84 [144] q1g q1h (fun x => q1u x.1) (fun _ _ h => qfg h)
def qzv := q1i :: q10n
def qhc := (lOne (vC cStr))
def qhd : Cod (V × List B) Bool := (cFstU (cPair (vC cBool) lNil))
def qhg (s : ByteArray) : Option Bool := fS Tryz.prog lv X0 116 qhc qhd s
def qhh (s : ByteArray) : Option Bool :=
 (brE ((!((ByteArray.toList s) == (ByteArray.toList ⟨#[]⟩))) == true)
 (brE ((decide ((s.size : Int) ≤ 60)) == true)
 (Option.bind (q1u s) fun r0 =>
 (some r0))
 (some false))
 (some false))
theorem qhf {s} {r} (h : qhh s = some r) : qhg s = some r :=
 qfh (es := qzv) (hs := []) [] Tryz.func116 rfl (by kernel_rfl) rfl (by kernel_rfl) (by kernel_rfl) trivial trivial (by kernel_rfl) h
def qhe := entS Tryz.prog lv X0 116 [] qhc qhd (fun x => qhg x) (fun _ _ h => qfg h)
def q10m := qhe :: qzv
def qgy := (lOne (vC cStr))
def qgz : Cod (V × List B) Bool := (cFstU (cPair (vC cBool) lNil))
def qh2 (s : ByteArray) : Option Bool := fS Tryz.prog lv X0 145 qgy qgz s
def qh3 (s : ByteArray) : Option Bool :=
 (Option.bind (canyP s (ByteArray.mk (List.toArray [(13 : UInt8), (10 : UInt8), (0 : UInt8)]))) fun r0 =>
 (some r0))
theorem qh1 {s} {r} (h : qh3 s = some r) : qh2 s = some r :=
 qfh (es := q10m) (hs := []) [] Tryz.func145 rfl (by kernel_rfl) rfl (by kernel_rfl) (by kernel_rfl) trivial trivial (by kernel_rfl) h
def qh0 := entS Tryz.prog lv X0 145 [] qgy qgz (fun x => qh2 x) (fun _ _ h => qfg h)
def q10l := qh0 :: q10m
def qhx := (lOne (vC cStr))
def qhy : Cod (V × List B) Bool := (cFstU (cPair (vC cBool) lNil))
def qi1 (s : ByteArray) : Option Bool := fS Tryz.prog lv X0 117 qhx qhy s
def qi2 (s : ByteArray) : Option Bool :=
 (Option.bind (qh2 s) fun r0 =>
 (brE ((!r0) == true)
 (brE (((ByteArray.toList s) == (ByteArray.toList ⟨#[]⟩)) == false)
 (gdE ((decide (0 ≤ 0)) && (decide ((Int.toNat 0) < (ByteArray.size s)))) <|
 (Option.bind (q4p (((UInt8.toNat (Array.getD (ByteArray.data s) (Int.toNat 0) (0 : UInt8))) : Nat) : Int)) fun r1 =>
 (brE ((!r1) == true)
 (gdE ((decide (0 ≤ (IntKind.wrap .i64 ((s.size : Int) - 1)))) && (decide ((Int.toNat (IntKind.wrap .i64 ((s.size : Int) - 1))) < (ByteArray.size s)))) <|
 (Option.bind (q4p (((UInt8.toNat (Array.getD (ByteArray.data s) (Int.toNat (IntKind.wrap .i64 ((s.size : Int) - 1))) (0 : UInt8))) : Nat) : Int)) fun r2 =>
 (some (!r2))))
 (some false))))
 (some true))
 (some false)))
theorem qi0 {s} {r} (h : qi2 s = some r) : qi1 s = some r :=
 qfh (es := q10l) (hs := []) [] Tryz.func117 rfl (by kernel_rfl) rfl (by kernel_rfl) (by kernel_rfl) trivial trivial (by kernel_rfl) h
def qhz := entS Tryz.prog lv X0 117 [] qhx qhy (fun x => qi1 x) (fun _ _ h => qfg h)
def q10p := qhz :: q10l
def qhj := (lCons (vC cStr) (lOne (vC (cInt .i64))))
def qht := sLS [0, 5, 6] (lCons (vC cStr) (lCons (vC (cInt .i64)) (lOne (vC (cInt .i64))))) lNil [] [] (by decide) (fun _ => rfl)
def qhr := sLS [0, 5, 6, 32] (lCons (vC cStr) (lCons (vC (cInt .i64)) (lCons (vC (cInt .i64)) (lOne (vC cBool))))) lNil [] [] (by decide) (fun _ => rfl)
def qhs : SC ((ByteArray × Int × Int × Bool) × Unit) := sLS [0, 5, 6, 12] (lCons (vC cStr) (lCons (vC (cInt .i64)) (lCons (vC (cInt .i64)) (lOne (vC cBool))))) lNil [] [] (by decide) (fun _ => rfl)
def qhq := oOrK 2 [0, 5, 6, 12] qhs (oAt 2 qhr) (fun x y => .inr (st_ne 12 (by decide : (false : Bool) ≠ true)))
def qhn (s : ByteArray) (best : Int) (i : Int) : Option (((ByteArray × Int × Int × Bool) × Unit) ⊕ ((ByteArray × Int × Int × Bool) × Unit)) := lS Tryz.prog lv X0 118 35 (getLoop (cdF Tryz.f118) 3) qht qhq ((s, best, i), ())
def qhu (s : ByteArray) (best : Int) (i : Int) : Option (((ByteArray × Int × Int × Bool) × Unit) ⊕ ((ByteArray × Int × Int × Bool) × Unit)) :=
 (brE (decide (i < (s.size : Int)))
 (gdE ((decide (0 ≤ i)) && (decide ((Int.toNat i) < (ByteArray.size s)))) <|
 (Option.bind (q4p (((UInt8.toNat (Array.getD (ByteArray.data s) (Int.toNat i) (0 : UInt8))) : Nat) : Int)) fun r0 =>
 (brE ((!r0) == false)
 (gdE ((decide (0 ≤ (IntKind.wrap .i64 (i - 1)))) && (decide ((Int.toNat (IntKind.wrap .i64 (i - 1))) < (ByteArray.size s)))) <|
 (Option.bind (q4p (((UInt8.toNat (Array.getD (ByteArray.data s) (Int.toNat (IntKind.wrap .i64 (i - 1))) (0 : UInt8))) : Nat) : Int)) fun r1 =>
 (brE r1
 (qhn s best (IntKind.wrap .i64 (i + 1)))
 (brE ((decide (best > 0)) == true)
 (brE (decide (i > 78))
 (some (.inr ((s, (best, (i, true))), ())))
 (qhn s i (IntKind.wrap .i64 (i + 1))))
 (qhn s i (IntKind.wrap .i64 (i + 1)))))))
 (qhn s best (IntKind.wrap .i64 (i + 1))))))
 (some (.inl ((s, (best, (i, false))), ()))))
theorem qhp {s} {best} {i} {r} (h : qhu s best i = some r) : qhn s best i = some r :=
 qmj (es := q10p) (hs := []) [] (by kernel_rfl) trivial trivial (by kernel_rfl) h
def qho := lentS Tryz.prog lv X0 3 (getLoop (cdF Tryz.f118) 3) qht qhq (fun x => qhn x.1.1 x.1.2.1 x.1.2.2) (fun _ _ h => qmi h)
def qhk : Cod (V × List B) Int := (cFstU (cPair (vC (cInt .i64)) lNil))
def qhv (s : ByteArray) (from_ : Int) : Option Int := fS Tryz.prog lv X0 118 qhj qhk (s, from_)
def qhw (s : ByteArray) (from_ : Int) : Option Int :=
 (Option.bind (qhn s 0 (ite (true = true) (ite (from_ < 1) 1 from_) (ite (1 < from_) 1 from_))) fun r0 =>
 (Sum.elim (fun r1 => (some r1.1.2.1))
 (fun r1 => (some r1.1.2.1)) r0))
theorem qhm {s} {from_} {r} (h : qhw s from_ = some r) : qhv s from_ = some r :=
 qfh (es := q10p) (hs := []) [qho] Tryz.func118 rfl (by kernel_rfl) rfl (by kernel_rfl) (by kernel_rfl) ⟨⟨_, rfl, rfl⟩, trivial⟩ trivial (by kernel_rfl) h
def qhl := entS Tryz.prog lv X0 118 [] qhj qhk (fun x => qhv x.1 x.2) (fun _ _ h => qfg h)
def q10o := qhl :: q10p
def ec_9 : EC ByteArray where
 enc x := [.str x]
 dec c := strOf (c.getD 0 .ne)
 is c := isE [.str] 0 c
 enc_dec h := q8t h
 dec_enc x := by rfl
 is_enc x := by simp [isE, isK]
theorem enc_9 (x : ByteArray) : ec_9.enc x = [.str x] := rfl
theorem at_9_0 (xs : List ByteArray) (n : Nat) : strOf (((ec_9.encL xs).getD n []).getD 0 .ne) = (xs.getD n (ec_9.dec [])) := by
 by_cases h : n < xs.length
 ·simp only [EC.getD_lt _ _ h]; simp [enc_9, h, strOf, List.getD_eq_getElem?_getD]
 ·simp only [EC.getD_ge _ _ (Nat.not_lt.1 h)]; simp [Nat.not_lt.1 h, ec_9, strOf, List.getD_eq_getElem?_getD]
theorem lit_9 (a0 : ByteArray) : ([.str a0] : List C) = ec_9.enc a0 := rfl
theorem apd_9 (xs : List ByteArray) (a0 : ByteArray) : ec_9.encL xs ++ [[.str a0]] = ec_9.encL (xs ++ [a0]) := by rw [lit_9]; simp [EC.encL]
theorem len_9 (xs : List ByteArray) (n : Nat) (h : n < xs.length) : ((ec_9.encL xs).getD n []).length = 1 := by rw [EC.getD_lt _ _ h]; rfl
theorem all_9 (xs : List ByteArray) : (ec_9.encL xs).all (fun (el : List C) => el.length == 1) = true := by induction xs with | nil => rfl | cons x xs ih => first | (simp [EC.encL, enc_9]; done) | simpa [EC.encL, enc_9] using ih
def qgc := (lCons (vC cStr) (lOne (vC cStr)))
def qgu := sLS [5, 6, 7, 8] (lCons (vPtr 0 0) (lCons (vC cStr) (lCons (vC (cInt .i64)) (lOne (vRow 1))))) (lCons (oSome (bBox (lCons (vC (cInt .i64)) (lOne (vC (cInt .i64)))))) (lOne (oSome (bRow ec_9)))) [false, false] [] (by decide) (fun _ => rfl)
def qgs := sLS [5, 6, 8, 9, 41] (lCons (vPtr 0 0) (lCons (vC cStr) (lCons (vRow 1) (lCons (vC (cInt .i64)) (lOne (vC cBool)))))) (lCons (oSome (bBox (lCons (vC (cInt .i64)) (lOne (vC (cInt .i64)))))) (lOne (oSome (bRow ec_9)))) [false, false] [] (by decide) (fun _ => rfl)
def qgt : SC ((Unit × ByteArray × Int × Nat × Bool) × ((Int × Int) × (List ByteArray))) := sLS [5, 6, 7, 8, 36] (lCons (vPtr 0 0) (lCons (vC cStr) (lCons (vC (cInt .i64)) (lCons (vRow 1) (lOne (vC cBool)))))) (lCons (oSome (bBox (lCons (vC (cInt .i64)) (lOne (vC (cInt .i64)))))) (lOne (oSome (bRow ec_9)))) [false, false] [] (by decide) (fun _ => rfl)
def qgr := oOrK 3 [5, 6, 7, 8, 36] qgt (oAt 3 qgs) (fun x y => .inr (st_ne 7 (by decide : (false : Bool) ≠ true)))
def qgo (rest : ByteArray) (from_ : Int) (out : Nat) (b0 : Int) (b0_1 : Int) (b1 : (List ByteArray)) : Option (((Unit × ByteArray × Int × Nat × Bool) × ((Int × Int) × (List ByteArray))) ⊕ ((Unit × ByteArray × Nat × Int × Bool) × ((Int × Int) × (List ByteArray)))) := lS Tryz.prog lv X0 92 70 (getLoop (cdF Tryz.f92) 9) qgu qgr (((), rest, from_, out), ((b0, b0_1), b1))
def qgv (rest : ByteArray) (from_ : Int) (out : Nat) (b0 : Int) (b0_1 : Int) (b1 : (List ByteArray)) : Option (((Unit × ByteArray × Int × Nat × Bool) × ((Int × Int) × (List ByteArray))) ⊕ ((Unit × ByteArray × Nat × Int × Bool) × ((Int × Int) × (List ByteArray)))) :=
 (brE (decide ((rest.size : Int) > 78))
 (Option.bind (qhv rest from_) fun r0 =>
 (brE (r0 == 0)
 (gdE (EC.isL ec_9 (EC.encL ec_9 b1)) <|
 (some (.inr (((), (rest, (out, (r0, true)))), ((b0, b0_1), (EC.decL ec_9 (EC.encL ec_9 b1)))))))
 (gdE ((decide (0 ≤ r0)) && (decide (r0 ≤ (rest.size : Int)))) <|
 (gdE ((((List.all [[(C.str (ByteArray.extract rest 0 (Int.toNat r0)))]] (fun (el : (List C)) => ((List.length el) == 1))) && (List.all (EC.encL ec_9 b1) (fun (el : (List C)) => ((List.length el) == 1)))) && (decide (((((out + (List.length [[(C.str (ByteArray.extract rest 0 (Int.toNat r0)))]])) + ((out + (List.length [[(C.str (ByteArray.extract rest 0 (Int.toNat r0)))]])) / 4)) + 192) * 16) ≤ 281474976710656))) && (decide ((out + (List.length [[(C.str (ByteArray.extract rest 0 (Int.toNat r0)))]])) ≤ 9223372036854775807))) <|
 (gdE ((decide (0 ≤ r0)) && (decide (r0 ≤ (rest.size : Int)))) <|
 (gdE (EC.isL ec_9 ((EC.encL ec_9 b1) ++ [[(C.str (ByteArray.extract rest 0 (Int.toNat r0)))]])) <|
 (qgo (ByteArray.extract rest (Int.toNat r0) (ByteArray.size rest)) 0 (out + (List.length [[(C.str (ByteArray.extract rest 0 (Int.toNat r0)))]])) b0 b0_1 (EC.decL ec_9 ((EC.encL ec_9 b1) ++ [[(C.str (ByteArray.extract rest 0 (Int.toNat r0)))]])))))))))
 (gdE (EC.isL ec_9 (EC.encL ec_9 b1)) <|
 (some (.inl (((), (rest, (from_, (out, false)))), ((b0, b0_1), (EC.decL ec_9 (EC.encL ec_9 b1))))))))
theorem qgq {rest} {from_} {out} {b0} {b0_1} {b1} {r} (h : qgv rest from_ out b0 b0_1 b1 = some r) : qgo rest from_ out b0 b0_1 b1 = some r :=
 qmj (es := q10o) (hs := []) [] (by kernel_rfl) trivial trivial (by kernel_rfl) h
def qgp := lentS Tryz.prog lv X0 9 (getLoop (cdF Tryz.f92) 9) qgu qgr (fun x => qgo x.1.2.1 x.1.2.2.1 x.1.2.2.2 x.2.1.1 x.2.1.2 x.2.2) (fun _ _ h => qmi h)
def qgm := sLS [5, 8, 55, 56, 57] (lCons (vPtr 0 0) (lCons (vRow 1) (lCons (vRow 1) (lCons (vC (cInt .i64)) (lOne (vC (cInt .i64))))))) (lCons (oSome (bBox (lCons (vC (cInt .i64)) (lOne (vC (cInt .i64)))))) (lOne (oSome (bRow ec_9)))) [false, false] [] (by decide) (fun _ => rfl)
def qgl := sLS [5, 8, 55, 56, 57, 58] (lCons (vPtr 0 0) (lCons (vRow 1) (lCons (vRow 1) (lCons (vC (cInt .i64)) (lCons (vC (cInt .i64)) (lOne (vC cBool))))))) (lCons (oSome (bBox (lCons (vC (cInt .i64)) (lOne (vC (cInt .i64)))))) (lOne (oSome (bRow ec_9)))) [false, false] [] (by decide) (fun _ => rfl)
def qgk := sLS [4, 5] (lCons (vRow 0) (lOne (vPtr 1 0))) (lCons (oSome (bRow ec_9)) (lOne (oSome (bBox (lCons (vC (cInt .i64)) (lOne (vC (cInt .i64)))))))) [false, false] [] (by decide) (fun _ => rfl)
def qgj := oOr 1 qgk (oAt 5 qgl) (fun x => (by decide : (5 : Nat) ≠ 1))
def qgg (out : Nat) (t55 : Nat) (t56 : Int) (t57 : Int) (b0 : Int) (b0_1 : Int) (b1 : (List ByteArray)) : Option (((Nat × Unit) × ((List ByteArray) × (Int × Int))) ⊕ ((Unit × Nat × Nat × Int × Int × Bool) × ((Int × Int) × (List ByteArray)))) := lS Tryz.prog lv X0 92 70 (getLoop (cdF Tryz.f92) 16) qgm qgj (((), out, t55, t56, t57), ((b0, b0_1), b1))
def qgn (out : Nat) (t55 : Nat) (t56 : Int) (t57 : Int) (b0 : Int) (b0_1 : Int) (b1 : (List ByteArray)) : Option (((Nat × Unit) × ((List ByteArray) × (Int × Int))) ⊕ ((Unit × Nat × Nat × Int × Int × Bool) × ((Int × Int) × (List ByteArray)))) :=
 (brE (decide (t57 < t56))
 (gdE ((decide (0 ≤ t57)) && (decide (t57 < ((t55 : Nat) : Int)))) <|
 (gdE ((decide ((Int.toNat t57) < (List.length (EC.encL ec_9 b1)))) && ((List.length (List.getD (EC.encL ec_9 b1) (Int.toNat t57) [])) == 1)) <|
 (gdE (isP [K1.str] 0 (List.getD (EC.encL ec_9 b1) (Int.toNat t57) [])) <|
 (brE (decide ((((ByteArray.size (strOf (List.getD (List.getD (EC.encL ec_9 b1) (Int.toNat t57) []) 0 C.ne))) : Nat) : Int) > 998))
 (Option.bind (q5f 1 t57) fun r0 =>
 (some (.inl ((0, ()), ((EC.decL ec_9 []), (r0.1, r0.2))))))
 (gdE (EC.isL ec_9 (EC.encL ec_9 b1)) <|
 (qgg out t55 t56 (IntKind.wrap .i64 (t57 + 1)) b0 b0_1 (EC.decL ec_9 (EC.encL ec_9 b1))))))))
 (gdE (EC.isL ec_9 (EC.encL ec_9 b1)) <|
 (some (.inr (((), (out, (t55, (t56, (t57, false))))), ((b0, b0_1), (EC.decL ec_9 (EC.encL ec_9 b1))))))))
theorem qgi {out} {t55} {t56} {t57} {b0} {b0_1} {b1} {r} (h : qgn out t55 t56 t57 b0 b0_1 b1 = some r) : qgg out t55 t56 t57 b0 b0_1 b1 = some r :=
 qmj (es := q10o) (hs := []) [] (by kernel_rfl) trivial trivial (by kernel_rfl) h
def qgh := lentS Tryz.prog lv X0 16 (getLoop (cdF Tryz.f92) 16) qgm qgj (fun x => qgg x.1.2.1 x.1.2.2.1 x.1.2.2.2.1 x.1.2.2.2.2 x.2.1.1 x.2.1.2 x.2.2) (fun _ _ h => qmi h)
def qgd : Cod (V × List B) ((Nat × (Int × Int)) × (List ByteArray)) := (cPair (vTup (lCons (vRow 0) (lOne (vAgg (lCons (vC (cInt .i64)) (lOne (vC (cInt .i64)))))))) (lOne (bRow ec_9)))
def qgw (n : ByteArray) (v : ByteArray) : Option ((Nat × (Int × Int)) × (List ByteArray)) := fS Tryz.prog lv X0 92 qgc qgd (n, v)
def qgx (n : ByteArray) (v : ByteArray) : Option ((Nat × (Int × Int)) × (List ByteArray)) :=
 (Option.bind (qhg n) fun r0 =>
 (brE (!r0)
 (Option.bind (q5f 10 (-1)) fun r1 =>
 (some ((0, (r1.1, r1.2)), (EC.decL ec_9 []))))
 (brE (decide ((v.size : Int) > 4000))
 (Option.bind (q5f 1 (-1)) fun r1 =>
 (some ((0, (r1.1, r1.2)), (EC.decL ec_9 []))))
 (Option.bind (qi1 v) fun r1 =>
 (brE (!r1)
 (Option.bind (q5f 11 (-1)) fun r2 =>
 (some ((0, (r2.1, r2.2)), (EC.decL ec_9 []))))
 (brE (decide (((((ByteArray.size n) + (ByteArray.size (ByteArray.mk (List.toArray [(58 : UInt8), (32 : UInt8)])))) : Nat) : Int) > (Go.IntKind.max Go.IntKind.i64)))
 none
 (brE (decide (((((ByteArray.size (n ++ (ByteArray.mk (List.toArray [(58 : UInt8), (32 : UInt8)])))) + (ByteArray.size v)) : Nat) : Int) > (Go.IntKind.max Go.IntKind.i64)))
 none
 (Option.bind (qgo ((n ++ (ByteArray.mk (List.toArray [(58 : UInt8), (32 : UInt8)]))) ++ v) (IntKind.wrap .i64 ((n.size : Int) + 2)) 0 0 0 (EC.decL ec_9 [])) fun r2 =>
 (Sum.elim (fun r3 => (gdE ((((List.all [[(C.str r3.1.2.1)]] (fun (el : (List C)) => ((List.length el) == 1))) && (List.all (EC.encL ec_9 r3.2.2) (fun (el : (List C)) => ((List.length el) == 1)))) && (decide (((((r3.1.2.2.2.1 + (List.length [[(C.str r3.1.2.1)]])) + ((r3.1.2.2.2.1 + (List.length [[(C.str r3.1.2.1)]])) / 4)) + 192) * 16) ≤ 281474976710656))) && (decide ((r3.1.2.2.2.1 + (List.length [[(C.str r3.1.2.1)]])) ≤ 9223372036854775807))) <|
 (gdE (EC.isL ec_9 ((EC.encL ec_9 r3.2.2) ++ [[(C.str r3.1.2.1)]])) <|
 (Option.bind (qgg (r3.1.2.2.2.1 + (List.length [[(C.str r3.1.2.1)]])) (r3.1.2.2.2.1 + (List.length [[(C.str r3.1.2.1)]])) (((r3.1.2.2.2.1 + (List.length [[(C.str r3.1.2.1)]])) : Nat) : Int) 0 r3.2.1.1 r3.2.1.2 (EC.decL ec_9 ((EC.encL ec_9 r3.2.2) ++ [[(C.str r3.1.2.1)]]))) fun r4 =>
 (Sum.elim (fun r5 => (gdE (EC.isL ec_9 (EC.encL ec_9 r5.2.1)) <|
 (some ((r5.1.1, (r5.2.2.1, r5.2.2.2)), (EC.decL ec_9 (EC.encL ec_9 r5.2.1))))))
 (fun r5 => (Option.bind q6g fun r6 =>
 (gdE (EC.isL ec_9 (EC.encL ec_9 r5.2.2)) <|
 (some ((r5.1.2.1, (r6.1, r6.2)), (EC.decL ec_9 (EC.encL ec_9 r5.2.2))))))) r4)))))
 (fun r3 => (gdE ((((List.all [[(C.str r3.1.2.1)]] (fun (el : (List C)) => ((List.length el) == 1))) && (List.all (EC.encL ec_9 r3.2.2) (fun (el : (List C)) => ((List.length el) == 1)))) && (decide (((((r3.1.2.2.1 + (List.length [[(C.str r3.1.2.1)]])) + ((r3.1.2.2.1 + (List.length [[(C.str r3.1.2.1)]])) / 4)) + 192) * 16) ≤ 281474976710656))) && (decide ((r3.1.2.2.1 + (List.length [[(C.str r3.1.2.1)]])) ≤ 9223372036854775807))) <|
 (gdE (EC.isL ec_9 ((EC.encL ec_9 r3.2.2) ++ [[(C.str r3.1.2.1)]])) <|
 (Option.bind (qgg (r3.1.2.2.1 + (List.length [[(C.str r3.1.2.1)]])) (r3.1.2.2.1 + (List.length [[(C.str r3.1.2.1)]])) (((r3.1.2.2.1 + (List.length [[(C.str r3.1.2.1)]])) : Nat) : Int) 0 r3.2.1.1 r3.2.1.2 (EC.decL ec_9 ((EC.encL ec_9 r3.2.2) ++ [[(C.str r3.1.2.1)]]))) fun r4 =>
 (Sum.elim (fun r5 => (gdE (EC.isL ec_9 (EC.encL ec_9 r5.2.1)) <|
 (some ((r5.1.1, (r5.2.2.1, r5.2.2.2)), (EC.decL ec_9 (EC.encL ec_9 r5.2.1))))))
 (fun r5 => (Option.bind q6g fun r6 =>
 (gdE (EC.isL ec_9 (EC.encL ec_9 r5.2.2)) <|
 (some ((r5.1.2.1, (r6.1, r6.2)), (EC.decL ec_9 (EC.encL ec_9 r5.2.2))))))) r4))))) r2)))))))))
theorem qgf {n} {v} {r} (h : qgx n v = some r) : qgw n v = some r :=
 qfh (es := q10o) (hs := []) [qgp, qgh] Tryz.func92 rfl (by kernel_rfl) rfl (by kernel_rfl) (by kernel_rfl) ⟨⟨_, rfl, rfl⟩, ⟨_, rfl, rfl⟩, trivial⟩ trivial (by kernel_rfl) h
def qge := entS Tryz.prog lv X0 92 [] qgc qgd (fun x => qgw x.1 x.2) (fun _ _ h => qfg h)
def q10k := qge :: q10o
structure S55 where
 Name : ByteArray
 Value : ByteArray
def ec_55 : EC S55 where
 enc x := [.str x.Name, .str x.Value]
 dec c := ⟨strOf (c.getD 0 .ne), strOf (c.getD 1 .ne)⟩
 is c := isE [.str, .str] 0 c
 enc_dec h := q8t h
 dec_enc x := by rfl
 is_enc x := by simp [isE, isK]
theorem enc_55 (x : S55) : ec_55.enc x = [.str x.Name, .str x.Value] := rfl
theorem isE_55 (xs : List S55) (n : Nat) : isE [.str, .str] 0 ((ec_55.encL xs).getD n []) = decide (n < xs.length) := by
 by_cases h : n < xs.length
 ·simp only [EC.getD_lt _ _ h]; simp [enc_55, isE, isK, h]
 ·simp only [EC.getD_ge _ _ (Nat.not_lt.1 h)]; simp [isE, isK, h]
theorem q4g (xs : List S55) (n : Nat) : strOf (((ec_55.encL xs).getD n []).getD 0 .ne) = (xs.getD n (ec_55.dec [])).Name := by
 by_cases h : n < xs.length
 ·simp only [EC.getD_lt _ _ h]; simp [enc_55, h, strOf, List.getD_eq_getElem?_getD]
 ·simp only [EC.getD_ge _ _ (Nat.not_lt.1 h)]; simp [Nat.not_lt.1 h, ec_55, strOf, List.getD_eq_getElem?_getD]
theorem q4h (xs : List S55) (n : Nat) : strOf (((ec_55.encL xs).getD n []).getD 1 .ne) = (xs.getD n (ec_55.dec [])).Value := by
 by_cases h : n < xs.length
 ·simp only [EC.getD_lt _ _ h]; simp [enc_55, h, strOf, List.getD_eq_getElem?_getD]
 ·simp only [EC.getD_ge _ _ (Nat.not_lt.1 h)]; simp [Nat.not_lt.1 h, ec_55, strOf, List.getD_eq_getElem?_getD]
def qjv := (lOne (vC (cSl ec_55)))
def qk5 := sLS [2, 11, 12, 13] (lCons (vPtr 0 0) (lCons (vC (cSl ec_55)) (lCons (vC (cInt .i64)) (lOne (vC (cInt .i64)))))) (lOne (oSome (bBox (lCons (vC (cInt .i64)) (lOne (vC (cInt .i64))))))) [false] [] (by decide) (fun _ => rfl)
def qk4 := sLS [2, 11, 12, 13, 14] (lCons (vPtr 0 0) (lCons (vC (cSl ec_55)) (lCons (vC (cInt .i64)) (lCons (vC (cInt .i64)) (lOne (vC cBool)))))) (lOne (oSome (bBox (lCons (vC (cInt .i64)) (lOne (vC (cInt .i64))))))) [false] [] (by decide) (fun _ => rfl)
def qk3 := sLS [2] (lOne (vPtr 0 0)) (lOne (oSome (bBox (lCons (vC (cInt .i64)) (lOne (vC (cInt .i64))))))) [false] [] (by decide) (fun _ => rfl)
def qk2 := oOr 1 qk3 (oAt 2 qk4) (fun x => (by decide : (2 : Nat) ≠ 1))
def qjz (t11 : (List S55)) (t12 : Int) (t13 : Int) (b0 : Int) (b0_1 : Int) : Option ((Unit × (Int × Int)) ⊕ ((Unit × (List S55) × Int × Int × Bool) × (Int × Int))) := lS Tryz.prog lv X0 90 34 (getLoop (cdF Tryz.f90) 4) qk5 qk2 (((), t11, t12, t13), (b0, b0_1))
def qk6 (t11 : (List S55)) (t12 : Int) (t13 : Int) (b0 : Int) (b0_1 : Int) : Option ((Unit × (Int × Int)) ⊕ ((Unit × (List S55) × Int × Int × Bool) × (Int × Int))) :=
 (brE (decide (t13 < t12))
 (gdE (decide (0 ≤ t13)) <|
 (gdE ((decide ((Int.toNat t13) < (List.length (EC.encL ec_55 t11)))) && (isE [K1.str, K1.str] 0 (List.getD (EC.encL ec_55 t11) (Int.toNat t13) []))) <|
 (Option.bind (qgw (strOf (List.getD (List.getD (EC.encL ec_55 t11) (Int.toNat t13) []) 0 C.ne)) (strOf (List.getD (List.getD (EC.encL ec_55 t11) (Int.toNat t13) []) 1 C.ne))) fun r0 =>
 (Option.bind (q59 r0.1.2.1 r0.1.2.2) fun r1 =>
 (brE r1
 (Option.bind (q5f r0.1.2.1 t13) fun r2 =>
 (some (.inl ((), (r2.1, r2.2)))))
 (gdE (EC.isL ec_55 (EC.encL ec_55 t11)) <|
 (qjz (EC.decL ec_55 (EC.encL ec_55 t11)) t12 (IntKind.wrap .i64 (t13 + 1)) b0 b0_1)))))))
 (gdE (EC.isL ec_55 (EC.encL ec_55 t11)) <|
 (some (.inr (((), ((EC.decL ec_55 (EC.encL ec_55 t11)), (t12, (t13, false)))), (b0, b0_1))))))
theorem qk1 {t11} {t12} {t13} {b0} {b0_1} {r} (h : qk6 t11 t12 t13 b0 b0_1 = some r) : qjz t11 t12 t13 b0 b0_1 = some r :=
 qmj (es := q10k) (hs := []) [] (by kernel_rfl) trivial trivial (by kernel_rfl) h
def qk0 := lentS Tryz.prog lv X0 4 (getLoop (cdF Tryz.f90) 4) qk5 qk2 (fun x => qjz x.1.2.1 x.1.2.2.1 x.1.2.2.2 x.2.1 x.2.2) (fun _ _ h => qmi h)
def qjw : Cod (V × List B) (Int × Int) := (cFstU (cPair (vAgg (lCons (vC (cInt .i64)) (lOne (vC (cInt .i64))))) lNil))
def qk7 (l : (List S55)) : Option (Int × Int) := fS Tryz.prog lv X0 90 qjv qjw l
def qk8 (l : (List S55)) : Option (Int × Int) :=
 (brE (decide ((List.length (EC.encL ec_55 l) : Int) > 60))
 (Option.bind (q5f 2 (-1)) fun r0 =>
 (some (r0.1, r0.2)))
 (gdE (EC.isL ec_55 (EC.encL ec_55 l)) <|
 (Option.bind (qjz (EC.decL ec_55 (EC.encL ec_55 l)) (List.length (EC.encL ec_55 l) : Int) 0 0 0) fun r0 =>
 (Sum.elim (fun r1 => (some (r1.2.1, r1.2.2)))
 (fun r1 => (Option.bind q6g fun r2 =>
 (some (r2.1, r2.2)))) r0))))
theorem qjy {l} {r} (h : qk8 l = some r) : qk7 l = some r :=
 qfh (es := q10k) (hs := []) [qk0] Tryz.func90 rfl (by kernel_rfl) rfl (by kernel_rfl) (by kernel_rfl) ⟨⟨_, rfl, rfl⟩, trivial⟩ trivial (by kernel_rfl) h
def qjx := entS Tryz.prog lv X0 90 [] qjv qjw (fun x => qk7 x) (fun _ _ h => qfg h)
def q10s := qjx :: q10k
def qk9 := (lOne (vC cStr))
def qka : Cod (V × List B) Bool := (cFstU (cPair (vC cBool) lNil))
def qkd (s : ByteArray) : Option Bool := fS Tryz.prog lv X0 167 qk9 qka s
def qke (s : ByteArray) : Option Bool :=
 (Option.bind (qgw s ⟨#[]⟩) fun r0 =>
 (Option.bind (q59 r0.1.2.1 r0.1.2.2) fun r1 =>
 (some (!r1))))
theorem qkc {s} {r} (h : qke s = some r) : qkd s = some r :=
 qfh (es := q10s) (hs := []) [] Tryz.func167 rfl (by kernel_rfl) rfl (by kernel_rfl) (by kernel_rfl) trivial trivial (by kernel_rfl) h
def qkb := entS Tryz.prog lv X0 167 [] qk9 qka (fun x => qkd x) (fun _ _ h => qfg h)
def q10t := qkb :: q10s
def qkf := (lCons (vC (cSl ec_55)) (lOne (vC cStr)))
def qkg : Cod (V × List B) (Int × Int) := (cFstU (cPair (vAgg (lCons (vC (cInt .i64)) (lOne (vC (cInt .i64))))) lNil))
def qkj (l : (List S55)) (n : ByteArray) : Option (Int × Int) := fS Tryz.prog lv X0 157 qkf qkg (l, n)
def qkk (l : (List S55)) (n : ByteArray) : Option (Int × Int) :=
 (gdE (EC.isL ec_55 (EC.encL ec_55 l)) <|
 (Option.bind (qk7 (EC.decL ec_55 (EC.encL ec_55 l))) fun r0 =>
 (Option.bind (q59 r0.1 r0.2) fun r1 =>
 (brE r1
 (some (r0.1, r0.2))
 (Option.bind (qkd n) fun r2 =>
 (brE (!r2)
 (Option.bind (q5f 10 (-3)) fun r3 =>
 (some (r3.1, r3.2)))
 (Option.bind q6g fun r3 =>
 (some (r3.1, r3.2)))))))))
theorem qki {l} {n} {r} (h : qkk l n = some r) : qkj l n = some r :=
 qfh (es := q10t) (hs := []) [] Tryz.func157 rfl (by kernel_rfl) rfl (by kernel_rfl) (by kernel_rfl) trivial trivial (by kernel_rfl) h
def qkh := entS Tryz.prog lv X0 157 [] qkf qkg (fun x => qkj x.1 x.2) (fun _ _ h => qfg h)
def q10u := qkh :: q10t
def qji := (lCons (vC (cSl ec_55)) (lOne (vC cStr)))
def qjr := sLS [1, 5, 7, 16, 17, 18] (lCons (vC cStr) (lCons (vPtr 0 0) (lCons (vRow 1) (lCons (vC (cSl ec_55)) (lCons (vC (cInt .i64)) (lOne (vC (cInt .i64)))))))) (lCons (oSome (bBox (lCons (vC (cInt .i64)) (lOne (vC (cInt .i64)))))) (lOne (oSome (bRow ec_9)))) [false, false] [] (by decide) (fun _ => rfl)
def qjq := sLS [1, 5, 7, 16, 17, 18, 19] (lCons (vC cStr) (lCons (vPtr 0 0) (lCons (vRow 1) (lCons (vC (cSl ec_55)) (lCons (vC (cInt .i64)) (lCons (vC (cInt .i64)) (lOne (vC cBool)))))))) (lCons (oSome (bBox (lCons (vC (cInt .i64)) (lOne (vC (cInt .i64)))))) (lOne (oSome (bRow ec_9)))) [false, false] [] (by decide) (fun _ => rfl)
def qjp := oAt 2 qjq
def qjm (n : ByteArray) (out : Nat) (t16 : (List S55)) (t17 : Int) (t18 : Int) (b0 : Int) (b0_1 : Int) (b1 : (List ByteArray)) : Option ((ByteArray × Unit × Nat × (List S55) × Int × Int × Bool) × ((Int × Int) × (List ByteArray))) := lS Tryz.prog lv X0 135 34 (getLoop (cdF Tryz.f135) 6) qjr qjp ((n, (), out, t16, t17, t18), ((b0, b0_1), b1))
def qjs (n : ByteArray) (out : Nat) (t16 : (List S55)) (t17 : Int) (t18 : Int) (b0 : Int) (b0_1 : Int) (b1 : (List ByteArray)) : Option ((ByteArray × Unit × Nat × (List S55) × Int × Int × Bool) × ((Int × Int) × (List ByteArray))) :=
 (brE (decide (t18 < t17))
 (gdE (decide (0 ≤ t18)) <|
 (gdE ((decide ((Int.toNat t18) < (List.length (EC.encL ec_55 t16)))) && (isE [K1.str, K1.str] 0 (List.getD (EC.encL ec_55 t16) (Int.toNat t18) []))) <|
 (Option.bind (q6m (strOf (List.getD (List.getD (EC.encL ec_55 t16) (Int.toNat t18) []) 0 C.ne)) n) fun r0 =>
 (brE r0
 (gdE ((((List.all [[(C.str (strOf (List.getD (List.getD (EC.encL ec_55 t16) (Int.toNat t18) []) 1 C.ne)))]] (fun (el : (List C)) => ((List.length el) == 1))) && (List.all (EC.encL ec_9 b1) (fun (el : (List C)) => ((List.length el) == 1)))) && (decide (((((out + (List.length [[(C.str (strOf (List.getD (List.getD (EC.encL ec_55 t16) (Int.toNat t18) []) 1 C.ne)))]])) + ((out + (List.length [[(C.str (strOf (List.getD (List.getD (EC.encL ec_55 t16) (Int.toNat t18) []) 1 C.ne)))]])) / 4)) + 192) * 16) ≤ 281474976710656))) && (decide ((out + (List.length [[(C.str (strOf (List.getD (List.getD (EC.encL ec_55 t16) (Int.toNat t18) []) 1 C.ne)))]])) ≤ 9223372036854775807))) <|
 (gdE (EC.isL ec_55 (EC.encL ec_55 t16)) <|
 (gdE (EC.isL ec_9 ((EC.encL ec_9 b1) ++ [[(C.str (strOf (List.getD (List.getD (EC.encL ec_55 t16) (Int.toNat t18) []) 1 C.ne)))]])) <|
 (qjm n (out + (List.length [[(C.str (strOf (List.getD (List.getD (EC.encL ec_55 t16) (Int.toNat t18) []) 1 C.ne)))]])) (EC.decL ec_55 (EC.encL ec_55 t16)) t17 (IntKind.wrap .i64 (t18 + 1)) b0 b0_1 (EC.decL ec_9 ((EC.encL ec_9 b1) ++ [[(C.str (strOf (List.getD (List.getD (EC.encL ec_55 t16) (Int.toNat t18) []) 1 C.ne)))]]))))))
 (gdE (EC.isL ec_55 (EC.encL ec_55 t16)) <|
 (gdE (EC.isL ec_9 (EC.encL ec_9 b1)) <|
 (qjm n out (EC.decL ec_55 (EC.encL ec_55 t16)) t17 (IntKind.wrap .i64 (t18 + 1)) b0 b0_1 (EC.decL ec_9 (EC.encL ec_9 b1)))))))))
 (gdE (EC.isL ec_55 (EC.encL ec_55 t16)) <|
 (gdE (EC.isL ec_9 (EC.encL ec_9 b1)) <|
 (some ((n, ((), (out, ((EC.decL ec_55 (EC.encL ec_55 t16)), (t17, (t18, false)))))), ((b0, b0_1), (EC.decL ec_9 (EC.encL ec_9 b1))))))))
theorem qjo {n} {out} {t16} {t17} {t18} {b0} {b0_1} {b1} {r} (h : qjs n out t16 t17 t18 b0 b0_1 b1 = some r) : qjm n out t16 t17 t18 b0 b0_1 b1 = some r :=
 qmj (es := q10u) (hs := []) [] (by kernel_rfl) trivial trivial (by kernel_rfl) h
def qjn := lentS Tryz.prog lv X0 6 (getLoop (cdF Tryz.f135) 6) qjr qjp (fun x => qjm x.1.1 x.1.2.2.1 x.1.2.2.2.1 x.1.2.2.2.2.1 x.1.2.2.2.2.2 x.2.1.1 x.2.1.2 x.2.2) (fun _ _ h => qmi h)
def qjj : Cod (V × List B) ((Nat × (Int × Int)) × (List ByteArray)) := (cPair (vTup (lCons (vRow 0) (lOne (vAgg (lCons (vC (cInt .i64)) (lOne (vC (cInt .i64)))))))) (lOne (bRow ec_9)))
def qjt (l : (List S55)) (n : ByteArray) : Option ((Nat × (Int × Int)) × (List ByteArray)) := fS Tryz.prog lv X0 135 qji qjj (l, n)
def qju (l : (List S55)) (n : ByteArray) : Option ((Nat × (Int × Int)) × (List ByteArray)) :=
 (gdE (EC.isL ec_55 (EC.encL ec_55 l)) <|
 (Option.bind (qkj (EC.decL ec_55 (EC.encL ec_55 l)) n) fun r0 =>
 (Option.bind (q59 r0.1 r0.2) fun r1 =>
 (brE r1
 (some ((0, (r0.1, r0.2)), (EC.decL ec_9 [])))
 (gdE (EC.isL ec_55 (EC.encL ec_55 l)) <|
 (Option.bind (qjm n 0 (EC.decL ec_55 (EC.encL ec_55 l)) (List.length (EC.encL ec_55 l) : Int) 0 0 0 (EC.decL ec_9 [])) fun r2 =>
 (Option.bind q6g fun r3 =>
 (gdE (EC.isL ec_9 (EC.encL ec_9 r2.2.2)) <|
 (some ((r2.1.2.2.1, (r3.1, r3.2)), (EC.decL ec_9 (EC.encL ec_9 r2.2.2))))))))))))
theorem qjl {l} {n} {r} (h : qju l n = some r) : qjt l n = some r :=
 qfh (es := q10u) (hs := []) [qjn] Tryz.func135 rfl (by kernel_rfl) rfl (by kernel_rfl) (by kernel_rfl) ⟨⟨_, rfl, rfl⟩, trivial⟩ trivial (by kernel_rfl) h
def qjk := entS Tryz.prog lv X0 135 [] qji qjj (fun x => qjt x.1 x.2) (fun _ _ h => qfg h)
def q10r := qjk :: q10u
def qoi := (lOne (vAgg (lCons (vC (cSl ec_55)) (lOne (vC (cSl ec_5))))))
def qoy := sLS [1, 3, 11, 12, 13, 25, 26, 27] (lCons (vPtr 0 0) (lCons (vRow 1) (lCons (vC (cSl ec_55)) (lCons (vC (cInt .i64)) (lCons (vC (cInt .i64)) (lCons (vRow 2) (lCons (vC (cInt .i64)) (lOne (vC (cInt .i64)))))))))) (lCons (oSome (bBox (lCons (vC (cSl ec_55)) (lOne (vC (cSl ec_5)))))) (lCons (oSome (bRow ec_5)) (lOne (oSome (bRow ec_9))))) [false, false, false] [] (by decide) (fun _ => rfl)
def qox := sLS [1, 3, 11, 12, 13, 25, 26, 27, 28] (lCons (vPtr 0 0) (lCons (vRow 1) (lCons (vC (cSl ec_55)) (lCons (vC (cInt .i64)) (lCons (vC (cInt .i64)) (lCons (vRow 2) (lCons (vC (cInt .i64)) (lCons (vC (cInt .i64)) (lOne (vC cBool)))))))))) (lCons (oSome (bBox (lCons (vC (cSl ec_55)) (lOne (vC (cSl ec_5)))))) (lCons (oSome (bRow ec_5)) (lOne (oSome (bRow ec_9))))) [false, false, false] [] (by decide) (fun _ => rfl)
def qow := oAt 4 qox
def qot (out : Nat) (t11 : (List S55)) (t12 : Int) (t13 : Int) (t25 : Nat) (t26 : Int) (t27 : Int) (b0 : (List S55)) (b0_1 : (List Int)) (b1 : (List Int)) (b2 : (List ByteArray)) : Option ((Unit × Nat × (List S55) × Int × Int × Nat × Int × Int × Bool) × (((List S55) × (List Int)) × (List Int) × (List ByteArray))) := lS Tryz.prog lv X0 67 44 (getLoop (cdF Tryz.f67) 7) qoy qow (((), out, t11, t12, t13, t25, t26, t27), ((b0, b0_1), b1, b2))
def qoz (out : Nat) (t11 : (List S55)) (t12 : Int) (t13 : Int) (t25 : Nat) (t26 : Int) (t27 : Int) (b0 : (List S55)) (b0_1 : (List Int)) (b1 : (List Int)) (b2 : (List ByteArray)) : Option ((Unit × Nat × (List S55) × Int × Int × Nat × Int × Int × Bool) × (((List S55) × (List Int)) × (List Int) × (List ByteArray))) :=
 (brE (decide (t27 < t26))
 (gdE ((decide (0 ≤ t27)) && (decide (t27 < ((t25 : Nat) : Int)))) <|
 (gdE ((decide ((Int.toNat t27) < (List.length (EC.encL ec_9 b2)))) && ((List.length (List.getD (EC.encL ec_9 b2) (Int.toNat t27) [])) == 1)) <|
 (gdE (isP [K1.str] 0 (List.getD (EC.encL ec_9 b2) (Int.toNat t27) [])) <|
 (gdE ((((List.all (List.map (fun (b : UInt8) => [(byteC b)]) (Array.toList (ByteArray.data (strOf (List.getD (List.getD (EC.encL ec_9 b2) (Int.toNat t27) []) 0 C.ne))))) (fun (el : (List C)) => ((List.length el) == 1))) && (List.all (EC.encL ec_5 b1) (fun (el : (List C)) => ((List.length el) == 1)))) && (decide (((((out + (List.length (List.map (fun (b : UInt8) => [(byteC b)]) (Array.toList (ByteArray.data (strOf (List.getD (List.getD (EC.encL ec_9 b2) (Int.toNat t27) []) 0 C.ne))))))) + ((out + (List.length (List.map (fun (b : UInt8) => [(byteC b)]) (Array.toList (ByteArray.data (strOf (List.getD (List.getD (EC.encL ec_9 b2) (Int.toNat t27) []) 0 C.ne))))))) / 4)) + 192) * 1) ≤ 281474976710656))) && (decide ((out + (List.length (List.map (fun (b : UInt8) => [(byteC b)]) (Array.toList (ByteArray.data (strOf (List.getD (List.getD (EC.encL ec_9 b2) (Int.toNat t27) []) 0 C.ne))))))) ≤ 9223372036854775807))) <|
 (gdE ((((List.all [[(C.int Go.IntKind.u8 13)], [(C.int Go.IntKind.u8 10)]] (fun (el : (List C)) => ((List.length el) == 1))) && (List.all ((EC.encL ec_5 b1) ++ (List.map (fun (b : UInt8) => [(byteC b)]) (Array.toList (ByteArray.data (strOf (List.getD (List.getD (EC.encL ec_9 b2) (Int.toNat t27) []) 0 C.ne)))))) (fun (el : (List C)) => ((List.length el) == 1)))) && (decide ((((((out + (List.length (List.map (fun (b : UInt8) => [(byteC b)]) (Array.toList (ByteArray.data (strOf (List.getD (List.getD (EC.encL ec_9 b2) (Int.toNat t27) []) 0 C.ne))))))) + (List.length [[(C.int Go.IntKind.u8 13)], [(C.int Go.IntKind.u8 10)]])) + (((out + (List.length (List.map (fun (b : UInt8) => [(byteC b)]) (Array.toList (ByteArray.data (strOf (List.getD (List.getD (EC.encL ec_9 b2) (Int.toNat t27) []) 0 C.ne))))))) + (List.length [[(C.int Go.IntKind.u8 13)], [(C.int Go.IntKind.u8 10)]])) / 4)) + 192) * 1) ≤ 281474976710656))) && (decide (((out + (List.length (List.map (fun (b : UInt8) => [(byteC b)]) (Array.toList (ByteArray.data (strOf (List.getD (List.getD (EC.encL ec_9 b2) (Int.toNat t27) []) 0 C.ne))))))) + (List.length [[(C.int Go.IntKind.u8 13)], [(C.int Go.IntKind.u8 10)]])) ≤ 9223372036854775807))) <|
 (gdE (EC.isL ec_55 (EC.encL ec_55 t11)) <|
 (gdE (EC.isL ec_55 (EC.encL ec_55 b0)) <|
 (gdE (EC.isL ec_5 (EC.encL ec_5 b0_1)) <|
 (gdE (EC.isL ec_5 (((EC.encL ec_5 b1) ++ (List.map (fun (b : UInt8) => [(byteC b)]) (Array.toList (ByteArray.data (strOf (List.getD (List.getD (EC.encL ec_9 b2) (Int.toNat t27) []) 0 C.ne)))))) ++ [[(C.int Go.IntKind.u8 13)], [(C.int Go.IntKind.u8 10)]])) <|
 (gdE (EC.isL ec_9 (EC.encL ec_9 b2)) <|
 (qot ((out + (List.length (List.map (fun (b : UInt8) => [(byteC b)]) (Array.toList (ByteArray.data (strOf (List.getD (List.getD (EC.encL ec_9 b2) (Int.toNat t27) []) 0 C.ne))))))) + (List.length [[(C.int Go.IntKind.u8 13)], [(C.int Go.IntKind.u8 10)]])) (EC.decL ec_55 (EC.encL ec_55 t11)) t12 t13 t25 t26 (IntKind.wrap .i64 (t27 + 1)) (EC.decL ec_55 (EC.encL ec_55 b0)) (EC.decL ec_5 (EC.encL ec_5 b0_1)) (EC.decL ec_5 (((EC.encL ec_5 b1) ++ (List.map (fun (b : UInt8) => [(byteC b)]) (Array.toList (ByteArray.data (strOf (List.getD (List.getD (EC.encL ec_9 b2) (Int.toNat t27) []) 0 C.ne)))))) ++ [[(C.int Go.IntKind.u8 13)], [(C.int Go.IntKind.u8 10)]])) (EC.decL ec_9 (EC.encL ec_9 b2)))))))))))))
 (gdE (EC.isL ec_55 (EC.encL ec_55 t11)) <|
 (gdE (EC.isL ec_55 (EC.encL ec_55 b0)) <|
 (gdE (EC.isL ec_5 (EC.encL ec_5 b0_1)) <|
 (gdE (EC.isL ec_5 (EC.encL ec_5 b1)) <|
 (gdE (EC.isL ec_9 (EC.encL ec_9 b2)) <|
 (some (((), (out, ((EC.decL ec_55 (EC.encL ec_55 t11)), (t12, (t13, (t25, (t26, (t27, false)))))))), (((EC.decL ec_55 (EC.encL ec_55 b0)), (EC.decL ec_5 (EC.encL ec_5 b0_1))), ((EC.decL ec_5 (EC.encL ec_5 b1)), (EC.decL ec_9 (EC.encL ec_9 b2))))))))))))
theorem qov {out} {t11} {t12} {t13} {t25} {t26} {t27} {b0} {b0_1} {b1} {b2} {r} (h : qoz out t11 t12 t13 t25 t26 t27 b0 b0_1 b1 b2 = some r) : qot out t11 t12 t13 t25 t26 t27 b0 b0_1 b1 b2 = some r :=
 qmj (es := q10r) (hs := []) [] (by kernel_rfl) trivial trivial (by kernel_rfl) h
def qou := lentS Tryz.prog lv X0 7 (getLoop (cdF Tryz.f67) 7) qoy qow (fun x => qot x.1.2.1 x.1.2.2.1 x.1.2.2.2.1 x.1.2.2.2.2.1 x.1.2.2.2.2.2.1 x.1.2.2.2.2.2.2.1 x.1.2.2.2.2.2.2.2 x.2.1.1 x.2.1.2 x.2.2.1 x.2.2.2) (fun _ _ h => qmi h)
def qor := sLS [1, 3, 11, 12, 13] (lCons (vPtr 0 0) (lCons (vRow 1) (lCons (vC (cSl ec_55)) (lCons (vC (cInt .i64)) (lOne (vC (cInt .i64))))))) (lCons (oSome (bBox (lCons (vC (cSl ec_55)) (lOne (vC (cSl ec_5)))))) (lOne (oSome (bRow ec_5)))) [false, false] [] (by decide) (fun _ => rfl)
def qoq := sLS [1, 3, 11, 12, 13, 14] (lCons (vPtr 0 0) (lCons (vRow 1) (lCons (vC (cSl ec_55)) (lCons (vC (cInt .i64)) (lCons (vC (cInt .i64)) (lOne (vC cBool))))))) (lCons (oSome (bBox (lCons (vC (cSl ec_55)) (lOne (vC (cSl ec_5)))))) (lOne (oSome (bRow ec_5)))) [false, false] [] (by decide) (fun _ => rfl)
def qop := oAt 2 qoq
def qom (out : Nat) (t11 : (List S55)) (t12 : Int) (t13 : Int) (b0 : (List S55)) (b0_1 : (List Int)) (b1 : (List Int)) : Option ((Unit × Nat × (List S55) × Int × Int × Bool) × (((List S55) × (List Int)) × (List Int))) := lS Tryz.prog lv X0 67 44 (getLoop (cdF Tryz.f67) 3) qor qop (((), out, t11, t12, t13), ((b0, b0_1), b1))
def qos (out : Nat) (t11 : (List S55)) (t12 : Int) (t13 : Int) (b0 : (List S55)) (b0_1 : (List Int)) (b1 : (List Int)) : Option ((Unit × Nat × (List S55) × Int × Int × Bool) × (((List S55) × (List Int)) × (List Int))) :=
 (brE (decide (t13 < t12))
 (gdE (decide (0 ≤ t13)) <|
 (gdE ((decide ((Int.toNat t13) < (List.length (EC.encL ec_55 t11)))) && (isE [K1.str, K1.str] 0 (List.getD (EC.encL ec_55 t11) (Int.toNat t13) []))) <|
 (Option.bind (qgw (strOf (List.getD (List.getD (EC.encL ec_55 t11) (Int.toNat t13) []) 0 C.ne)) (strOf (List.getD (List.getD (EC.encL ec_55 t11) (Int.toNat t13) []) 1 C.ne))) fun r0 =>
 (gdE (EC.isL ec_55 (EC.encL ec_55 t11)) <|
 (gdE (EC.isL ec_55 (EC.encL ec_55 b0)) <|
 (gdE (EC.isL ec_5 (EC.encL ec_5 b0_1)) <|
 (gdE (EC.isL ec_5 (EC.encL ec_5 b1)) <|
 (gdE (EC.isL ec_9 (EC.encL ec_9 r0.2)) <|
 (Option.bind (qot out (EC.decL ec_55 (EC.encL ec_55 t11)) t12 t13 r0.1.1 ((r0.1.1 : Nat) : Int) 0 (EC.decL ec_55 (EC.encL ec_55 b0)) (EC.decL ec_5 (EC.encL ec_5 b0_1)) (EC.decL ec_5 (EC.encL ec_5 b1)) (EC.decL ec_9 (EC.encL ec_9 r0.2))) fun r1 =>
 (gdE (EC.isL ec_55 (EC.encL ec_55 r1.1.2.2.1)) <|
 (gdE (EC.isL ec_55 (EC.encL ec_55 r1.2.1.1)) <|
 (gdE (EC.isL ec_5 (EC.encL ec_5 r1.2.1.2)) <|
 (gdE (EC.isL ec_5 (EC.encL ec_5 r1.2.2.1)) <|
 (qom r1.1.2.1 (EC.decL ec_55 (EC.encL ec_55 r1.1.2.2.1)) r1.1.2.2.2.1 (IntKind.wrap .i64 (r1.1.2.2.2.2.1 + 1)) (EC.decL ec_55 (EC.encL ec_55 r1.2.1.1)) (EC.decL ec_5 (EC.encL ec_5 r1.2.1.2)) (EC.decL ec_5 (EC.encL ec_5 r1.2.2.1))))))))))))))))
 (gdE (EC.isL ec_55 (EC.encL ec_55 t11)) <|
 (gdE (EC.isL ec_55 (EC.encL ec_55 b0)) <|
 (gdE (EC.isL ec_5 (EC.encL ec_5 b0_1)) <|
 (gdE (EC.isL ec_5 (EC.encL ec_5 b1)) <|
 (some (((), (out, ((EC.decL ec_55 (EC.encL ec_55 t11)), (t12, (t13, false))))), (((EC.decL ec_55 (EC.encL ec_55 b0)), (EC.decL ec_5 (EC.encL ec_5 b0_1))), (EC.decL ec_5 (EC.encL ec_5 b1))))))))))
theorem qoo {out} {t11} {t12} {t13} {b0} {b0_1} {b1} {r} (h : qos out t11 t12 t13 b0 b0_1 b1 = some r) : qom out t11 t12 t13 b0 b0_1 b1 = some r :=
 qmj (es := q10r) (hs := []) [qou] (by kernel_rfl) ⟨⟨_, rfl, rfl⟩, trivial⟩ trivial (by kernel_rfl) h
def qon := lentS Tryz.prog lv X0 3 (getLoop (cdF Tryz.f67) 3) qor qop (fun x => qom x.1.2.1 x.1.2.2.1 x.1.2.2.2.1 x.1.2.2.2.2 x.2.1.1 x.2.1.2 x.2.2) (fun _ _ h => qmi h)
def qoj : Cod (V × List B) (Nat × (List Int)) := (cPair (vRow 0) (lOne (bRow ec_5)))
def qp0 (m_Fields : (List S55)) (m_Body : (List Int)) : Option (Nat × (List Int)) := fS Tryz.prog lv X0 67 qoi qoj (m_Fields, m_Body)
def qp1 (m_Fields : (List S55)) (m_Body : (List Int)) : Option (Nat × (List Int)) :=
 (gdE (EC.isL ec_55 (EC.encL ec_55 m_Fields)) <|
 (gdE (EC.isL ec_55 (EC.encL ec_55 m_Fields)) <|
 (gdE (EC.isL ec_5 (EC.encL ec_5 m_Body)) <|
 (Option.bind (qom 0 (EC.decL ec_55 (EC.encL ec_55 m_Fields)) (List.length (EC.encL ec_55 m_Fields) : Int) 0 (EC.decL ec_55 (EC.encL ec_55 m_Fields)) (EC.decL ec_5 (EC.encL ec_5 m_Body)) (EC.decL ec_5 [])) fun r0 =>
 (gdE ((((List.all [[(C.int Go.IntKind.u8 13)], [(C.int Go.IntKind.u8 10)]] (fun (el : (List C)) => ((List.length el) == 1))) && (List.all (EC.encL ec_5 r0.2.2) (fun (el : (List C)) => ((List.length el) == 1)))) && (decide (((((r0.1.2.1 + (List.length [[(C.int Go.IntKind.u8 13)], [(C.int Go.IntKind.u8 10)]])) + ((r0.1.2.1 + (List.length [[(C.int Go.IntKind.u8 13)], [(C.int Go.IntKind.u8 10)]])) / 4)) + 192) * 1) ≤ 281474976710656))) && (decide ((r0.1.2.1 + (List.length [[(C.int Go.IntKind.u8 13)], [(C.int Go.IntKind.u8 10)]])) ≤ 9223372036854775807))) <|
 (gdE ((((List.all (EC.encL ec_5 r0.2.1.2) (fun (el : (List C)) => ((List.length el) == 1))) && (List.all ((EC.encL ec_5 r0.2.2) ++ [[(C.int Go.IntKind.u8 13)], [(C.int Go.IntKind.u8 10)]]) (fun (el : (List C)) => ((List.length el) == 1)))) && (decide ((((((r0.1.2.1 + (List.length [[(C.int Go.IntKind.u8 13)], [(C.int Go.IntKind.u8 10)]])) + (List.length (EC.encL ec_5 r0.2.1.2))) + (((r0.1.2.1 + (List.length [[(C.int Go.IntKind.u8 13)], [(C.int Go.IntKind.u8 10)]])) + (List.length (EC.encL ec_5 r0.2.1.2))) / 4)) + 192) * 1) ≤ 281474976710656))) && (decide (((r0.1.2.1 + (List.length [[(C.int Go.IntKind.u8 13)], [(C.int Go.IntKind.u8 10)]])) + (List.length (EC.encL ec_5 r0.2.1.2))) ≤ 9223372036854775807))) <|
 (gdE (EC.isL ec_5 (((EC.encL ec_5 r0.2.2) ++ [[(C.int Go.IntKind.u8 13)], [(C.int Go.IntKind.u8 10)]]) ++ (EC.encL ec_5 r0.2.1.2))) <|
 (some (((r0.1.2.1 + (List.length [[(C.int Go.IntKind.u8 13)], [(C.int Go.IntKind.u8 10)]])) + (List.length (EC.encL ec_5 r0.2.1.2))), (EC.decL ec_5 (((EC.encL ec_5 r0.2.2) ++ [[(C.int Go.IntKind.u8 13)], [(C.int Go.IntKind.u8 10)]]) ++ (EC.encL ec_5 r0.2.1.2))))))))))))
theorem qol {m_Fields} {m_Body} {r} (h : qp1 m_Fields m_Body = some r) : qp0 m_Fields m_Body = some r :=
 qfh (es := q10r) (hs := []) [qon] Tryz.func67 rfl (by kernel_rfl) rfl (by kernel_rfl) (by kernel_rfl) ⟨⟨_, rfl, rfl⟩, trivial⟩ trivial (by kernel_rfl) h
def qok := entS Tryz.prog lv X0 67 [] qoi qoj (fun x => qp0 x.1 x.2) (fun _ _ h => qfg h)
def q10z := qok :: q10r
def qoc := (lOne (vC (cSl ec_5)))
def qod : Cod (V × List B) (Int × Int) := (cFstU (cPair (vAgg (lCons (vC (cInt .i64)) (lOne (vC (cInt .i64))))) lNil))
def qog (b : (List Int)) : Option (Int × Int) := fS Tryz.prog lv X0 91 qoc qod b
def qoh (b : (List Int)) : Option (Int × Int) :=
 (gdE (EC.isL ec_5 (EC.encL ec_5 b)) <|
 (Option.bind (q53 (EC.decL ec_5 (EC.encL ec_5 b))) fun r0 =>
 (brE (r0 == 11)
 (Option.bind (q5f 11 (-5)) fun r1 =>
 (some (r1.1, r1.2)))
 (brE (r0 == 1)
 (Option.bind (q5f 1 (-6)) fun r1 =>
 (some (r1.1, r1.2)))
 (Option.bind q6g fun r1 =>
 (some (r1.1, r1.2)))))))
theorem qof {b} {r} (h : qoh b = some r) : qog b = some r :=
 qfh (es := q10z) (hs := []) [] Tryz.func91 rfl (by kernel_rfl) rfl (by kernel_rfl) (by kernel_rfl) trivial trivial (by kernel_rfl) h
def qoe := entS Tryz.prog lv X0 91 [] qoc qod (fun x => qog x) (fun _ _ h => qfg h)
def q10y := qoe :: q10z
def qo0 := (lOne (vAgg (lCons (vC (cSl ec_55)) (lOne (vC (cSl ec_5))))))
def qo1 : Cod (V × List B) (Int × Int) := (cFstU (cPair (vAgg (lCons (vC (cInt .i64)) (lOne (vC (cInt .i64))))) lNil))
def qo4 (m_Fields : (List S55)) (m_Body : (List Int)) : Option (Int × Int) := fS Tryz.prog lv X0 66 qo0 qo1 (m_Fields, m_Body)
def qo5 (m_Fields : (List S55)) (m_Body : (List Int)) : Option (Int × Int) :=
 (gdE (EC.isL ec_55 (EC.encL ec_55 m_Fields)) <|
 (Option.bind (qk7 (EC.decL ec_55 (EC.encL ec_55 m_Fields))) fun r0 =>
 (Option.bind (q59 r0.1 r0.2) fun r1 =>
 (brE r1
 (some (r0.1, r0.2))
 (gdE (EC.isL ec_55 (EC.encL ec_55 m_Fields)) <|
 (gdE (EC.isL ec_5 (EC.encL ec_5 m_Body)) <|
 (Option.bind (qp0 (EC.decL ec_55 (EC.encL ec_55 m_Fields)) (EC.decL ec_5 (EC.encL ec_5 m_Body))) fun r2 =>
 (brE (decide (((r2.1 : Nat) : Int) > 12000))
 (Option.bind (q5f 1 (-4)) fun r3 =>
 (some (r3.1, r3.2)))
 (gdE (EC.isL ec_5 (EC.encL ec_5 m_Body)) <|
 (Option.bind (qog (EC.decL ec_5 (EC.encL ec_5 m_Body))) fun r3 =>
 (some (r3.1, r3.2))))))))))))
theorem qo3 {m_Fields} {m_Body} {r} (h : qo5 m_Fields m_Body = some r) : qo4 m_Fields m_Body = some r :=
 qfh (es := q10y) (hs := []) [] Tryz.func66 rfl (by kernel_rfl) rfl (by kernel_rfl) (by kernel_rfl) trivial trivial (by kernel_rfl) h
def qo2 := entS Tryz.prog lv X0 66 [] qo0 qo1 (fun x => qo4 x.1 x.2) (fun _ _ h => qfg h)
def q10w := qo2 :: q10y
def qo6 := (lOne (vAgg (lCons (vC (cSl ec_55)) (lOne (vC (cSl ec_5))))))
def qo7 : Cod (V × List B) ((Nat × (Int × Int)) × (List Int)) := (cPair (vTup (lCons (vRow 0) (lOne (vAgg (lCons (vC (cInt .i64)) (lOne (vC (cInt .i64)))))))) (lOne (bRow ec_5)))
def qoa (m_Fields : (List S55)) (m_Body : (List Int)) : Option ((Nat × (Int × Int)) × (List Int)) := fS Tryz.prog lv X0 42 qo6 qo7 (m_Fields, m_Body)
def qob (m_Fields : (List S55)) (m_Body : (List Int)) : Option ((Nat × (Int × Int)) × (List Int)) :=
 (gdE (EC.isL ec_55 (EC.encL ec_55 m_Fields)) <|
 (gdE (EC.isL ec_5 (EC.encL ec_5 m_Body)) <|
 (Option.bind (qo4 (EC.decL ec_55 (EC.encL ec_55 m_Fields)) (EC.decL ec_5 (EC.encL ec_5 m_Body))) fun r0 =>
 (Option.bind (q59 r0.1 r0.2) fun r1 =>
 (brE r1
 (some ((0, (r0.1, r0.2)), (EC.decL ec_5 [])))
 (gdE (EC.isL ec_55 (EC.encL ec_55 m_Fields)) <|
 (gdE (EC.isL ec_5 (EC.encL ec_5 m_Body)) <|
 (Option.bind (qp0 (EC.decL ec_55 (EC.encL ec_55 m_Fields)) (EC.decL ec_5 (EC.encL ec_5 m_Body))) fun r2 =>
 (Option.bind q6g fun r3 =>
 (gdE (EC.isL ec_5 (EC.encL ec_5 r2.2)) <|
 (some ((r2.1, (r3.1, r3.2)), (EC.decL ec_5 (EC.encL ec_5 r2.2))))))))))))))
theorem qo9 {m_Fields} {m_Body} {r} (h : qob m_Fields m_Body = some r) : qoa m_Fields m_Body = some r :=
 qfh (es := q10w) (hs := []) [] Tryz.func42 rfl (by kernel_rfl) rfl (by kernel_rfl) (by kernel_rfl) trivial trivial (by kernel_rfl) h
def qo8 := entS Tryz.prog lv X0 42 [] qo6 qo7 (fun x => qoa x.1 x.2) (fun _ _ h => qfg h)
def q10x := qo8 :: q10w
def qag := (lOne (vC (cInt .u8)))
def qah : Cod (V × List B) Bool := (cFstU (cPair (vC cBool) lNil))
def qak (c : Int) : Option Bool := fS Tryz.prog lv X0 140 qag qah c
def qal (c : Int) : Option Bool :=
 (brE ((decide (c ≥ 97)) == true)
 (brE ((decide (c ≤ 122)) == false)
 (brE ((decide (c ≥ 48)) == true)
 (brE ((decide (c ≤ 57)) == false)
 (brE ((c == 45) == false)
 (some (c == 46))
 (some true))
 (some true))
 (brE ((c == 45) == false)
 (some (c == 46))
 (some true)))
 (some true))
 (brE ((decide (c ≥ 48)) == true)
 (brE ((decide (c ≤ 57)) == false)
 (brE ((c == 45) == false)
 (some (c == 46))
 (some true))
 (some true))
 (brE ((c == 45) == false)
 (some (c == 46))
 (some true))))
theorem qaj {c} {r} (h : qal c = some r) : qak c = some r :=
 qfh (es := q10x) (hs := []) [] Tryz.func140 rfl (by kernel_rfl) rfl (by kernel_rfl) (by kernel_rfl) trivial trivial (by kernel_rfl) h
def qai := entS Tryz.prog lv X0 140 [] qag qah (fun x => qak x) (fun _ _ h => qfg h)
def q10b := qai :: q10x
def qz : Cod (List V) (ByteArray × Unit) := (lCons (vC cStr) (lOne (vFn 140 lNil)))
def q19 := sLS [0, 1, 7, 8] (lCons (vC cStr) (lCons (vFn 140 lNil) (lCons (vC (cInt .i64)) (lOne (vC (cInt .i64)))))) lNil [] [] (by decide) (fun _ => rfl)
def q18 := sLS [0, 1, 7, 8, 9] (lCons (vC cStr) (lCons (vFn 140 lNil) (lCons (vC (cInt .i64)) (lCons (vC (cInt .i64)) (lOne (vC cBool)))))) lNil [] [] (by decide) (fun _ => rfl)
def q17 := sLS [4] (lOne (vC cBool)) lNil [] [] (by decide) (fun _ => rfl)
def q16 := oOr 1 q17 (oAt 2 q18) (fun x => (by decide : (2 : Nat) ≠ 1))
def q13 (s : ByteArray) (t7 : Int) (t8 : Int) : Option ((Bool × Unit) ⊕ ((ByteArray × Unit × Int × Int × Bool) × Unit)) := lS Tryz.prog lv X0 84 18 (getLoop (cdF Tryz.f84) 2) q19 q16 ((s, (), t7, t8), ())
def q1a (s : ByteArray) (t7 : Int) (t8 : Int) : Option ((Bool × Unit) ⊕ ((ByteArray × Unit × Int × Int × Bool) × Unit)) :=
 (brE (decide (t8 < t7))
 (gdE ((decide (0 ≤ t8)) && (decide ((Int.toNat t8) < (ByteArray.size s)))) <|
 (Option.bind (qak (((UInt8.toNat (Array.getD (ByteArray.data s) (Int.toNat t8) (0 : UInt8))) : Nat) : Int)) fun r0 =>
 (brE (!r0)
 (some (.inl (false, ())))
 (q13 s t7 (IntKind.wrap .i64 (t8 + 1))))))
 (some (.inr ((s, ((), (t7, (t8, false)))), ()))))
theorem q15 {s} {t7} {t8} {r} (h : q1a s t7 t8 = some r) : q13 s t7 t8 = some r :=
 qmj (es := q10b) (hs := []) [] (by kernel_rfl) trivial trivial (by kernel_rfl) h
def q14 := lentS Tryz.prog lv X0 2 (getLoop (cdF Tryz.f84) 2) q19 q16 (fun x => q13 x.1.1 x.1.2.2.1 x.1.2.2.2) (fun _ _ h => qmi h)
def q10 : Cod (V × List B) Bool := (cFstU (cPair (vC cBool) lNil))
def q1d (s : ByteArray) : Option Bool := fS Tryz.prog lv X0 84 qz q10 (s, ())
def q1f (s : ByteArray) : Option Bool :=
 (Option.bind (q13 s (s.size : Int) 0) fun r0 =>
 (Sum.elim (fun r1 => (some r1.1))
 (fun r1 => (some true)) r0))
theorem q12 {s} {r} (h : q1f s = some r) : q1d s = some r :=
 qfh (es := q10b) (hs := []) [q14] Tryz.func84 rfl (by kernel_rfl) rfl (by kernel_rfl) (by kernel_rfl) ⟨⟨_, rfl, rfl⟩, trivial⟩ trivial (by kernel_rfl) h
def q11 := entS Tryz.prog lv X0 84 [140] qz q10 (fun x => q1d x.1) (fun _ _ h => qfg h)
def qzu := q11 :: q10b
def qam := (lOne (vC cStr))
def qan : Cod (V × List B) Bool := (cFstU (cPair (vC cBool) lNil))
def qaq (s : ByteArray) : Option Bool := fS Tryz.prog lv X0 113 qam qan s
def qar (s : ByteArray) : Option Bool :=
 (brE ((!((ByteArray.toList s) == (ByteArray.toList ⟨#[]⟩))) == true)
 (brE ((decide ((s.size : Int) ≤ 60)) == true)
 (Option.bind (q1d s) fun r0 =>
 (brE (r0 == true)
 (Option.bind (qz2 s (ByteArray.mk (List.toArray [(46 : UInt8)]))) fun r1 =>
 (brE ((!r1) == true)
 (Option.bind (qz8 s (ByteArray.mk (List.toArray [(46 : UInt8)]))) fun r2 =>
 (brE ((!r2) == true)
 (Option.bind (contP s (ByteArray.mk (List.toArray [(46 : UInt8), (46 : UInt8)]))) fun r3 =>
 (some (!r3)))
 (some false)))
 (some false)))
 (some false)))
 (some false))
 (some false))
theorem qap {s} {r} (h : qar s = some r) : qaq s = some r :=
 qfh (es := qzu) (hs := []) [] Tryz.func113 rfl (by kernel_rfl) rfl (by kernel_rfl) (by kernel_rfl) trivial trivial (by kernel_rfl) h
def qao := entS Tryz.prog lv X0 113 [] qam qan (fun x => qaq x) (fun _ _ h => qfg h)
def q10a := qao :: qzu
def qbc := (lOne (vC (cInt .u8)))
def qbd : Cod (V × List B) Bool := (cFstU (cPair (vC cBool) lNil))
def qbg (c : Int) : Option Bool := fS Tryz.prog lv X0 111 qbc qbd c
def qbh (c : Int) : Option Bool :=
 (Option.bind (q5l c) fun r0 =>
 (brE (r0 == false)
 (some (decide ((Go.Lib.indexByte (Array.toList (List.toArray [(45 : UInt8), (95 : UInt8), (46 : UInt8), (43 : UInt8), (61 : UInt8)])) (Nat.toUInt8 (Int.toNat c))) ≥ 0)))
 (some true)))
theorem qbf {c} {r} (h : qbh c = some r) : qbg c = some r :=
 qfh (es := q10a) (hs := []) [] Tryz.func111 rfl (by kernel_rfl) rfl (by kernel_rfl) (by kernel_rfl) trivial trivial (by kernel_rfl) h
def qbe := entS Tryz.prog lv X0 111 [] qbc qbd (fun x => qbg x) (fun _ _ h => qfg h)
def q10f := qbe :: q10a
def q1y : Cod (List V) (ByteArray × Unit) := (lCons (vC cStr) (lOne (vFn 111 lNil)))
def q28 := sLS [0, 1, 7, 8] (lCons (vC cStr) (lCons (vFn 111 lNil) (lCons (vC (cInt .i64)) (lOne (vC (cInt .i64)))))) lNil [] [] (by decide) (fun _ => rfl)
def q27 := sLS [0, 1, 7, 8, 9] (lCons (vC cStr) (lCons (vFn 111 lNil) (lCons (vC (cInt .i64)) (lCons (vC (cInt .i64)) (lOne (vC cBool)))))) lNil [] [] (by decide) (fun _ => rfl)
def q26 := sLS [4] (lOne (vC cBool)) lNil [] [] (by decide) (fun _ => rfl)
def q25 := oOr 1 q26 (oAt 2 q27) (fun x => (by decide : (2 : Nat) ≠ 1))
def q22 (s : ByteArray) (t7 : Int) (t8 : Int) : Option ((Bool × Unit) ⊕ ((ByteArray × Unit × Int × Int × Bool) × Unit)) := lS Tryz.prog lv X0 84 18 (getLoop (cdF Tryz.f84) 2) q28 q25 ((s, (), t7, t8), ())
def q29 (s : ByteArray) (t7 : Int) (t8 : Int) : Option ((Bool × Unit) ⊕ ((ByteArray × Unit × Int × Int × Bool) × Unit)) :=
 (brE (decide (t8 < t7))
 (gdE ((decide (0 ≤ t8)) && (decide ((Int.toNat t8) < (ByteArray.size s)))) <|
 (Option.bind (qbg (((UInt8.toNat (Array.getD (ByteArray.data s) (Int.toNat t8) (0 : UInt8))) : Nat) : Int)) fun r0 =>
 (brE (!r0)
 (some (.inl (false, ())))
 (q22 s t7 (IntKind.wrap .i64 (t8 + 1))))))
 (some (.inr ((s, ((), (t7, (t8, false)))), ()))))
theorem q24 {s} {t7} {t8} {r} (h : q29 s t7 t8 = some r) : q22 s t7 t8 = some r :=
 qmj (es := q10f) (hs := []) [] (by kernel_rfl) trivial trivial (by kernel_rfl) h
def q23 := lentS Tryz.prog lv X0 2 (getLoop (cdF Tryz.f84) 2) q28 q25 (fun x => q22 x.1.1 x.1.2.2.1 x.1.2.2.2) (fun _ _ h => qmi h)
def q1z : Cod (V × List B) Bool := (cFstU (cPair (vC cBool) lNil))
def q2c (s : ByteArray) : Option Bool := fS Tryz.prog lv X0 84 q1y q1z (s, ())
def q2e (s : ByteArray) : Option Bool :=
 (Option.bind (q22 s (s.size : Int) 0) fun r0 =>
 (Sum.elim (fun r1 => (some r1.1))
 (fun r1 => (some true)) r0))
theorem q21 {s} {r} (h : q2e s = some r) : q2c s = some r :=
 qfh (es := q10f) (hs := []) [q23] Tryz.func84 rfl (by kernel_rfl) rfl (by kernel_rfl) (by kernel_rfl) ⟨⟨_, rfl, rfl⟩, trivial⟩ trivial (by kernel_rfl) h
def q20 := entS Tryz.prog lv X0 84 [111] q1y q1z (fun x => q2c x.1) (fun _ _ h => qfg h)
def qzw := q20 :: q10f
def qbi := (lOne (vC cStr))
def qbj : Cod (V × List B) (ByteArray × ByteArray × Bool) := (cFstU (cPair (vTup (lCons (vC cStr) (lCons (vC cStr) (lOne (vC cBool))))) lNil))
def qbm (s : ByteArray) : Option (ByteArray × ByteArray × Bool) := fS Tryz.prog lv X0 83 qbi qbj s
def qbn (s : ByteArray) : Option (ByteArray × ByteArray × Bool) :=
 (Option.bind (cutP s (ByteArray.mk (List.toArray [(64 : UInt8)]))) fun r0 =>
 (brE (r0.2.2 == true)
 (brE ((!((ByteArray.toList r0.1) == (ByteArray.toList ⟨#[]⟩))) == true)
 (brE ((decide ((((ByteArray.size r0.1) : Nat) : Int) ≤ 60)) == true)
 (Option.bind (q2c r0.1) fun r1 =>
 (brE (r1 == true)
 (Option.bind (qaq r0.2.1) fun r2 =>
 (some (r0.1, (r0.2.1, r2))))
 (some (r0.1, (r0.2.1, false)))))
 (some (r0.1, (r0.2.1, false))))
 (some (r0.1, (r0.2.1, false))))
 (some (r0.1, (r0.2.1, false)))))
theorem qbl {s} {r} (h : qbn s = some r) : qbm s = some r :=
 qfh (es := qzw) (hs := []) [] Tryz.func83 rfl (by kernel_rfl) rfl (by kernel_rfl) (by kernel_rfl) trivial trivial (by kernel_rfl) h
def qbk := entS Tryz.prog lv X0 83 [] qbi qbj (fun x => qbm x) (fun _ _ h => qfg h)
def q10e := qbk :: qzw
def qaa := (lOne (vC cStr))
def qab : Cod (V × List B) Bool := (cFstU (cPair (vC cBool) lNil))
def qae (s : ByteArray) : Option Bool := fS Tryz.prog lv X0 63 qaa qab s
def qaf (s : ByteArray) : Option Bool :=
 (Option.bind (qbm s) fun r0 =>
 (some r0.2.2))
theorem qad {s} {r} (h : qaf s = some r) : qae s = some r :=
 qfh (es := q10e) (hs := []) [] Tryz.func63 rfl (by kernel_rfl) rfl (by kernel_rfl) (by kernel_rfl) trivial trivial (by kernel_rfl) h
def qac := entS Tryz.prog lv X0 63 [] qaa qab (fun x => qae x) (fun _ _ h => qfg h)
def q109 := qac :: q10e
def qas := (lOne (vC (cInt .i64)))
def qat : Cod (V × List B) Bool := (cFstU (cPair (vC cBool) lNil))
def qaw (n : Int) : Option Bool := fS Tryz.prog lv X0 87 qas qat n
def qax (n : Int) : Option Bool :=
 (brE ((decide (n ≥ 0)) == true)
 (some (decide (n ≤ 7)))
 (some false))
theorem qav {n} {r} (h : qax n = some r) : qaw n = some r :=
 qfh (es := q109) (hs := []) [] Tryz.func87 rfl (by kernel_rfl) rfl (by kernel_rfl) (by kernel_rfl) trivial trivial (by kernel_rfl) h
def qau := entS Tryz.prog lv X0 87 [] qas qat (fun x => qaw x) (fun _ _ h => qfg h)
def q10c := qau :: q109
def qtc := (lCons (vAgg (lCons (vC cStr) (lOne (vC (cInt .i64))))) (lOne (vEptr (lCons cStr (lOne (cInt .i64))) 0)))
def qtd : Cod (V × List B) Bool := (cFstU (cPair (vC cBool) lNil))
def qtg (x_Address : ByteArray) (x_Notify : Int) (c1_0 : ByteArray) (c1_1 : Int) : Option Bool := fS Tryz.prog lv X0 89 qtc qtd ((x_Address, x_Notify), (c1_0, c1_1))
def qth (x_Address : ByteArray) (x_Notify : Int) (c1_0 : ByteArray) (c1_1 : Int) : Option Bool :=
 (some ((ByteArray.toList x_Address) == (ByteArray.toList c1_0)))
theorem qtf {x_Address} {x_Notify} {c1_0} {c1_1} {r} (h : qth x_Address x_Notify c1_0 c1_1 = some r) : qtg x_Address x_Notify c1_0 c1_1 = some r :=
 qfh (es := q10c) (hs := []) [] Tryz.func89 rfl (by kernel_rfl) rfl (by kernel_rfl) (by kernel_rfl) trivial trivial (by kernel_rfl) h
def qte := entS Tryz.prog lv X0 89 [] qtc qtd (fun x => qtg x.1.1 x.1.2 x.2.1 x.2.2) (fun _ _ h => qfg h)
def q116 := qte :: q10c
structure S118 where
 Address : ByteArray
 Notify : Int
def ec_118 : EC S118 where
 enc x := [.str x.Address, .int .i64 x.Notify]
 dec c := ⟨strOf (c.getD 0 .ne), intOf (c.getD 1 .ne)⟩
 is c := isE [.str, .int .i64] 0 c
 enc_dec h := q8t h
 dec_enc x := by rfl
 is_enc x := by simp [isE, isK]
theorem qa3 (x : S118) : ec_118.enc x = [.str x.Address, .int .i64 x.Notify] := rfl
theorem qlv (xs : List S118) (n : Nat) : isE [.str, .int .i64] 0 ((ec_118.encL xs).getD n []) = decide (n < xs.length) := by
 by_cases h : n < xs.length
 ·simp only [EC.getD_lt _ _ h]; simp [qa3, isE, isK, h]
 ·simp only [EC.getD_ge _ _ (Nat.not_lt.1 h)]; simp [isE, isK, h]
theorem q3o (xs : List S118) (n : Nat) : strOf (((ec_118.encL xs).getD n []).getD 0 .ne) = (xs.getD n (ec_118.dec [])).Address := by
 by_cases h : n < xs.length
 ·simp only [EC.getD_lt _ _ h]; simp [qa3, h, strOf, List.getD_eq_getElem?_getD]
 ·simp only [EC.getD_ge _ _ (Nat.not_lt.1 h)]; simp [Nat.not_lt.1 h, ec_118, strOf, intOf, List.getD_eq_getElem?_getD]
theorem q3p (xs : List S118) (n : Nat) : intOf (((ec_118.encL xs).getD n []).getD 1 .ne) = (xs.getD n (ec_118.dec [])).Notify := by
 by_cases h : n < xs.length
 ·simp only [EC.getD_lt _ _ h]; simp [qa3, h, intOf, List.getD_eq_getElem?_getD]
 ·simp only [EC.getD_ge _ _ (Nat.not_lt.1 h)]; simp [Nat.not_lt.1 h, ec_118, strOf, intOf, List.getD_eq_getElem?_getD]
theorem q3b (xs : List S118) : (ec_118.encL xs).all (fun (el : List C) => el.length == 2) = true := by induction xs with | nil => rfl | cons x xs ih => first | (simp [EC.encL, qa3]; done) | simpa [EC.encL, qa3] using ih
def ql3 := (lCons (vC (cSl ec_118)) (lOne (vFn 89 (lOne (vEptr (lCons cStr (lOne (cInt .i64))) 0)))))
def qld := sLS [0, 1, 7, 8] (lCons (vC (cSl ec_118)) (lCons (vFn 89 (lOne (vEptr (lCons cStr (lOne (cInt .i64))) 0))) (lCons (vC (cInt .i64)) (lOne (vC (cInt .i64)))))) lNil [] [] (by decide) (fun _ => rfl)
def qlc := sLS [0, 1, 7, 8, 9] (lCons (vC (cSl ec_118)) (lCons (vFn 89 (lOne (vEptr (lCons cStr (lOne (cInt .i64))) 0))) (lCons (vC (cInt .i64)) (lCons (vC (cInt .i64)) (lOne (vC cBool)))))) lNil [] [] (by decide) (fun _ => rfl)
def qlb := sLS [4] (lOne (vC (cInt .i64))) lNil [] [] (by decide) (fun _ => rfl)
def qla := oOr 1 qlb (oAt 2 qlc) (fun x => (by decide : (2 : Nat) ≠ 1))
def ql7 (s : (List S118)) (f : ByteArray) (f_1 : Int) (t7 : Int) (t8 : Int) : Option ((Int × Unit) ⊕ (((List S118) × (ByteArray × Int) × Int × Int × Bool) × Unit)) := lS Tryz.prog lv X0 114 19 (getLoop (cdF Tryz.f114) 2) qld qla ((s, (f, f_1), t7, t8), ())
def qle (s : (List S118)) (f : ByteArray) (f_1 : Int) (t7 : Int) (t8 : Int) : Option ((Int × Unit) ⊕ (((List S118) × (ByteArray × Int) × Int × Int × Bool) × Unit)) :=
 (brE (decide (t8 < t7))
 (gdE (decide (0 ≤ t8)) <|
 (gdE ((decide ((Int.toNat t8) < (List.length (EC.encL ec_118 s)))) && (isE [K1.str, (K1.int Go.IntKind.i64)] 0 (List.getD (EC.encL ec_118 s) (Int.toNat t8) []))) <|
 (Option.bind (qtg (strOf (List.getD (List.getD (EC.encL ec_118 s) (Int.toNat t8) []) 0 C.ne)) (intOf (List.getD (List.getD (EC.encL ec_118 s) (Int.toNat t8) []) 1 C.ne)) f f_1) fun r0 =>
 (brE r0
 (some (.inl (t8, ())))
 (gdE (EC.isL ec_118 (EC.encL ec_118 s)) <|
 (ql7 (EC.decL ec_118 (EC.encL ec_118 s)) f f_1 t7 (IntKind.wrap .i64 (t8 + 1))))))))
 (gdE (EC.isL ec_118 (EC.encL ec_118 s)) <|
 (some (.inr (((EC.decL ec_118 (EC.encL ec_118 s)), ((f, f_1), (t7, (t8, false)))), ())))))
theorem ql9 {s} {f} {f_1} {t7} {t8} {r} (h : qle s f f_1 t7 t8 = some r) : ql7 s f f_1 t7 t8 = some r :=
 qmj (es := q116) (hs := []) [] (by kernel_rfl) trivial trivial (by kernel_rfl) h
def ql8 := lentS Tryz.prog lv X0 2 (getLoop (cdF Tryz.f114) 2) qld qla (fun x => ql7 x.1.1 x.1.2.1.1 x.1.2.1.2 x.1.2.2.1 x.1.2.2.2) (fun _ _ h => qmi h)
def ql4 : Cod (V × List B) Int := (cFstU (cPair (vC (cInt .i64)) lNil))
def qlg (s : (List S118)) (f_0 : ByteArray) (f_1 : Int) : Option Int := fS Tryz.prog lv X0 114 ql3 ql4 (s, (f_0, f_1))
def qlh (s : (List S118)) (f_0 : ByteArray) (f_1 : Int) : Option Int :=
 (gdE (EC.isL ec_118 (EC.encL ec_118 s)) <|
 (Option.bind (ql7 (EC.decL ec_118 (EC.encL ec_118 s)) f_0 f_1 (List.length (EC.encL ec_118 s) : Int) 0) fun r0 =>
 (Sum.elim (fun r1 => (some r1.1))
 (fun r1 => (some (-1 : Int))) r0)))
theorem ql6 {s} {f_0} {f_1} {r} (h : qlh s f_0 f_1 = some r) : qlg s f_0 f_1 = some r :=
 qfh (es := q116) (hs := []) [ql8] Tryz.func114 rfl (by kernel_rfl) rfl (by kernel_rfl) (by kernel_rfl) ⟨⟨_, rfl, rfl⟩, trivial⟩ trivial (by kernel_rfl) h
def ql5 := entS Tryz.prog lv X0 114 [89] ql3 ql4 (fun x => qlg x.1 x.2.1 x.2.2) (fun _ _ h => qfg h)
def q10v := ql5 :: q116
def qj9 := (lCons (vC (cSl ec_118)) (lOne (vFn 89 (lOne (vEptr (lCons cStr (lOne (cInt .i64))) 0)))))
def qja : Cod (V × List B) Bool := (cFstU (cPair (vC cBool) lNil))
def qje (s : (List S118)) (f_0 : ByteArray) (f_1 : Int) : Option Bool := fS Tryz.prog lv X0 88 qj9 qja (s, (f_0, f_1))
def qjf (s : (List S118)) (f_0 : ByteArray) (f_1 : Int) : Option Bool :=
 (gdE (EC.isL ec_118 (EC.encL ec_118 s)) <|
 (Option.bind (qlg (EC.decL ec_118 (EC.encL ec_118 s)) f_0 f_1) fun r0 =>
 (some (decide (r0 ≥ 0)))))
theorem qjc {s} {f_0} {f_1} {r} (h : qjf s f_0 f_1 = some r) : qje s f_0 f_1 = some r :=
 qfh (es := q10v) (hs := []) [] Tryz.func88 rfl (by kernel_rfl) rfl (by kernel_rfl) (by kernel_rfl) trivial trivial (by kernel_rfl) h
def qjb := entS Tryz.prog lv X0 88 [89] qj9 qja (fun x => qje x.1 x.2.1 x.2.2) (fun _ _ h => qfg h)
def q10q := qjb :: q10v
def qay := (lOne (vC (cSl ec_118)))
def qb8 := sLS [0, 2, 5, 6, 7] (lCons (vC (cSl ec_118)) (lCons (vPtr 0 0) (lCons (vC (cSl ec_118)) (lCons (vC (cInt .i64)) (lOne (vC (cInt .i64))))))) (lOne (oSome (bBox (lCons (vC (cInt .i64)) (lOne (vC (cInt .i64))))))) [false] [] (by decide) (fun _ => rfl)
def qb7 := sLS [0, 2, 5, 6, 7, 8] (lCons (vC (cSl ec_118)) (lCons (vPtr 0 0) (lCons (vC (cSl ec_118)) (lCons (vC (cInt .i64)) (lCons (vC (cInt .i64)) (lOne (vC cBool))))))) (lOne (oSome (bBox (lCons (vC (cInt .i64)) (lOne (vC (cInt .i64))))))) [false] [] (by decide) (fun _ => rfl)
def qb6 := sLS [2] (lOne (vPtr 0 0)) (lOne (oSome (bBox (lCons (vC (cInt .i64)) (lOne (vC (cInt .i64))))))) [false] [] (by decide) (fun _ => rfl)
def qb5 := oOr 1 qb6 (oAt 2 qb7) (fun x => (by decide : (2 : Nat) ≠ 1))
def qb2 (l : (List S118)) (t5 : (List S118)) (t6 : Int) (t7 : Int) (b0 : Int) (b0_1 : Int) : Option ((Unit × (Int × Int)) ⊕ (((List S118) × Unit × (List S118) × Int × Int × Bool) × (Int × Int))) := lS Tryz.prog lv X0 65 36 (getLoop (cdF Tryz.f65) 2) qb8 qb5 ((l, (), t5, t6, t7), (b0, b0_1))
def qb9 (l : (List S118)) (t5 : (List S118)) (t6 : Int) (t7 : Int) (b0 : Int) (b0_1 : Int) : Option ((Unit × (Int × Int)) ⊕ (((List S118) × Unit × (List S118) × Int × Int × Bool) × (Int × Int))) :=
 (brE (decide (t7 < t6))
 (gdE (decide (0 ≤ t7)) <|
 (gdE ((decide ((Int.toNat t7) < (List.length (EC.encL ec_118 t5)))) && (isE [K1.str, (K1.int Go.IntKind.i64)] 0 (List.getD (EC.encL ec_118 t5) (Int.toNat t7) []))) <|
 (Option.bind (qae (strOf (List.getD (List.getD (EC.encL ec_118 t5) (Int.toNat t7) []) 0 C.ne))) fun r0 =>
 (brE (!r0)
 (Option.bind (q5f 10 t7) fun r1 =>
 (some (.inl ((), (r1.1, r1.2)))))
 (Option.bind (qaw (intOf (List.getD (List.getD (EC.encL ec_118 t5) (Int.toNat t7) []) 1 C.ne))) fun r1 =>
 (brE (!r1)
 (Option.bind (q5f 3 t7) fun r2 =>
 (some (.inl ((), (r2.1, r2.2)))))
 (gdE ((decide (0 ≤ t7)) && (decide (t7 ≤ (List.length (EC.encL ec_118 l) : Int)))) <|
 (gdE (List.all (EC.encL ec_118 l) (fun (el : (List C)) => ((List.length el) == 2))) <|
 (gdE (EC.isL ec_118 (List.take ((Int.toNat t7) - 0) (List.drop 0 (EC.encL ec_118 l)))) <|
 (Option.bind (qje (EC.decL ec_118 (List.take ((Int.toNat t7) - 0) (List.drop 0 (EC.encL ec_118 l)))) (strOf (List.getD (List.getD (EC.encL ec_118 t5) (Int.toNat t7) []) 0 C.ne)) (intOf (List.getD (List.getD (EC.encL ec_118 t5) (Int.toNat t7) []) 1 C.ne))) fun r2 =>
 (brE r2
 (Option.bind (q5f 7 t7) fun r3 =>
 (some (.inl ((), (r3.1, r3.2)))))
 (gdE (EC.isL ec_118 (EC.encL ec_118 l)) <|
 (gdE (EC.isL ec_118 (EC.encL ec_118 t5)) <|
 (qb2 (EC.decL ec_118 (EC.encL ec_118 l)) (EC.decL ec_118 (EC.encL ec_118 t5)) t6 (IntKind.wrap .i64 (t7 + 1)) b0 b0_1))))))))))))))
 (gdE (EC.isL ec_118 (EC.encL ec_118 l)) <|
 (gdE (EC.isL ec_118 (EC.encL ec_118 t5)) <|
 (some (.inr (((EC.decL ec_118 (EC.encL ec_118 l)), ((), ((EC.decL ec_118 (EC.encL ec_118 t5)), (t6, (t7, false))))), (b0, b0_1)))))))
theorem qb4 {l} {t5} {t6} {t7} {b0} {b0_1} {r} (h : qb9 l t5 t6 t7 b0 b0_1 = some r) : qb2 l t5 t6 t7 b0 b0_1 = some r :=
 qmj (es := q10q) (hs := []) [] (by kernel_rfl) trivial trivial (by kernel_rfl) h
def qb3 := lentS Tryz.prog lv X0 2 (getLoop (cdF Tryz.f65) 2) qb8 qb5 (fun x => qb2 x.1.1 x.1.2.2.1 x.1.2.2.2.1 x.1.2.2.2.2 x.2.1 x.2.2) (fun _ _ h => qmi h)
def qaz : Cod (V × List B) (Int × Int) := (cFstU (cPair (vAgg (lCons (vC (cInt .i64)) (lOne (vC (cInt .i64))))) lNil))
def qba (l : (List S118)) : Option (Int × Int) := fS Tryz.prog lv X0 65 qay qaz l
def qbb (l : (List S118)) : Option (Int × Int) :=
 (gdE (EC.isL ec_118 (EC.encL ec_118 l)) <|
 (gdE (EC.isL ec_118 (EC.encL ec_118 l)) <|
 (Option.bind (qb2 (EC.decL ec_118 (EC.encL ec_118 l)) (EC.decL ec_118 (EC.encL ec_118 l)) (List.length (EC.encL ec_118 l) : Int) 0 0 0) fun r0 =>
 (Sum.elim (fun r1 => (some (r1.2.1, r1.2.2)))
 (fun r1 => (Option.bind q6g fun r2 =>
 (some (r2.1, r2.2)))) r0))))
theorem qb1 {l} {r} (h : qbb l = some r) : qba l = some r :=
 qfh (es := q10q) (hs := []) [qb3] Tryz.func65 rfl (by kernel_rfl) rfl (by kernel_rfl) (by kernel_rfl) ⟨⟨_, rfl, rfl⟩, trivial⟩ trivial (by kernel_rfl) h
def qb0 := entS Tryz.prog lv X0 65 [] qay qaz (fun x => qba x) (fun _ _ h => qfg h)
def q10d := qb0 :: q10q
def qbo := (lOne (vAgg (lCons (vC cStr) (lCons (vC (cSl ec_118)) (lOne (vC cStr))))))
def qbp : Cod (V × List B) (Int × Int) := (cFstU (cPair (vAgg (lCons (vC (cInt .i64)) (lOne (vC (cInt .i64))))) lNil))
def qbs (e_From : ByteArray) (e_To : (List S118)) (e_Id : ByteArray) : Option (Int × Int) := fS Tryz.prog lv X0 40 qbo qbp (e_From, e_To, e_Id)
def qbt (e_From : ByteArray) (e_To : (List S118)) (e_Id : ByteArray) : Option (Int × Int) :=
 (brE ((!((ByteArray.toList e_From) == (ByteArray.toList ⟨#[]⟩))) == true)
 (Option.bind (qae e_From) fun r0 =>
 (brE (!r0)
 (Option.bind (q5f 10 (-10)) fun r1 =>
 (some (r1.1, r1.2)))
 (brE ((decide ((List.length (EC.encL ec_118 e_To) : Int) < 1)) == false)
 (brE (decide ((List.length (EC.encL ec_118 e_To) : Int) > 60))
 (Option.bind (q5f 2 (-11)) fun r1 =>
 (some (r1.1, r1.2)))
 (brE ((!((ByteArray.toList e_Id) == (ByteArray.toList ⟨#[]⟩))) == true)
 (Option.bind (q6a e_Id) fun r1 =>
 (brE (!r1)
 (Option.bind (q5f 10 (-12)) fun r2 =>
 (some (r2.1, r2.2)))
 (gdE (EC.isL ec_118 (EC.encL ec_118 e_To)) <|
 (Option.bind (qba (EC.decL ec_118 (EC.encL ec_118 e_To))) fun r2 =>
 (some (r2.1, r2.2))))))
 (gdE (EC.isL ec_118 (EC.encL ec_118 e_To)) <|
 (Option.bind (qba (EC.decL ec_118 (EC.encL ec_118 e_To))) fun r1 =>
 (some (r1.1, r1.2))))))
 (Option.bind (q5f 2 (-11)) fun r1 =>
 (some (r1.1, r1.2))))))
 (brE ((decide ((List.length (EC.encL ec_118 e_To) : Int) < 1)) == false)
 (brE (decide ((List.length (EC.encL ec_118 e_To) : Int) > 60))
 (Option.bind (q5f 2 (-11)) fun r0 =>
 (some (r0.1, r0.2)))
 (brE ((!((ByteArray.toList e_Id) == (ByteArray.toList ⟨#[]⟩))) == true)
 (Option.bind (q6a e_Id) fun r0 =>
 (brE (!r0)
 (Option.bind (q5f 10 (-12)) fun r1 =>
 (some (r1.1, r1.2)))
 (gdE (EC.isL ec_118 (EC.encL ec_118 e_To)) <|
 (Option.bind (qba (EC.decL ec_118 (EC.encL ec_118 e_To))) fun r1 =>
 (some (r1.1, r1.2))))))
 (gdE (EC.isL ec_118 (EC.encL ec_118 e_To)) <|
 (Option.bind (qba (EC.decL ec_118 (EC.encL ec_118 e_To))) fun r0 =>
 (some (r0.1, r0.2))))))
 (Option.bind (q5f 2 (-11)) fun r0 =>
 (some (r0.1, r0.2)))))
theorem qbr {e_From} {e_To} {e_Id} {r} (h : qbt e_From e_To e_Id = some r) : qbs e_From e_To e_Id = some r :=
 qfh (es := q10d) (hs := []) [] Tryz.func40 rfl (by kernel_rfl) rfl (by kernel_rfl) (by kernel_rfl) trivial trivial (by kernel_rfl) h
def qbq := entS Tryz.prog lv X0 40 [] qbo qbp (fun x => qbs x.1 x.2.1 x.2.2) (fun _ _ h => qfg h)
def q10g := qbq :: q10d
def qs9 := (lCons (vC (cInt .i64)) (lCons (vC (cInt .i64)) (lOne (vC (cInt .i64)))))
def qsa : Cod (V × List B) Bool := (cFstU (cPair (vC cBool) lNil))
def qsd (n : Int) (low : Int) (high : Int) : Option Bool := fS Tryz.prog lv X0 24 qs9 qsa (n, low, high)
def qse (n : Int) (low : Int) (high : Int) : Option Bool :=
 (brE ((decide (low ≤ n)) == true)
 (some (decide (n ≤ high)))
 (some false))
theorem qsc {n} {low} {high} {r} (h : qse n low high = some r) : qsd n low high = some r :=
 qfh (es := q10g) (hs := []) [] Tryz.func24 rfl (by kernel_rfl) rfl (by kernel_rfl) (by kernel_rfl) trivial trivial (by kernel_rfl) h
def qsb := entS Tryz.prog lv X0 24 [] qs9 qsa (fun x => qsd x.1 x.2.1 x.2.2) (fun _ _ h => qfg h)
def q113 := qsb :: q10g
end
end Go.Proofs.YtokahibbkdbndaaGreatDoor
