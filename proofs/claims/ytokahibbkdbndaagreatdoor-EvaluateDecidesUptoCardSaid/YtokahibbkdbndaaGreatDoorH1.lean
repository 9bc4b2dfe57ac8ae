/- Functions of the program as plain functions: made by program from the machine. -/
import Derived.Test.YtokahibbkdbndaaGreatDoorZ17
namespace Go.Proofs.YtokahibbkdbndaaGreatDoor
open Go.RowKit
set_option maxRecDepth 100000
noncomputable section
def basic_Fault_ca : Cod (List V) (Int × Int) := (lCons (vC (cInt .i64)) (lOne (vC (cInt .i64))))
def basic_Fault_cr : Cod (V × List B) (Int × Int) := (cFstU (cPair (vAgg (lCons (vC (cInt .i64)) (lOne (vC (cInt .i64))))) lNil))
def basic_Fault_s (code : Int) (at_ : Int) : Option (Int × Int) := fS Tryz.prog lv X0 57 basic_Fault_ca basic_Fault_cr (code, at_)
def basic_Fault_t (code : Int) (at_ : Int) : Option (Int × Int) :=
 (some (code, at_))
theorem basic_Fault_eq {code : Int} {at_ : Int} {r : (Int × Int)} (h : basic_Fault_t code at_ = some r) : basic_Fault_s code at_ = some r :=
  fS_tree (es := tab0) (hs := []) [] Tryz.func57 rfl (by kernel_rfl) rfl (by kernel_rfl) (by kernel_rfl) trivial trivial (by kernel_rfl) h
def basic_Fault_e : Ent Tryz.prog lv X0 := entS Tryz.prog lv X0 57 [] basic_Fault_ca basic_Fault_cr (fun x => basic_Fault_s x.1 x.2) (fun _ _ h => fS_call h)
def tab_basic_Fault : List (Ent Tryz.prog lv X0) := basic_Fault_e :: tab0
def basic_None_ca : Cod (List V) Unit := lNil
def basic_None_cr : Cod (V × List B) (Int × Int) := (cFstU (cPair (vAgg (lCons (vC (cInt .i64)) (lOne (vC (cInt .i64))))) lNil))
def basic_None_s  : Option (Int × Int) := fS Tryz.prog lv X0 59 basic_None_ca basic_None_cr ()
def basic_None_t  : Option (Int × Int) :=
 (some ((0 : Int), (0 : Int)))
theorem basic_None_eq {r : (Int × Int)} (h : basic_None_t  = some r) : basic_None_s  = some r :=
  fS_tree (es := tab_basic_Fault) (hs := []) [] Tryz.func59 rfl (by kernel_rfl) rfl (by kernel_rfl) (by kernel_rfl) trivial trivial (by kernel_rfl) h
def basic_None_e : Ent Tryz.prog lv X0 := entS Tryz.prog lv X0 59 [] basic_None_ca basic_None_cr (fun x => basic_None_s ) (fun _ _ h => fS_call h)
def tab_basic_None : List (Ent Tryz.prog lv X0) := basic_None_e :: tab_basic_Fault
def basic_Failed_ca : Cod (List V) (Int × Int) := (lOne (vAgg (lCons (vC (cInt .i64)) (lOne (vC (cInt .i64))))))
def basic_Failed_cr : Cod (V × List B) Bool := (cFstU (cPair (vC cBool) lNil))
def basic_Failed_s (f_Code : Int) (f_Index : Int) : Option Bool := fS Tryz.prog lv X0 49 basic_Failed_ca basic_Failed_cr (f_Code, f_Index)
def basic_Failed_t (f_Code : Int) (f_Index : Int) : Option Bool :=
 (some (f_Code != 0))
theorem basic_Failed_eq {f_Code : Int} {f_Index : Int} {r : Bool} (h : basic_Failed_t f_Code f_Index = some r) : basic_Failed_s f_Code f_Index = some r :=
  fS_tree (es := tab_basic_None) (hs := []) [] Tryz.func49 rfl (by kernel_rfl) rfl (by kernel_rfl) (by kernel_rfl) trivial trivial (by kernel_rfl) h
def basic_Failed_e : Ent Tryz.prog lv X0 := entS Tryz.prog lv X0 49 [] basic_Failed_ca basic_Failed_cr (fun x => basic_Failed_s x.1 x.2) (fun _ _ h => fS_call h)
def tab_basic_Failed : List (Ent Tryz.prog lv X0) := basic_Failed_e :: tab_basic_None
def basic_Letter_ca : Cod (List V) Int := (lOne (vC (cInt .u8)))
def basic_Letter_cr : Cod (V × List B) Bool := (cFstU (cPair (vC cBool) lNil))
def basic_Letter_s (c : Int) : Option Bool := fS Tryz.prog lv X0 86 basic_Letter_ca basic_Letter_cr c
def basic_Letter_t (c : Int) : Option Bool :=
 (brE ((decide (c ≥ (97 : Int))) == true)
 (brE ((decide (c ≤ (122 : Int))) == false)
 (brE ((decide (c ≥ (65 : Int))) == true)
 (brE ((decide (c ≤ (90 : Int))) == false)
 (brE ((decide (c ≥ (48 : Int))) == true)
 (some (decide (c ≤ (57 : Int))))
 (some false))
 (some true))
 (brE ((decide (c ≥ (48 : Int))) == true)
 (some (decide (c ≤ (57 : Int))))
 (some false)))
 (some true))
 (brE ((decide (c ≥ (65 : Int))) == true)
 (brE ((decide (c ≤ (90 : Int))) == false)
 (brE ((decide (c ≥ (48 : Int))) == true)
 (some (decide (c ≤ (57 : Int))))
 (some false))
 (some true))
 (brE ((decide (c ≥ (48 : Int))) == true)
 (some (decide (c ≤ (57 : Int))))
 (some false))))
theorem basic_Letter_eq {c : Int} {r : Bool} (h : basic_Letter_t c = some r) : basic_Letter_s c = some r :=
  fS_tree (es := tab_basic_Failed) (hs := []) [] Tryz.func86 rfl (by kernel_rfl) rfl (by kernel_rfl) (by kernel_rfl) trivial trivial (by kernel_rfl) h
def basic_Letter_e : Ent Tryz.prog lv X0 := entS Tryz.prog lv X0 86 [] basic_Letter_ca basic_Letter_cr (fun x => basic_Letter_s x) (fun _ _ h => fS_call h)
def tab_basic_Letter : List (Ent Tryz.prog lv X0) := basic_Letter_e :: tab_basic_Failed
def basic_Blank_ca : Cod (List V) Int := (lOne (vC (cInt .u8)))
def basic_Blank_cr : Cod (V × List B) Bool := (cFstU (cPair (vC cBool) lNil))
def basic_Blank_s (c : Int) : Option Bool := fS Tryz.prog lv X0 146 basic_Blank_ca basic_Blank_cr c
def basic_Blank_t (c : Int) : Option Bool :=
 (brE ((c == 32) == false)
 (some (c == 9))
 (some true))
theorem basic_Blank_eq {c : Int} {r : Bool} (h : basic_Blank_t c = some r) : basic_Blank_s c = some r :=
  fS_tree (es := tab_basic_Letter) (hs := []) [] Tryz.func146 rfl (by kernel_rfl) rfl (by kernel_rfl) (by kernel_rfl) trivial trivial (by kernel_rfl) h
def basic_Blank_e : Ent Tryz.prog lv X0 := entS Tryz.prog lv X0 146 [] basic_Blank_ca basic_Blank_cr (fun x => basic_Blank_s x) (fun _ _ h => fS_call h)
def tab_basic_Blank : List (Ent Tryz.prog lv X0) := basic_Blank_e :: tab_basic_Letter
def ec_5 : EC Int where
  enc x := [.int .u8 x]
  dec c := intOf (c.getD 0 .ne)
  is c := isE [.int .u8] 0 c
  enc_dec h := decE_eq h
  dec_enc x := by rfl
  is_enc x := by simp [isE, isK]
theorem enc_5 (x : Int) : ec_5.enc x = [.int .u8 x] := rfl
theorem isE_5 (xs : List Int) (n : Nat) : isE [.int .u8] 0 ((ec_5.encL xs).getD n []) = decide (n < xs.length) := by
  by_cases h : n < xs.length
  · simp only [EC.getD_lt _ _ h]; simp [enc_5, isE, isK, h]
  · simp only [EC.getD_ge _ _ (Nat.not_lt.1 h)]; simp [isE, isK, h]
theorem at_5_0 (xs : List Int) (n : Nat) : intOf (((ec_5.encL xs).getD n []).getD 0 .ne) = (xs.getD n (ec_5.dec [])) := by
  by_cases h : n < xs.length
  · simp only [EC.getD_lt _ _ h]; simp [enc_5, h, intOf, List.getD_eq_getElem?_getD]
  · simp only [EC.getD_ge _ _ (Nat.not_lt.1 h)]; simp [Nat.not_lt.1 h, ec_5, intOf, List.getD_eq_getElem?_getD]
theorem len_5 (xs : List Int) (n : Nat) (h : n < xs.length) : ((ec_5.encL xs).getD n []).length = 1 := by rw [EC.getD_lt _ _ h]; rfl
theorem all_5 (xs : List Int) : (ec_5.encL xs).all (fun (el : List C) => el.length == 1) = true := by induction xs with | nil => rfl | cons x xs ih => first | (simp [EC.encL, enc_5]; done) | simpa [EC.encL, enc_5] using ih
theorem set_5_0_1 (xs : List Int) (n : Nat) (a0 : Int) : (ec_5.encL xs).set n (splice ((ec_5.encL xs).getD n []) 0 [.int .u8 a0]) = ec_5.encL (xs.set n (a0)) := by
  by_cases h : n < xs.length
  · rw [EC.getD_lt _ _ h]; simp [EC.encL, List.map_set, enc_5, splice]
  · simp [EC.encL, List.set_eq_of_length_le, Nat.not_lt.1 h]
def basic_Lower_ca : Cod (List V) ByteArray := (lOne (vC cStr))
def basic_Lower_l3_s : SC ((Nat × Nat × Int × Int) × (List Int)) := sLS [3, 8, 9, 10] (lCons (vRow 0) (lCons (vRow 0) (lCons (vC (cInt .i64)) (lOne (vC (cInt .i64)))))) (lOne (oSome (bRow ec_5))) [false] [] (by decide) (fun _ => rfl)
def basic_Lower_l3_o2 : SC ((Nat × Nat × Int × Int × Bool) × (List Int)) := sLS [3, 8, 9, 10, 11] (lCons (vRow 0) (lCons (vRow 0) (lCons (vC (cInt .i64)) (lCons (vC (cInt .i64)) (lOne (vC cBool)))))) (lOne (oSome (bRow ec_5))) [false] [] (by decide) (fun _ => rfl)
def basic_Lower_l3_o : OC ((Nat × Nat × Int × Int × Bool) × (List Int)) := oAt 2 basic_Lower_l3_o2
def basic_Lower_l3 (b : Nat) (t8 : Nat) (t9 : Int) (t10 : Int) (b0 : (List Int)) : Option ((Nat × Nat × Int × Int × Bool) × (List Int)) := lS Tryz.prog lv X0 154 30 (getLoop (cdF Tryz.f154) 3) basic_Lower_l3_s basic_Lower_l3_o ((b, t8, t9, t10), b0)
def basic_Lower_l3_t (b : Nat) (t8 : Nat) (t9 : Int) (t10 : Int) (b0 : (List Int)) : Option ((Nat × Nat × Int × Int × Bool) × (List Int)) :=
 (brE (decide (t10 < t9))
 (gdE ((decide ((0 : Int) ≤ t10)) && (decide (t10 < ((t8 : Nat) : Int)))) <|
 (gdE ((decide ((Int.toNat t10) < (List.length (EC.encL ec_5 b0)))) && ((List.length (List.getD (EC.encL ec_5 b0) (Int.toNat t10) [])) == (1 : Nat))) <|
 (gdE (isP [(K1.int Go.IntKind.u8)] (0 : Nat) (List.getD (EC.encL ec_5 b0) (Int.toNat t10) [])) <|
 (brE ((decide ((intOf (List.getD (List.getD (EC.encL ec_5 b0) (Int.toNat t10) []) (0 : Nat) C.ne)) ≥ (65 : Int))) == true)
 (brE (decide ((intOf (List.getD (List.getD (EC.encL ec_5 b0) (Int.toNat t10) []) (0 : Nat) C.ne)) ≤ (90 : Int)))
 (gdE ((decide ((0 : Int) ≤ t10)) && (decide (t10 < ((b : Nat) : Int)))) <|
 (gdE ((decide ((Int.toNat t10) < (List.length (EC.encL ec_5 b0)))) && ((List.length (List.getD (EC.encL ec_5 b0) (Int.toNat t10) [])) == (1 : Nat))) <|
 (gdE (EC.isL ec_5 (List.set (EC.encL ec_5 b0) (Int.toNat t10) (splice (List.getD (EC.encL ec_5 b0) (Int.toNat t10) []) (0 : Nat) [(C.int Go.IntKind.u8 (IntKind.wrap .u8 ((IntKind.wrap .u8 ((intOf (List.getD (List.getD (EC.encL ec_5 b0) (Int.toNat t10) []) (0 : Nat) C.ne)) + (97 : Int))) - (65 : Int))))]))) <|
 (basic_Lower_l3 b t8 t9 (IntKind.wrap .i64 (t10 + (1 : Int))) (EC.decL ec_5 (List.set (EC.encL ec_5 b0) (Int.toNat t10) (splice (List.getD (EC.encL ec_5 b0) (Int.toNat t10) []) (0 : Nat) [(C.int Go.IntKind.u8 (IntKind.wrap .u8 ((IntKind.wrap .u8 ((intOf (List.getD (List.getD (EC.encL ec_5 b0) (Int.toNat t10) []) (0 : Nat) C.ne)) + (97 : Int))) - (65 : Int))))])))))))
 (gdE (EC.isL ec_5 (EC.encL ec_5 b0)) <|
 (basic_Lower_l3 b t8 t9 (IntKind.wrap .i64 (t10 + (1 : Int))) (EC.decL ec_5 (EC.encL ec_5 b0)))))
 (gdE (EC.isL ec_5 (EC.encL ec_5 b0)) <|
 (basic_Lower_l3 b t8 t9 (IntKind.wrap .i64 (t10 + (1 : Int))) (EC.decL ec_5 (EC.encL ec_5 b0))))))))
 (gdE (EC.isL ec_5 (EC.encL ec_5 b0)) <|
 (some ((b, (t8, (t9, (t10, false)))), (EC.decL ec_5 (EC.encL ec_5 b0))))))
theorem basic_Lower_l3_eq {b : Nat} {t8 : Nat} {t9 : Int} {t10 : Int} {b0 : (List Int)} {r : ((Nat × Nat × Int × Int × Bool) × (List Int))} (h : basic_Lower_l3_t b t8 t9 t10 b0 = some r) : basic_Lower_l3 b t8 t9 t10 b0 = some r :=
  lS_tree (es := tab_basic_Blank) (hs := []) [] (by kernel_rfl) trivial trivial (by kernel_rfl) h
def basic_Lower_l3_e : LEnt Tryz.prog lv X0 154 30 := lentS Tryz.prog lv X0 3 (getLoop (cdF Tryz.f154) 3) basic_Lower_l3_s basic_Lower_l3_o (fun x => basic_Lower_l3 x.1.1 x.1.2.1 x.1.2.2.1 x.1.2.2.2 x.2) (fun _ _ h => lS_from h)
def basic_Lower_cr : Cod (V × List B) ByteArray := (cFstU (cPair (vC cStr) lNil))
def basic_Lower_s (s : ByteArray) : Option ByteArray := fS Tryz.prog lv X0 154 basic_Lower_ca basic_Lower_cr s
def basic_Lower_t (s : ByteArray) : Option ByteArray :=
 (gdE ((decide ((ByteArray.size s) ≤ (9223372036854775807 : Nat))) && (!((ByteArray.size s) == (0 : Nat)))) <|
 (gdE (EC.isL ec_5 (bytesL s)) <|
 (Option.bind (basic_Lower_l3 (ByteArray.size s) (ByteArray.size s) (((ByteArray.size s) : Nat) : Int) (0 : Int) (EC.decL ec_5 (bytesL s))) fun r0 =>
 (Option.bind (bytesOf (EC.encL ec_5 (r0).2)) fun r1 =>
 (some (ByteArray.mk (List.toArray r1)))))))
theorem basic_Lower_eq {s : ByteArray} {r : ByteArray} (h : basic_Lower_t s = some r) : basic_Lower_s s = some r :=
  fS_tree (es := tab_basic_Blank) (hs := []) [basic_Lower_l3_e] Tryz.func154 rfl (by kernel_rfl) rfl (by kernel_rfl) (by kernel_rfl) ⟨⟨_, rfl, rfl⟩, trivial⟩ trivial (by kernel_rfl) h
def basic_Lower_e : Ent Tryz.prog lv X0 := entS Tryz.prog lv X0 154 [] basic_Lower_ca basic_Lower_cr (fun x => basic_Lower_s x) (fun _ _ h => fS_call h)
def tab_basic_Lower : List (Ent Tryz.prog lv X0) := basic_Lower_e :: tab_basic_Blank
def basic_Same_ca : Cod (List V) (ByteArray × ByteArray) := (lCons (vC cStr) (lOne (vC cStr)))
def basic_Same_cr : Cod (V × List B) Bool := (cFstU (cPair (vC cBool) lNil))
def basic_Same_s (a : ByteArray) (b : ByteArray) : Option Bool := fS Tryz.prog lv X0 153 basic_Same_ca basic_Same_cr (a, b)
def basic_Same_t (a : ByteArray) (b : ByteArray) : Option Bool :=
 (brE (((((ByteArray.size a) : Nat) : Int) == (((ByteArray.size b) : Nat) : Int)) == true)
 (Option.bind (basic_Lower_s a) fun r0 =>
 (Option.bind (basic_Lower_s b) fun r1 =>
 (some ((ByteArray.toList r0) == (ByteArray.toList r1)))))
 (some false))
theorem basic_Same_eq {a : ByteArray} {b : ByteArray} {r : Bool} (h : basic_Same_t a b = some r) : basic_Same_s a b = some r :=
  fS_tree (es := tab_basic_Lower) (hs := []) [] Tryz.func153 rfl (by kernel_rfl) rfl (by kernel_rfl) (by kernel_rfl) trivial trivial (by kernel_rfl) h
def basic_Same_e : Ent Tryz.prog lv X0 := entS Tryz.prog lv X0 153 [] basic_Same_ca basic_Same_cr (fun x => basic_Same_s x.1 x.2) (fun _ _ h => fS_call h)
def tab_basic_Same : List (Ent Tryz.prog lv X0) := basic_Same_e :: tab_basic_Lower
def basic_Body_ca : Cod (List V) (List Int) := (lOne (vC (cSl ec_5)))
def basic_Body_l3_s : SC (((List Int) × Int × Int) × Unit) := sLS [0, 3, 4] (lCons (vC (cSl ec_5)) (lCons (vC (cInt .i64)) (lOne (vC (cInt .i64))))) lNil [] [] (by decide) (fun _ => rfl)
def basic_Body_l3_o2 : SC (((List Int) × Int × Int × Bool) × Unit) := sLS [0, 3, 4, 9] (lCons (vC (cSl ec_5)) (lCons (vC (cInt .i64)) (lCons (vC (cInt .i64)) (lOne (vC cBool))))) lNil [] [] (by decide) (fun _ => rfl)
def basic_Body_l3_o1 : SC (Int × Unit) := sLS [2] (lOne (vC (cInt .i64))) lNil [] [] (by decide) (fun _ => rfl)
def basic_Body_l3_o : OC ((Int × Unit) ⊕ (((List Int) × Int × Int × Bool) × Unit)) := oOr 1 basic_Body_l3_o1 (oAt 2 basic_Body_l3_o2) (fun x => (by decide : (2 : Nat) ≠ 1))
def basic_Body_l3 (b : (List Int)) (column : Int) (i : Int) : Option ((Int × Unit) ⊕ (((List Int) × Int × Int × Bool) × Unit)) := lS Tryz.prog lv X0 115 45 (getLoop (cdF Tryz.f115) 3) basic_Body_l3_s basic_Body_l3_o ((b, column, i), ())
def basic_Body_l3_t (b : (List Int)) (column : Int) (i : Int) : Option ((Int × Unit) ⊕ (((List Int) × Int × Int × Bool) × Unit)) :=
 (brE (decide (i < (((List.length (EC.encL ec_5 b)) : Nat) : Int)))
 (gdE (decide ((0 : Int) ≤ i)) <|
 (gdE ((decide ((Int.toNat i) < (List.length (EC.encL ec_5 b)))) && (isE [(K1.int Go.IntKind.u8)] (0 : Nat) (List.getD (EC.encL ec_5 b) (Int.toNat i) []))) <|
 (brE (((intOf (List.getD (List.getD (EC.encL ec_5 b) (Int.toNat i) []) (0 : Nat) C.ne)) == 13) == true)
 (brE ((decide ((IntKind.wrap .i64 (i + (1 : Int))) < (((List.length (EC.encL ec_5 b)) : Nat) : Int))) == true)
 (gdE (decide ((0 : Int) ≤ (IntKind.wrap .i64 (i + (1 : Int))))) <|
 (gdE ((decide ((Int.toNat (IntKind.wrap .i64 (i + (1 : Int)))) < (List.length (EC.encL ec_5 b)))) && (isE [(K1.int Go.IntKind.u8)] (0 : Nat) (List.getD (EC.encL ec_5 b) (Int.toNat (IntKind.wrap .i64 (i + (1 : Int)))) []))) <|
 (brE ((intOf (List.getD (List.getD (EC.encL ec_5 b) (Int.toNat (IntKind.wrap .i64 (i + (1 : Int)))) []) (0 : Nat) C.ne)) == 10)
 (gdE (EC.isL ec_5 (EC.encL ec_5 b)) <|
 (basic_Body_l3 (EC.decL ec_5 (EC.encL ec_5 b)) (0 : Int) (IntKind.wrap .i64 ((IntKind.wrap .i64 (i + (1 : Int))) + (1 : Int)))))
 (brE (((intOf (List.getD (List.getD (EC.encL ec_5 b) (Int.toNat i) []) (0 : Nat) C.ne)) == 13) == false)
 (brE ((intOf (List.getD (List.getD (EC.encL ec_5 b) (Int.toNat i) []) (0 : Nat) C.ne)) == 10)
 (some (.inl ((11 : Int), ())))
 (brE (decide ((IntKind.wrap .i64 (column + (1 : Int))) > (998 : Int)))
 (some (.inl ((1 : Int), ())))
 (gdE (EC.isL ec_5 (EC.encL ec_5 b)) <|
 (basic_Body_l3 (EC.decL ec_5 (EC.encL ec_5 b)) (IntKind.wrap .i64 (column + (1 : Int))) (IntKind.wrap .i64 (i + (1 : Int)))))))
 (some (.inl ((11 : Int), ())))))))
 (brE (((intOf (List.getD (List.getD (EC.encL ec_5 b) (Int.toNat i) []) (0 : Nat) C.ne)) == 13) == false)
 (brE ((intOf (List.getD (List.getD (EC.encL ec_5 b) (Int.toNat i) []) (0 : Nat) C.ne)) == 10)
 (some (.inl ((11 : Int), ())))
 (brE (decide ((IntKind.wrap .i64 (column + (1 : Int))) > (998 : Int)))
 (some (.inl ((1 : Int), ())))
 (gdE (EC.isL ec_5 (EC.encL ec_5 b)) <|
 (basic_Body_l3 (EC.decL ec_5 (EC.encL ec_5 b)) (IntKind.wrap .i64 (column + (1 : Int))) (IntKind.wrap .i64 (i + (1 : Int)))))))
 (some (.inl ((11 : Int), ())))))
 (brE (((intOf (List.getD (List.getD (EC.encL ec_5 b) (Int.toNat i) []) (0 : Nat) C.ne)) == 13) == false)
 (brE ((intOf (List.getD (List.getD (EC.encL ec_5 b) (Int.toNat i) []) (0 : Nat) C.ne)) == 10)
 (some (.inl ((11 : Int), ())))
 (brE (decide ((IntKind.wrap .i64 (column + (1 : Int))) > (998 : Int)))
 (some (.inl ((1 : Int), ())))
 (gdE (EC.isL ec_5 (EC.encL ec_5 b)) <|
 (basic_Body_l3 (EC.decL ec_5 (EC.encL ec_5 b)) (IntKind.wrap .i64 (column + (1 : Int))) (IntKind.wrap .i64 (i + (1 : Int)))))))
 (some (.inl ((11 : Int), ())))))))
 (gdE (EC.isL ec_5 (EC.encL ec_5 b)) <|
 (some (.inr (((EC.decL ec_5 (EC.encL ec_5 b)), (column, (i, false))), ())))))
theorem basic_Body_l3_eq {b : (List Int)} {column : Int} {i : Int} {r : ((Int × Unit) ⊕ (((List Int) × Int × Int × Bool) × Unit))} (h : basic_Body_l3_t b column i = some r) : basic_Body_l3 b column i = some r :=
  lS_tree (es := tab_basic_Same) (hs := []) [] (by kernel_rfl) trivial trivial (by kernel_rfl) h
def basic_Body_l3_e : LEnt Tryz.prog lv X0 115 45 := lentS Tryz.prog lv X0 3 (getLoop (cdF Tryz.f115) 3) basic_Body_l3_s basic_Body_l3_o (fun x => basic_Body_l3 x.1.1 x.1.2.1 x.1.2.2) (fun _ _ h => lS_from h)
def basic_Body_cr : Cod (V × List B) Int := (cFstU (cPair (vC (cInt .i64)) lNil))
def basic_Body_s (b : (List Int)) : Option Int := fS Tryz.prog lv X0 115 basic_Body_ca basic_Body_cr b
def basic_Body_t (b : (List Int)) : Option Int :=
 (gdE (EC.isL ec_5 (EC.encL ec_5 b)) <|
 (Option.bind (basic_Body_l3 (EC.decL ec_5 (EC.encL ec_5 b)) (0 : Int) (0 : Int)) fun r0 =>
 (Sum.elim (fun r1 => (some (r1).1))
 (fun r1 => (some 0)) r0)))
theorem basic_Body_eq {b : (List Int)} {r : Int} (h : basic_Body_t b = some r) : basic_Body_s b = some r :=
  fS_tree (es := tab_basic_Same) (hs := []) [basic_Body_l3_e] Tryz.func115 rfl (by kernel_rfl) rfl (by kernel_rfl) (by kernel_rfl) ⟨⟨_, rfl, rfl⟩, trivial⟩ trivial (by kernel_rfl) h
def basic_Body_e : Ent Tryz.prog lv X0 := entS Tryz.prog lv X0 115 [] basic_Body_ca basic_Body_cr (fun x => basic_Body_s x) (fun _ _ h => fS_call h)
def tab_basic_Body : List (Ent Tryz.prog lv X0) := basic_Body_e :: tab_basic_Same
def basic_Name_1_ca : Cod (List V) Int := (lOne (vC (cInt .u8)))
def basic_Name_1_cr : Cod (V × List B) Bool := (cFstU (cPair (vC cBool) lNil))
def basic_Name_1_s (c : Int) : Option Bool := fS Tryz.prog lv X0 85 basic_Name_1_ca basic_Name_1_cr c
def basic_Name_1_t (c : Int) : Option Bool :=
 (Option.bind (basic_Letter_s c) fun r0 =>
 (brE (r0 == false)
 (brE ((c == 45) == false)
 (brE ((c == 95) == false)
 (some (c == 46))
 (some true))
 (some true))
 (some true)))
theorem basic_Name_1_eq {c : Int} {r : Bool} (h : basic_Name_1_t c = some r) : basic_Name_1_s c = some r :=
  fS_tree (es := tab_basic_Body) (hs := []) [] Tryz.func85 rfl (by kernel_rfl) rfl (by kernel_rfl) (by kernel_rfl) trivial trivial (by kernel_rfl) h
def basic_Name_1_e : Ent Tryz.prog lv X0 := entS Tryz.prog lv X0 85 [] basic_Name_1_ca basic_Name_1_cr (fun x => basic_Name_1_s x) (fun _ _ h => fS_call h)
def tab_basic_Name_1 : List (Ent Tryz.prog lv X0) := basic_Name_1_e :: tab_basic_Body
def allName_ca : Cod (List V) (ByteArray × Unit) := (lCons (vC cStr) (lOne (vFn 85 lNil)))
def allName_l2_s : SC ((ByteArray × Unit × Int × Int) × Unit) := sLS [0, 1, 7, 8] (lCons (vC cStr) (lCons (vFn 85 lNil) (lCons (vC (cInt .i64)) (lOne (vC (cInt .i64)))))) lNil [] [] (by decide) (fun _ => rfl)
def allName_l2_o2 : SC ((ByteArray × Unit × Int × Int × Bool) × Unit) := sLS [0, 1, 7, 8, 9] (lCons (vC cStr) (lCons (vFn 85 lNil) (lCons (vC (cInt .i64)) (lCons (vC (cInt .i64)) (lOne (vC cBool)))))) lNil [] [] (by decide) (fun _ => rfl)
def allName_l2_o1 : SC (Bool × Unit) := sLS [4] (lOne (vC cBool)) lNil [] [] (by decide) (fun _ => rfl)
def allName_l2_o : OC ((Bool × Unit) ⊕ ((ByteArray × Unit × Int × Int × Bool) × Unit)) := oOr 1 allName_l2_o1 (oAt 2 allName_l2_o2) (fun x => (by decide : (2 : Nat) ≠ 1))
def allName_l2 (s : ByteArray) (t7 : Int) (t8 : Int) : Option ((Bool × Unit) ⊕ ((ByteArray × Unit × Int × Int × Bool) × Unit)) := lS Tryz.prog lv X0 84 18 (getLoop (cdF Tryz.f84) 2) allName_l2_s allName_l2_o ((s, (), t7, t8), ())
def allName_l2_t (s : ByteArray) (t7 : Int) (t8 : Int) : Option ((Bool × Unit) ⊕ ((ByteArray × Unit × Int × Int × Bool) × Unit)) :=
 (brE (decide (t8 < t7))
 (gdE ((decide ((0 : Int) ≤ t8)) && (decide ((Int.toNat t8) < (ByteArray.size s)))) <|
 (Option.bind (basic_Name_1_s (((UInt8.toNat (Array.getD (ByteArray.data s) (Int.toNat t8) (0 : UInt8))) : Nat) : Int)) fun r0 =>
 (brE (!r0)
 (some (.inl (false, ())))
 (allName_l2 s t7 (IntKind.wrap .i64 (t8 + (1 : Int)))))))
 (some (.inr ((s, ((), (t7, (t8, false)))), ()))))
theorem allName_l2_eq {s : ByteArray} {t7 : Int} {t8 : Int} {r : ((Bool × Unit) ⊕ ((ByteArray × Unit × Int × Int × Bool) × Unit))} (h : allName_l2_t s t7 t8 = some r) : allName_l2 s t7 t8 = some r :=
  lS_tree (es := tab_basic_Name_1) (hs := []) [] (by kernel_rfl) trivial trivial (by kernel_rfl) h
def allName_l2_e : LEnt Tryz.prog lv X0 84 18 := lentS Tryz.prog lv X0 2 (getLoop (cdF Tryz.f84) 2) allName_l2_s allName_l2_o (fun x => allName_l2 x.1.1 x.1.2.2.1 x.1.2.2.2) (fun _ _ h => lS_from h)
def allName_cr : Cod (V × List B) Bool := (cFstU (cPair (vC cBool) lNil))
def allName_s (s : ByteArray) : Option Bool := fS Tryz.prog lv X0 84 allName_ca allName_cr (s, ())
def allName_t (s : ByteArray) : Option Bool :=
 (Option.bind (allName_l2 s (((ByteArray.size s) : Nat) : Int) (0 : Int)) fun r0 =>
 (Sum.elim (fun r1 => (some (r1).1))
 (fun r1 => (some true)) r0))
theorem allName_eq {s : ByteArray} {r : Bool} (h : allName_t s = some r) : allName_s s = some r :=
  fS_tree (es := tab_basic_Name_1) (hs := []) [allName_l2_e] Tryz.func84 rfl (by kernel_rfl) rfl (by kernel_rfl) (by kernel_rfl) ⟨⟨_, rfl, rfl⟩, trivial⟩ trivial (by kernel_rfl) h
def allName_e : Ent Tryz.prog lv X0 := entS Tryz.prog lv X0 84 [85] allName_ca allName_cr (fun x => allName_s x.1) (fun _ _ h => fS_call h)
def tab_allName : List (Ent Tryz.prog lv X0) := allName_e :: tab_basic_Name_1
def basic_Name_ca : Cod (List V) ByteArray := (lOne (vC cStr))
def basic_Name_cr : Cod (V × List B) Bool := (cFstU (cPair (vC cBool) lNil))
def basic_Name_s (s : ByteArray) : Option Bool := fS Tryz.prog lv X0 64 basic_Name_ca basic_Name_cr s
def basic_Name_t (s : ByteArray) : Option Bool :=
 (brE ((!((ByteArray.toList s) == (ByteArray.toList ⟨#[]⟩))) == true)
 (brE ((decide ((((ByteArray.size s) : Nat) : Int) ≤ (60 : Int))) == true)
 (Option.bind (allName_s s) fun r0 =>
 (some r0))
 (some false))
 (some false))
theorem basic_Name_eq {s : ByteArray} {r : Bool} (h : basic_Name_t s = some r) : basic_Name_s s = some r :=
  fS_tree (es := tab_allName) (hs := []) [] Tryz.func64 rfl (by kernel_rfl) rfl (by kernel_rfl) (by kernel_rfl) trivial trivial (by kernel_rfl) h
def basic_Name_e : Ent Tryz.prog lv X0 := entS Tryz.prog lv X0 64 [] basic_Name_ca basic_Name_cr (fun x => basic_Name_s x) (fun _ _ h => fS_call h)
def tab_basic_Name : List (Ent Tryz.prog lv X0) := basic_Name_e :: tab_allName
def stringslite_HasPrefix_ca : Cod (List V) (ByteArray × ByteArray) := (lCons (vC cStr) (lOne (vC cStr)))
def stringslite_HasPrefix_cr : Cod (V × List B) Bool := (cFstU (cPair (vC cBool) lNil))
def stringslite_HasPrefix_s (s : ByteArray) (prefix_ : ByteArray) : Option Bool := fS Tryz.prog lv X0 161 stringslite_HasPrefix_ca stringslite_HasPrefix_cr (s, prefix_)
def stringslite_HasPrefix_t (s : ByteArray) (prefix_ : ByteArray) : Option Bool :=
 (brE ((decide ((((ByteArray.size s) : Nat) : Int) ≥ (((ByteArray.size prefix_) : Nat) : Int))) == true)
 (gdE ((decide ((0 : Int) ≤ (((ByteArray.size prefix_) : Nat) : Int))) && (decide ((((ByteArray.size prefix_) : Nat) : Int) ≤ (((ByteArray.size s) : Nat) : Int)))) <|
 (some ((ByteArray.toList (ByteArray.extract s (0 : Nat) (Int.toNat (((ByteArray.size prefix_) : Nat) : Int)))) == (ByteArray.toList prefix_))))
 (some false))
theorem stringslite_HasPrefix_eq {s : ByteArray} {prefix_ : ByteArray} {r : Bool} (h : stringslite_HasPrefix_t s prefix_ = some r) : stringslite_HasPrefix_s s prefix_ = some r :=
  fS_tree (es := tab_basic_Name) (hs := []) [] Tryz.func161 rfl (by kernel_rfl) rfl (by kernel_rfl) (by kernel_rfl) trivial trivial (by kernel_rfl) h
def stringslite_HasPrefix_e : Ent Tryz.prog lv X0 := entS Tryz.prog lv X0 161 [] stringslite_HasPrefix_ca stringslite_HasPrefix_cr (fun x => stringslite_HasPrefix_s x.1 x.2) (fun _ _ h => fS_call h)
def tab_stringslite_HasPrefix : List (Ent Tryz.prog lv X0) := stringslite_HasPrefix_e :: tab_basic_Name
def stringslite_HasSuffix_ca : Cod (List V) (ByteArray × ByteArray) := (lCons (vC cStr) (lOne (vC cStr)))
def stringslite_HasSuffix_cr : Cod (V × List B) Bool := (cFstU (cPair (vC cBool) lNil))
def stringslite_HasSuffix_s (s : ByteArray) (suffix : ByteArray) : Option Bool := fS Tryz.prog lv X0 162 stringslite_HasSuffix_ca stringslite_HasSuffix_cr (s, suffix)
def stringslite_HasSuffix_t (s : ByteArray) (suffix : ByteArray) : Option Bool :=
 (brE ((decide ((((ByteArray.size s) : Nat) : Int) ≥ (((ByteArray.size suffix) : Nat) : Int))) == true)
 (gdE ((decide ((0 : Int) ≤ (IntKind.wrap .i64 ((((ByteArray.size s) : Nat) : Int) - (((ByteArray.size suffix) : Nat) : Int))))) && (decide ((IntKind.wrap .i64 ((((ByteArray.size s) : Nat) : Int) - (((ByteArray.size suffix) : Nat) : Int))) ≤ (((ByteArray.size s) : Nat) : Int)))) <|
 (some ((ByteArray.toList (ByteArray.extract s (Int.toNat (IntKind.wrap .i64 ((((ByteArray.size s) : Nat) : Int) - (((ByteArray.size suffix) : Nat) : Int)))) (ByteArray.size s))) == (ByteArray.toList suffix))))
 (some false))
theorem stringslite_HasSuffix_eq {s : ByteArray} {suffix : ByteArray} {r : Bool} (h : stringslite_HasSuffix_t s suffix = some r) : stringslite_HasSuffix_s s suffix = some r :=
  fS_tree (es := tab_stringslite_HasPrefix) (hs := []) [] Tryz.func162 rfl (by kernel_rfl) rfl (by kernel_rfl) (by kernel_rfl) trivial trivial (by kernel_rfl) h
def stringslite_HasSuffix_e : Ent Tryz.prog lv X0 := entS Tryz.prog lv X0 162 [] stringslite_HasSuffix_ca stringslite_HasSuffix_cr (fun x => stringslite_HasSuffix_s x.1 x.2) (fun _ _ h => fS_call h)
def tab_stringslite_HasSuffix : List (Ent Tryz.prog lv X0) := stringslite_HasSuffix_e :: tab_stringslite_HasPrefix
def strings_HasPrefix_ca : Cod (List V) (ByteArray × ByteArray) := (lCons (vC cStr) (lOne (vC cStr)))
def strings_HasPrefix_cr : Cod (V × List B) Bool := (cFstU (cPair (vC cBool) lNil))
def strings_HasPrefix_s (s : ByteArray) (prefix_ : ByteArray) : Option Bool := fS Tryz.prog lv X0 141 strings_HasPrefix_ca strings_HasPrefix_cr (s, prefix_)
def strings_HasPrefix_t (s : ByteArray) (prefix_ : ByteArray) : Option Bool :=
 (Option.bind (stringslite_HasPrefix_s s prefix_) fun r0 =>
 (some r0))
theorem strings_HasPrefix_eq {s : ByteArray} {prefix_ : ByteArray} {r : Bool} (h : strings_HasPrefix_t s prefix_ = some r) : strings_HasPrefix_s s prefix_ = some r :=
  fS_tree (es := tab_stringslite_HasSuffix) (hs := []) [] Tryz.func141 rfl (by kernel_rfl) rfl (by kernel_rfl) (by kernel_rfl) trivial trivial (by kernel_rfl) h
def strings_HasPrefix_e : Ent Tryz.prog lv X0 := entS Tryz.prog lv X0 141 [] strings_HasPrefix_ca strings_HasPrefix_cr (fun x => strings_HasPrefix_s x.1 x.2) (fun _ _ h => fS_call h)
def tab_strings_HasPrefix : List (Ent Tryz.prog lv X0) := strings_HasPrefix_e :: tab_stringslite_HasSuffix
def strings_HasSuffix_ca : Cod (List V) (ByteArray × ByteArray) := (lCons (vC cStr) (lOne (vC cStr)))
def strings_HasSuffix_cr : Cod (V × List B) Bool := (cFstU (cPair (vC cBool) lNil))
def strings_HasSuffix_s (s : ByteArray) (suffix : ByteArray) : Option Bool := fS Tryz.prog lv X0 142 strings_HasSuffix_ca strings_HasSuffix_cr (s, suffix)
def strings_HasSuffix_t (s : ByteArray) (suffix : ByteArray) : Option Bool :=
 (Option.bind (stringslite_HasSuffix_s s suffix) fun r0 =>
 (some r0))
theorem strings_HasSuffix_eq {s : ByteArray} {suffix : ByteArray} {r : Bool} (h : strings_HasSuffix_t s suffix = some r) : strings_HasSuffix_s s suffix = some r :=
  fS_tree (es := tab_strings_HasPrefix) (hs := []) [] Tryz.func142 rfl (by kernel_rfl) rfl (by kernel_rfl) (by kernel_rfl) trivial trivial (by kernel_rfl) h
def strings_HasSuffix_e : Ent Tryz.prog lv X0 := entS Tryz.prog lv X0 142 [] strings_HasSuffix_ca strings_HasSuffix_cr (fun x => strings_HasSuffix_s x.1 x.2) (fun _ _ h => fS_call h)
def tab_strings_HasSuffix : List (Ent Tryz.prog lv X0) := strings_HasSuffix_e :: tab_strings_HasPrefix
def fold_name_1_ca : Cod (List V) Int := (lOne (vC (cInt .u8)))
def fold_name_1_cr : Cod (V × List B) Bool := (cFstU (cPair (vC cBool) lNil))
def fold_name_1_s (c : Int) : Option Bool := fS Tryz.prog lv X0 144 fold_name_1_ca fold_name_1_cr c
def fold_name_1_t (c : Int) : Option Bool :=
 (brE ((decide (c ≥ (33 : Int))) == true)
 (brE ((decide (c ≤ (126 : Int))) == true)
 (some (c != 58))
 (some false))
 (some false))
theorem fold_name_1_eq {c : Int} {r : Bool} (h : fold_name_1_t c = some r) : fold_name_1_s c = some r :=
  fS_tree (es := tab_strings_HasSuffix) (hs := []) [] Tryz.func144 rfl (by kernel_rfl) rfl (by kernel_rfl) (by kernel_rfl) trivial trivial (by kernel_rfl) h
def fold_name_1_e : Ent Tryz.prog lv X0 := entS Tryz.prog lv X0 144 [] fold_name_1_ca fold_name_1_cr (fun x => fold_name_1_s x) (fun _ _ h => fS_call h)
def tab_fold_name_1 : List (Ent Tryz.prog lv X0) := fold_name_1_e :: tab_strings_HasSuffix
def allFname_ca : Cod (List V) (ByteArray × Unit) := (lCons (vC cStr) (lOne (vFn 144 lNil)))
def allFname_l2_s : SC ((ByteArray × Unit × Int × Int) × Unit) := sLS [0, 1, 7, 8] (lCons (vC cStr) (lCons (vFn 144 lNil) (lCons (vC (cInt .i64)) (lOne (vC (cInt .i64)))))) lNil [] [] (by decide) (fun _ => rfl)
def allFname_l2_o2 : SC ((ByteArray × Unit × Int × Int × Bool) × Unit) := sLS [0, 1, 7, 8, 9] (lCons (vC cStr) (lCons (vFn 144 lNil) (lCons (vC (cInt .i64)) (lCons (vC (cInt .i64)) (lOne (vC cBool)))))) lNil [] [] (by decide) (fun _ => rfl)
def allFname_l2_o1 : SC (Bool × Unit) := sLS [4] (lOne (vC cBool)) lNil [] [] (by decide) (fun _ => rfl)
def allFname_l2_o : OC ((Bool × Unit) ⊕ ((ByteArray × Unit × Int × Int × Bool) × Unit)) := oOr 1 allFname_l2_o1 (oAt 2 allFname_l2_o2) (fun x => (by decide : (2 : Nat) ≠ 1))
def allFname_l2 (s : ByteArray) (t7 : Int) (t8 : Int) : Option ((Bool × Unit) ⊕ ((ByteArray × Unit × Int × Int × Bool) × Unit)) := lS Tryz.prog lv X0 84 18 (getLoop (cdF Tryz.f84) 2) allFname_l2_s allFname_l2_o ((s, (), t7, t8), ())
def allFname_l2_t (s : ByteArray) (t7 : Int) (t8 : Int) : Option ((Bool × Unit) ⊕ ((ByteArray × Unit × Int × Int × Bool) × Unit)) :=
 (brE (decide (t8 < t7))
 (gdE ((decide ((0 : Int) ≤ t8)) && (decide ((Int.toNat t8) < (ByteArray.size s)))) <|
 (Option.bind (fold_name_1_s (((UInt8.toNat (Array.getD (ByteArray.data s) (Int.toNat t8) (0 : UInt8))) : Nat) : Int)) fun r0 =>
 (brE (!r0)
 (some (.inl (false, ())))
 (allFname_l2 s t7 (IntKind.wrap .i64 (t8 + (1 : Int)))))))
 (some (.inr ((s, ((), (t7, (t8, false)))), ()))))
theorem allFname_l2_eq {s : ByteArray} {t7 : Int} {t8 : Int} {r : ((Bool × Unit) ⊕ ((ByteArray × Unit × Int × Int × Bool) × Unit))} (h : allFname_l2_t s t7 t8 = some r) : allFname_l2 s t7 t8 = some r :=
  lS_tree (es := tab_fold_name_1) (hs := []) [] (by kernel_rfl) trivial trivial (by kernel_rfl) h
def allFname_l2_e : LEnt Tryz.prog lv X0 84 18 := lentS Tryz.prog lv X0 2 (getLoop (cdF Tryz.f84) 2) allFname_l2_s allFname_l2_o (fun x => allFname_l2 x.1.1 x.1.2.2.1 x.1.2.2.2) (fun _ _ h => lS_from h)
def allFname_cr : Cod (V × List B) Bool := (cFstU (cPair (vC cBool) lNil))
def allFname_s (s : ByteArray) : Option Bool := fS Tryz.prog lv X0 84 allFname_ca allFname_cr (s, ())
def allFname_t (s : ByteArray) : Option Bool :=
 (Option.bind (allFname_l2 s (((ByteArray.size s) : Nat) : Int) (0 : Int)) fun r0 =>
 (Sum.elim (fun r1 => (some (r1).1))
 (fun r1 => (some true)) r0))
theorem allFname_eq {s : ByteArray} {r : Bool} (h : allFname_t s = some r) : allFname_s s = some r :=
  fS_tree (es := tab_fold_name_1) (hs := []) [allFname_l2_e] Tryz.func84 rfl (by kernel_rfl) rfl (by kernel_rfl) (by kernel_rfl) ⟨⟨_, rfl, rfl⟩, trivial⟩ trivial (by kernel_rfl) h
def allFname_e : Ent Tryz.prog lv X0 := entS Tryz.prog lv X0 84 [144] allFname_ca allFname_cr (fun x => allFname_s x.1) (fun _ _ h => fS_call h)
def tab_allFname : List (Ent Tryz.prog lv X0) := allFname_e :: tab_fold_name_1
def fold_name_ca : Cod (List V) ByteArray := (lOne (vC cStr))
def fold_name_cr : Cod (V × List B) Bool := (cFstU (cPair (vC cBool) lNil))
def fold_name_s (s : ByteArray) : Option Bool := fS Tryz.prog lv X0 116 fold_name_ca fold_name_cr s
def fold_name_t (s : ByteArray) : Option Bool :=
 (brE ((!((ByteArray.toList s) == (ByteArray.toList ⟨#[]⟩))) == true)
 (brE ((decide ((((ByteArray.size s) : Nat) : Int) ≤ (60 : Int))) == true)
 (Option.bind (allFname_s s) fun r0 =>
 (some r0))
 (some false))
 (some false))
theorem fold_name_eq {s : ByteArray} {r : Bool} (h : fold_name_t s = some r) : fold_name_s s = some r :=
  fS_tree (es := tab_allFname) (hs := []) [] Tryz.func116 rfl (by kernel_rfl) rfl (by kernel_rfl) (by kernel_rfl) trivial trivial (by kernel_rfl) h
def fold_name_e : Ent Tryz.prog lv X0 := entS Tryz.prog lv X0 116 [] fold_name_ca fold_name_cr (fun x => fold_name_s x) (fun _ _ h => fS_call h)
def tab_fold_name : List (Ent Tryz.prog lv X0) := fold_name_e :: tab_allFname
def fold_ends_ca : Cod (List V) ByteArray := (lOne (vC cStr))
def fold_ends_cr : Cod (V × List B) Bool := (cFstU (cPair (vC cBool) lNil))
def fold_ends_s (s : ByteArray) : Option Bool := fS Tryz.prog lv X0 145 fold_ends_ca fold_ends_cr s
def fold_ends_t (s : ByteArray) : Option Bool :=
 (Option.bind (canyP s (ByteArray.mk (List.toArray [(13 : UInt8), (10 : UInt8), (0 : UInt8)]))) fun r0 =>
 (some r0))
theorem fold_ends_eq {s : ByteArray} {r : Bool} (h : fold_ends_t s = some r) : fold_ends_s s = some r :=
  fS_tree (es := tab_fold_name) (hs := []) [] Tryz.func145 rfl (by kernel_rfl) rfl (by kernel_rfl) (by kernel_rfl) trivial trivial (by kernel_rfl) h
def fold_ends_e : Ent Tryz.prog lv X0 := entS Tryz.prog lv X0 145 [] fold_ends_ca fold_ends_cr (fun x => fold_ends_s x) (fun _ _ h => fS_call h)
def tab_fold_ends : List (Ent Tryz.prog lv X0) := fold_ends_e :: tab_fold_name
def fold_value_ca : Cod (List V) ByteArray := (lOne (vC cStr))
def fold_value_cr : Cod (V × List B) Bool := (cFstU (cPair (vC cBool) lNil))
def fold_value_s (s : ByteArray) : Option Bool := fS Tryz.prog lv X0 117 fold_value_ca fold_value_cr s
def fold_value_t (s : ByteArray) : Option Bool :=
 (Option.bind (fold_ends_s s) fun r0 =>
 (brE ((!r0) == true)
 (brE (((ByteArray.toList s) == (ByteArray.toList ⟨#[]⟩)) == false)
 (gdE ((decide ((0 : Int) ≤ (0 : Int))) && (decide ((Int.toNat (0 : Int)) < (ByteArray.size s)))) <|
 (Option.bind (basic_Blank_s (((UInt8.toNat (Array.getD (ByteArray.data s) (Int.toNat (0 : Int)) (0 : UInt8))) : Nat) : Int)) fun r1 =>
 (brE ((!r1) == true)
 (gdE ((decide ((0 : Int) ≤ (IntKind.wrap .i64 ((((ByteArray.size s) : Nat) : Int) - (1 : Int))))) && (decide ((Int.toNat (IntKind.wrap .i64 ((((ByteArray.size s) : Nat) : Int) - (1 : Int)))) < (ByteArray.size s)))) <|
 (Option.bind (basic_Blank_s (((UInt8.toNat (Array.getD (ByteArray.data s) (Int.toNat (IntKind.wrap .i64 ((((ByteArray.size s) : Nat) : Int) - (1 : Int)))) (0 : UInt8))) : Nat) : Int)) fun r2 =>
 (some (!r2))))
 (some false))))
 (some true))
 (some false)))
theorem fold_value_eq {s : ByteArray} {r : Bool} (h : fold_value_t s = some r) : fold_value_s s = some r :=
  fS_tree (es := tab_fold_ends) (hs := []) [] Tryz.func117 rfl (by kernel_rfl) rfl (by kernel_rfl) (by kernel_rfl) trivial trivial (by kernel_rfl) h
def fold_value_e : Ent Tryz.prog lv X0 := entS Tryz.prog lv X0 117 [] fold_value_ca fold_value_cr (fun x => fold_value_s x) (fun _ _ h => fS_call h)
def tab_fold_value : List (Ent Tryz.prog lv X0) := fold_value_e :: tab_fold_ends
def fold_point_ca : Cod (List V) (ByteArray × Int) := (lCons (vC cStr) (lOne (vC (cInt .i64))))
def fold_point_l3_s : SC ((ByteArray × Int × Int) × Unit) := sLS [0, 5, 6] (lCons (vC cStr) (lCons (vC (cInt .i64)) (lOne (vC (cInt .i64))))) lNil [] [] (by decide) (fun _ => rfl)
def fold_point_l3_o2 : SC ((ByteArray × Int × Int × Bool) × Unit) := sLS [0, 5, 6, 32] (lCons (vC cStr) (lCons (vC (cInt .i64)) (lCons (vC (cInt .i64)) (lOne (vC cBool))))) lNil [] [] (by decide) (fun _ => rfl)
def fold_point_l3_o2k1 : SC ((ByteArray × Int × Int × Bool) × Unit) := sLS [0, 5, 6, 12] (lCons (vC cStr) (lCons (vC (cInt .i64)) (lCons (vC (cInt .i64)) (lOne (vC cBool))))) lNil [] [] (by decide) (fun _ => rfl)
def fold_point_l3_o : OC (((ByteArray × Int × Int × Bool) × Unit) ⊕ ((ByteArray × Int × Int × Bool) × Unit)) := oOrK 2 [0, 5, 6, 12] fold_point_l3_o2k1 (oAt 2 fold_point_l3_o2) (fun x y => .inr (st_ne 12 (by decide : (false : Bool) ≠ true)))
def fold_point_l3 (s : ByteArray) (best : Int) (i : Int) : Option (((ByteArray × Int × Int × Bool) × Unit) ⊕ ((ByteArray × Int × Int × Bool) × Unit)) := lS Tryz.prog lv X0 118 35 (getLoop (cdF Tryz.f118) 3) fold_point_l3_s fold_point_l3_o ((s, best, i), ())
def fold_point_l3_t (s : ByteArray) (best : Int) (i : Int) : Option (((ByteArray × Int × Int × Bool) × Unit) ⊕ ((ByteArray × Int × Int × Bool) × Unit)) :=
 (brE (decide (i < (((ByteArray.size s) : Nat) : Int)))
 (gdE ((decide ((0 : Int) ≤ i)) && (decide ((Int.toNat i) < (ByteArray.size s)))) <|
 (Option.bind (basic_Blank_s (((UInt8.toNat (Array.getD (ByteArray.data s) (Int.toNat i) (0 : UInt8))) : Nat) : Int)) fun r0 =>
 (brE ((!r0) == false)
 (gdE ((decide ((0 : Int) ≤ (IntKind.wrap .i64 (i - (1 : Int))))) && (decide ((Int.toNat (IntKind.wrap .i64 (i - (1 : Int)))) < (ByteArray.size s)))) <|
 (Option.bind (basic_Blank_s (((UInt8.toNat (Array.getD (ByteArray.data s) (Int.toNat (IntKind.wrap .i64 (i - (1 : Int)))) (0 : UInt8))) : Nat) : Int)) fun r1 =>
 (brE r1
 (fold_point_l3 s best (IntKind.wrap .i64 (i + (1 : Int))))
 (brE ((decide (best > (0 : Int))) == true)
 (brE (decide (i > (78 : Int)))
 (some (.inr ((s, (best, (i, true))), ())))
 (fold_point_l3 s i (IntKind.wrap .i64 (i + (1 : Int)))))
 (fold_point_l3 s i (IntKind.wrap .i64 (i + (1 : Int))))))))
 (fold_point_l3 s best (IntKind.wrap .i64 (i + (1 : Int)))))))
 (some (.inl ((s, (best, (i, false))), ()))))
theorem fold_point_l3_eq {s : ByteArray} {best : Int} {i : Int} {r : (((ByteArray × Int × Int × Bool) × Unit) ⊕ ((ByteArray × Int × Int × Bool) × Unit))} (h : fold_point_l3_t s best i = some r) : fold_point_l3 s best i = some r :=
  lS_tree (es := tab_fold_value) (hs := []) [] (by kernel_rfl) trivial trivial (by kernel_rfl) h
def fold_point_l3_e : LEnt Tryz.prog lv X0 118 35 := lentS Tryz.prog lv X0 3 (getLoop (cdF Tryz.f118) 3) fold_point_l3_s fold_point_l3_o (fun x => fold_point_l3 x.1.1 x.1.2.1 x.1.2.2) (fun _ _ h => lS_from h)
def fold_point_cr : Cod (V × List B) Int := (cFstU (cPair (vC (cInt .i64)) lNil))
def fold_point_s (s : ByteArray) (from_ : Int) : Option Int := fS Tryz.prog lv X0 118 fold_point_ca fold_point_cr (s, from_)
def fold_point_t (s : ByteArray) (from_ : Int) : Option Int :=
 (Option.bind (fold_point_l3 s (0 : Int) (ite (true = true) (ite (from_ < (1 : Int)) (1 : Int) from_) (ite ((1 : Int) < from_) (1 : Int) from_))) fun r0 =>
 (Sum.elim (fun r1 => (some (((r1).1).2).1))
 (fun r1 => (some (((r1).1).2).1)) r0))
theorem fold_point_eq {s : ByteArray} {from_ : Int} {r : Int} (h : fold_point_t s from_ = some r) : fold_point_s s from_ = some r :=
  fS_tree (es := tab_fold_value) (hs := []) [fold_point_l3_e] Tryz.func118 rfl (by kernel_rfl) rfl (by kernel_rfl) (by kernel_rfl) ⟨⟨_, rfl, rfl⟩, trivial⟩ trivial (by kernel_rfl) h
def fold_point_e : Ent Tryz.prog lv X0 := entS Tryz.prog lv X0 118 [] fold_point_ca fold_point_cr (fun x => fold_point_s x.1 x.2) (fun _ _ h => fS_call h)
def tab_fold_point : List (Ent Tryz.prog lv X0) := fold_point_e :: tab_fold_value
def ec_9 : EC ByteArray where
  enc x := [.str x]
  dec c := strOf (c.getD 0 .ne)
  is c := isE [.str] 0 c
  enc_dec h := decE_eq h
  dec_enc x := by rfl
  is_enc x := by simp [isE, isK]
theorem enc_9 (x : ByteArray) : ec_9.enc x = [.str x] := rfl
theorem at_9_0 (xs : List ByteArray) (n : Nat) : strOf (((ec_9.encL xs).getD n []).getD 0 .ne) = (xs.getD n (ec_9.dec [])) := by
  by_cases h : n < xs.length
  · simp only [EC.getD_lt _ _ h]; simp [enc_9, h, strOf, List.getD_eq_getElem?_getD]
  · simp only [EC.getD_ge _ _ (Nat.not_lt.1 h)]; simp [Nat.not_lt.1 h, ec_9, strOf, List.getD_eq_getElem?_getD]
theorem lit_9 (a0 : ByteArray) : ([.str a0] : List C) = ec_9.enc a0 := rfl
theorem apd_9 (xs : List ByteArray) (a0 : ByteArray) : ec_9.encL xs ++ [[.str a0]] = ec_9.encL (xs ++ [a0]) := by rw [lit_9]; simp [EC.encL]
theorem len_9 (xs : List ByteArray) (n : Nat) (h : n < xs.length) : ((ec_9.encL xs).getD n []).length = 1 := by rw [EC.getD_lt _ _ h]; rfl
theorem all_9 (xs : List ByteArray) : (ec_9.encL xs).all (fun (el : List C) => el.length == 1) = true := by induction xs with | nil => rfl | cons x xs ih => first | (simp [EC.encL, enc_9]; done) | simpa [EC.encL, enc_9] using ih
def fold_Fold_ca : Cod (List V) (ByteArray × ByteArray) := (lCons (vC cStr) (lOne (vC cStr)))
def fold_Fold_l9_s : SC ((Unit × ByteArray × Int × Nat) × ((Int × Int) × (List ByteArray))) := sLS [5, 6, 7, 8] (lCons (vPtr 0 0) (lCons (vC cStr) (lCons (vC (cInt .i64)) (lOne (vRow 1))))) (lCons (oSome (bBox (lCons (vC (cInt .i64)) (lOne (vC (cInt .i64)))))) (lOne (oSome (bRow ec_9)))) [false, false] [] (by decide) (fun _ => rfl)
def fold_Fold_l9_o3 : SC ((Unit × ByteArray × Nat × Int × Bool) × ((Int × Int) × (List ByteArray))) := sLS [5, 6, 8, 9, 41] (lCons (vPtr 0 0) (lCons (vC cStr) (lCons (vRow 1) (lCons (vC (cInt .i64)) (lOne (vC cBool)))))) (lCons (oSome (bBox (lCons (vC (cInt .i64)) (lOne (vC (cInt .i64)))))) (lOne (oSome (bRow ec_9)))) [false, false] [] (by decide) (fun _ => rfl)
def fold_Fold_l9_o3k1 : SC ((Unit × ByteArray × Int × Nat × Bool) × ((Int × Int) × (List ByteArray))) := sLS [5, 6, 7, 8, 36] (lCons (vPtr 0 0) (lCons (vC cStr) (lCons (vC (cInt .i64)) (lCons (vRow 1) (lOne (vC cBool)))))) (lCons (oSome (bBox (lCons (vC (cInt .i64)) (lOne (vC (cInt .i64)))))) (lOne (oSome (bRow ec_9)))) [false, false] [] (by decide) (fun _ => rfl)
def fold_Fold_l9_o : OC (((Unit × ByteArray × Int × Nat × Bool) × ((Int × Int) × (List ByteArray))) ⊕ ((Unit × ByteArray × Nat × Int × Bool) × ((Int × Int) × (List ByteArray)))) := oOrK 3 [5, 6, 7, 8, 36] fold_Fold_l9_o3k1 (oAt 3 fold_Fold_l9_o3) (fun x y => .inr (st_ne 7 (by decide : (false : Bool) ≠ true)))
def fold_Fold_l9 (rest : ByteArray) (from_ : Int) (out : Nat) (b0 : Int) (b0_1 : Int) (b1 : (List ByteArray)) : Option (((Unit × ByteArray × Int × Nat × Bool) × ((Int × Int) × (List ByteArray))) ⊕ ((Unit × ByteArray × Nat × Int × Bool) × ((Int × Int) × (List ByteArray)))) := lS Tryz.prog lv X0 92 70 (getLoop (cdF Tryz.f92) 9) fold_Fold_l9_s fold_Fold_l9_o (((), rest, from_, out), ((b0, b0_1), b1))
def fold_Fold_l9_t (rest : ByteArray) (from_ : Int) (out : Nat) (b0 : Int) (b0_1 : Int) (b1 : (List ByteArray)) : Option (((Unit × ByteArray × Int × Nat × Bool) × ((Int × Int) × (List ByteArray))) ⊕ ((Unit × ByteArray × Nat × Int × Bool) × ((Int × Int) × (List ByteArray)))) :=
 (brE (decide ((((ByteArray.size rest) : Nat) : Int) > (78 : Int)))
 (Option.bind (fold_point_s rest from_) fun r0 =>
 (brE (r0 == 0)
 (gdE (EC.isL ec_9 (EC.encL ec_9 b1)) <|
 (some (.inr (((), (rest, (out, (r0, true)))), ((b0, b0_1), (EC.decL ec_9 (EC.encL ec_9 b1)))))))
 (gdE ((decide ((0 : Int) ≤ r0)) && (decide (r0 ≤ (((ByteArray.size rest) : Nat) : Int)))) <|
 (gdE ((((List.all [[(C.str (ByteArray.extract rest (0 : Nat) (Int.toNat r0)))]] (fun (el : (List C)) => ((List.length el) == (1 : Nat)))) && (List.all (EC.encL ec_9 b1) (fun (el : (List C)) => ((List.length el) == (1 : Nat))))) && (decide (((((out + (List.length [[(C.str (ByteArray.extract rest (0 : Nat) (Int.toNat r0)))]])) + ((out + (List.length [[(C.str (ByteArray.extract rest (0 : Nat) (Int.toNat r0)))]])) / (4 : Nat))) + (192 : Nat)) * (16 : Nat)) ≤ (281474976710656 : Nat)))) && (decide ((out + (List.length [[(C.str (ByteArray.extract rest (0 : Nat) (Int.toNat r0)))]])) ≤ (9223372036854775807 : Nat)))) <|
 (gdE ((decide ((0 : Int) ≤ r0)) && (decide (r0 ≤ (((ByteArray.size rest) : Nat) : Int)))) <|
 (gdE (EC.isL ec_9 ((EC.encL ec_9 b1) ++ [[(C.str (ByteArray.extract rest (0 : Nat) (Int.toNat r0)))]])) <|
 (fold_Fold_l9 (ByteArray.extract rest (Int.toNat r0) (ByteArray.size rest)) (0 : Int) (out + (List.length [[(C.str (ByteArray.extract rest (0 : Nat) (Int.toNat r0)))]])) b0 b0_1 (EC.decL ec_9 ((EC.encL ec_9 b1) ++ [[(C.str (ByteArray.extract rest (0 : Nat) (Int.toNat r0)))]])))))))))
 (gdE (EC.isL ec_9 (EC.encL ec_9 b1)) <|
 (some (.inl (((), (rest, (from_, (out, false)))), ((b0, b0_1), (EC.decL ec_9 (EC.encL ec_9 b1))))))))
theorem fold_Fold_l9_eq {rest : ByteArray} {from_ : Int} {out : Nat} {b0 : Int} {b0_1 : Int} {b1 : (List ByteArray)} {r : (((Unit × ByteArray × Int × Nat × Bool) × ((Int × Int) × (List ByteArray))) ⊕ ((Unit × ByteArray × Nat × Int × Bool) × ((Int × Int) × (List ByteArray))))} (h : fold_Fold_l9_t rest from_ out b0 b0_1 b1 = some r) : fold_Fold_l9 rest from_ out b0 b0_1 b1 = some r :=
  lS_tree (es := tab_fold_point) (hs := []) [] (by kernel_rfl) trivial trivial (by kernel_rfl) h
def fold_Fold_l9_e : LEnt Tryz.prog lv X0 92 70 := lentS Tryz.prog lv X0 9 (getLoop (cdF Tryz.f92) 9) fold_Fold_l9_s fold_Fold_l9_o (fun x => fold_Fold_l9 x.1.2.1 x.1.2.2.1 x.1.2.2.2 x.2.1.1 x.2.1.2 x.2.2) (fun _ _ h => lS_from h)
def fold_Fold_l16_s : SC ((Unit × Nat × Nat × Int × Int) × ((Int × Int) × (List ByteArray))) := sLS [5, 8, 55, 56, 57] (lCons (vPtr 0 0) (lCons (vRow 1) (lCons (vRow 1) (lCons (vC (cInt .i64)) (lOne (vC (cInt .i64))))))) (lCons (oSome (bBox (lCons (vC (cInt .i64)) (lOne (vC (cInt .i64)))))) (lOne (oSome (bRow ec_9)))) [false, false] [] (by decide) (fun _ => rfl)
def fold_Fold_l16_o5 : SC ((Unit × Nat × Nat × Int × Int × Bool) × ((Int × Int) × (List ByteArray))) := sLS [5, 8, 55, 56, 57, 58] (lCons (vPtr 0 0) (lCons (vRow 1) (lCons (vRow 1) (lCons (vC (cInt .i64)) (lCons (vC (cInt .i64)) (lOne (vC cBool))))))) (lCons (oSome (bBox (lCons (vC (cInt .i64)) (lOne (vC (cInt .i64)))))) (lOne (oSome (bRow ec_9)))) [false, false] [] (by decide) (fun _ => rfl)
def fold_Fold_l16_o1 : SC ((Nat × Unit) × ((List ByteArray) × (Int × Int))) := sLS [4, 5] (lCons (vRow 0) (lOne (vPtr 1 0))) (lCons (oSome (bRow ec_9)) (lOne (oSome (bBox (lCons (vC (cInt .i64)) (lOne (vC (cInt .i64)))))))) [false, false] [] (by decide) (fun _ => rfl)
def fold_Fold_l16_o : OC (((Nat × Unit) × ((List ByteArray) × (Int × Int))) ⊕ ((Unit × Nat × Nat × Int × Int × Bool) × ((Int × Int) × (List ByteArray)))) := oOr 1 fold_Fold_l16_o1 (oAt 5 fold_Fold_l16_o5) (fun x => (by decide : (5 : Nat) ≠ 1))
def fold_Fold_l16 (out : Nat) (t55 : Nat) (t56 : Int) (t57 : Int) (b0 : Int) (b0_1 : Int) (b1 : (List ByteArray)) : Option (((Nat × Unit) × ((List ByteArray) × (Int × Int))) ⊕ ((Unit × Nat × Nat × Int × Int × Bool) × ((Int × Int) × (List ByteArray)))) := lS Tryz.prog lv X0 92 70 (getLoop (cdF Tryz.f92) 16) fold_Fold_l16_s fold_Fold_l16_o (((), out, t55, t56, t57), ((b0, b0_1), b1))
def fold_Fold_l16_t (out : Nat) (t55 : Nat) (t56 : Int) (t57 : Int) (b0 : Int) (b0_1 : Int) (b1 : (List ByteArray)) : Option (((Nat × Unit) × ((List ByteArray) × (Int × Int))) ⊕ ((Unit × Nat × Nat × Int × Int × Bool) × ((Int × Int) × (List ByteArray)))) :=
 (brE (decide (t57 < t56))
 (gdE ((decide ((0 : Int) ≤ t57)) && (decide (t57 < ((t55 : Nat) : Int)))) <|
 (gdE ((decide ((Int.toNat t57) < (List.length (EC.encL ec_9 b1)))) && ((List.length (List.getD (EC.encL ec_9 b1) (Int.toNat t57) [])) == (1 : Nat))) <|
 (gdE (isP [K1.str] (0 : Nat) (List.getD (EC.encL ec_9 b1) (Int.toNat t57) [])) <|
 (brE (decide ((((ByteArray.size (strOf (List.getD (List.getD (EC.encL ec_9 b1) (Int.toNat t57) []) (0 : Nat) C.ne))) : Nat) : Int) > (998 : Int)))
 (Option.bind (basic_Fault_s (1 : Int) t57) fun r0 =>
 (some (.inl (((0 : Nat), ()), ((EC.decL ec_9 []), ((r0).1, (r0).2))))))
 (gdE (EC.isL ec_9 (EC.encL ec_9 b1)) <|
 (fold_Fold_l16 out t55 t56 (IntKind.wrap .i64 (t57 + (1 : Int))) b0 b0_1 (EC.decL ec_9 (EC.encL ec_9 b1))))))))
 (gdE (EC.isL ec_9 (EC.encL ec_9 b1)) <|
 (some (.inr (((), (out, (t55, (t56, (t57, false))))), ((b0, b0_1), (EC.decL ec_9 (EC.encL ec_9 b1))))))))
theorem fold_Fold_l16_eq {out : Nat} {t55 : Nat} {t56 : Int} {t57 : Int} {b0 : Int} {b0_1 : Int} {b1 : (List ByteArray)} {r : (((Nat × Unit) × ((List ByteArray) × (Int × Int))) ⊕ ((Unit × Nat × Nat × Int × Int × Bool) × ((Int × Int) × (List ByteArray))))} (h : fold_Fold_l16_t out t55 t56 t57 b0 b0_1 b1 = some r) : fold_Fold_l16 out t55 t56 t57 b0 b0_1 b1 = some r :=
  lS_tree (es := tab_fold_point) (hs := []) [] (by kernel_rfl) trivial trivial (by kernel_rfl) h
def fold_Fold_l16_e : LEnt Tryz.prog lv X0 92 70 := lentS Tryz.prog lv X0 16 (getLoop (cdF Tryz.f92) 16) fold_Fold_l16_s fold_Fold_l16_o (fun x => fold_Fold_l16 x.1.2.1 x.1.2.2.1 x.1.2.2.2.1 x.1.2.2.2.2 x.2.1.1 x.2.1.2 x.2.2) (fun _ _ h => lS_from h)
def fold_Fold_cr : Cod (V × List B) ((Nat × (Int × Int)) × (List ByteArray)) := (cPair (vTup (lCons (vRow 0) (lOne (vAgg (lCons (vC (cInt .i64)) (lOne (vC (cInt .i64)))))))) (lOne (bRow ec_9)))
def fold_Fold_s (n : ByteArray) (v : ByteArray) : Option ((Nat × (Int × Int)) × (List ByteArray)) := fS Tryz.prog lv X0 92 fold_Fold_ca fold_Fold_cr (n, v)
def fold_Fold_t (n : ByteArray) (v : ByteArray) : Option ((Nat × (Int × Int)) × (List ByteArray)) :=
 (Option.bind (fold_name_s n) fun r0 =>
 (brE (!r0)
 (Option.bind (basic_Fault_s (10 : Int) (-(1 : Int))) fun r1 =>
 (some (((0 : Nat), ((r1).1, (r1).2)), (EC.decL ec_9 []))))
 (brE (decide ((((ByteArray.size v) : Nat) : Int) > (4000 : Int)))
 (Option.bind (basic_Fault_s (1 : Int) (-(1 : Int))) fun r1 =>
 (some (((0 : Nat), ((r1).1, (r1).2)), (EC.decL ec_9 []))))
 (Option.bind (fold_value_s v) fun r1 =>
 (brE (!r1)
 (Option.bind (basic_Fault_s (11 : Int) (-(1 : Int))) fun r2 =>
 (some (((0 : Nat), ((r2).1, (r2).2)), (EC.decL ec_9 []))))
 (brE (decide (((((ByteArray.size n) + (ByteArray.size (ByteArray.mk (List.toArray [(58 : UInt8), (32 : UInt8)])))) : Nat) : Int) > (Go.IntKind.max Go.IntKind.i64)))
 none
 (brE (decide (((((ByteArray.size (n ++ (ByteArray.mk (List.toArray [(58 : UInt8), (32 : UInt8)])))) + (ByteArray.size v)) : Nat) : Int) > (Go.IntKind.max Go.IntKind.i64)))
 none
 (Option.bind (fold_Fold_l9 ((n ++ (ByteArray.mk (List.toArray [(58 : UInt8), (32 : UInt8)]))) ++ v) (IntKind.wrap .i64 ((((ByteArray.size n) : Nat) : Int) + (2 : Int))) (0 : Nat) (0 : Int) (0 : Int) (EC.decL ec_9 [])) fun r2 =>
 (Sum.elim (fun r3 => (gdE ((((List.all [[(C.str (((r3).1).2).1)]] (fun (el : (List C)) => ((List.length el) == (1 : Nat)))) && (List.all (EC.encL ec_9 ((r3).2).2) (fun (el : (List C)) => ((List.length el) == (1 : Nat))))) && (decide ((((((((((r3).1).2).2).2).1 + (List.length [[(C.str (((r3).1).2).1)]])) + (((((((r3).1).2).2).2).1 + (List.length [[(C.str (((r3).1).2).1)]])) / (4 : Nat))) + (192 : Nat)) * (16 : Nat)) ≤ (281474976710656 : Nat)))) && (decide (((((((r3).1).2).2).2).1 + (List.length [[(C.str (((r3).1).2).1)]])) ≤ (9223372036854775807 : Nat)))) <|
 (gdE (EC.isL ec_9 ((EC.encL ec_9 ((r3).2).2) ++ [[(C.str (((r3).1).2).1)]])) <|
 (Option.bind (fold_Fold_l16 ((((((r3).1).2).2).2).1 + (List.length [[(C.str (((r3).1).2).1)]])) ((((((r3).1).2).2).2).1 + (List.length [[(C.str (((r3).1).2).1)]])) ((((((((r3).1).2).2).2).1 + (List.length [[(C.str (((r3).1).2).1)]])) : Nat) : Int) (0 : Int) (((r3).2).1).1 (((r3).2).1).2 (EC.decL ec_9 ((EC.encL ec_9 ((r3).2).2) ++ [[(C.str (((r3).1).2).1)]]))) fun r4 =>
 (Sum.elim (fun r5 => (gdE (EC.isL ec_9 (EC.encL ec_9 ((r5).2).1)) <|
 (some ((((r5).1).1, ((((r5).2).2).1, (((r5).2).2).2)), (EC.decL ec_9 (EC.encL ec_9 ((r5).2).1))))))
 (fun r5 => (Option.bind basic_None_s fun r6 =>
 (gdE (EC.isL ec_9 (EC.encL ec_9 ((r5).2).2)) <|
 (some (((((r5).1).2).1, ((r6).1, (r6).2)), (EC.decL ec_9 (EC.encL ec_9 ((r5).2).2))))))) r4)))))
 (fun r3 => (gdE ((((List.all [[(C.str (((r3).1).2).1)]] (fun (el : (List C)) => ((List.length el) == (1 : Nat)))) && (List.all (EC.encL ec_9 ((r3).2).2) (fun (el : (List C)) => ((List.length el) == (1 : Nat))))) && (decide (((((((((r3).1).2).2).1 + (List.length [[(C.str (((r3).1).2).1)]])) + ((((((r3).1).2).2).1 + (List.length [[(C.str (((r3).1).2).1)]])) / (4 : Nat))) + (192 : Nat)) * (16 : Nat)) ≤ (281474976710656 : Nat)))) && (decide ((((((r3).1).2).2).1 + (List.length [[(C.str (((r3).1).2).1)]])) ≤ (9223372036854775807 : Nat)))) <|
 (gdE (EC.isL ec_9 ((EC.encL ec_9 ((r3).2).2) ++ [[(C.str (((r3).1).2).1)]])) <|
 (Option.bind (fold_Fold_l16 (((((r3).1).2).2).1 + (List.length [[(C.str (((r3).1).2).1)]])) (((((r3).1).2).2).1 + (List.length [[(C.str (((r3).1).2).1)]])) (((((((r3).1).2).2).1 + (List.length [[(C.str (((r3).1).2).1)]])) : Nat) : Int) (0 : Int) (((r3).2).1).1 (((r3).2).1).2 (EC.decL ec_9 ((EC.encL ec_9 ((r3).2).2) ++ [[(C.str (((r3).1).2).1)]]))) fun r4 =>
 (Sum.elim (fun r5 => (gdE (EC.isL ec_9 (EC.encL ec_9 ((r5).2).1)) <|
 (some ((((r5).1).1, ((((r5).2).2).1, (((r5).2).2).2)), (EC.decL ec_9 (EC.encL ec_9 ((r5).2).1))))))
 (fun r5 => (Option.bind basic_None_s fun r6 =>
 (gdE (EC.isL ec_9 (EC.encL ec_9 ((r5).2).2)) <|
 (some (((((r5).1).2).1, ((r6).1, (r6).2)), (EC.decL ec_9 (EC.encL ec_9 ((r5).2).2))))))) r4))))) r2)))))))))
theorem fold_Fold_eq {n : ByteArray} {v : ByteArray} {r : ((Nat × (Int × Int)) × (List ByteArray))} (h : fold_Fold_t n v = some r) : fold_Fold_s n v = some r :=
  fS_tree (es := tab_fold_point) (hs := []) [fold_Fold_l9_e, fold_Fold_l16_e] Tryz.func92 rfl (by kernel_rfl) rfl (by kernel_rfl) (by kernel_rfl) ⟨⟨_, rfl, rfl⟩, ⟨_, rfl, rfl⟩, trivial⟩ trivial (by kernel_rfl) h
def fold_Fold_e : Ent Tryz.prog lv X0 := entS Tryz.prog lv X0 92 [] fold_Fold_ca fold_Fold_cr (fun x => fold_Fold_s x.1 x.2) (fun _ _ h => fS_call h)
def tab_fold_Fold : List (Ent Tryz.prog lv X0) := fold_Fold_e :: tab_fold_point
structure S55 where
  Name : ByteArray
  Value : ByteArray
def ec_55 : EC S55 where
  enc x := [.str x.Name, .str x.Value]
  dec c := ⟨strOf (c.getD 0 .ne), strOf (c.getD 1 .ne)⟩
  is c := isE [.str, .str] 0 c
  enc_dec h := decE_eq h
  dec_enc x := by rfl
  is_enc x := by simp [isE, isK]
theorem enc_55 (x : S55) : ec_55.enc x = [.str x.Name, .str x.Value] := rfl
theorem isE_55 (xs : List S55) (n : Nat) : isE [.str, .str] 0 ((ec_55.encL xs).getD n []) = decide (n < xs.length) := by
  by_cases h : n < xs.length
  · simp only [EC.getD_lt _ _ h]; simp [enc_55, isE, isK, h]
  · simp only [EC.getD_ge _ _ (Nat.not_lt.1 h)]; simp [isE, isK, h]
theorem at_55_0 (xs : List S55) (n : Nat) : strOf (((ec_55.encL xs).getD n []).getD 0 .ne) = (xs.getD n (ec_55.dec [])).Name := by
  by_cases h : n < xs.length
  · simp only [EC.getD_lt _ _ h]; simp [enc_55, h, strOf, List.getD_eq_getElem?_getD]
  · simp only [EC.getD_ge _ _ (Nat.not_lt.1 h)]; simp [Nat.not_lt.1 h, ec_55, strOf, List.getD_eq_getElem?_getD]
theorem at_55_1 (xs : List S55) (n : Nat) : strOf (((ec_55.encL xs).getD n []).getD 1 .ne) = (xs.getD n (ec_55.dec [])).Value := by
  by_cases h : n < xs.length
  · simp only [EC.getD_lt _ _ h]; simp [enc_55, h, strOf, List.getD_eq_getElem?_getD]
  · simp only [EC.getD_ge _ _ (Nat.not_lt.1 h)]; simp [Nat.not_lt.1 h, ec_55, strOf, List.getD_eq_getElem?_getD]
def header_Validate_ca : Cod (List V) (List S55) := (lOne (vC (cSl ec_55)))
def header_Validate_l4_s : SC ((Unit × (List S55) × Int × Int) × (Int × Int)) := sLS [2, 11, 12, 13] (lCons (vPtr 0 0) (lCons (vC (cSl ec_55)) (lCons (vC (cInt .i64)) (lOne (vC (cInt .i64)))))) (lOne (oSome (bBox (lCons (vC (cInt .i64)) (lOne (vC (cInt .i64))))))) [false] [] (by decide) (fun _ => rfl)
def header_Validate_l4_o2 : SC ((Unit × (List S55) × Int × Int × Bool) × (Int × Int)) := sLS [2, 11, 12, 13, 14] (lCons (vPtr 0 0) (lCons (vC (cSl ec_55)) (lCons (vC (cInt .i64)) (lCons (vC (cInt .i64)) (lOne (vC cBool)))))) (lOne (oSome (bBox (lCons (vC (cInt .i64)) (lOne (vC (cInt .i64))))))) [false] [] (by decide) (fun _ => rfl)
def header_Validate_l4_o1 : SC (Unit × (Int × Int)) := sLS [2] (lOne (vPtr 0 0)) (lOne (oSome (bBox (lCons (vC (cInt .i64)) (lOne (vC (cInt .i64))))))) [false] [] (by decide) (fun _ => rfl)
def header_Validate_l4_o : OC ((Unit × (Int × Int)) ⊕ ((Unit × (List S55) × Int × Int × Bool) × (Int × Int))) := oOr 1 header_Validate_l4_o1 (oAt 2 header_Validate_l4_o2) (fun x => (by decide : (2 : Nat) ≠ 1))
def header_Validate_l4 (t11 : (List S55)) (t12 : Int) (t13 : Int) (b0 : Int) (b0_1 : Int) : Option ((Unit × (Int × Int)) ⊕ ((Unit × (List S55) × Int × Int × Bool) × (Int × Int))) := lS Tryz.prog lv X0 90 34 (getLoop (cdF Tryz.f90) 4) header_Validate_l4_s header_Validate_l4_o (((), t11, t12, t13), (b0, b0_1))
def header_Validate_l4_t (t11 : (List S55)) (t12 : Int) (t13 : Int) (b0 : Int) (b0_1 : Int) : Option ((Unit × (Int × Int)) ⊕ ((Unit × (List S55) × Int × Int × Bool) × (Int × Int))) :=
 (brE (decide (t13 < t12))
 (gdE (decide ((0 : Int) ≤ t13)) <|
 (gdE ((decide ((Int.toNat t13) < (List.length (EC.encL ec_55 t11)))) && (isE [K1.str, K1.str] (0 : Nat) (List.getD (EC.encL ec_55 t11) (Int.toNat t13) []))) <|
 (Option.bind (fold_Fold_s (strOf (List.getD (List.getD (EC.encL ec_55 t11) (Int.toNat t13) []) (0 : Nat) C.ne)) (strOf (List.getD (List.getD (EC.encL ec_55 t11) (Int.toNat t13) []) (1 : Nat) C.ne))) fun r0 =>
 (Option.bind (basic_Failed_s (((r0).1).2).1 (((r0).1).2).2) fun r1 =>
 (brE r1
 (Option.bind (basic_Fault_s (((r0).1).2).1 t13) fun r2 =>
 (some (.inl ((), ((r2).1, (r2).2)))))
 (gdE (EC.isL ec_55 (EC.encL ec_55 t11)) <|
 (header_Validate_l4 (EC.decL ec_55 (EC.encL ec_55 t11)) t12 (IntKind.wrap .i64 (t13 + (1 : Int))) b0 b0_1)))))))
 (gdE (EC.isL ec_55 (EC.encL ec_55 t11)) <|
 (some (.inr (((), ((EC.decL ec_55 (EC.encL ec_55 t11)), (t12, (t13, false)))), (b0, b0_1))))))
theorem header_Validate_l4_eq {t11 : (List S55)} {t12 : Int} {t13 : Int} {b0 : Int} {b0_1 : Int} {r : ((Unit × (Int × Int)) ⊕ ((Unit × (List S55) × Int × Int × Bool) × (Int × Int)))} (h : header_Validate_l4_t t11 t12 t13 b0 b0_1 = some r) : header_Validate_l4 t11 t12 t13 b0 b0_1 = some r :=
  lS_tree (es := tab_fold_Fold) (hs := []) [] (by kernel_rfl) trivial trivial (by kernel_rfl) h
def header_Validate_l4_e : LEnt Tryz.prog lv X0 90 34 := lentS Tryz.prog lv X0 4 (getLoop (cdF Tryz.f90) 4) header_Validate_l4_s header_Validate_l4_o (fun x => header_Validate_l4 x.1.2.1 x.1.2.2.1 x.1.2.2.2 x.2.1 x.2.2) (fun _ _ h => lS_from h)
def header_Validate_cr : Cod (V × List B) (Int × Int) := (cFstU (cPair (vAgg (lCons (vC (cInt .i64)) (lOne (vC (cInt .i64))))) lNil))
def header_Validate_s (l : (List S55)) : Option (Int × Int) := fS Tryz.prog lv X0 90 header_Validate_ca header_Validate_cr l
def header_Validate_t (l : (List S55)) : Option (Int × Int) :=
 (brE (decide ((((List.length (EC.encL ec_55 l)) : Nat) : Int) > (60 : Int)))
 (Option.bind (basic_Fault_s (2 : Int) (-(1 : Int))) fun r0 =>
 (some ((r0).1, (r0).2)))
 (gdE (EC.isL ec_55 (EC.encL ec_55 l)) <|
 (Option.bind (header_Validate_l4 (EC.decL ec_55 (EC.encL ec_55 l)) (((List.length (EC.encL ec_55 l)) : Nat) : Int) (0 : Int) (0 : Int) (0 : Int)) fun r0 =>
 (Sum.elim (fun r1 => (some (((r1).2).1, ((r1).2).2)))
 (fun r1 => (Option.bind basic_None_s fun r2 =>
 (some ((r2).1, (r2).2)))) r0))))
theorem header_Validate_eq {l : (List S55)} {r : (Int × Int)} (h : header_Validate_t l = some r) : header_Validate_s l = some r :=
  fS_tree (es := tab_fold_Fold) (hs := []) [header_Validate_l4_e] Tryz.func90 rfl (by kernel_rfl) rfl (by kernel_rfl) (by kernel_rfl) ⟨⟨_, rfl, rfl⟩, trivial⟩ trivial (by kernel_rfl) h
def header_Validate_e : Ent Tryz.prog lv X0 := entS Tryz.prog lv X0 90 [] header_Validate_ca header_Validate_cr (fun x => header_Validate_s x) (fun _ _ h => fS_call h)
def tab_header_Validate : List (Ent Tryz.prog lv X0) := header_Validate_e :: tab_fold_Fold
def header_name_ca : Cod (List V) ByteArray := (lOne (vC cStr))
def header_name_cr : Cod (V × List B) Bool := (cFstU (cPair (vC cBool) lNil))
def header_name_s (s : ByteArray) : Option Bool := fS Tryz.prog lv X0 167 header_name_ca header_name_cr s
def header_name_t (s : ByteArray) : Option Bool :=
 (Option.bind (fold_Fold_s s ⟨#[]⟩) fun r0 =>
 (Option.bind (basic_Failed_s (((r0).1).2).1 (((r0).1).2).2) fun r1 =>
 (some (!r1))))
theorem header_name_eq {s : ByteArray} {r : Bool} (h : header_name_t s = some r) : header_name_s s = some r :=
  fS_tree (es := tab_header_Validate) (hs := []) [] Tryz.func167 rfl (by kernel_rfl) rfl (by kernel_rfl) (by kernel_rfl) trivial trivial (by kernel_rfl) h
def header_name_e : Ent Tryz.prog lv X0 := entS Tryz.prog lv X0 167 [] header_name_ca header_name_cr (fun x => header_name_s x) (fun _ _ h => fS_call h)
def tab_header_name : List (Ent Tryz.prog lv X0) := header_name_e :: tab_header_Validate
def header_valid_ca : Cod (List V) ((List S55) × ByteArray) := (lCons (vC (cSl ec_55)) (lOne (vC cStr)))
def header_valid_cr : Cod (V × List B) (Int × Int) := (cFstU (cPair (vAgg (lCons (vC (cInt .i64)) (lOne (vC (cInt .i64))))) lNil))
def header_valid_s (l : (List S55)) (n : ByteArray) : Option (Int × Int) := fS Tryz.prog lv X0 157 header_valid_ca header_valid_cr (l, n)
def header_valid_t (l : (List S55)) (n : ByteArray) : Option (Int × Int) :=
 (gdE (EC.isL ec_55 (EC.encL ec_55 l)) <|
 (Option.bind (header_Validate_s (EC.decL ec_55 (EC.encL ec_55 l))) fun r0 =>
 (Option.bind (basic_Failed_s (r0).1 (r0).2) fun r1 =>
 (brE r1
 (some ((r0).1, (r0).2))
 (Option.bind (header_name_s n) fun r2 =>
 (brE (!r2)
 (Option.bind (basic_Fault_s (10 : Int) (-(3 : Int))) fun r3 =>
 (some ((r3).1, (r3).2)))
 (Option.bind basic_None_s fun r3 =>
 (some ((r3).1, (r3).2)))))))))
theorem header_valid_eq {l : (List S55)} {n : ByteArray} {r : (Int × Int)} (h : header_valid_t l n = some r) : header_valid_s l n = some r :=
  fS_tree (es := tab_header_name) (hs := []) [] Tryz.func157 rfl (by kernel_rfl) rfl (by kernel_rfl) (by kernel_rfl) trivial trivial (by kernel_rfl) h
def header_valid_e : Ent Tryz.prog lv X0 := entS Tryz.prog lv X0 157 [] header_valid_ca header_valid_cr (fun x => header_valid_s x.1 x.2) (fun _ _ h => fS_call h)
def tab_header_valid : List (Ent Tryz.prog lv X0) := header_valid_e :: tab_header_name
def header_Get_ca : Cod (List V) ((List S55) × ByteArray) := (lCons (vC (cSl ec_55)) (lOne (vC cStr)))
def header_Get_l6_s : SC ((ByteArray × Unit × Nat × (List S55) × Int × Int) × ((Int × Int) × (List ByteArray))) := sLS [1, 5, 7, 16, 17, 18] (lCons (vC cStr) (lCons (vPtr 0 0) (lCons (vRow 1) (lCons (vC (cSl ec_55)) (lCons (vC (cInt .i64)) (lOne (vC (cInt .i64)))))))) (lCons (oSome (bBox (lCons (vC (cInt .i64)) (lOne (vC (cInt .i64)))))) (lOne (oSome (bRow ec_9)))) [false, false] [] (by decide) (fun _ => rfl)
def header_Get_l6_o2 : SC ((ByteArray × Unit × Nat × (List S55) × Int × Int × Bool) × ((Int × Int) × (List ByteArray))) := sLS [1, 5, 7, 16, 17, 18, 19] (lCons (vC cStr) (lCons (vPtr 0 0) (lCons (vRow 1) (lCons (vC (cSl ec_55)) (lCons (vC (cInt .i64)) (lCons (vC (cInt .i64)) (lOne (vC cBool)))))))) (lCons (oSome (bBox (lCons (vC (cInt .i64)) (lOne (vC (cInt .i64)))))) (lOne (oSome (bRow ec_9)))) [false, false] [] (by decide) (fun _ => rfl)
def header_Get_l6_o : OC ((ByteArray × Unit × Nat × (List S55) × Int × Int × Bool) × ((Int × Int) × (List ByteArray))) := oAt 2 header_Get_l6_o2
def header_Get_l6 (n : ByteArray) (out : Nat) (t16 : (List S55)) (t17 : Int) (t18 : Int) (b0 : Int) (b0_1 : Int) (b1 : (List ByteArray)) : Option ((ByteArray × Unit × Nat × (List S55) × Int × Int × Bool) × ((Int × Int) × (List ByteArray))) := lS Tryz.prog lv X0 135 34 (getLoop (cdF Tryz.f135) 6) header_Get_l6_s header_Get_l6_o ((n, (), out, t16, t17, t18), ((b0, b0_1), b1))
def header_Get_l6_t (n : ByteArray) (out : Nat) (t16 : (List S55)) (t17 : Int) (t18 : Int) (b0 : Int) (b0_1 : Int) (b1 : (List ByteArray)) : Option ((ByteArray × Unit × Nat × (List S55) × Int × Int × Bool) × ((Int × Int) × (List ByteArray))) :=
 (brE (decide (t18 < t17))
 (gdE (decide ((0 : Int) ≤ t18)) <|
 (gdE ((decide ((Int.toNat t18) < (List.length (EC.encL ec_55 t16)))) && (isE [K1.str, K1.str] (0 : Nat) (List.getD (EC.encL ec_55 t16) (Int.toNat t18) []))) <|
 (Option.bind (basic_Same_s (strOf (List.getD (List.getD (EC.encL ec_55 t16) (Int.toNat t18) []) (0 : Nat) C.ne)) n) fun r0 =>
 (brE r0
 (gdE ((((List.all [[(C.str (strOf (List.getD (List.getD (EC.encL ec_55 t16) (Int.toNat t18) []) (1 : Nat) C.ne)))]] (fun (el : (List C)) => ((List.length el) == (1 : Nat)))) && (List.all (EC.encL ec_9 b1) (fun (el : (List C)) => ((List.length el) == (1 : Nat))))) && (decide (((((out + (List.length [[(C.str (strOf (List.getD (List.getD (EC.encL ec_55 t16) (Int.toNat t18) []) (1 : Nat) C.ne)))]])) + ((out + (List.length [[(C.str (strOf (List.getD (List.getD (EC.encL ec_55 t16) (Int.toNat t18) []) (1 : Nat) C.ne)))]])) / (4 : Nat))) + (192 : Nat)) * (16 : Nat)) ≤ (281474976710656 : Nat)))) && (decide ((out + (List.length [[(C.str (strOf (List.getD (List.getD (EC.encL ec_55 t16) (Int.toNat t18) []) (1 : Nat) C.ne)))]])) ≤ (9223372036854775807 : Nat)))) <|
 (gdE (EC.isL ec_55 (EC.encL ec_55 t16)) <|
 (gdE (EC.isL ec_9 ((EC.encL ec_9 b1) ++ [[(C.str (strOf (List.getD (List.getD (EC.encL ec_55 t16) (Int.toNat t18) []) (1 : Nat) C.ne)))]])) <|
 (header_Get_l6 n (out + (List.length [[(C.str (strOf (List.getD (List.getD (EC.encL ec_55 t16) (Int.toNat t18) []) (1 : Nat) C.ne)))]])) (EC.decL ec_55 (EC.encL ec_55 t16)) t17 (IntKind.wrap .i64 (t18 + (1 : Int))) b0 b0_1 (EC.decL ec_9 ((EC.encL ec_9 b1) ++ [[(C.str (strOf (List.getD (List.getD (EC.encL ec_55 t16) (Int.toNat t18) []) (1 : Nat) C.ne)))]]))))))
 (gdE (EC.isL ec_55 (EC.encL ec_55 t16)) <|
 (gdE (EC.isL ec_9 (EC.encL ec_9 b1)) <|
 (header_Get_l6 n out (EC.decL ec_55 (EC.encL ec_55 t16)) t17 (IntKind.wrap .i64 (t18 + (1 : Int))) b0 b0_1 (EC.decL ec_9 (EC.encL ec_9 b1)))))))))
 (gdE (EC.isL ec_55 (EC.encL ec_55 t16)) <|
 (gdE (EC.isL ec_9 (EC.encL ec_9 b1)) <|
 (some ((n, ((), (out, ((EC.decL ec_55 (EC.encL ec_55 t16)), (t17, (t18, false)))))), ((b0, b0_1), (EC.decL ec_9 (EC.encL ec_9 b1))))))))
theorem header_Get_l6_eq {n : ByteArray} {out : Nat} {t16 : (List S55)} {t17 : Int} {t18 : Int} {b0 : Int} {b0_1 : Int} {b1 : (List ByteArray)} {r : ((ByteArray × Unit × Nat × (List S55) × Int × Int × Bool) × ((Int × Int) × (List ByteArray)))} (h : header_Get_l6_t n out t16 t17 t18 b0 b0_1 b1 = some r) : header_Get_l6 n out t16 t17 t18 b0 b0_1 b1 = some r :=
  lS_tree (es := tab_header_valid) (hs := []) [] (by kernel_rfl) trivial trivial (by kernel_rfl) h
def header_Get_l6_e : LEnt Tryz.prog lv X0 135 34 := lentS Tryz.prog lv X0 6 (getLoop (cdF Tryz.f135) 6) header_Get_l6_s header_Get_l6_o (fun x => header_Get_l6 x.1.1 x.1.2.2.1 x.1.2.2.2.1 x.1.2.2.2.2.1 x.1.2.2.2.2.2 x.2.1.1 x.2.1.2 x.2.2) (fun _ _ h => lS_from h)
def header_Get_cr : Cod (V × List B) ((Nat × (Int × Int)) × (List ByteArray)) := (cPair (vTup (lCons (vRow 0) (lOne (vAgg (lCons (vC (cInt .i64)) (lOne (vC (cInt .i64)))))))) (lOne (bRow ec_9)))
def header_Get_s (l : (List S55)) (n : ByteArray) : Option ((Nat × (Int × Int)) × (List ByteArray)) := fS Tryz.prog lv X0 135 header_Get_ca header_Get_cr (l, n)
def header_Get_t (l : (List S55)) (n : ByteArray) : Option ((Nat × (Int × Int)) × (List ByteArray)) :=
 (gdE (EC.isL ec_55 (EC.encL ec_55 l)) <|
 (Option.bind (header_valid_s (EC.decL ec_55 (EC.encL ec_55 l)) n) fun r0 =>
 (Option.bind (basic_Failed_s (r0).1 (r0).2) fun r1 =>
 (brE r1
 (some (((0 : Nat), ((r0).1, (r0).2)), (EC.decL ec_9 [])))
 (gdE (EC.isL ec_55 (EC.encL ec_55 l)) <|
 (Option.bind (header_Get_l6 n (0 : Nat) (EC.decL ec_55 (EC.encL ec_55 l)) (((List.length (EC.encL ec_55 l)) : Nat) : Int) (0 : Int) (0 : Int) (0 : Int) (EC.decL ec_9 [])) fun r2 =>
 (Option.bind basic_None_s fun r3 =>
 (gdE (EC.isL ec_9 (EC.encL ec_9 ((r2).2).2)) <|
 (some ((((((r2).1).2).2).1, ((r3).1, (r3).2)), (EC.decL ec_9 (EC.encL ec_9 ((r2).2).2))))))))))))
theorem header_Get_eq {l : (List S55)} {n : ByteArray} {r : ((Nat × (Int × Int)) × (List ByteArray))} (h : header_Get_t l n = some r) : header_Get_s l n = some r :=
  fS_tree (es := tab_header_valid) (hs := []) [header_Get_l6_e] Tryz.func135 rfl (by kernel_rfl) rfl (by kernel_rfl) (by kernel_rfl) ⟨⟨_, rfl, rfl⟩, trivial⟩ trivial (by kernel_rfl) h
def header_Get_e : Ent Tryz.prog lv X0 := entS Tryz.prog lv X0 135 [] header_Get_ca header_Get_cr (fun x => header_Get_s x.1 x.2) (fun _ _ h => fS_call h)
def tab_header_Get : List (Ent Tryz.prog lv X0) := header_Get_e :: tab_header_valid
def message_write_ca : Cod (List V) ((List S55) × (List Int)) := (lOne (vAgg (lCons (vC (cSl ec_55)) (lOne (vC (cSl ec_5))))))
def message_write_l7_s : SC ((Unit × Nat × (List S55) × Int × Int × Nat × Int × Int) × (((List S55) × (List Int)) × (List Int) × (List ByteArray))) := sLS [1, 3, 11, 12, 13, 25, 26, 27] (lCons (vPtr 0 0) (lCons (vRow 1) (lCons (vC (cSl ec_55)) (lCons (vC (cInt .i64)) (lCons (vC (cInt .i64)) (lCons (vRow 2) (lCons (vC (cInt .i64)) (lOne (vC (cInt .i64)))))))))) (lCons (oSome (bBox (lCons (vC (cSl ec_55)) (lOne (vC (cSl ec_5)))))) (lCons (oSome (bRow ec_5)) (lOne (oSome (bRow ec_9))))) [false, false, false] [] (by decide) (fun _ => rfl)
def message_write_l7_o4 : SC ((Unit × Nat × (List S55) × Int × Int × Nat × Int × Int × Bool) × (((List S55) × (List Int)) × (List Int) × (List ByteArray))) := sLS [1, 3, 11, 12, 13, 25, 26, 27, 28] (lCons (vPtr 0 0) (lCons (vRow 1) (lCons (vC (cSl ec_55)) (lCons (vC (cInt .i64)) (lCons (vC (cInt .i64)) (lCons (vRow 2) (lCons (vC (cInt .i64)) (lCons (vC (cInt .i64)) (lOne (vC cBool)))))))))) (lCons (oSome (bBox (lCons (vC (cSl ec_55)) (lOne (vC (cSl ec_5)))))) (lCons (oSome (bRow ec_5)) (lOne (oSome (bRow ec_9))))) [false, false, false] [] (by decide) (fun _ => rfl)
def message_write_l7_o : OC ((Unit × Nat × (List S55) × Int × Int × Nat × Int × Int × Bool) × (((List S55) × (List Int)) × (List Int) × (List ByteArray))) := oAt 4 message_write_l7_o4
def message_write_l7 (out : Nat) (t11 : (List S55)) (t12 : Int) (t13 : Int) (t25 : Nat) (t26 : Int) (t27 : Int) (b0 : (List S55)) (b0_1 : (List Int)) (b1 : (List Int)) (b2 : (List ByteArray)) : Option ((Unit × Nat × (List S55) × Int × Int × Nat × Int × Int × Bool) × (((List S55) × (List Int)) × (List Int) × (List ByteArray))) := lS Tryz.prog lv X0 67 44 (getLoop (cdF Tryz.f67) 7) message_write_l7_s message_write_l7_o (((), out, t11, t12, t13, t25, t26, t27), ((b0, b0_1), b1, b2))
def message_write_l7_t (out : Nat) (t11 : (List S55)) (t12 : Int) (t13 : Int) (t25 : Nat) (t26 : Int) (t27 : Int) (b0 : (List S55)) (b0_1 : (List Int)) (b1 : (List Int)) (b2 : (List ByteArray)) : Option ((Unit × Nat × (List S55) × Int × Int × Nat × Int × Int × Bool) × (((List S55) × (List Int)) × (List Int) × (List ByteArray))) :=
 (brE (decide (t27 < t26))
 (gdE ((decide ((0 : Int) ≤ t27)) && (decide (t27 < ((t25 : Nat) : Int)))) <|
 (gdE ((decide ((Int.toNat t27) < (List.length (EC.encL ec_9 b2)))) && ((List.length (List.getD (EC.encL ec_9 b2) (Int.toNat t27) [])) == (1 : Nat))) <|
 (gdE (isP [K1.str] (0 : Nat) (List.getD (EC.encL ec_9 b2) (Int.toNat t27) [])) <|
 (gdE ((((List.all (List.map (fun (b : UInt8) => [(byteC b)]) (Array.toList (ByteArray.data (strOf (List.getD (List.getD (EC.encL ec_9 b2) (Int.toNat t27) []) (0 : Nat) C.ne))))) (fun (el : (List C)) => ((List.length el) == (1 : Nat)))) && (List.all (EC.encL ec_5 b1) (fun (el : (List C)) => ((List.length el) == (1 : Nat))))) && (decide (((((out + (List.length (List.map (fun (b : UInt8) => [(byteC b)]) (Array.toList (ByteArray.data (strOf (List.getD (List.getD (EC.encL ec_9 b2) (Int.toNat t27) []) (0 : Nat) C.ne))))))) + ((out + (List.length (List.map (fun (b : UInt8) => [(byteC b)]) (Array.toList (ByteArray.data (strOf (List.getD (List.getD (EC.encL ec_9 b2) (Int.toNat t27) []) (0 : Nat) C.ne))))))) / (4 : Nat))) + (192 : Nat)) * (1 : Nat)) ≤ (281474976710656 : Nat)))) && (decide ((out + (List.length (List.map (fun (b : UInt8) => [(byteC b)]) (Array.toList (ByteArray.data (strOf (List.getD (List.getD (EC.encL ec_9 b2) (Int.toNat t27) []) (0 : Nat) C.ne))))))) ≤ (9223372036854775807 : Nat)))) <|
 (gdE ((((List.all [[(C.int Go.IntKind.u8 (13 : Int))], [(C.int Go.IntKind.u8 (10 : Int))]] (fun (el : (List C)) => ((List.length el) == (1 : Nat)))) && (List.all ((EC.encL ec_5 b1) ++ (List.map (fun (b : UInt8) => [(byteC b)]) (Array.toList (ByteArray.data (strOf (List.getD (List.getD (EC.encL ec_9 b2) (Int.toNat t27) []) (0 : Nat) C.ne)))))) (fun (el : (List C)) => ((List.length el) == (1 : Nat))))) && (decide ((((((out + (List.length (List.map (fun (b : UInt8) => [(byteC b)]) (Array.toList (ByteArray.data (strOf (List.getD (List.getD (EC.encL ec_9 b2) (Int.toNat t27) []) (0 : Nat) C.ne))))))) + (List.length [[(C.int Go.IntKind.u8 (13 : Int))], [(C.int Go.IntKind.u8 (10 : Int))]])) + (((out + (List.length (List.map (fun (b : UInt8) => [(byteC b)]) (Array.toList (ByteArray.data (strOf (List.getD (List.getD (EC.encL ec_9 b2) (Int.toNat t27) []) (0 : Nat) C.ne))))))) + (List.length [[(C.int Go.IntKind.u8 (13 : Int))], [(C.int Go.IntKind.u8 (10 : Int))]])) / (4 : Nat))) + (192 : Nat)) * (1 : Nat)) ≤ (281474976710656 : Nat)))) && (decide (((out + (List.length (List.map (fun (b : UInt8) => [(byteC b)]) (Array.toList (ByteArray.data (strOf (List.getD (List.getD (EC.encL ec_9 b2) (Int.toNat t27) []) (0 : Nat) C.ne))))))) + (List.length [[(C.int Go.IntKind.u8 (13 : Int))], [(C.int Go.IntKind.u8 (10 : Int))]])) ≤ (9223372036854775807 : Nat)))) <|
 (gdE (EC.isL ec_55 (EC.encL ec_55 t11)) <|
 (gdE (EC.isL ec_55 (EC.encL ec_55 b0)) <|
 (gdE (EC.isL ec_5 (EC.encL ec_5 b0_1)) <|
 (gdE (EC.isL ec_5 (((EC.encL ec_5 b1) ++ (List.map (fun (b : UInt8) => [(byteC b)]) (Array.toList (ByteArray.data (strOf (List.getD (List.getD (EC.encL ec_9 b2) (Int.toNat t27) []) (0 : Nat) C.ne)))))) ++ [[(C.int Go.IntKind.u8 (13 : Int))], [(C.int Go.IntKind.u8 (10 : Int))]])) <|
 (gdE (EC.isL ec_9 (EC.encL ec_9 b2)) <|
 (message_write_l7 ((out + (List.length (List.map (fun (b : UInt8) => [(byteC b)]) (Array.toList (ByteArray.data (strOf (List.getD (List.getD (EC.encL ec_9 b2) (Int.toNat t27) []) (0 : Nat) C.ne))))))) + (List.length [[(C.int Go.IntKind.u8 (13 : Int))], [(C.int Go.IntKind.u8 (10 : Int))]])) (EC.decL ec_55 (EC.encL ec_55 t11)) t12 t13 t25 t26 (IntKind.wrap .i64 (t27 + (1 : Int))) (EC.decL ec_55 (EC.encL ec_55 b0)) (EC.decL ec_5 (EC.encL ec_5 b0_1)) (EC.decL ec_5 (((EC.encL ec_5 b1) ++ (List.map (fun (b : UInt8) => [(byteC b)]) (Array.toList (ByteArray.data (strOf (List.getD (List.getD (EC.encL ec_9 b2) (Int.toNat t27) []) (0 : Nat) C.ne)))))) ++ [[(C.int Go.IntKind.u8 (13 : Int))], [(C.int Go.IntKind.u8 (10 : Int))]])) (EC.decL ec_9 (EC.encL ec_9 b2)))))))))))))
 (gdE (EC.isL ec_55 (EC.encL ec_55 t11)) <|
 (gdE (EC.isL ec_55 (EC.encL ec_55 b0)) <|
 (gdE (EC.isL ec_5 (EC.encL ec_5 b0_1)) <|
 (gdE (EC.isL ec_5 (EC.encL ec_5 b1)) <|
 (gdE (EC.isL ec_9 (EC.encL ec_9 b2)) <|
 (some (((), (out, ((EC.decL ec_55 (EC.encL ec_55 t11)), (t12, (t13, (t25, (t26, (t27, false)))))))), (((EC.decL ec_55 (EC.encL ec_55 b0)), (EC.decL ec_5 (EC.encL ec_5 b0_1))), ((EC.decL ec_5 (EC.encL ec_5 b1)), (EC.decL ec_9 (EC.encL ec_9 b2))))))))))))
theorem message_write_l7_eq {out : Nat} {t11 : (List S55)} {t12 : Int} {t13 : Int} {t25 : Nat} {t26 : Int} {t27 : Int} {b0 : (List S55)} {b0_1 : (List Int)} {b1 : (List Int)} {b2 : (List ByteArray)} {r : ((Unit × Nat × (List S55) × Int × Int × Nat × Int × Int × Bool) × (((List S55) × (List Int)) × (List Int) × (List ByteArray)))} (h : message_write_l7_t out t11 t12 t13 t25 t26 t27 b0 b0_1 b1 b2 = some r) : message_write_l7 out t11 t12 t13 t25 t26 t27 b0 b0_1 b1 b2 = some r :=
  lS_tree (es := tab_header_Get) (hs := []) [] (by kernel_rfl) trivial trivial (by kernel_rfl) h
def message_write_l7_e : LEnt Tryz.prog lv X0 67 44 := lentS Tryz.prog lv X0 7 (getLoop (cdF Tryz.f67) 7) message_write_l7_s message_write_l7_o (fun x => message_write_l7 x.1.2.1 x.1.2.2.1 x.1.2.2.2.1 x.1.2.2.2.2.1 x.1.2.2.2.2.2.1 x.1.2.2.2.2.2.2.1 x.1.2.2.2.2.2.2.2 x.2.1.1 x.2.1.2 x.2.2.1 x.2.2.2) (fun _ _ h => lS_from h)
def message_write_l3_s : SC ((Unit × Nat × (List S55) × Int × Int) × (((List S55) × (List Int)) × (List Int))) := sLS [1, 3, 11, 12, 13] (lCons (vPtr 0 0) (lCons (vRow 1) (lCons (vC (cSl ec_55)) (lCons (vC (cInt .i64)) (lOne (vC (cInt .i64))))))) (lCons (oSome (bBox (lCons (vC (cSl ec_55)) (lOne (vC (cSl ec_5)))))) (lOne (oSome (bRow ec_5)))) [false, false] [] (by decide) (fun _ => rfl)
def message_write_l3_o2 : SC ((Unit × Nat × (List S55) × Int × Int × Bool) × (((List S55) × (List Int)) × (List Int))) := sLS [1, 3, 11, 12, 13, 14] (lCons (vPtr 0 0) (lCons (vRow 1) (lCons (vC (cSl ec_55)) (lCons (vC (cInt .i64)) (lCons (vC (cInt .i64)) (lOne (vC cBool))))))) (lCons (oSome (bBox (lCons (vC (cSl ec_55)) (lOne (vC (cSl ec_5)))))) (lOne (oSome (bRow ec_5)))) [false, false] [] (by decide) (fun _ => rfl)
def message_write_l3_o : OC ((Unit × Nat × (List S55) × Int × Int × Bool) × (((List S55) × (List Int)) × (List Int))) := oAt 2 message_write_l3_o2
def message_write_l3 (out : Nat) (t11 : (List S55)) (t12 : Int) (t13 : Int) (b0 : (List S55)) (b0_1 : (List Int)) (b1 : (List Int)) : Option ((Unit × Nat × (List S55) × Int × Int × Bool) × (((List S55) × (List Int)) × (List Int))) := lS Tryz.prog lv X0 67 44 (getLoop (cdF Tryz.f67) 3) message_write_l3_s message_write_l3_o (((), out, t11, t12, t13), ((b0, b0_1), b1))
def message_write_l3_t (out : Nat) (t11 : (List S55)) (t12 : Int) (t13 : Int) (b0 : (List S55)) (b0_1 : (List Int)) (b1 : (List Int)) : Option ((Unit × Nat × (List S55) × Int × Int × Bool) × (((List S55) × (List Int)) × (List Int))) :=
 (brE (decide (t13 < t12))
 (gdE (decide ((0 : Int) ≤ t13)) <|
 (gdE ((decide ((Int.toNat t13) < (List.length (EC.encL ec_55 t11)))) && (isE [K1.str, K1.str] (0 : Nat) (List.getD (EC.encL ec_55 t11) (Int.toNat t13) []))) <|
 (Option.bind (fold_Fold_s (strOf (List.getD (List.getD (EC.encL ec_55 t11) (Int.toNat t13) []) (0 : Nat) C.ne)) (strOf (List.getD (List.getD (EC.encL ec_55 t11) (Int.toNat t13) []) (1 : Nat) C.ne))) fun r0 =>
 (gdE (EC.isL ec_55 (EC.encL ec_55 t11)) <|
 (gdE (EC.isL ec_55 (EC.encL ec_55 b0)) <|
 (gdE (EC.isL ec_5 (EC.encL ec_5 b0_1)) <|
 (gdE (EC.isL ec_5 (EC.encL ec_5 b1)) <|
 (gdE (EC.isL ec_9 (EC.encL ec_9 (r0).2)) <|
 (Option.bind (message_write_l7 out (EC.decL ec_55 (EC.encL ec_55 t11)) t12 t13 ((r0).1).1 ((((r0).1).1 : Nat) : Int) (0 : Int) (EC.decL ec_55 (EC.encL ec_55 b0)) (EC.decL ec_5 (EC.encL ec_5 b0_1)) (EC.decL ec_5 (EC.encL ec_5 b1)) (EC.decL ec_9 (EC.encL ec_9 (r0).2))) fun r1 =>
 (gdE (EC.isL ec_55 (EC.encL ec_55 ((((r1).1).2).2).1)) <|
 (gdE (EC.isL ec_55 (EC.encL ec_55 (((r1).2).1).1)) <|
 (gdE (EC.isL ec_5 (EC.encL ec_5 (((r1).2).1).2)) <|
 (gdE (EC.isL ec_5 (EC.encL ec_5 (((r1).2).2).1)) <|
 (message_write_l3 (((r1).1).2).1 (EC.decL ec_55 (EC.encL ec_55 ((((r1).1).2).2).1)) (((((r1).1).2).2).2).1 (IntKind.wrap .i64 (((((((r1).1).2).2).2).2).1 + (1 : Int))) (EC.decL ec_55 (EC.encL ec_55 (((r1).2).1).1)) (EC.decL ec_5 (EC.encL ec_5 (((r1).2).1).2)) (EC.decL ec_5 (EC.encL ec_5 (((r1).2).2).1))))))))))))))))
 (gdE (EC.isL ec_55 (EC.encL ec_55 t11)) <|
 (gdE (EC.isL ec_55 (EC.encL ec_55 b0)) <|
 (gdE (EC.isL ec_5 (EC.encL ec_5 b0_1)) <|
 (gdE (EC.isL ec_5 (EC.encL ec_5 b1)) <|
 (some (((), (out, ((EC.decL ec_55 (EC.encL ec_55 t11)), (t12, (t13, false))))), (((EC.decL ec_55 (EC.encL ec_55 b0)), (EC.decL ec_5 (EC.encL ec_5 b0_1))), (EC.decL ec_5 (EC.encL ec_5 b1))))))))))
theorem message_write_l3_eq {out : Nat} {t11 : (List S55)} {t12 : Int} {t13 : Int} {b0 : (List S55)} {b0_1 : (List Int)} {b1 : (List Int)} {r : ((Unit × Nat × (List S55) × Int × Int × Bool) × (((List S55) × (List Int)) × (List Int)))} (h : message_write_l3_t out t11 t12 t13 b0 b0_1 b1 = some r) : message_write_l3 out t11 t12 t13 b0 b0_1 b1 = some r :=
  lS_tree (es := tab_header_Get) (hs := []) [message_write_l7_e] (by kernel_rfl) ⟨⟨_, rfl, rfl⟩, trivial⟩ trivial (by kernel_rfl) h
def message_write_l3_e : LEnt Tryz.prog lv X0 67 44 := lentS Tryz.prog lv X0 3 (getLoop (cdF Tryz.f67) 3) message_write_l3_s message_write_l3_o (fun x => message_write_l3 x.1.2.1 x.1.2.2.1 x.1.2.2.2.1 x.1.2.2.2.2 x.2.1.1 x.2.1.2 x.2.2) (fun _ _ h => lS_from h)
def message_write_cr : Cod (V × List B) (Nat × (List Int)) := (cPair (vRow 0) (lOne (bRow ec_5)))
def message_write_s (m_Fields : (List S55)) (m_Body : (List Int)) : Option (Nat × (List Int)) := fS Tryz.prog lv X0 67 message_write_ca message_write_cr (m_Fields, m_Body)
def message_write_t (m_Fields : (List S55)) (m_Body : (List Int)) : Option (Nat × (List Int)) :=
 (gdE (EC.isL ec_55 (EC.encL ec_55 m_Fields)) <|
 (gdE (EC.isL ec_55 (EC.encL ec_55 m_Fields)) <|
 (gdE (EC.isL ec_5 (EC.encL ec_5 m_Body)) <|
 (Option.bind (message_write_l3 (0 : Nat) (EC.decL ec_55 (EC.encL ec_55 m_Fields)) (((List.length (EC.encL ec_55 m_Fields)) : Nat) : Int) (0 : Int) (EC.decL ec_55 (EC.encL ec_55 m_Fields)) (EC.decL ec_5 (EC.encL ec_5 m_Body)) (EC.decL ec_5 [])) fun r0 =>
 (gdE ((((List.all [[(C.int Go.IntKind.u8 (13 : Int))], [(C.int Go.IntKind.u8 (10 : Int))]] (fun (el : (List C)) => ((List.length el) == (1 : Nat)))) && (List.all (EC.encL ec_5 ((r0).2).2) (fun (el : (List C)) => ((List.length el) == (1 : Nat))))) && (decide ((((((((r0).1).2).1 + (List.length [[(C.int Go.IntKind.u8 (13 : Int))], [(C.int Go.IntKind.u8 (10 : Int))]])) + (((((r0).1).2).1 + (List.length [[(C.int Go.IntKind.u8 (13 : Int))], [(C.int Go.IntKind.u8 (10 : Int))]])) / (4 : Nat))) + (192 : Nat)) * (1 : Nat)) ≤ (281474976710656 : Nat)))) && (decide (((((r0).1).2).1 + (List.length [[(C.int Go.IntKind.u8 (13 : Int))], [(C.int Go.IntKind.u8 (10 : Int))]])) ≤ (9223372036854775807 : Nat)))) <|
 (gdE ((((List.all (EC.encL ec_5 (((r0).2).1).2) (fun (el : (List C)) => ((List.length el) == (1 : Nat)))) && (List.all ((EC.encL ec_5 ((r0).2).2) ++ [[(C.int Go.IntKind.u8 (13 : Int))], [(C.int Go.IntKind.u8 (10 : Int))]]) (fun (el : (List C)) => ((List.length el) == (1 : Nat))))) && (decide (((((((((r0).1).2).1 + (List.length [[(C.int Go.IntKind.u8 (13 : Int))], [(C.int Go.IntKind.u8 (10 : Int))]])) + (List.length (EC.encL ec_5 (((r0).2).1).2))) + ((((((r0).1).2).1 + (List.length [[(C.int Go.IntKind.u8 (13 : Int))], [(C.int Go.IntKind.u8 (10 : Int))]])) + (List.length (EC.encL ec_5 (((r0).2).1).2))) / (4 : Nat))) + (192 : Nat)) * (1 : Nat)) ≤ (281474976710656 : Nat)))) && (decide ((((((r0).1).2).1 + (List.length [[(C.int Go.IntKind.u8 (13 : Int))], [(C.int Go.IntKind.u8 (10 : Int))]])) + (List.length (EC.encL ec_5 (((r0).2).1).2))) ≤ (9223372036854775807 : Nat)))) <|
 (gdE (EC.isL ec_5 (((EC.encL ec_5 ((r0).2).2) ++ [[(C.int Go.IntKind.u8 (13 : Int))], [(C.int Go.IntKind.u8 (10 : Int))]]) ++ (EC.encL ec_5 (((r0).2).1).2))) <|
 (some ((((((r0).1).2).1 + (List.length [[(C.int Go.IntKind.u8 (13 : Int))], [(C.int Go.IntKind.u8 (10 : Int))]])) + (List.length (EC.encL ec_5 (((r0).2).1).2))), (EC.decL ec_5 (((EC.encL ec_5 ((r0).2).2) ++ [[(C.int Go.IntKind.u8 (13 : Int))], [(C.int Go.IntKind.u8 (10 : Int))]]) ++ (EC.encL ec_5 (((r0).2).1).2))))))))))))
theorem message_write_eq {m_Fields : (List S55)} {m_Body : (List Int)} {r : (Nat × (List Int))} (h : message_write_t m_Fields m_Body = some r) : message_write_s m_Fields m_Body = some r :=
  fS_tree (es := tab_header_Get) (hs := []) [message_write_l3_e] Tryz.func67 rfl (by kernel_rfl) rfl (by kernel_rfl) (by kernel_rfl) ⟨⟨_, rfl, rfl⟩, trivial⟩ trivial (by kernel_rfl) h
def message_write_e : Ent Tryz.prog lv X0 := entS Tryz.prog lv X0 67 [] message_write_ca message_write_cr (fun x => message_write_s x.1 x.2) (fun _ _ h => fS_call h)
def tab_message_write : List (Ent Tryz.prog lv X0) := message_write_e :: tab_header_Get
def message_body_ca : Cod (List V) (List Int) := (lOne (vC (cSl ec_5)))
def message_body_cr : Cod (V × List B) (Int × Int) := (cFstU (cPair (vAgg (lCons (vC (cInt .i64)) (lOne (vC (cInt .i64))))) lNil))
def message_body_s (b : (List Int)) : Option (Int × Int) := fS Tryz.prog lv X0 91 message_body_ca message_body_cr b
def message_body_t (b : (List Int)) : Option (Int × Int) :=
 (gdE (EC.isL ec_5 (EC.encL ec_5 b)) <|
 (Option.bind (basic_Body_s (EC.decL ec_5 (EC.encL ec_5 b))) fun r0 =>
 (brE (r0 == 11)
 (Option.bind (basic_Fault_s (11 : Int) (-(5 : Int))) fun r1 =>
 (some ((r1).1, (r1).2)))
 (brE (r0 == 1)
 (Option.bind (basic_Fault_s (1 : Int) (-(6 : Int))) fun r1 =>
 (some ((r1).1, (r1).2)))
 (Option.bind basic_None_s fun r1 =>
 (some ((r1).1, (r1).2)))))))
theorem message_body_eq {b : (List Int)} {r : (Int × Int)} (h : message_body_t b = some r) : message_body_s b = some r :=
  fS_tree (es := tab_message_write) (hs := []) [] Tryz.func91 rfl (by kernel_rfl) rfl (by kernel_rfl) (by kernel_rfl) trivial trivial (by kernel_rfl) h
def message_body_e : Ent Tryz.prog lv X0 := entS Tryz.prog lv X0 91 [] message_body_ca message_body_cr (fun x => message_body_s x) (fun _ _ h => fS_call h)
def tab_message_body : List (Ent Tryz.prog lv X0) := message_body_e :: tab_message_write
def message_Validate_ca : Cod (List V) ((List S55) × (List Int)) := (lOne (vAgg (lCons (vC (cSl ec_55)) (lOne (vC (cSl ec_5))))))
def message_Validate_cr : Cod (V × List B) (Int × Int) := (cFstU (cPair (vAgg (lCons (vC (cInt .i64)) (lOne (vC (cInt .i64))))) lNil))
def message_Validate_s (m_Fields : (List S55)) (m_Body : (List Int)) : Option (Int × Int) := fS Tryz.prog lv X0 66 message_Validate_ca message_Validate_cr (m_Fields, m_Body)
def message_Validate_t (m_Fields : (List S55)) (m_Body : (List Int)) : Option (Int × Int) :=
 (gdE (EC.isL ec_55 (EC.encL ec_55 m_Fields)) <|
 (Option.bind (header_Validate_s (EC.decL ec_55 (EC.encL ec_55 m_Fields))) fun r0 =>
 (Option.bind (basic_Failed_s (r0).1 (r0).2) fun r1 =>
 (brE r1
 (some ((r0).1, (r0).2))
 (gdE (EC.isL ec_55 (EC.encL ec_55 m_Fields)) <|
 (gdE (EC.isL ec_5 (EC.encL ec_5 m_Body)) <|
 (Option.bind (message_write_s (EC.decL ec_55 (EC.encL ec_55 m_Fields)) (EC.decL ec_5 (EC.encL ec_5 m_Body))) fun r2 =>
 (brE (decide ((((r2).1 : Nat) : Int) > (12000 : Int)))
 (Option.bind (basic_Fault_s (1 : Int) (-(4 : Int))) fun r3 =>
 (some ((r3).1, (r3).2)))
 (gdE (EC.isL ec_5 (EC.encL ec_5 m_Body)) <|
 (Option.bind (message_body_s (EC.decL ec_5 (EC.encL ec_5 m_Body))) fun r3 =>
 (some ((r3).1, (r3).2))))))))))))
theorem message_Validate_eq {m_Fields : (List S55)} {m_Body : (List Int)} {r : (Int × Int)} (h : message_Validate_t m_Fields m_Body = some r) : message_Validate_s m_Fields m_Body = some r :=
  fS_tree (es := tab_message_body) (hs := []) [] Tryz.func66 rfl (by kernel_rfl) rfl (by kernel_rfl) (by kernel_rfl) trivial trivial (by kernel_rfl) h
def message_Validate_e : Ent Tryz.prog lv X0 := entS Tryz.prog lv X0 66 [] message_Validate_ca message_Validate_cr (fun x => message_Validate_s x.1 x.2) (fun _ _ h => fS_call h)
def tab_message_Validate : List (Ent Tryz.prog lv X0) := message_Validate_e :: tab_message_body
def message_Write_ca : Cod (List V) ((List S55) × (List Int)) := (lOne (vAgg (lCons (vC (cSl ec_55)) (lOne (vC (cSl ec_5))))))
def message_Write_cr : Cod (V × List B) ((Nat × (Int × Int)) × (List Int)) := (cPair (vTup (lCons (vRow 0) (lOne (vAgg (lCons (vC (cInt .i64)) (lOne (vC (cInt .i64)))))))) (lOne (bRow ec_5)))
def message_Write_s (m_Fields : (List S55)) (m_Body : (List Int)) : Option ((Nat × (Int × Int)) × (List Int)) := fS Tryz.prog lv X0 42 message_Write_ca message_Write_cr (m_Fields, m_Body)
def message_Write_t (m_Fields : (List S55)) (m_Body : (List Int)) : Option ((Nat × (Int × Int)) × (List Int)) :=
 (gdE (EC.isL ec_55 (EC.encL ec_55 m_Fields)) <|
 (gdE (EC.isL ec_5 (EC.encL ec_5 m_Body)) <|
 (Option.bind (message_Validate_s (EC.decL ec_55 (EC.encL ec_55 m_Fields)) (EC.decL ec_5 (EC.encL ec_5 m_Body))) fun r0 =>
 (Option.bind (basic_Failed_s (r0).1 (r0).2) fun r1 =>
 (brE r1
 (some (((0 : Nat), ((r0).1, (r0).2)), (EC.decL ec_5 [])))
 (gdE (EC.isL ec_55 (EC.encL ec_55 m_Fields)) <|
 (gdE (EC.isL ec_5 (EC.encL ec_5 m_Body)) <|
 (Option.bind (message_write_s (EC.decL ec_55 (EC.encL ec_55 m_Fields)) (EC.decL ec_5 (EC.encL ec_5 m_Body))) fun r2 =>
 (Option.bind basic_None_s fun r3 =>
 (gdE (EC.isL ec_5 (EC.encL ec_5 (r2).2)) <|
 (some (((r2).1, ((r3).1, (r3).2)), (EC.decL ec_5 (EC.encL ec_5 (r2).2))))))))))))))
theorem message_Write_eq {m_Fields : (List S55)} {m_Body : (List Int)} {r : ((Nat × (Int × Int)) × (List Int))} (h : message_Write_t m_Fields m_Body = some r) : message_Write_s m_Fields m_Body = some r :=
  fS_tree (es := tab_message_Validate) (hs := []) [] Tryz.func42 rfl (by kernel_rfl) rfl (by kernel_rfl) (by kernel_rfl) trivial trivial (by kernel_rfl) h
def message_Write_e : Ent Tryz.prog lv X0 := entS Tryz.prog lv X0 42 [] message_Write_ca message_Write_cr (fun x => message_Write_s x.1 x.2) (fun _ _ h => fS_call h)
def tab_message_Write : List (Ent Tryz.prog lv X0) := message_Write_e :: tab_message_Validate
def envelope_Domain_1_ca : Cod (List V) Int := (lOne (vC (cInt .u8)))
def envelope_Domain_1_cr : Cod (V × List B) Bool := (cFstU (cPair (vC cBool) lNil))
def envelope_Domain_1_s (c : Int) : Option Bool := fS Tryz.prog lv X0 140 envelope_Domain_1_ca envelope_Domain_1_cr c
def envelope_Domain_1_t (c : Int) : Option Bool :=
 (brE ((decide (c ≥ (97 : Int))) == true)
 (brE ((decide (c ≤ (122 : Int))) == false)
 (brE ((decide (c ≥ (48 : Int))) == true)
 (brE ((decide (c ≤ (57 : Int))) == false)
 (brE ((c == 45) == false)
 (some (c == 46))
 (some true))
 (some true))
 (brE ((c == 45) == false)
 (some (c == 46))
 (some true)))
 (some true))
 (brE ((decide (c ≥ (48 : Int))) == true)
 (brE ((decide (c ≤ (57 : Int))) == false)
 (brE ((c == 45) == false)
 (some (c == 46))
 (some true))
 (some true))
 (brE ((c == 45) == false)
 (some (c == 46))
 (some true))))
theorem envelope_Domain_1_eq {c : Int} {r : Bool} (h : envelope_Domain_1_t c = some r) : envelope_Domain_1_s c = some r :=
  fS_tree (es := tab_message_Write) (hs := []) [] Tryz.func140 rfl (by kernel_rfl) rfl (by kernel_rfl) (by kernel_rfl) trivial trivial (by kernel_rfl) h
def envelope_Domain_1_e : Ent Tryz.prog lv X0 := entS Tryz.prog lv X0 140 [] envelope_Domain_1_ca envelope_Domain_1_cr (fun x => envelope_Domain_1_s x) (fun _ _ h => fS_call h)
def tab_envelope_Domain_1 : List (Ent Tryz.prog lv X0) := envelope_Domain_1_e :: tab_message_Write
def allDom_ca : Cod (List V) (ByteArray × Unit) := (lCons (vC cStr) (lOne (vFn 140 lNil)))
def allDom_l2_s : SC ((ByteArray × Unit × Int × Int) × Unit) := sLS [0, 1, 7, 8] (lCons (vC cStr) (lCons (vFn 140 lNil) (lCons (vC (cInt .i64)) (lOne (vC (cInt .i64)))))) lNil [] [] (by decide) (fun _ => rfl)
def allDom_l2_o2 : SC ((ByteArray × Unit × Int × Int × Bool) × Unit) := sLS [0, 1, 7, 8, 9] (lCons (vC cStr) (lCons (vFn 140 lNil) (lCons (vC (cInt .i64)) (lCons (vC (cInt .i64)) (lOne (vC cBool)))))) lNil [] [] (by decide) (fun _ => rfl)
def allDom_l2_o1 : SC (Bool × Unit) := sLS [4] (lOne (vC cBool)) lNil [] [] (by decide) (fun _ => rfl)
def allDom_l2_o : OC ((Bool × Unit) ⊕ ((ByteArray × Unit × Int × Int × Bool) × Unit)) := oOr 1 allDom_l2_o1 (oAt 2 allDom_l2_o2) (fun x => (by decide : (2 : Nat) ≠ 1))
def allDom_l2 (s : ByteArray) (t7 : Int) (t8 : Int) : Option ((Bool × Unit) ⊕ ((ByteArray × Unit × Int × Int × Bool) × Unit)) := lS Tryz.prog lv X0 84 18 (getLoop (cdF Tryz.f84) 2) allDom_l2_s allDom_l2_o ((s, (), t7, t8), ())
def allDom_l2_t (s : ByteArray) (t7 : Int) (t8 : Int) : Option ((Bool × Unit) ⊕ ((ByteArray × Unit × Int × Int × Bool) × Unit)) :=
 (brE (decide (t8 < t7))
 (gdE ((decide ((0 : Int) ≤ t8)) && (decide ((Int.toNat t8) < (ByteArray.size s)))) <|
 (Option.bind (envelope_Domain_1_s (((UInt8.toNat (Array.getD (ByteArray.data s) (Int.toNat t8) (0 : UInt8))) : Nat) : Int)) fun r0 =>
 (brE (!r0)
 (some (.inl (false, ())))
 (allDom_l2 s t7 (IntKind.wrap .i64 (t8 + (1 : Int)))))))
 (some (.inr ((s, ((), (t7, (t8, false)))), ()))))
theorem allDom_l2_eq {s : ByteArray} {t7 : Int} {t8 : Int} {r : ((Bool × Unit) ⊕ ((ByteArray × Unit × Int × Int × Bool) × Unit))} (h : allDom_l2_t s t7 t8 = some r) : allDom_l2 s t7 t8 = some r :=
  lS_tree (es := tab_envelope_Domain_1) (hs := []) [] (by kernel_rfl) trivial trivial (by kernel_rfl) h
def allDom_l2_e : LEnt Tryz.prog lv X0 84 18 := lentS Tryz.prog lv X0 2 (getLoop (cdF Tryz.f84) 2) allDom_l2_s allDom_l2_o (fun x => allDom_l2 x.1.1 x.1.2.2.1 x.1.2.2.2) (fun _ _ h => lS_from h)
def allDom_cr : Cod (V × List B) Bool := (cFstU (cPair (vC cBool) lNil))
def allDom_s (s : ByteArray) : Option Bool := fS Tryz.prog lv X0 84 allDom_ca allDom_cr (s, ())
def allDom_t (s : ByteArray) : Option Bool :=
 (Option.bind (allDom_l2 s (((ByteArray.size s) : Nat) : Int) (0 : Int)) fun r0 =>
 (Sum.elim (fun r1 => (some (r1).1))
 (fun r1 => (some true)) r0))
theorem allDom_eq {s : ByteArray} {r : Bool} (h : allDom_t s = some r) : allDom_s s = some r :=
  fS_tree (es := tab_envelope_Domain_1) (hs := []) [allDom_l2_e] Tryz.func84 rfl (by kernel_rfl) rfl (by kernel_rfl) (by kernel_rfl) ⟨⟨_, rfl, rfl⟩, trivial⟩ trivial (by kernel_rfl) h
def allDom_e : Ent Tryz.prog lv X0 := entS Tryz.prog lv X0 84 [140] allDom_ca allDom_cr (fun x => allDom_s x.1) (fun _ _ h => fS_call h)
def tab_allDom : List (Ent Tryz.prog lv X0) := allDom_e :: tab_envelope_Domain_1
def envelope_Domain_ca : Cod (List V) ByteArray := (lOne (vC cStr))
def envelope_Domain_cr : Cod (V × List B) Bool := (cFstU (cPair (vC cBool) lNil))
def envelope_Domain_s (s : ByteArray) : Option Bool := fS Tryz.prog lv X0 113 envelope_Domain_ca envelope_Domain_cr s
def envelope_Domain_t (s : ByteArray) : Option Bool :=
 (brE ((!((ByteArray.toList s) == (ByteArray.toList ⟨#[]⟩))) == true)
 (brE ((decide ((((ByteArray.size s) : Nat) : Int) ≤ (60 : Int))) == true)
 (Option.bind (allDom_s s) fun r0 =>
 (brE (r0 == true)
 (Option.bind (strings_HasPrefix_s s (ByteArray.mk (List.toArray [(46 : UInt8)]))) fun r1 =>
 (brE ((!r1) == true)
 (Option.bind (strings_HasSuffix_s s (ByteArray.mk (List.toArray [(46 : UInt8)]))) fun r2 =>
 (brE ((!r2) == true)
 (Option.bind (contP s (ByteArray.mk (List.toArray [(46 : UInt8), (46 : UInt8)]))) fun r3 =>
 (some (!r3)))
 (some false)))
 (some false)))
 (some false)))
 (some false))
 (some false))
theorem envelope_Domain_eq {s : ByteArray} {r : Bool} (h : envelope_Domain_t s = some r) : envelope_Domain_s s = some r :=
  fS_tree (es := tab_allDom) (hs := []) [] Tryz.func113 rfl (by kernel_rfl) rfl (by kernel_rfl) (by kernel_rfl) trivial trivial (by kernel_rfl) h
def envelope_Domain_e : Ent Tryz.prog lv X0 := entS Tryz.prog lv X0 113 [] envelope_Domain_ca envelope_Domain_cr (fun x => envelope_Domain_s x) (fun _ _ h => fS_call h)
def tab_envelope_Domain : List (Ent Tryz.prog lv X0) := envelope_Domain_e :: tab_allDom
def envelope_Split_1_ca : Cod (List V) Int := (lOne (vC (cInt .u8)))
def envelope_Split_1_cr : Cod (V × List B) Bool := (cFstU (cPair (vC cBool) lNil))
def envelope_Split_1_s (c : Int) : Option Bool := fS Tryz.prog lv X0 111 envelope_Split_1_ca envelope_Split_1_cr c
def envelope_Split_1_t (c : Int) : Option Bool :=
 (Option.bind (basic_Letter_s c) fun r0 =>
 (brE (r0 == false)
 (some (decide ((Go.Lib.indexByte (Array.toList (List.toArray [(45 : UInt8), (95 : UInt8), (46 : UInt8), (43 : UInt8), (61 : UInt8)])) (Nat.toUInt8 (Int.toNat c))) ≥ (0 : Int))))
 (some true)))
theorem envelope_Split_1_eq {c : Int} {r : Bool} (h : envelope_Split_1_t c = some r) : envelope_Split_1_s c = some r :=
  fS_tree (es := tab_envelope_Domain) (hs := []) [] Tryz.func111 rfl (by kernel_rfl) rfl (by kernel_rfl) (by kernel_rfl) trivial trivial (by kernel_rfl) h
def envelope_Split_1_e : Ent Tryz.prog lv X0 := entS Tryz.prog lv X0 111 [] envelope_Split_1_ca envelope_Split_1_cr (fun x => envelope_Split_1_s x) (fun _ _ h => fS_call h)
def tab_envelope_Split_1 : List (Ent Tryz.prog lv X0) := envelope_Split_1_e :: tab_envelope_Domain
def allLoc_ca : Cod (List V) (ByteArray × Unit) := (lCons (vC cStr) (lOne (vFn 111 lNil)))
def allLoc_l2_s : SC ((ByteArray × Unit × Int × Int) × Unit) := sLS [0, 1, 7, 8] (lCons (vC cStr) (lCons (vFn 111 lNil) (lCons (vC (cInt .i64)) (lOne (vC (cInt .i64)))))) lNil [] [] (by decide) (fun _ => rfl)
def allLoc_l2_o2 : SC ((ByteArray × Unit × Int × Int × Bool) × Unit) := sLS [0, 1, 7, 8, 9] (lCons (vC cStr) (lCons (vFn 111 lNil) (lCons (vC (cInt .i64)) (lCons (vC (cInt .i64)) (lOne (vC cBool)))))) lNil [] [] (by decide) (fun _ => rfl)
def allLoc_l2_o1 : SC (Bool × Unit) := sLS [4] (lOne (vC cBool)) lNil [] [] (by decide) (fun _ => rfl)
def allLoc_l2_o : OC ((Bool × Unit) ⊕ ((ByteArray × Unit × Int × Int × Bool) × Unit)) := oOr 1 allLoc_l2_o1 (oAt 2 allLoc_l2_o2) (fun x => (by decide : (2 : Nat) ≠ 1))
def allLoc_l2 (s : ByteArray) (t7 : Int) (t8 : Int) : Option ((Bool × Unit) ⊕ ((ByteArray × Unit × Int × Int × Bool) × Unit)) := lS Tryz.prog lv X0 84 18 (getLoop (cdF Tryz.f84) 2) allLoc_l2_s allLoc_l2_o ((s, (), t7, t8), ())
def allLoc_l2_t (s : ByteArray) (t7 : Int) (t8 : Int) : Option ((Bool × Unit) ⊕ ((ByteArray × Unit × Int × Int × Bool) × Unit)) :=
 (brE (decide (t8 < t7))
 (gdE ((decide ((0 : Int) ≤ t8)) && (decide ((Int.toNat t8) < (ByteArray.size s)))) <|
 (Option.bind (envelope_Split_1_s (((UInt8.toNat (Array.getD (ByteArray.data s) (Int.toNat t8) (0 : UInt8))) : Nat) : Int)) fun r0 =>
 (brE (!r0)
 (some (.inl (false, ())))
 (allLoc_l2 s t7 (IntKind.wrap .i64 (t8 + (1 : Int)))))))
 (some (.inr ((s, ((), (t7, (t8, false)))), ()))))
theorem allLoc_l2_eq {s : ByteArray} {t7 : Int} {t8 : Int} {r : ((Bool × Unit) ⊕ ((ByteArray × Unit × Int × Int × Bool) × Unit))} (h : allLoc_l2_t s t7 t8 = some r) : allLoc_l2 s t7 t8 = some r :=
  lS_tree (es := tab_envelope_Split_1) (hs := []) [] (by kernel_rfl) trivial trivial (by kernel_rfl) h
def allLoc_l2_e : LEnt Tryz.prog lv X0 84 18 := lentS Tryz.prog lv X0 2 (getLoop (cdF Tryz.f84) 2) allLoc_l2_s allLoc_l2_o (fun x => allLoc_l2 x.1.1 x.1.2.2.1 x.1.2.2.2) (fun _ _ h => lS_from h)
def allLoc_cr : Cod (V × List B) Bool := (cFstU (cPair (vC cBool) lNil))
def allLoc_s (s : ByteArray) : Option Bool := fS Tryz.prog lv X0 84 allLoc_ca allLoc_cr (s, ())
def allLoc_t (s : ByteArray) : Option Bool :=
 (Option.bind (allLoc_l2 s (((ByteArray.size s) : Nat) : Int) (0 : Int)) fun r0 =>
 (Sum.elim (fun r1 => (some (r1).1))
 (fun r1 => (some true)) r0))
theorem allLoc_eq {s : ByteArray} {r : Bool} (h : allLoc_t s = some r) : allLoc_s s = some r :=
  fS_tree (es := tab_envelope_Split_1) (hs := []) [allLoc_l2_e] Tryz.func84 rfl (by kernel_rfl) rfl (by kernel_rfl) (by kernel_rfl) ⟨⟨_, rfl, rfl⟩, trivial⟩ trivial (by kernel_rfl) h
def allLoc_e : Ent Tryz.prog lv X0 := entS Tryz.prog lv X0 84 [111] allLoc_ca allLoc_cr (fun x => allLoc_s x.1) (fun _ _ h => fS_call h)
def tab_allLoc : List (Ent Tryz.prog lv X0) := allLoc_e :: tab_envelope_Split_1
def envelope_Split_ca : Cod (List V) ByteArray := (lOne (vC cStr))
def envelope_Split_cr : Cod (V × List B) (ByteArray × ByteArray × Bool) := (cFstU (cPair (vTup (lCons (vC cStr) (lCons (vC cStr) (lOne (vC cBool))))) lNil))
def envelope_Split_s (s : ByteArray) : Option (ByteArray × ByteArray × Bool) := fS Tryz.prog lv X0 83 envelope_Split_ca envelope_Split_cr s
def envelope_Split_t (s : ByteArray) : Option (ByteArray × ByteArray × Bool) :=
 (Option.bind (cutP s (ByteArray.mk (List.toArray [(64 : UInt8)]))) fun r0 =>
 (brE (((r0).2).2 == true)
 (brE ((!((ByteArray.toList (r0).1) == (ByteArray.toList ⟨#[]⟩))) == true)
 (brE ((decide ((((ByteArray.size (r0).1) : Nat) : Int) ≤ (60 : Int))) == true)
 (Option.bind (allLoc_s (r0).1) fun r1 =>
 (brE (r1 == true)
 (Option.bind (envelope_Domain_s ((r0).2).1) fun r2 =>
 (some ((r0).1, (((r0).2).1, r2))))
 (some ((r0).1, (((r0).2).1, false)))))
 (some ((r0).1, (((r0).2).1, false))))
 (some ((r0).1, (((r0).2).1, false))))
 (some ((r0).1, (((r0).2).1, false)))))
theorem envelope_Split_eq {s : ByteArray} {r : (ByteArray × ByteArray × Bool)} (h : envelope_Split_t s = some r) : envelope_Split_s s = some r :=
  fS_tree (es := tab_allLoc) (hs := []) [] Tryz.func83 rfl (by kernel_rfl) rfl (by kernel_rfl) (by kernel_rfl) trivial trivial (by kernel_rfl) h
def envelope_Split_e : Ent Tryz.prog lv X0 := entS Tryz.prog lv X0 83 [] envelope_Split_ca envelope_Split_cr (fun x => envelope_Split_s x) (fun _ _ h => fS_call h)
def tab_envelope_Split : List (Ent Tryz.prog lv X0) := envelope_Split_e :: tab_allLoc
def envelope_Address_ca : Cod (List V) ByteArray := (lOne (vC cStr))
def envelope_Address_cr : Cod (V × List B) Bool := (cFstU (cPair (vC cBool) lNil))
def envelope_Address_s (s : ByteArray) : Option Bool := fS Tryz.prog lv X0 63 envelope_Address_ca envelope_Address_cr s
def envelope_Address_t (s : ByteArray) : Option Bool :=
 (Option.bind (envelope_Split_s s) fun r0 =>
 (some ((r0).2).2))
theorem envelope_Address_eq {s : ByteArray} {r : Bool} (h : envelope_Address_t s = some r) : envelope_Address_s s = some r :=
  fS_tree (es := tab_envelope_Split) (hs := []) [] Tryz.func63 rfl (by kernel_rfl) rfl (by kernel_rfl) (by kernel_rfl) trivial trivial (by kernel_rfl) h
def envelope_Address_e : Ent Tryz.prog lv X0 := entS Tryz.prog lv X0 63 [] envelope_Address_ca envelope_Address_cr (fun x => envelope_Address_s x) (fun _ _ h => fS_call h)
def tab_envelope_Address : List (Ent Tryz.prog lv X0) := envelope_Address_e :: tab_envelope_Split
def envelope_Notify_ca : Cod (List V) Int := (lOne (vC (cInt .i64)))
def envelope_Notify_cr : Cod (V × List B) Bool := (cFstU (cPair (vC cBool) lNil))
def envelope_Notify_s (n : Int) : Option Bool := fS Tryz.prog lv X0 87 envelope_Notify_ca envelope_Notify_cr n
def envelope_Notify_t (n : Int) : Option Bool :=
 (brE ((decide (n ≥ (0 : Int))) == true)
 (some (decide (n ≤ (7 : Int))))
 (some false))
theorem envelope_Notify_eq {n : Int} {r : Bool} (h : envelope_Notify_t n = some r) : envelope_Notify_s n = some r :=
  fS_tree (es := tab_envelope_Address) (hs := []) [] Tryz.func87 rfl (by kernel_rfl) rfl (by kernel_rfl) (by kernel_rfl) trivial trivial (by kernel_rfl) h
def envelope_Notify_e : Ent Tryz.prog lv X0 := entS Tryz.prog lv X0 87 [] envelope_Notify_ca envelope_Notify_cr (fun x => envelope_Notify_s x) (fun _ _ h => fS_call h)
def tab_envelope_Notify : List (Ent Tryz.prog lv X0) := envelope_Notify_e :: tab_envelope_Address
def recip1_ca : Cod (List V) ((ByteArray × Int) × (ByteArray × Int)) := (lCons (vAgg (lCons (vC cStr) (lOne (vC (cInt .i64))))) (lOne (vEptr (lCons cStr (lOne (cInt .i64))) 0)))
def recip1_cr : Cod (V × List B) Bool := (cFstU (cPair (vC cBool) lNil))
def recip1_s (x_Address : ByteArray) (x_Notify : Int) (c1_0 : ByteArray) (c1_1 : Int) : Option Bool := fS Tryz.prog lv X0 89 recip1_ca recip1_cr ((x_Address, x_Notify), (c1_0, c1_1))
def recip1_t (x_Address : ByteArray) (x_Notify : Int) (c1_0 : ByteArray) (c1_1 : Int) : Option Bool :=
 (some ((ByteArray.toList x_Address) == (ByteArray.toList c1_0)))
theorem recip1_eq {x_Address : ByteArray} {x_Notify : Int} {c1_0 : ByteArray} {c1_1 : Int} {r : Bool} (h : recip1_t x_Address x_Notify c1_0 c1_1 = some r) : recip1_s x_Address x_Notify c1_0 c1_1 = some r :=
  fS_tree (es := tab_envelope_Notify) (hs := []) [] Tryz.func89 rfl (by kernel_rfl) rfl (by kernel_rfl) (by kernel_rfl) trivial trivial (by kernel_rfl) h
def recip1_e : Ent Tryz.prog lv X0 := entS Tryz.prog lv X0 89 [] recip1_ca recip1_cr (fun x => recip1_s x.1.1 x.1.2 x.2.1 x.2.2) (fun _ _ h => fS_call h)
def tab_recip1 : List (Ent Tryz.prog lv X0) := recip1_e :: tab_envelope_Notify
structure S118 where
  Address : ByteArray
  Notify : Int
def ec_118 : EC S118 where
  enc x := [.str x.Address, .int .i64 x.Notify]
  dec c := ⟨strOf (c.getD 0 .ne), intOf (c.getD 1 .ne)⟩
  is c := isE [.str, .int .i64] 0 c
  enc_dec h := decE_eq h
  dec_enc x := by rfl
  is_enc x := by simp [isE, isK]
theorem enc_118 (x : S118) : ec_118.enc x = [.str x.Address, .int .i64 x.Notify] := rfl
theorem isE_118 (xs : List S118) (n : Nat) : isE [.str, .int .i64] 0 ((ec_118.encL xs).getD n []) = decide (n < xs.length) := by
  by_cases h : n < xs.length
  · simp only [EC.getD_lt _ _ h]; simp [enc_118, isE, isK, h]
  · simp only [EC.getD_ge _ _ (Nat.not_lt.1 h)]; simp [isE, isK, h]
theorem at_118_0 (xs : List S118) (n : Nat) : strOf (((ec_118.encL xs).getD n []).getD 0 .ne) = (xs.getD n (ec_118.dec [])).Address := by
  by_cases h : n < xs.length
  · simp only [EC.getD_lt _ _ h]; simp [enc_118, h, strOf, List.getD_eq_getElem?_getD]
  · simp only [EC.getD_ge _ _ (Nat.not_lt.1 h)]; simp [Nat.not_lt.1 h, ec_118, strOf, intOf, List.getD_eq_getElem?_getD]
theorem at_118_1 (xs : List S118) (n : Nat) : intOf (((ec_118.encL xs).getD n []).getD 1 .ne) = (xs.getD n (ec_118.dec [])).Notify := by
  by_cases h : n < xs.length
  · simp only [EC.getD_lt _ _ h]; simp [enc_118, h, intOf, List.getD_eq_getElem?_getD]
  · simp only [EC.getD_ge _ _ (Nat.not_lt.1 h)]; simp [Nat.not_lt.1 h, ec_118, strOf, intOf, List.getD_eq_getElem?_getD]
theorem all_118 (xs : List S118) : (ec_118.encL xs).all (fun (el : List C) => el.length == 2) = true := by induction xs with | nil => rfl | cons x xs ih => first | (simp [EC.encL, enc_118]; done) | simpa [EC.encL, enc_118] using ih
def idxRec_ca : Cod (List V) ((List S118) × (ByteArray × Int)) := (lCons (vC (cSl ec_118)) (lOne (vFn 89 (lOne (vEptr (lCons cStr (lOne (cInt .i64))) 0)))))
def idxRec_l2_s : SC (((List S118) × (ByteArray × Int) × Int × Int) × Unit) := sLS [0, 1, 7, 8] (lCons (vC (cSl ec_118)) (lCons (vFn 89 (lOne (vEptr (lCons cStr (lOne (cInt .i64))) 0))) (lCons (vC (cInt .i64)) (lOne (vC (cInt .i64)))))) lNil [] [] (by decide) (fun _ => rfl)
def idxRec_l2_o2 : SC (((List S118) × (ByteArray × Int) × Int × Int × Bool) × Unit) := sLS [0, 1, 7, 8, 9] (lCons (vC (cSl ec_118)) (lCons (vFn 89 (lOne (vEptr (lCons cStr (lOne (cInt .i64))) 0))) (lCons (vC (cInt .i64)) (lCons (vC (cInt .i64)) (lOne (vC cBool)))))) lNil [] [] (by decide) (fun _ => rfl)
def idxRec_l2_o1 : SC (Int × Unit) := sLS [4] (lOne (vC (cInt .i64))) lNil [] [] (by decide) (fun _ => rfl)
def idxRec_l2_o : OC ((Int × Unit) ⊕ (((List S118) × (ByteArray × Int) × Int × Int × Bool) × Unit)) := oOr 1 idxRec_l2_o1 (oAt 2 idxRec_l2_o2) (fun x => (by decide : (2 : Nat) ≠ 1))
def idxRec_l2 (s : (List S118)) (f : ByteArray) (f_1 : Int) (t7 : Int) (t8 : Int) : Option ((Int × Unit) ⊕ (((List S118) × (ByteArray × Int) × Int × Int × Bool) × Unit)) := lS Tryz.prog lv X0 114 19 (getLoop (cdF Tryz.f114) 2) idxRec_l2_s idxRec_l2_o ((s, (f, f_1), t7, t8), ())
def idxRec_l2_t (s : (List S118)) (f : ByteArray) (f_1 : Int) (t7 : Int) (t8 : Int) : Option ((Int × Unit) ⊕ (((List S118) × (ByteArray × Int) × Int × Int × Bool) × Unit)) :=
 (brE (decide (t8 < t7))
 (gdE (decide ((0 : Int) ≤ t8)) <|
 (gdE ((decide ((Int.toNat t8) < (List.length (EC.encL ec_118 s)))) && (isE [K1.str, (K1.int Go.IntKind.i64)] (0 : Nat) (List.getD (EC.encL ec_118 s) (Int.toNat t8) []))) <|
 (Option.bind (recip1_s (strOf (List.getD (List.getD (EC.encL ec_118 s) (Int.toNat t8) []) (0 : Nat) C.ne)) (intOf (List.getD (List.getD (EC.encL ec_118 s) (Int.toNat t8) []) (1 : Nat) C.ne)) f f_1) fun r0 =>
 (brE r0
 (some (.inl (t8, ())))
 (gdE (EC.isL ec_118 (EC.encL ec_118 s)) <|
 (idxRec_l2 (EC.decL ec_118 (EC.encL ec_118 s)) f f_1 t7 (IntKind.wrap .i64 (t8 + (1 : Int)))))))))
 (gdE (EC.isL ec_118 (EC.encL ec_118 s)) <|
 (some (.inr (((EC.decL ec_118 (EC.encL ec_118 s)), ((f, f_1), (t7, (t8, false)))), ())))))
theorem idxRec_l2_eq {s : (List S118)} {f : ByteArray} {f_1 : Int} {t7 : Int} {t8 : Int} {r : ((Int × Unit) ⊕ (((List S118) × (ByteArray × Int) × Int × Int × Bool) × Unit))} (h : idxRec_l2_t s f f_1 t7 t8 = some r) : idxRec_l2 s f f_1 t7 t8 = some r :=
  lS_tree (es := tab_recip1) (hs := []) [] (by kernel_rfl) trivial trivial (by kernel_rfl) h
def idxRec_l2_e : LEnt Tryz.prog lv X0 114 19 := lentS Tryz.prog lv X0 2 (getLoop (cdF Tryz.f114) 2) idxRec_l2_s idxRec_l2_o (fun x => idxRec_l2 x.1.1 x.1.2.1.1 x.1.2.1.2 x.1.2.2.1 x.1.2.2.2) (fun _ _ h => lS_from h)
def idxRec_cr : Cod (V × List B) Int := (cFstU (cPair (vC (cInt .i64)) lNil))
def idxRec_s (s : (List S118)) (f_0 : ByteArray) (f_1 : Int) : Option Int := fS Tryz.prog lv X0 114 idxRec_ca idxRec_cr (s, (f_0, f_1))
def idxRec_t (s : (List S118)) (f_0 : ByteArray) (f_1 : Int) : Option Int :=
 (gdE (EC.isL ec_118 (EC.encL ec_118 s)) <|
 (Option.bind (idxRec_l2 (EC.decL ec_118 (EC.encL ec_118 s)) f_0 f_1 (((List.length (EC.encL ec_118 s)) : Nat) : Int) (0 : Int)) fun r0 =>
 (Sum.elim (fun r1 => (some (r1).1))
 (fun r1 => (some (-1 : Int))) r0)))
theorem idxRec_eq {s : (List S118)} {f_0 : ByteArray} {f_1 : Int} {r : Int} (h : idxRec_t s f_0 f_1 = some r) : idxRec_s s f_0 f_1 = some r :=
  fS_tree (es := tab_recip1) (hs := []) [idxRec_l2_e] Tryz.func114 rfl (by kernel_rfl) rfl (by kernel_rfl) (by kernel_rfl) ⟨⟨_, rfl, rfl⟩, trivial⟩ trivial (by kernel_rfl) h
def idxRec_e : Ent Tryz.prog lv X0 := entS Tryz.prog lv X0 114 [89] idxRec_ca idxRec_cr (fun x => idxRec_s x.1 x.2.1 x.2.2) (fun _ _ h => fS_call h)
def tab_idxRec : List (Ent Tryz.prog lv X0) := idxRec_e :: tab_recip1
def hasRec_ca : Cod (List V) ((List S118) × (ByteArray × Int)) := (lCons (vC (cSl ec_118)) (lOne (vFn 89 (lOne (vEptr (lCons cStr (lOne (cInt .i64))) 0)))))
def hasRec_cr : Cod (V × List B) Bool := (cFstU (cPair (vC cBool) lNil))
def hasRec_s (s : (List S118)) (f_0 : ByteArray) (f_1 : Int) : Option Bool := fS Tryz.prog lv X0 88 hasRec_ca hasRec_cr (s, (f_0, f_1))
def hasRec_t (s : (List S118)) (f_0 : ByteArray) (f_1 : Int) : Option Bool :=
 (gdE (EC.isL ec_118 (EC.encL ec_118 s)) <|
 (Option.bind (idxRec_s (EC.decL ec_118 (EC.encL ec_118 s)) f_0 f_1) fun r0 =>
 (some (decide (r0 ≥ (0 : Int))))))
theorem hasRec_eq {s : (List S118)} {f_0 : ByteArray} {f_1 : Int} {r : Bool} (h : hasRec_t s f_0 f_1 = some r) : hasRec_s s f_0 f_1 = some r :=
  fS_tree (es := tab_idxRec) (hs := []) [] Tryz.func88 rfl (by kernel_rfl) rfl (by kernel_rfl) (by kernel_rfl) trivial trivial (by kernel_rfl) h
def hasRec_e : Ent Tryz.prog lv X0 := entS Tryz.prog lv X0 88 [89] hasRec_ca hasRec_cr (fun x => hasRec_s x.1 x.2.1 x.2.2) (fun _ _ h => fS_call h)
def tab_hasRec : List (Ent Tryz.prog lv X0) := hasRec_e :: tab_idxRec
def envelope_Recipients_ca : Cod (List V) (List S118) := (lOne (vC (cSl ec_118)))
def envelope_Recipients_l2_s : SC (((List S118) × Unit × (List S118) × Int × Int) × (Int × Int)) := sLS [0, 2, 5, 6, 7] (lCons (vC (cSl ec_118)) (lCons (vPtr 0 0) (lCons (vC (cSl ec_118)) (lCons (vC (cInt .i64)) (lOne (vC (cInt .i64))))))) (lOne (oSome (bBox (lCons (vC (cInt .i64)) (lOne (vC (cInt .i64))))))) [false] [] (by decide) (fun _ => rfl)
def envelope_Recipients_l2_o2 : SC (((List S118) × Unit × (List S118) × Int × Int × Bool) × (Int × Int)) := sLS [0, 2, 5, 6, 7, 8] (lCons (vC (cSl ec_118)) (lCons (vPtr 0 0) (lCons (vC (cSl ec_118)) (lCons (vC (cInt .i64)) (lCons (vC (cInt .i64)) (lOne (vC cBool))))))) (lOne (oSome (bBox (lCons (vC (cInt .i64)) (lOne (vC (cInt .i64))))))) [false] [] (by decide) (fun _ => rfl)
def envelope_Recipients_l2_o1 : SC (Unit × (Int × Int)) := sLS [2] (lOne (vPtr 0 0)) (lOne (oSome (bBox (lCons (vC (cInt .i64)) (lOne (vC (cInt .i64))))))) [false] [] (by decide) (fun _ => rfl)
def envelope_Recipients_l2_o : OC ((Unit × (Int × Int)) ⊕ (((List S118) × Unit × (List S118) × Int × Int × Bool) × (Int × Int))) := oOr 1 envelope_Recipients_l2_o1 (oAt 2 envelope_Recipients_l2_o2) (fun x => (by decide : (2 : Nat) ≠ 1))
def envelope_Recipients_l2 (l : (List S118)) (t5 : (List S118)) (t6 : Int) (t7 : Int) (b0 : Int) (b0_1 : Int) : Option ((Unit × (Int × Int)) ⊕ (((List S118) × Unit × (List S118) × Int × Int × Bool) × (Int × Int))) := lS Tryz.prog lv X0 65 36 (getLoop (cdF Tryz.f65) 2) envelope_Recipients_l2_s envelope_Recipients_l2_o ((l, (), t5, t6, t7), (b0, b0_1))
def envelope_Recipients_l2_t (l : (List S118)) (t5 : (List S118)) (t6 : Int) (t7 : Int) (b0 : Int) (b0_1 : Int) : Option ((Unit × (Int × Int)) ⊕ (((List S118) × Unit × (List S118) × Int × Int × Bool) × (Int × Int))) :=
 (brE (decide (t7 < t6))
 (gdE (decide ((0 : Int) ≤ t7)) <|
 (gdE ((decide ((Int.toNat t7) < (List.length (EC.encL ec_118 t5)))) && (isE [K1.str, (K1.int Go.IntKind.i64)] (0 : Nat) (List.getD (EC.encL ec_118 t5) (Int.toNat t7) []))) <|
 (Option.bind (envelope_Address_s (strOf (List.getD (List.getD (EC.encL ec_118 t5) (Int.toNat t7) []) (0 : Nat) C.ne))) fun r0 =>
 (brE (!r0)
 (Option.bind (basic_Fault_s (10 : Int) t7) fun r1 =>
 (some (.inl ((), ((r1).1, (r1).2)))))
 (Option.bind (envelope_Notify_s (intOf (List.getD (List.getD (EC.encL ec_118 t5) (Int.toNat t7) []) (1 : Nat) C.ne))) fun r1 =>
 (brE (!r1)
 (Option.bind (basic_Fault_s (3 : Int) t7) fun r2 =>
 (some (.inl ((), ((r2).1, (r2).2)))))
 (gdE ((decide ((0 : Int) ≤ t7)) && (decide (t7 ≤ (((List.length (EC.encL ec_118 l)) : Nat) : Int)))) <|
 (gdE (List.all (EC.encL ec_118 l) (fun (el : (List C)) => ((List.length el) == (2 : Nat)))) <|
 (gdE (EC.isL ec_118 (List.take ((Int.toNat t7) - (0 : Nat)) (List.drop (0 : Nat) (EC.encL ec_118 l)))) <|
 (Option.bind (hasRec_s (EC.decL ec_118 (List.take ((Int.toNat t7) - (0 : Nat)) (List.drop (0 : Nat) (EC.encL ec_118 l)))) (strOf (List.getD (List.getD (EC.encL ec_118 t5) (Int.toNat t7) []) (0 : Nat) C.ne)) (intOf (List.getD (List.getD (EC.encL ec_118 t5) (Int.toNat t7) []) (1 : Nat) C.ne))) fun r2 =>
 (brE r2
 (Option.bind (basic_Fault_s (7 : Int) t7) fun r3 =>
 (some (.inl ((), ((r3).1, (r3).2)))))
 (gdE (EC.isL ec_118 (EC.encL ec_118 l)) <|
 (gdE (EC.isL ec_118 (EC.encL ec_118 t5)) <|
 (envelope_Recipients_l2 (EC.decL ec_118 (EC.encL ec_118 l)) (EC.decL ec_118 (EC.encL ec_118 t5)) t6 (IntKind.wrap .i64 (t7 + (1 : Int))) b0 b0_1))))))))))))))
 (gdE (EC.isL ec_118 (EC.encL ec_118 l)) <|
 (gdE (EC.isL ec_118 (EC.encL ec_118 t5)) <|
 (some (.inr (((EC.decL ec_118 (EC.encL ec_118 l)), ((), ((EC.decL ec_118 (EC.encL ec_118 t5)), (t6, (t7, false))))), (b0, b0_1)))))))
theorem envelope_Recipients_l2_eq {l : (List S118)} {t5 : (List S118)} {t6 : Int} {t7 : Int} {b0 : Int} {b0_1 : Int} {r : ((Unit × (Int × Int)) ⊕ (((List S118) × Unit × (List S118) × Int × Int × Bool) × (Int × Int)))} (h : envelope_Recipients_l2_t l t5 t6 t7 b0 b0_1 = some r) : envelope_Recipients_l2 l t5 t6 t7 b0 b0_1 = some r :=
  lS_tree (es := tab_hasRec) (hs := []) [] (by kernel_rfl) trivial trivial (by kernel_rfl) h
def envelope_Recipients_l2_e : LEnt Tryz.prog lv X0 65 36 := lentS Tryz.prog lv X0 2 (getLoop (cdF Tryz.f65) 2) envelope_Recipients_l2_s envelope_Recipients_l2_o (fun x => envelope_Recipients_l2 x.1.1 x.1.2.2.1 x.1.2.2.2.1 x.1.2.2.2.2 x.2.1 x.2.2) (fun _ _ h => lS_from h)
def envelope_Recipients_cr : Cod (V × List B) (Int × Int) := (cFstU (cPair (vAgg (lCons (vC (cInt .i64)) (lOne (vC (cInt .i64))))) lNil))
def envelope_Recipients_s (l : (List S118)) : Option (Int × Int) := fS Tryz.prog lv X0 65 envelope_Recipients_ca envelope_Recipients_cr l
def envelope_Recipients_t (l : (List S118)) : Option (Int × Int) :=
 (gdE (EC.isL ec_118 (EC.encL ec_118 l)) <|
 (gdE (EC.isL ec_118 (EC.encL ec_118 l)) <|
 (Option.bind (envelope_Recipients_l2 (EC.decL ec_118 (EC.encL ec_118 l)) (EC.decL ec_118 (EC.encL ec_118 l)) (((List.length (EC.encL ec_118 l)) : Nat) : Int) (0 : Int) (0 : Int) (0 : Int)) fun r0 =>
 (Sum.elim (fun r1 => (some (((r1).2).1, ((r1).2).2)))
 (fun r1 => (Option.bind basic_None_s fun r2 =>
 (some ((r2).1, (r2).2)))) r0))))
theorem envelope_Recipients_eq {l : (List S118)} {r : (Int × Int)} (h : envelope_Recipients_t l = some r) : envelope_Recipients_s l = some r :=
  fS_tree (es := tab_hasRec) (hs := []) [envelope_Recipients_l2_e] Tryz.func65 rfl (by kernel_rfl) rfl (by kernel_rfl) (by kernel_rfl) ⟨⟨_, rfl, rfl⟩, trivial⟩ trivial (by kernel_rfl) h
def envelope_Recipients_e : Ent Tryz.prog lv X0 := entS Tryz.prog lv X0 65 [] envelope_Recipients_ca envelope_Recipients_cr (fun x => envelope_Recipients_s x) (fun _ _ h => fS_call h)
def tab_envelope_Recipients : List (Ent Tryz.prog lv X0) := envelope_Recipients_e :: tab_hasRec
def envelope_Validate_ca : Cod (List V) (ByteArray × (List S118) × ByteArray) := (lOne (vAgg (lCons (vC cStr) (lCons (vC (cSl ec_118)) (lOne (vC cStr))))))
def envelope_Validate_cr : Cod (V × List B) (Int × Int) := (cFstU (cPair (vAgg (lCons (vC (cInt .i64)) (lOne (vC (cInt .i64))))) lNil))
def envelope_Validate_s (e_From : ByteArray) (e_To : (List S118)) (e_Id : ByteArray) : Option (Int × Int) := fS Tryz.prog lv X0 40 envelope_Validate_ca envelope_Validate_cr (e_From, e_To, e_Id)
def envelope_Validate_t (e_From : ByteArray) (e_To : (List S118)) (e_Id : ByteArray) : Option (Int × Int) :=
 (brE ((!((ByteArray.toList e_From) == (ByteArray.toList ⟨#[]⟩))) == true)
 (Option.bind (envelope_Address_s e_From) fun r0 =>
 (brE (!r0)
 (Option.bind (basic_Fault_s (10 : Int) (-(10 : Int))) fun r1 =>
 (some ((r1).1, (r1).2)))
 (brE ((decide ((((List.length (EC.encL ec_118 e_To)) : Nat) : Int) < (1 : Int))) == false)
 (brE (decide ((((List.length (EC.encL ec_118 e_To)) : Nat) : Int) > (60 : Int)))
 (Option.bind (basic_Fault_s (2 : Int) (-(11 : Int))) fun r1 =>
 (some ((r1).1, (r1).2)))
 (brE ((!((ByteArray.toList e_Id) == (ByteArray.toList ⟨#[]⟩))) == true)
 (Option.bind (basic_Name_s e_Id) fun r1 =>
 (brE (!r1)
 (Option.bind (basic_Fault_s (10 : Int) (-(12 : Int))) fun r2 =>
 (some ((r2).1, (r2).2)))
 (gdE (EC.isL ec_118 (EC.encL ec_118 e_To)) <|
 (Option.bind (envelope_Recipients_s (EC.decL ec_118 (EC.encL ec_118 e_To))) fun r2 =>
 (some ((r2).1, (r2).2))))))
 (gdE (EC.isL ec_118 (EC.encL ec_118 e_To)) <|
 (Option.bind (envelope_Recipients_s (EC.decL ec_118 (EC.encL ec_118 e_To))) fun r1 =>
 (some ((r1).1, (r1).2))))))
 (Option.bind (basic_Fault_s (2 : Int) (-(11 : Int))) fun r1 =>
 (some ((r1).1, (r1).2))))))
 (brE ((decide ((((List.length (EC.encL ec_118 e_To)) : Nat) : Int) < (1 : Int))) == false)
 (brE (decide ((((List.length (EC.encL ec_118 e_To)) : Nat) : Int) > (60 : Int)))
 (Option.bind (basic_Fault_s (2 : Int) (-(11 : Int))) fun r0 =>
 (some ((r0).1, (r0).2)))
 (brE ((!((ByteArray.toList e_Id) == (ByteArray.toList ⟨#[]⟩))) == true)
 (Option.bind (basic_Name_s e_Id) fun r0 =>
 (brE (!r0)
 (Option.bind (basic_Fault_s (10 : Int) (-(12 : Int))) fun r1 =>
 (some ((r1).1, (r1).2)))
 (gdE (EC.isL ec_118 (EC.encL ec_118 e_To)) <|
 (Option.bind (envelope_Recipients_s (EC.decL ec_118 (EC.encL ec_118 e_To))) fun r1 =>
 (some ((r1).1, (r1).2))))))
 (gdE (EC.isL ec_118 (EC.encL ec_118 e_To)) <|
 (Option.bind (envelope_Recipients_s (EC.decL ec_118 (EC.encL ec_118 e_To))) fun r0 =>
 (some ((r0).1, (r0).2))))))
 (Option.bind (basic_Fault_s (2 : Int) (-(11 : Int))) fun r0 =>
 (some ((r0).1, (r0).2)))))
theorem envelope_Validate_eq {e_From : ByteArray} {e_To : (List S118)} {e_Id : ByteArray} {r : (Int × Int)} (h : envelope_Validate_t e_From e_To e_Id = some r) : envelope_Validate_s e_From e_To e_Id = some r :=
  fS_tree (es := tab_envelope_Recipients) (hs := []) [] Tryz.func40 rfl (by kernel_rfl) rfl (by kernel_rfl) (by kernel_rfl) trivial trivial (by kernel_rfl) h
def envelope_Validate_e : Ent Tryz.prog lv X0 := entS Tryz.prog lv X0 40 [] envelope_Validate_ca envelope_Validate_cr (fun x => envelope_Validate_s x.1 x.2.1 x.2.2) (fun _ _ h => fS_call h)
def tab_envelope_Validate : List (Ent Tryz.prog lv X0) := envelope_Validate_e :: tab_envelope_Recipients
end
end Go.Proofs.YtokahibbkdbndaaGreatDoor
