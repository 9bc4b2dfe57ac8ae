/- Functions of the program as plain functions: made by program from the machine. -/
import Derived.Test.YtokahibbkdbndaaGreatDoorH1
namespace Go.Proofs.YtokahibbkdbndaaGreatDoor
open Go.RowKit
set_option maxRecDepth 100000
noncomputable section
structure S192 where
  one : Bool
  many : Bool
  c : Int
def ec_192 : EC S192 where
  enc x := [.bool x.one, .bool x.many, .int .u8 x.c]
  dec c := ⟨boolOf (c.getD 0 .ne), boolOf (c.getD 1 .ne), intOf (c.getD 2 .ne)⟩
  is c := isE [.bool, .bool, .int .u8] 0 c
  enc_dec h := decE_eq h
  dec_enc x := by rfl
  is_enc x := by simp [isE, isK]
theorem enc_192 (x : S192) : ec_192.enc x = [.bool x.one, .bool x.many, .int .u8 x.c] := rfl
theorem isE_192 (xs : List S192) (n : Nat) : isE [.bool, .bool, .int .u8] 0 ((ec_192.encL xs).getD n []) = decide (n < xs.length) := by
  by_cases h : n < xs.length
  · simp only [EC.getD_lt _ _ h]; simp [enc_192, isE, isK, h]
  · simp only [EC.getD_ge _ _ (Nat.not_lt.1 h)]; simp [isE, isK, h]
theorem at_192_0 (xs : List S192) (n : Nat) : boolOf (((ec_192.encL xs).getD n []).getD 0 .ne) = (xs.getD n (ec_192.dec [])).one := by
  by_cases h : n < xs.length
  · simp only [EC.getD_lt _ _ h]; simp [enc_192, h, boolOf, List.getD_eq_getElem?_getD]
  · simp only [EC.getD_ge _ _ (Nat.not_lt.1 h)]; simp [Nat.not_lt.1 h, ec_192, intOf, boolOf, List.getD_eq_getElem?_getD]
theorem at_192_1 (xs : List S192) (n : Nat) : boolOf (((ec_192.encL xs).getD n []).getD 1 .ne) = (xs.getD n (ec_192.dec [])).many := by
  by_cases h : n < xs.length
  · simp only [EC.getD_lt _ _ h]; simp [enc_192, h, boolOf, List.getD_eq_getElem?_getD]
  · simp only [EC.getD_ge _ _ (Nat.not_lt.1 h)]; simp [Nat.not_lt.1 h, ec_192, intOf, boolOf, List.getD_eq_getElem?_getD]
theorem at_192_2 (xs : List S192) (n : Nat) : intOf (((ec_192.encL xs).getD n []).getD 2 .ne) = (xs.getD n (ec_192.dec [])).c := by
  by_cases h : n < xs.length
  · simp only [EC.getD_lt _ _ h]; simp [enc_192, h, intOf, List.getD_eq_getElem?_getD]
  · simp only [EC.getD_ge _ _ (Nat.not_lt.1 h)]; simp [Nat.not_lt.1 h, ec_192, intOf, boolOf, List.getD_eq_getElem?_getD]
theorem lit_192 (a0 : Bool) (a1 : Bool) (a2 : Int) : ([.bool a0, .bool a1, .int .u8 a2] : List C) = ec_192.enc (⟨a0, a1, a2⟩ : S192) := rfl
theorem apd_192 (xs : List S192) (a0 : Bool) (a1 : Bool) (a2 : Int) : ec_192.encL xs ++ [[.bool a0, .bool a1, .int .u8 a2]] = ec_192.encL (xs ++ [(⟨a0, a1, a2⟩ : S192)]) := by rw [lit_192]; simp [EC.encL]
theorem all_192 (xs : List S192) : (ec_192.encL xs).all (fun (el : List C) => el.length == 3) = true := by induction xs with | nil => rfl | cons x xs ih => first | (simp [EC.encL, enc_192]; done) | simpa [EC.encL, enc_192] using ih
def patterns_elements_ca : Cod (List V) ByteArray := (lOne (vC cStr))
def patterns_elements_l3_s : SC ((ByteArray × Nat × Int) × (List S192)) := sLS [0, 4, 5] (lCons (vC cStr) (lCons (vRow 0) (lOne (vC (cInt .i64))))) (lOne (oSome (bRow ec_192))) [false] [] (by decide) (fun _ => rfl)
def patterns_elements_l3_o2 : SC ((ByteArray × Nat × Int × Bool) × (List S192)) := sLS [0, 4, 5, 9] (lCons (vC cStr) (lCons (vRow 0) (lCons (vC (cInt .i64)) (lOne (vC cBool))))) (lOne (oSome (bRow ec_192))) [false] [] (by decide) (fun _ => rfl)
def patterns_elements_l3_o1 : SC ((Nat × Bool) × (List S192)) := sLS [2, 3] (lCons (vRow 0) (lOne (vC cBool))) (lOne (oSome (bRow ec_192))) [false] [] (by decide) (fun _ => rfl)
def patterns_elements_l3_o : OC (((Nat × Bool) × (List S192)) ⊕ ((ByteArray × Nat × Int × Bool) × (List S192))) := oOr 1 patterns_elements_l3_o1 (oAt 2 patterns_elements_l3_o2) (fun x => (by decide : (2 : Nat) ≠ 1))
def patterns_elements_l3 (p : ByteArray) (out : Nat) (i : Int) (b0 : (List S192)) : Option (((Nat × Bool) × (List S192)) ⊕ ((ByteArray × Nat × Int × Bool) × (List S192))) := lS Tryz.prog lv X0 152 50 (getLoop (cdF Tryz.f152) 3) patterns_elements_l3_s patterns_elements_l3_o ((p, out, i), b0)
def patterns_elements_l3_t (p : ByteArray) (out : Nat) (i : Int) (b0 : (List S192)) : Option (((Nat × Bool) × (List S192)) ⊕ ((ByteArray × Nat × Int × Bool) × (List S192))) :=
 (brE (decide (i < (((ByteArray.size p) : Nat) : Int)))
 (gdE ((decide ((0 : Int) ≤ i)) && (decide ((Int.toNat i) < (ByteArray.size p)))) <|
 (brE ((((UInt8.toNat (Array.getD (ByteArray.data p) (Int.toNat i) (0 : UInt8))) : Nat) : Int) == 42)
 (gdE ((((List.all [[(C.bool false), (C.bool true), (C.int Go.IntKind.u8 (0 : Int))]] (fun (el : (List C)) => ((List.length el) == (3 : Nat)))) && (List.all (EC.encL ec_192 b0) (fun (el : (List C)) => ((List.length el) == (3 : Nat))))) && (decide (((((out + (List.length [[(C.bool false), (C.bool true), (C.int Go.IntKind.u8 (0 : Int))]])) + ((out + (List.length [[(C.bool false), (C.bool true), (C.int Go.IntKind.u8 (0 : Int))]])) / (4 : Nat))) + (192 : Nat)) * (3 : Nat)) ≤ (281474976710656 : Nat)))) && (decide ((out + (List.length [[(C.bool false), (C.bool true), (C.int Go.IntKind.u8 (0 : Int))]])) ≤ (9223372036854775807 : Nat)))) <|
 (gdE (EC.isL ec_192 ((EC.encL ec_192 b0) ++ [[(C.bool false), (C.bool true), (C.int Go.IntKind.u8 (0 : Int))]])) <|
 (patterns_elements_l3 p (out + (List.length [[(C.bool false), (C.bool true), (C.int Go.IntKind.u8 (0 : Int))]])) (IntKind.wrap .i64 (i + (1 : Int))) (EC.decL ec_192 ((EC.encL ec_192 b0) ++ [[(C.bool false), (C.bool true), (C.int Go.IntKind.u8 (0 : Int))]])))))
 (brE ((((UInt8.toNat (Array.getD (ByteArray.data p) (Int.toNat i) (0 : UInt8))) : Nat) : Int) == 63)
 (gdE ((((List.all [[(C.bool true), (C.bool false), (C.int Go.IntKind.u8 (0 : Int))]] (fun (el : (List C)) => ((List.length el) == (3 : Nat)))) && (List.all (EC.encL ec_192 b0) (fun (el : (List C)) => ((List.length el) == (3 : Nat))))) && (decide (((((out + (List.length [[(C.bool true), (C.bool false), (C.int Go.IntKind.u8 (0 : Int))]])) + ((out + (List.length [[(C.bool true), (C.bool false), (C.int Go.IntKind.u8 (0 : Int))]])) / (4 : Nat))) + (192 : Nat)) * (3 : Nat)) ≤ (281474976710656 : Nat)))) && (decide ((out + (List.length [[(C.bool true), (C.bool false), (C.int Go.IntKind.u8 (0 : Int))]])) ≤ (9223372036854775807 : Nat)))) <|
 (gdE (EC.isL ec_192 ((EC.encL ec_192 b0) ++ [[(C.bool true), (C.bool false), (C.int Go.IntKind.u8 (0 : Int))]])) <|
 (patterns_elements_l3 p (out + (List.length [[(C.bool true), (C.bool false), (C.int Go.IntKind.u8 (0 : Int))]])) (IntKind.wrap .i64 (i + (1 : Int))) (EC.decL ec_192 ((EC.encL ec_192 b0) ++ [[(C.bool true), (C.bool false), (C.int Go.IntKind.u8 (0 : Int))]])))))
 (brE ((((UInt8.toNat (Array.getD (ByteArray.data p) (Int.toNat i) (0 : UInt8))) : Nat) : Int) == 92)
 (brE ((IntKind.wrap .i64 (i + (1 : Int))) == (((ByteArray.size p) : Nat) : Int))
 (some (.inl (((0 : Nat), false), (EC.decL ec_192 []))))
 (gdE ((decide ((0 : Int) ≤ (IntKind.wrap .i64 (i + (1 : Int))))) && (decide ((Int.toNat (IntKind.wrap .i64 (i + (1 : Int)))) < (ByteArray.size p)))) <|
 (gdE ((((List.all [[(C.bool false), (C.bool false), (C.int Go.IntKind.u8 (((UInt8.toNat (Array.getD (ByteArray.data p) (Int.toNat (IntKind.wrap .i64 (i + (1 : Int)))) (0 : UInt8))) : Nat) : Int))]] (fun (el : (List C)) => ((List.length el) == (3 : Nat)))) && (List.all (EC.encL ec_192 b0) (fun (el : (List C)) => ((List.length el) == (3 : Nat))))) && (decide (((((out + (List.length [[(C.bool false), (C.bool false), (C.int Go.IntKind.u8 (((UInt8.toNat (Array.getD (ByteArray.data p) (Int.toNat (IntKind.wrap .i64 (i + (1 : Int)))) (0 : UInt8))) : Nat) : Int))]])) + ((out + (List.length [[(C.bool false), (C.bool false), (C.int Go.IntKind.u8 (((UInt8.toNat (Array.getD (ByteArray.data p) (Int.toNat (IntKind.wrap .i64 (i + (1 : Int)))) (0 : UInt8))) : Nat) : Int))]])) / (4 : Nat))) + (192 : Nat)) * (3 : Nat)) ≤ (281474976710656 : Nat)))) && (decide ((out + (List.length [[(C.bool false), (C.bool false), (C.int Go.IntKind.u8 (((UInt8.toNat (Array.getD (ByteArray.data p) (Int.toNat (IntKind.wrap .i64 (i + (1 : Int)))) (0 : UInt8))) : Nat) : Int))]])) ≤ (9223372036854775807 : Nat)))) <|
 (gdE (EC.isL ec_192 ((EC.encL ec_192 b0) ++ [[(C.bool false), (C.bool false), (C.int Go.IntKind.u8 (((UInt8.toNat (Array.getD (ByteArray.data p) (Int.toNat (IntKind.wrap .i64 (i + (1 : Int)))) (0 : UInt8))) : Nat) : Int))]])) <|
 (patterns_elements_l3 p (out + (List.length [[(C.bool false), (C.bool false), (C.int Go.IntKind.u8 (((UInt8.toNat (Array.getD (ByteArray.data p) (Int.toNat (IntKind.wrap .i64 (i + (1 : Int)))) (0 : UInt8))) : Nat) : Int))]])) (IntKind.wrap .i64 ((IntKind.wrap .i64 (i + (1 : Int))) + (1 : Int))) (EC.decL ec_192 ((EC.encL ec_192 b0) ++ [[(C.bool false), (C.bool false), (C.int Go.IntKind.u8 (((UInt8.toNat (Array.getD (ByteArray.data p) (Int.toNat (IntKind.wrap .i64 (i + (1 : Int)))) (0 : UInt8))) : Nat) : Int))]])))))))
 (gdE ((decide ((0 : Int) ≤ i)) && (decide ((Int.toNat i) < (ByteArray.size p)))) <|
 (gdE ((((List.all [[(C.bool false), (C.bool false), (C.int Go.IntKind.u8 (((UInt8.toNat (Array.getD (ByteArray.data p) (Int.toNat i) (0 : UInt8))) : Nat) : Int))]] (fun (el : (List C)) => ((List.length el) == (3 : Nat)))) && (List.all (EC.encL ec_192 b0) (fun (el : (List C)) => ((List.length el) == (3 : Nat))))) && (decide (((((out + (List.length [[(C.bool false), (C.bool false), (C.int Go.IntKind.u8 (((UInt8.toNat (Array.getD (ByteArray.data p) (Int.toNat i) (0 : UInt8))) : Nat) : Int))]])) + ((out + (List.length [[(C.bool false), (C.bool false), (C.int Go.IntKind.u8 (((UInt8.toNat (Array.getD (ByteArray.data p) (Int.toNat i) (0 : UInt8))) : Nat) : Int))]])) / (4 : Nat))) + (192 : Nat)) * (3 : Nat)) ≤ (281474976710656 : Nat)))) && (decide ((out + (List.length [[(C.bool false), (C.bool false), (C.int Go.IntKind.u8 (((UInt8.toNat (Array.getD (ByteArray.data p) (Int.toNat i) (0 : UInt8))) : Nat) : Int))]])) ≤ (9223372036854775807 : Nat)))) <|
 (gdE (EC.isL ec_192 ((EC.encL ec_192 b0) ++ [[(C.bool false), (C.bool false), (C.int Go.IntKind.u8 (((UInt8.toNat (Array.getD (ByteArray.data p) (Int.toNat i) (0 : UInt8))) : Nat) : Int))]])) <|
 (patterns_elements_l3 p (out + (List.length [[(C.bool false), (C.bool false), (C.int Go.IntKind.u8 (((UInt8.toNat (Array.getD (ByteArray.data p) (Int.toNat i) (0 : UInt8))) : Nat) : Int))]])) (IntKind.wrap .i64 (i + (1 : Int))) (EC.decL ec_192 ((EC.encL ec_192 b0) ++ [[(C.bool false), (C.bool false), (C.int Go.IntKind.u8 (((UInt8.toNat (Array.getD (ByteArray.data p) (Int.toNat i) (0 : UInt8))) : Nat) : Int))]]))))))))))
 (gdE (EC.isL ec_192 (EC.encL ec_192 b0)) <|
 (some (.inr ((p, (out, (i, false))), (EC.decL ec_192 (EC.encL ec_192 b0)))))))
theorem patterns_elements_l3_eq {p : ByteArray} {out : Nat} {i : Int} {b0 : (List S192)} {r : (((Nat × Bool) × (List S192)) ⊕ ((ByteArray × Nat × Int × Bool) × (List S192)))} (h : patterns_elements_l3_t p out i b0 = some r) : patterns_elements_l3 p out i b0 = some r :=
  lS_tree (es := tab_envelope_Validate) (hs := []) [] (by kernel_rfl) trivial trivial (by kernel_rfl) h
def patterns_elements_l3_e : LEnt Tryz.prog lv X0 152 50 := lentS Tryz.prog lv X0 3 (getLoop (cdF Tryz.f152) 3) patterns_elements_l3_s patterns_elements_l3_o (fun x => patterns_elements_l3 x.1.1 x.1.2.1 x.1.2.2 x.2) (fun _ _ h => lS_from h)
def patterns_elements_cr : Cod (V × List B) ((Nat × Bool) × (List S192)) := (cPair (vTup (lCons (vRow 0) (lOne (vC cBool)))) (lOne (bRow ec_192)))
def patterns_elements_s (p : ByteArray) : Option ((Nat × Bool) × (List S192)) := fS Tryz.prog lv X0 152 patterns_elements_ca patterns_elements_cr p
def patterns_elements_t (p : ByteArray) : Option ((Nat × Bool) × (List S192)) :=
 (Option.bind (patterns_elements_l3 p (0 : Nat) (0 : Int) (EC.decL ec_192 [])) fun r0 =>
 (Sum.elim (fun r1 => (gdE (EC.isL ec_192 (EC.encL ec_192 (r1).2)) <|
 (some ((((r1).1).1, ((r1).1).2), (EC.decL ec_192 (EC.encL ec_192 (r1).2))))))
 (fun r1 => (gdE (EC.isL ec_192 (EC.encL ec_192 (r1).2)) <|
 (some (((((r1).1).2).1, true), (EC.decL ec_192 (EC.encL ec_192 (r1).2)))))) r0))
theorem patterns_elements_eq {p : ByteArray} {r : ((Nat × Bool) × (List S192))} (h : patterns_elements_t p = some r) : patterns_elements_s p = some r :=
  fS_tree (es := tab_envelope_Validate) (hs := []) [patterns_elements_l3_e] Tryz.func152 rfl (by kernel_rfl) rfl (by kernel_rfl) (by kernel_rfl) ⟨⟨_, rfl, rfl⟩, trivial⟩ trivial (by kernel_rfl) h
def patterns_elements_e : Ent Tryz.prog lv X0 := entS Tryz.prog lv X0 152 [] patterns_elements_ca patterns_elements_cr (fun x => patterns_elements_s x) (fun _ _ h => fS_call h)
def tab_patterns_elements : List (Ent Tryz.prog lv X0) := patterns_elements_e :: tab_envelope_Validate
def fits_ca : Cod (List V) ((Bool × Bool × Int) × Int × ByteArray × ByteArray) := (lCons (vAgg (lCons (vC cBool) (lCons (vC cBool) (lOne (vC (cInt .u8)))))) (lCons (vC (cInt .i64)) (lCons (vEptr (lOne cStr) 0) (lOne (vEptr (lOne cStr) 0)))))
def fits_cr : Cod (V × List B) Bool := (cFstU (cPair (vC cBool) lNil))
def fits_s (e_one : Bool) (e_many : Bool) (e_c : Int) (j : Int) (c2 : ByteArray) (c3 : ByteArray) : Option Bool := fS Tryz.prog lv X0 165 fits_ca fits_cr ((e_one, e_many, e_c), j, c2, c3)
def fits_t (e_one : Bool) (e_many : Bool) (e_c : Int) (j : Int) (c2 : ByteArray) (c3 : ByteArray) : Option Bool :=
 (brE ((decide (j < (((ByteArray.size c2) : Nat) : Int))) == true)
 (brE (e_one == false)
 (Option.bind (basic_Lower_s (ByteArray.mk (List.toArray [(UInt8.ofNat (Int.toNat e_c))]))) fun r0 =>
 (gdE ((decide ((0 : Int) ≤ (IntKind.wrap .i64 (j + (1 : Int))))) && (decide ((IntKind.wrap .i64 (j + (1 : Int))) ≤ (((ByteArray.size c3) : Nat) : Int)))) <|
 (gdE ((decide ((0 : Int) ≤ j)) && (decide (j ≤ (((Int.toNat (IntKind.wrap .i64 (j + (1 : Int)))) : Nat) : Int)))) <|
 (some ((ByteArray.toList r0) == (ByteArray.toList (ByteArray.extract c3 (Int.toNat j) (Int.toNat (IntKind.wrap .i64 (j + (1 : Int)))))))))))
 (some true))
 (some false))
theorem fits_eq {e_one : Bool} {e_many : Bool} {e_c : Int} {j : Int} {c2 : ByteArray} {c3 : ByteArray} {r : Bool} (h : fits_t e_one e_many e_c j c2 c3 = some r) : fits_s e_one e_many e_c j c2 c3 = some r :=
  fS_tree (es := tab_patterns_elements) (hs := []) [] Tryz.func165 rfl (by kernel_rfl) rfl (by kernel_rfl) (by kernel_rfl) trivial trivial (by kernel_rfl) h
def fits_e : Ent Tryz.prog lv X0 := entS Tryz.prog lv X0 165 [] fits_ca fits_cr (fun x => fits_s x.1.1 x.1.2.1 x.1.2.2 x.2.1 x.2.2.1 x.2.2.2) (fun _ _ h => fS_call h)
def tab_fits : List (Ent Tryz.prog lv X0) := fits_e :: tab_patterns_elements
def ec_4 : EC Bool where
  enc x := [.bool x]
  dec c := boolOf (c.getD 0 .ne)
  is c := isE [.bool] 0 c
  enc_dec h := decE_eq h
  dec_enc x := by rfl
  is_enc x := by simp [isE, isK]
theorem enc_4 (x : Bool) : ec_4.enc x = [.bool x] := rfl
theorem isE_4 (xs : List Bool) (n : Nat) : isE [.bool] 0 ((ec_4.encL xs).getD n []) = decide (n < xs.length) := by
  by_cases h : n < xs.length
  · simp only [EC.getD_lt _ _ h]; simp [enc_4, isE, isK, h]
  · simp only [EC.getD_ge _ _ (Nat.not_lt.1 h)]; simp [isE, isK, h]
theorem at_4_0 (xs : List Bool) (n : Nat) : boolOf (((ec_4.encL xs).getD n []).getD 0 .ne) = (xs.getD n (ec_4.dec [])) := by
  by_cases h : n < xs.length
  · simp only [EC.getD_lt _ _ h]; simp [enc_4, h, boolOf, List.getD_eq_getElem?_getD]
  · simp only [EC.getD_ge _ _ (Nat.not_lt.1 h)]; simp [Nat.not_lt.1 h, ec_4, boolOf, List.getD_eq_getElem?_getD]
theorem len_4 (xs : List Bool) (n : Nat) (h : n < xs.length) : ((ec_4.encL xs).getD n []).length = 1 := by rw [EC.getD_lt _ _ h]; rfl
theorem set_4_0_1 (xs : List Bool) (n : Nat) (a0 : Bool) : (ec_4.encL xs).set n (splice ((ec_4.encL xs).getD n []) 0 [.bool a0]) = ec_4.encL (xs.set n (a0)) := by
  by_cases h : n < xs.length
  · rw [EC.getD_lt _ _ h]; simp [EC.encL, List.map_set, enc_4, splice]
  · simp [EC.encL, List.set_eq_of_length_le, Nat.not_lt.1 h]
def ec_75 : EC (List Bool) where
  enc x := [.sl (ec_4.encL x)]
  dec c := ec_4.decL (slOf (c.getD 0 .ne))
  is c := isE [.sl] 0 c && ec_4.isL (slOf (c.getD 0 .ne))
  enc_dec h := by
    simp only [Bool.and_eq_true] at h
    have h0 := decE_eq h.1
    simp only [decE, decC] at h0
    simp only [EC.encL_decL _ h.2]
    exact h0
  dec_enc x := by simp [slOf]
  is_enc x := by simp [isE, isK, slOf]
theorem enc_75 (x : (List Bool)) : ec_75.enc x = [.sl (ec_4.encL x)] := rfl
theorem at_75_0 (xs : List (List Bool)) (n : Nat) : slOf (((ec_75.encL xs).getD n []).getD 0 .ne) = ec_4.encL (xs.getD n (ec_75.dec [])) := by
  by_cases h : n < xs.length
  · simp only [EC.getD_lt _ _ h]; simp [enc_75, h, slOf, List.getD_eq_getElem?_getD]
  · simp only [EC.getD_ge _ _ (Nat.not_lt.1 h)]; simp [Nat.not_lt.1 h, ec_75, slOf, List.getD_eq_getElem?_getD, EC.decL, EC.encL]
theorem len_75 (xs : List (List Bool)) (n : Nat) (h : n < xs.length) : ((ec_75.encL xs).getD n []).length = 1 := by rw [EC.getD_lt _ _ h]; rfl
def patterns_wild_ca : Cod (List V) ((List S192) × ByteArray) := (lCons (vC (cSl ec_192)) (lOne (vC cStr)))
def patterns_wild_l9_s : SC (((List S192) × Unit × (Unit × Unit) × Nat × Int × Int) × (ByteArray × ByteArray × ((List (List Bool)) × Nat × Nat) × (List Bool))) := sLS [0, 3, 7, 8, 9, 10] (lCons (vC (cSl ec_192)) (lCons (vPtr 0 0) (lCons (vFn 165 (lCons (vPtr 0 0) (lOne (vPtr 1 0)))) (lCons (vRow 2) (lCons (vC (cInt .i64)) (lOne (vC (cInt .i64)))))))) (lCons (oSome (bBox (lOne (vC cStr)))) (lCons (oSome (bBox (lOne (vC cStr)))) (lCons (oSome (bTab ec_75 (vRow 3))) (lOne (oSome (bRow ec_4)))))) [false, false, false, false] [] (by decide) (fun _ => rfl)
def patterns_wild_l9_o4 : SC (((List S192) × Unit × (Unit × Unit) × Nat × Int × Int × Bool) × (ByteArray × ByteArray × ((List (List Bool)) × Nat × Nat) × (List Bool))) := sLS [0, 3, 7, 8, 9, 10, 39] (lCons (vC (cSl ec_192)) (lCons (vPtr 0 0) (lCons (vFn 165 (lCons (vPtr 0 0) (lOne (vPtr 1 0)))) (lCons (vRow 2) (lCons (vC (cInt .i64)) (lCons (vC (cInt .i64)) (lOne (vC cBool)))))))) (lCons (oSome (bBox (lOne (vC cStr)))) (lCons (oSome (bBox (lOne (vC cStr)))) (lCons (oSome (bTab ec_75 (vRow 3))) (lOne (oSome (bRow ec_4)))))) [false, false, false, false] [] (by decide) (fun _ => rfl)
def patterns_wild_l9_o : OC (((List S192) × Unit × (Unit × Unit) × Nat × Int × Int × Bool) × (ByteArray × ByteArray × ((List (List Bool)) × Nat × Nat) × (List Bool))) := oAt 4 patterns_wild_l9_o4
def patterns_wild_l9 (l : (List S192)) (can : Nat) (i : Int) (j : Int) (b0 : ByteArray) (b1 : ByteArray) (b2 : (List (List Bool))) (b2_1 : Nat) (b2_2 : Nat) (b3 : (List Bool)) : Option (((List S192) × Unit × (Unit × Unit) × Nat × Int × Int × Bool) × (ByteArray × ByteArray × ((List (List Bool)) × Nat × Nat) × (List Bool))) := lS Tryz.prog lv X0 155 166 (getLoop (cdF Tryz.f155) 9) patterns_wild_l9_s patterns_wild_l9_o ((l, (), ((), ()), can, i, j), (b0, b1, (b2, b2_1, b2_2), b3))
def patterns_wild_l9_t (l : (List S192)) (can : Nat) (i : Int) (j : Int) (b0 : ByteArray) (b1 : ByteArray) (b2 : (List (List Bool))) (b2_1 : Nat) (b2_2 : Nat) (b3 : (List Bool)) : Option (((List S192) × Unit × (Unit × Unit) × Nat × Int × Int × Bool) × (ByteArray × ByteArray × ((List (List Bool)) × Nat × Nat) × (List Bool))) :=
 (brE (decide (j ≥ (0 : Int)))
 (brE (i == (((List.length (EC.encL ec_192 l)) : Nat) : Int))
 (gdE ((decide ((0 : Int) ≤ i)) && (decide (i < ((can : Nat) : Int)))) <|
 (gdE (decide ((Int.toNat i) < (List.length (EC.encL ec_75 b2)))) <|
 (brE ((Int.toNat i) == b2_1)
 (gdE ((decide ((0 : Int) ≤ j)) && (decide (j < ((b2_2 : Nat) : Int)))) <|
 (gdE ((decide ((Int.toNat j) < (List.length (EC.encL ec_4 b3)))) && ((List.length (List.getD (EC.encL ec_4 b3) (Int.toNat j) [])) == (1 : Nat))) <|
 (gdE (EC.isL ec_192 (EC.encL ec_192 l)) <|
 (gdE (EC.isL ec_75 (EC.encL ec_75 b2)) <|
 (gdE (EC.isL ec_4 (List.set (EC.encL ec_4 b3) (Int.toNat j) (splice (List.getD (EC.encL ec_4 b3) (Int.toNat j) []) (0 : Nat) [(C.bool (j == (((ByteArray.size b0) : Nat) : Int)))]))) <|
 (patterns_wild_l9 (EC.decL ec_192 (EC.encL ec_192 l)) can i (IntKind.wrap .i64 (j - (1 : Int))) b0 b1 (EC.decL ec_75 (EC.encL ec_75 b2)) b2_1 b2_2 (EC.decL ec_4 (List.set (EC.encL ec_4 b3) (Int.toNat j) (splice (List.getD (EC.encL ec_4 b3) (Int.toNat j) []) (0 : Nat) [(C.bool (j == (((ByteArray.size b0) : Nat) : Int)))])))))))))
 (gdE ((List.length (List.getD (EC.encL ec_75 b2) (Int.toNat i) [])) == (1 : Nat)) <|
 (gdE (isP [K1.sl] (0 : Nat) (List.getD (EC.encL ec_75 b2) (Int.toNat i) [])) <|
 (gdE (decide ((0 : Int) ≤ j)) <|
 (gdE ((decide ((Int.toNat j) < (List.length (slOf (List.getD (List.getD (EC.encL ec_75 b2) (Int.toNat i) []) (0 : Nat) C.ne))))) && (isE [K1.bool] (0 : Nat) (List.getD (slOf (List.getD (List.getD (EC.encL ec_75 b2) (Int.toNat i) []) (0 : Nat) C.ne)) (Int.toNat j) []))) <|
 none)))))))
 (gdE (decide ((0 : Int) ≤ i)) <|
 (gdE ((decide ((Int.toNat i) < (List.length (EC.encL ec_192 l)))) && (isE [K1.bool, K1.bool, (K1.int Go.IntKind.u8)] (0 : Nat) (List.getD (EC.encL ec_192 l) (Int.toNat i) []))) <|
 (brE (boolOf (List.getD (List.getD (EC.encL ec_192 l) (Int.toNat i) []) (1 : Nat) C.ne))
 (gdE ((decide ((0 : Int) ≤ i)) && (decide (i < ((can : Nat) : Int)))) <|
 (gdE (decide ((Int.toNat i) < (List.length (EC.encL ec_75 b2)))) <|
 (brE ((Int.toNat i) == b2_1)
 (gdE ((decide ((0 : Int) ≤ (IntKind.wrap .i64 (i + (1 : Int))))) && (decide ((IntKind.wrap .i64 (i + (1 : Int))) < ((can : Nat) : Int)))) <|
 (gdE (decide ((Int.toNat (IntKind.wrap .i64 (i + (1 : Int)))) < (List.length (EC.encL ec_75 b2)))) <|
 (brE ((Int.toNat (IntKind.wrap .i64 (i + (1 : Int)))) == b2_1)
 (gdE ((decide ((0 : Int) ≤ j)) && (decide (j < ((b2_2 : Nat) : Int)))) <|
 (gdE ((decide ((Int.toNat j) < (List.length (EC.encL ec_4 b3)))) && ((List.length (List.getD (EC.encL ec_4 b3) (Int.toNat j) [])) == (1 : Nat))) <|
 (gdE (isP [K1.bool] (0 : Nat) (List.getD (EC.encL ec_4 b3) (Int.toNat j) [])) <|
 (brE ((boolOf (List.getD (List.getD (EC.encL ec_4 b3) (Int.toNat j) []) (0 : Nat) C.ne)) == false)
 (brE ((decide (j < (((ByteArray.size b0) : Nat) : Int))) == true)
 (gdE ((decide ((0 : Int) ≤ i)) && (decide (i < ((can : Nat) : Int)))) <|
 (gdE (decide ((Int.toNat i) < (List.length (EC.encL ec_75 b2)))) <|
 (brE ((Int.toNat i) == b2_1)
 (gdE ((decide ((0 : Int) ≤ (IntKind.wrap .i64 (j + (1 : Int))))) && (decide ((IntKind.wrap .i64 (j + (1 : Int))) < ((b2_2 : Nat) : Int)))) <|
 (gdE ((decide ((Int.toNat (IntKind.wrap .i64 (j + (1 : Int)))) < (List.length (EC.encL ec_4 b3)))) && ((List.length (List.getD (EC.encL ec_4 b3) (Int.toNat (IntKind.wrap .i64 (j + (1 : Int)))) [])) == (1 : Nat))) <|
 (gdE (isP [K1.bool] (0 : Nat) (List.getD (EC.encL ec_4 b3) (Int.toNat (IntKind.wrap .i64 (j + (1 : Int)))) [])) <|
 (gdE ((decide ((0 : Int) ≤ j)) && (decide (j < ((b2_2 : Nat) : Int)))) <|
 (gdE ((decide ((Int.toNat j) < (List.length (EC.encL ec_4 b3)))) && ((List.length (List.getD (EC.encL ec_4 b3) (Int.toNat j) [])) == (1 : Nat))) <|
 (gdE (EC.isL ec_192 (EC.encL ec_192 l)) <|
 (gdE (EC.isL ec_75 (EC.encL ec_75 b2)) <|
 (gdE (EC.isL ec_4 (List.set (EC.encL ec_4 b3) (Int.toNat j) (splice (List.getD (EC.encL ec_4 b3) (Int.toNat j) []) (0 : Nat) [(C.bool (boolOf (List.getD (List.getD (EC.encL ec_4 b3) (Int.toNat (IntKind.wrap .i64 (j + (1 : Int)))) []) (0 : Nat) C.ne)))]))) <|
 (patterns_wild_l9 (EC.decL ec_192 (EC.encL ec_192 l)) can i (IntKind.wrap .i64 (j - (1 : Int))) b0 b1 (EC.decL ec_75 (EC.encL ec_75 b2)) b2_1 b2_2 (EC.decL ec_4 (List.set (EC.encL ec_4 b3) (Int.toNat j) (splice (List.getD (EC.encL ec_4 b3) (Int.toNat j) []) (0 : Nat) [(C.bool (boolOf (List.getD (List.getD (EC.encL ec_4 b3) (Int.toNat (IntKind.wrap .i64 (j + (1 : Int)))) []) (0 : Nat) C.ne)))]))))))))))))
 (gdE ((List.length (List.getD (EC.encL ec_75 b2) (Int.toNat i) [])) == (1 : Nat)) <|
 (gdE (isP [K1.sl] (0 : Nat) (List.getD (EC.encL ec_75 b2) (Int.toNat i) [])) <|
 (gdE (decide ((0 : Int) ≤ (IntKind.wrap .i64 (j + (1 : Int))))) <|
 (gdE ((decide ((Int.toNat (IntKind.wrap .i64 (j + (1 : Int)))) < (List.length (slOf (List.getD (List.getD (EC.encL ec_75 b2) (Int.toNat i) []) (0 : Nat) C.ne))))) && (isE [K1.bool] (0 : Nat) (List.getD (slOf (List.getD (List.getD (EC.encL ec_75 b2) (Int.toNat i) []) (0 : Nat) C.ne)) (Int.toNat (IntKind.wrap .i64 (j + (1 : Int)))) []))) <|
 (gdE ((decide ((0 : Int) ≤ j)) && (decide (j < ((b2_2 : Nat) : Int)))) <|
 (gdE ((decide ((Int.toNat j) < (List.length (EC.encL ec_4 b3)))) && ((List.length (List.getD (EC.encL ec_4 b3) (Int.toNat j) [])) == (1 : Nat))) <|
 (gdE (EC.isL ec_192 (EC.encL ec_192 l)) <|
 (gdE (EC.isL ec_75 (EC.encL ec_75 b2)) <|
 (gdE (EC.isL ec_4 (List.set (EC.encL ec_4 b3) (Int.toNat j) (splice (List.getD (EC.encL ec_4 b3) (Int.toNat j) []) (0 : Nat) [(C.bool (boolOf (List.getD (List.getD (slOf (List.getD (List.getD (EC.encL ec_75 b2) (Int.toNat i) []) (0 : Nat) C.ne)) (Int.toNat (IntKind.wrap .i64 (j + (1 : Int)))) []) (0 : Nat) C.ne)))]))) <|
 (patterns_wild_l9 (EC.decL ec_192 (EC.encL ec_192 l)) can i (IntKind.wrap .i64 (j - (1 : Int))) b0 b1 (EC.decL ec_75 (EC.encL ec_75 b2)) b2_1 b2_2 (EC.decL ec_4 (List.set (EC.encL ec_4 b3) (Int.toNat j) (splice (List.getD (EC.encL ec_4 b3) (Int.toNat j) []) (0 : Nat) [(C.bool (boolOf (List.getD (List.getD (slOf (List.getD (List.getD (EC.encL ec_75 b2) (Int.toNat i) []) (0 : Nat) C.ne)) (Int.toNat (IntKind.wrap .i64 (j + (1 : Int)))) []) (0 : Nat) C.ne)))]))))))))))))))))
 (gdE ((decide ((0 : Int) ≤ j)) && (decide (j < ((b2_2 : Nat) : Int)))) <|
 (gdE ((decide ((Int.toNat j) < (List.length (EC.encL ec_4 b3)))) && ((List.length (List.getD (EC.encL ec_4 b3) (Int.toNat j) [])) == (1 : Nat))) <|
 (gdE (EC.isL ec_192 (EC.encL ec_192 l)) <|
 (gdE (EC.isL ec_75 (EC.encL ec_75 b2)) <|
 (gdE (EC.isL ec_4 (List.set (EC.encL ec_4 b3) (Int.toNat j) (splice (List.getD (EC.encL ec_4 b3) (Int.toNat j) []) (0 : Nat) [(C.bool false)]))) <|
 (patterns_wild_l9 (EC.decL ec_192 (EC.encL ec_192 l)) can i (IntKind.wrap .i64 (j - (1 : Int))) b0 b1 (EC.decL ec_75 (EC.encL ec_75 b2)) b2_1 b2_2 (EC.decL ec_4 (List.set (EC.encL ec_4 b3) (Int.toNat j) (splice (List.getD (EC.encL ec_4 b3) (Int.toNat j) []) (0 : Nat) [(C.bool false)]))))))))))
 (gdE ((decide ((0 : Int) ≤ j)) && (decide (j < ((b2_2 : Nat) : Int)))) <|
 (gdE ((decide ((Int.toNat j) < (List.length (EC.encL ec_4 b3)))) && ((List.length (List.getD (EC.encL ec_4 b3) (Int.toNat j) [])) == (1 : Nat))) <|
 (gdE (EC.isL ec_192 (EC.encL ec_192 l)) <|
 (gdE (EC.isL ec_75 (EC.encL ec_75 b2)) <|
 (gdE (EC.isL ec_4 (List.set (EC.encL ec_4 b3) (Int.toNat j) (splice (List.getD (EC.encL ec_4 b3) (Int.toNat j) []) (0 : Nat) [(C.bool true)]))) <|
 (patterns_wild_l9 (EC.decL ec_192 (EC.encL ec_192 l)) can i (IntKind.wrap .i64 (j - (1 : Int))) b0 b1 (EC.decL ec_75 (EC.encL ec_75 b2)) b2_1 b2_2 (EC.decL ec_4 (List.set (EC.encL ec_4 b3) (Int.toNat j) (splice (List.getD (EC.encL ec_4 b3) (Int.toNat j) []) (0 : Nat) [(C.bool true)])))))))))))))
 (gdE ((List.length (List.getD (EC.encL ec_75 b2) (Int.toNat (IntKind.wrap .i64 (i + (1 : Int)))) [])) == (1 : Nat)) <|
 (gdE (isP [K1.sl] (0 : Nat) (List.getD (EC.encL ec_75 b2) (Int.toNat (IntKind.wrap .i64 (i + (1 : Int)))) [])) <|
 (gdE (decide ((0 : Int) ≤ j)) <|
 (gdE ((decide ((Int.toNat j) < (List.length (slOf (List.getD (List.getD (EC.encL ec_75 b2) (Int.toNat (IntKind.wrap .i64 (i + (1 : Int)))) []) (0 : Nat) C.ne))))) && (isE [K1.bool] (0 : Nat) (List.getD (slOf (List.getD (List.getD (EC.encL ec_75 b2) (Int.toNat (IntKind.wrap .i64 (i + (1 : Int)))) []) (0 : Nat) C.ne)) (Int.toNat j) []))) <|
 (brE ((boolOf (List.getD (List.getD (slOf (List.getD (List.getD (EC.encL ec_75 b2) (Int.toNat (IntKind.wrap .i64 (i + (1 : Int)))) []) (0 : Nat) C.ne)) (Int.toNat j) []) (0 : Nat) C.ne)) == false)
 (brE ((decide (j < (((ByteArray.size b0) : Nat) : Int))) == true)
 (gdE ((decide ((0 : Int) ≤ i)) && (decide (i < ((can : Nat) : Int)))) <|
 (gdE (decide ((Int.toNat i) < (List.length (EC.encL ec_75 b2)))) <|
 (brE ((Int.toNat i) == b2_1)
 (gdE ((decide ((0 : Int) ≤ (IntKind.wrap .i64 (j + (1 : Int))))) && (decide ((IntKind.wrap .i64 (j + (1 : Int))) < ((b2_2 : Nat) : Int)))) <|
 (gdE ((decide ((Int.toNat (IntKind.wrap .i64 (j + (1 : Int)))) < (List.length (EC.encL ec_4 b3)))) && ((List.length (List.getD (EC.encL ec_4 b3) (Int.toNat (IntKind.wrap .i64 (j + (1 : Int)))) [])) == (1 : Nat))) <|
 (gdE (isP [K1.bool] (0 : Nat) (List.getD (EC.encL ec_4 b3) (Int.toNat (IntKind.wrap .i64 (j + (1 : Int)))) [])) <|
 (gdE ((decide ((0 : Int) ≤ j)) && (decide (j < ((b2_2 : Nat) : Int)))) <|
 (gdE ((decide ((Int.toNat j) < (List.length (EC.encL ec_4 b3)))) && ((List.length (List.getD (EC.encL ec_4 b3) (Int.toNat j) [])) == (1 : Nat))) <|
 (gdE (EC.isL ec_192 (EC.encL ec_192 l)) <|
 (gdE (EC.isL ec_75 (EC.encL ec_75 b2)) <|
 (gdE (EC.isL ec_4 (List.set (EC.encL ec_4 b3) (Int.toNat j) (splice (List.getD (EC.encL ec_4 b3) (Int.toNat j) []) (0 : Nat) [(C.bool (boolOf (List.getD (List.getD (EC.encL ec_4 b3) (Int.toNat (IntKind.wrap .i64 (j + (1 : Int)))) []) (0 : Nat) C.ne)))]))) <|
 (patterns_wild_l9 (EC.decL ec_192 (EC.encL ec_192 l)) can i (IntKind.wrap .i64 (j - (1 : Int))) b0 b1 (EC.decL ec_75 (EC.encL ec_75 b2)) b2_1 b2_2 (EC.decL ec_4 (List.set (EC.encL ec_4 b3) (Int.toNat j) (splice (List.getD (EC.encL ec_4 b3) (Int.toNat j) []) (0 : Nat) [(C.bool (boolOf (List.getD (List.getD (EC.encL ec_4 b3) (Int.toNat (IntKind.wrap .i64 (j + (1 : Int)))) []) (0 : Nat) C.ne)))]))))))))))))
 (gdE ((List.length (List.getD (EC.encL ec_75 b2) (Int.toNat i) [])) == (1 : Nat)) <|
 (gdE (isP [K1.sl] (0 : Nat) (List.getD (EC.encL ec_75 b2) (Int.toNat i) [])) <|
 (gdE (decide ((0 : Int) ≤ (IntKind.wrap .i64 (j + (1 : Int))))) <|
 (gdE ((decide ((Int.toNat (IntKind.wrap .i64 (j + (1 : Int)))) < (List.length (slOf (List.getD (List.getD (EC.encL ec_75 b2) (Int.toNat i) []) (0 : Nat) C.ne))))) && (isE [K1.bool] (0 : Nat) (List.getD (slOf (List.getD (List.getD (EC.encL ec_75 b2) (Int.toNat i) []) (0 : Nat) C.ne)) (Int.toNat (IntKind.wrap .i64 (j + (1 : Int)))) []))) <|
 (gdE ((decide ((0 : Int) ≤ j)) && (decide (j < ((b2_2 : Nat) : Int)))) <|
 (gdE ((decide ((Int.toNat j) < (List.length (EC.encL ec_4 b3)))) && ((List.length (List.getD (EC.encL ec_4 b3) (Int.toNat j) [])) == (1 : Nat))) <|
 (gdE (EC.isL ec_192 (EC.encL ec_192 l)) <|
 (gdE (EC.isL ec_75 (EC.encL ec_75 b2)) <|
 (gdE (EC.isL ec_4 (List.set (EC.encL ec_4 b3) (Int.toNat j) (splice (List.getD (EC.encL ec_4 b3) (Int.toNat j) []) (0 : Nat) [(C.bool (boolOf (List.getD (List.getD (slOf (List.getD (List.getD (EC.encL ec_75 b2) (Int.toNat i) []) (0 : Nat) C.ne)) (Int.toNat (IntKind.wrap .i64 (j + (1 : Int)))) []) (0 : Nat) C.ne)))]))) <|
 (patterns_wild_l9 (EC.decL ec_192 (EC.encL ec_192 l)) can i (IntKind.wrap .i64 (j - (1 : Int))) b0 b1 (EC.decL ec_75 (EC.encL ec_75 b2)) b2_1 b2_2 (EC.decL ec_4 (List.set (EC.encL ec_4 b3) (Int.toNat j) (splice (List.getD (EC.encL ec_4 b3) (Int.toNat j) []) (0 : Nat) [(C.bool (boolOf (List.getD (List.getD (slOf (List.getD (List.getD (EC.encL ec_75 b2) (Int.toNat i) []) (0 : Nat) C.ne)) (Int.toNat (IntKind.wrap .i64 (j + (1 : Int)))) []) (0 : Nat) C.ne)))]))))))))))))))))
 (gdE ((decide ((0 : Int) ≤ j)) && (decide (j < ((b2_2 : Nat) : Int)))) <|
 (gdE ((decide ((Int.toNat j) < (List.length (EC.encL ec_4 b3)))) && ((List.length (List.getD (EC.encL ec_4 b3) (Int.toNat j) [])) == (1 : Nat))) <|
 (gdE (EC.isL ec_192 (EC.encL ec_192 l)) <|
 (gdE (EC.isL ec_75 (EC.encL ec_75 b2)) <|
 (gdE (EC.isL ec_4 (List.set (EC.encL ec_4 b3) (Int.toNat j) (splice (List.getD (EC.encL ec_4 b3) (Int.toNat j) []) (0 : Nat) [(C.bool false)]))) <|
 (patterns_wild_l9 (EC.decL ec_192 (EC.encL ec_192 l)) can i (IntKind.wrap .i64 (j - (1 : Int))) b0 b1 (EC.decL ec_75 (EC.encL ec_75 b2)) b2_1 b2_2 (EC.decL ec_4 (List.set (EC.encL ec_4 b3) (Int.toNat j) (splice (List.getD (EC.encL ec_4 b3) (Int.toNat j) []) (0 : Nat) [(C.bool false)]))))))))))
 (gdE ((decide ((0 : Int) ≤ j)) && (decide (j < ((b2_2 : Nat) : Int)))) <|
 (gdE ((decide ((Int.toNat j) < (List.length (EC.encL ec_4 b3)))) && ((List.length (List.getD (EC.encL ec_4 b3) (Int.toNat j) [])) == (1 : Nat))) <|
 (gdE (EC.isL ec_192 (EC.encL ec_192 l)) <|
 (gdE (EC.isL ec_75 (EC.encL ec_75 b2)) <|
 (gdE (EC.isL ec_4 (List.set (EC.encL ec_4 b3) (Int.toNat j) (splice (List.getD (EC.encL ec_4 b3) (Int.toNat j) []) (0 : Nat) [(C.bool true)]))) <|
 (patterns_wild_l9 (EC.decL ec_192 (EC.encL ec_192 l)) can i (IntKind.wrap .i64 (j - (1 : Int))) b0 b1 (EC.decL ec_75 (EC.encL ec_75 b2)) b2_1 b2_2 (EC.decL ec_4 (List.set (EC.encL ec_4 b3) (Int.toNat j) (splice (List.getD (EC.encL ec_4 b3) (Int.toNat j) []) (0 : Nat) [(C.bool true)])))))))))))))))))
 (gdE ((List.length (List.getD (EC.encL ec_75 b2) (Int.toNat i) [])) == (1 : Nat)) <|
 (gdE (isP [K1.sl] (0 : Nat) (List.getD (EC.encL ec_75 b2) (Int.toNat i) [])) <|
 (gdE ((decide ((0 : Int) ≤ (IntKind.wrap .i64 (i + (1 : Int))))) && (decide ((IntKind.wrap .i64 (i + (1 : Int))) < ((can : Nat) : Int)))) <|
 (gdE (decide ((Int.toNat (IntKind.wrap .i64 (i + (1 : Int)))) < (List.length (EC.encL ec_75 b2)))) <|
 (brE ((Int.toNat (IntKind.wrap .i64 (i + (1 : Int)))) == b2_1)
 (gdE ((decide ((0 : Int) ≤ j)) && (decide (j < ((b2_2 : Nat) : Int)))) <|
 (gdE ((decide ((Int.toNat j) < (List.length (EC.encL ec_4 b3)))) && ((List.length (List.getD (EC.encL ec_4 b3) (Int.toNat j) [])) == (1 : Nat))) <|
 (gdE (isP [K1.bool] (0 : Nat) (List.getD (EC.encL ec_4 b3) (Int.toNat j) [])) <|
 (brE ((boolOf (List.getD (List.getD (EC.encL ec_4 b3) (Int.toNat j) []) (0 : Nat) C.ne)) == false)
 (brE ((decide (j < (((ByteArray.size b0) : Nat) : Int))) == true)
 (gdE ((decide ((0 : Int) ≤ i)) && (decide (i < ((can : Nat) : Int)))) <|
 (gdE (decide ((Int.toNat i) < (List.length (EC.encL ec_75 b2)))) <|
 (brE ((Int.toNat i) == b2_1)
 (gdE ((decide ((0 : Int) ≤ (IntKind.wrap .i64 (j + (1 : Int))))) && (decide ((IntKind.wrap .i64 (j + (1 : Int))) < ((b2_2 : Nat) : Int)))) <|
 (gdE ((decide ((Int.toNat (IntKind.wrap .i64 (j + (1 : Int)))) < (List.length (EC.encL ec_4 b3)))) && ((List.length (List.getD (EC.encL ec_4 b3) (Int.toNat (IntKind.wrap .i64 (j + (1 : Int)))) [])) == (1 : Nat))) <|
 (gdE (isP [K1.bool] (0 : Nat) (List.getD (EC.encL ec_4 b3) (Int.toNat (IntKind.wrap .i64 (j + (1 : Int)))) [])) <|
 (gdE (decide ((0 : Int) ≤ j)) <|
 (gdE ((decide ((Int.toNat j) < (List.length (slOf (List.getD (List.getD (EC.encL ec_75 b2) (Int.toNat i) []) (0 : Nat) C.ne))))) && (isE [K1.bool] (0 : Nat) (List.getD (slOf (List.getD (List.getD (EC.encL ec_75 b2) (Int.toNat i) []) (0 : Nat) C.ne)) (Int.toNat j) []))) <|
 none)))))
 (gdE ((List.length (List.getD (EC.encL ec_75 b2) (Int.toNat i) [])) == (1 : Nat)) <|
 (gdE (isP [K1.sl] (0 : Nat) (List.getD (EC.encL ec_75 b2) (Int.toNat i) [])) <|
 (gdE (decide ((0 : Int) ≤ (IntKind.wrap .i64 (j + (1 : Int))))) <|
 (gdE ((decide ((Int.toNat (IntKind.wrap .i64 (j + (1 : Int)))) < (List.length (slOf (List.getD (List.getD (EC.encL ec_75 b2) (Int.toNat i) []) (0 : Nat) C.ne))))) && (isE [K1.bool] (0 : Nat) (List.getD (slOf (List.getD (List.getD (EC.encL ec_75 b2) (Int.toNat i) []) (0 : Nat) C.ne)) (Int.toNat (IntKind.wrap .i64 (j + (1 : Int)))) []))) <|
 (gdE (decide ((0 : Int) ≤ j)) <|
 (gdE ((decide ((Int.toNat j) < (List.length (slOf (List.getD (List.getD (EC.encL ec_75 b2) (Int.toNat i) []) (0 : Nat) C.ne))))) && (isE [K1.bool] (0 : Nat) (List.getD (slOf (List.getD (List.getD (EC.encL ec_75 b2) (Int.toNat i) []) (0 : Nat) C.ne)) (Int.toNat j) []))) <|
 none)))))))))
 (gdE (decide ((0 : Int) ≤ j)) <|
 (gdE ((decide ((Int.toNat j) < (List.length (slOf (List.getD (List.getD (EC.encL ec_75 b2) (Int.toNat i) []) (0 : Nat) C.ne))))) && (isE [K1.bool] (0 : Nat) (List.getD (slOf (List.getD (List.getD (EC.encL ec_75 b2) (Int.toNat i) []) (0 : Nat) C.ne)) (Int.toNat j) []))) <|
 none)))
 (gdE (decide ((0 : Int) ≤ j)) <|
 (gdE ((decide ((Int.toNat j) < (List.length (slOf (List.getD (List.getD (EC.encL ec_75 b2) (Int.toNat i) []) (0 : Nat) C.ne))))) && (isE [K1.bool] (0 : Nat) (List.getD (slOf (List.getD (List.getD (EC.encL ec_75 b2) (Int.toNat i) []) (0 : Nat) C.ne)) (Int.toNat j) []))) <|
 none))))))
 (gdE ((List.length (List.getD (EC.encL ec_75 b2) (Int.toNat (IntKind.wrap .i64 (i + (1 : Int)))) [])) == (1 : Nat)) <|
 (gdE (isP [K1.sl] (0 : Nat) (List.getD (EC.encL ec_75 b2) (Int.toNat (IntKind.wrap .i64 (i + (1 : Int)))) [])) <|
 (gdE (decide ((0 : Int) ≤ j)) <|
 (gdE ((decide ((Int.toNat j) < (List.length (slOf (List.getD (List.getD (EC.encL ec_75 b2) (Int.toNat (IntKind.wrap .i64 (i + (1 : Int)))) []) (0 : Nat) C.ne))))) && (isE [K1.bool] (0 : Nat) (List.getD (slOf (List.getD (List.getD (EC.encL ec_75 b2) (Int.toNat (IntKind.wrap .i64 (i + (1 : Int)))) []) (0 : Nat) C.ne)) (Int.toNat j) []))) <|
 (brE ((boolOf (List.getD (List.getD (slOf (List.getD (List.getD (EC.encL ec_75 b2) (Int.toNat (IntKind.wrap .i64 (i + (1 : Int)))) []) (0 : Nat) C.ne)) (Int.toNat j) []) (0 : Nat) C.ne)) == false)
 (brE ((decide (j < (((ByteArray.size b0) : Nat) : Int))) == true)
 (gdE ((decide ((0 : Int) ≤ i)) && (decide (i < ((can : Nat) : Int)))) <|
 (gdE (decide ((Int.toNat i) < (List.length (EC.encL ec_75 b2)))) <|
 (brE ((Int.toNat i) == b2_1)
 (gdE ((decide ((0 : Int) ≤ (IntKind.wrap .i64 (j + (1 : Int))))) && (decide ((IntKind.wrap .i64 (j + (1 : Int))) < ((b2_2 : Nat) : Int)))) <|
 (gdE ((decide ((Int.toNat (IntKind.wrap .i64 (j + (1 : Int)))) < (List.length (EC.encL ec_4 b3)))) && ((List.length (List.getD (EC.encL ec_4 b3) (Int.toNat (IntKind.wrap .i64 (j + (1 : Int)))) [])) == (1 : Nat))) <|
 (gdE (isP [K1.bool] (0 : Nat) (List.getD (EC.encL ec_4 b3) (Int.toNat (IntKind.wrap .i64 (j + (1 : Int)))) [])) <|
 (gdE (decide ((0 : Int) ≤ j)) <|
 (gdE ((decide ((Int.toNat j) < (List.length (slOf (List.getD (List.getD (EC.encL ec_75 b2) (Int.toNat i) []) (0 : Nat) C.ne))))) && (isE [K1.bool] (0 : Nat) (List.getD (slOf (List.getD (List.getD (EC.encL ec_75 b2) (Int.toNat i) []) (0 : Nat) C.ne)) (Int.toNat j) []))) <|
 none)))))
 (gdE ((List.length (List.getD (EC.encL ec_75 b2) (Int.toNat i) [])) == (1 : Nat)) <|
 (gdE (isP [K1.sl] (0 : Nat) (List.getD (EC.encL ec_75 b2) (Int.toNat i) [])) <|
 (gdE (decide ((0 : Int) ≤ (IntKind.wrap .i64 (j + (1 : Int))))) <|
 (gdE ((decide ((Int.toNat (IntKind.wrap .i64 (j + (1 : Int)))) < (List.length (slOf (List.getD (List.getD (EC.encL ec_75 b2) (Int.toNat i) []) (0 : Nat) C.ne))))) && (isE [K1.bool] (0 : Nat) (List.getD (slOf (List.getD (List.getD (EC.encL ec_75 b2) (Int.toNat i) []) (0 : Nat) C.ne)) (Int.toNat (IntKind.wrap .i64 (j + (1 : Int)))) []))) <|
 (gdE (decide ((0 : Int) ≤ j)) <|
 (gdE ((decide ((Int.toNat j) < (List.length (slOf (List.getD (List.getD (EC.encL ec_75 b2) (Int.toNat i) []) (0 : Nat) C.ne))))) && (isE [K1.bool] (0 : Nat) (List.getD (slOf (List.getD (List.getD (EC.encL ec_75 b2) (Int.toNat i) []) (0 : Nat) C.ne)) (Int.toNat j) []))) <|
 none)))))))))
 (gdE (decide ((0 : Int) ≤ j)) <|
 (gdE ((decide ((Int.toNat j) < (List.length (slOf (List.getD (List.getD (EC.encL ec_75 b2) (Int.toNat i) []) (0 : Nat) C.ne))))) && (isE [K1.bool] (0 : Nat) (List.getD (slOf (List.getD (List.getD (EC.encL ec_75 b2) (Int.toNat i) []) (0 : Nat) C.ne)) (Int.toNat j) []))) <|
 none)))
 (gdE (decide ((0 : Int) ≤ j)) <|
 (gdE ((decide ((Int.toNat j) < (List.length (slOf (List.getD (List.getD (EC.encL ec_75 b2) (Int.toNat i) []) (0 : Nat) C.ne))))) && (isE [K1.bool] (0 : Nat) (List.getD (slOf (List.getD (List.getD (EC.encL ec_75 b2) (Int.toNat i) []) (0 : Nat) C.ne)) (Int.toNat j) []))) <|
 none)))))))))))))))
 (gdE ((decide ((0 : Int) ≤ i)) && (decide (i < ((can : Nat) : Int)))) <|
 (gdE (decide ((Int.toNat i) < (List.length (EC.encL ec_75 b2)))) <|
 (brE ((Int.toNat i) == b2_1)
 (gdE (decide ((0 : Int) ≤ i)) <|
 (gdE ((decide ((Int.toNat i) < (List.length (EC.encL ec_192 l)))) && (isE [K1.bool, K1.bool, (K1.int Go.IntKind.u8)] (0 : Nat) (List.getD (EC.encL ec_192 l) (Int.toNat i) []))) <|
 (Option.bind (fits_s (boolOf (List.getD (List.getD (EC.encL ec_192 l) (Int.toNat i) []) (0 : Nat) C.ne)) (boolOf (List.getD (List.getD (EC.encL ec_192 l) (Int.toNat i) []) (1 : Nat) C.ne)) (intOf (List.getD (List.getD (EC.encL ec_192 l) (Int.toNat i) []) (2 : Nat) C.ne)) j b0 b1) fun r0 =>
 (brE (r0 == true)
 (gdE ((decide ((0 : Int) ≤ (IntKind.wrap .i64 (i + (1 : Int))))) && (decide ((IntKind.wrap .i64 (i + (1 : Int))) < ((can : Nat) : Int)))) <|
 (gdE (decide ((Int.toNat (IntKind.wrap .i64 (i + (1 : Int)))) < (List.length (EC.encL ec_75 b2)))) <|
 (brE ((Int.toNat (IntKind.wrap .i64 (i + (1 : Int)))) == b2_1)
 (gdE ((decide ((0 : Int) ≤ (IntKind.wrap .i64 (j + (1 : Int))))) && (decide ((IntKind.wrap .i64 (j + (1 : Int))) < ((b2_2 : Nat) : Int)))) <|
 (gdE ((decide ((Int.toNat (IntKind.wrap .i64 (j + (1 : Int)))) < (List.length (EC.encL ec_4 b3)))) && ((List.length (List.getD (EC.encL ec_4 b3) (Int.toNat (IntKind.wrap .i64 (j + (1 : Int)))) [])) == (1 : Nat))) <|
 (gdE (isP [K1.bool] (0 : Nat) (List.getD (EC.encL ec_4 b3) (Int.toNat (IntKind.wrap .i64 (j + (1 : Int)))) [])) <|
 (gdE ((decide ((0 : Int) ≤ j)) && (decide (j < ((b2_2 : Nat) : Int)))) <|
 (gdE ((decide ((Int.toNat j) < (List.length (EC.encL ec_4 b3)))) && ((List.length (List.getD (EC.encL ec_4 b3) (Int.toNat j) [])) == (1 : Nat))) <|
 (gdE (EC.isL ec_192 (EC.encL ec_192 l)) <|
 (gdE (EC.isL ec_75 (EC.encL ec_75 b2)) <|
 (gdE (EC.isL ec_4 (List.set (EC.encL ec_4 b3) (Int.toNat j) (splice (List.getD (EC.encL ec_4 b3) (Int.toNat j) []) (0 : Nat) [(C.bool (boolOf (List.getD (List.getD (EC.encL ec_4 b3) (Int.toNat (IntKind.wrap .i64 (j + (1 : Int)))) []) (0 : Nat) C.ne)))]))) <|
 (patterns_wild_l9 (EC.decL ec_192 (EC.encL ec_192 l)) can i (IntKind.wrap .i64 (j - (1 : Int))) b0 b1 (EC.decL ec_75 (EC.encL ec_75 b2)) b2_1 b2_2 (EC.decL ec_4 (List.set (EC.encL ec_4 b3) (Int.toNat j) (splice (List.getD (EC.encL ec_4 b3) (Int.toNat j) []) (0 : Nat) [(C.bool (boolOf (List.getD (List.getD (EC.encL ec_4 b3) (Int.toNat (IntKind.wrap .i64 (j + (1 : Int)))) []) (0 : Nat) C.ne)))]))))))))))))
 (gdE ((List.length (List.getD (EC.encL ec_75 b2) (Int.toNat (IntKind.wrap .i64 (i + (1 : Int)))) [])) == (1 : Nat)) <|
 (gdE (isP [K1.sl] (0 : Nat) (List.getD (EC.encL ec_75 b2) (Int.toNat (IntKind.wrap .i64 (i + (1 : Int)))) [])) <|
 (gdE (decide ((0 : Int) ≤ (IntKind.wrap .i64 (j + (1 : Int))))) <|
 (gdE ((decide ((Int.toNat (IntKind.wrap .i64 (j + (1 : Int)))) < (List.length (slOf (List.getD (List.getD (EC.encL ec_75 b2) (Int.toNat (IntKind.wrap .i64 (i + (1 : Int)))) []) (0 : Nat) C.ne))))) && (isE [K1.bool] (0 : Nat) (List.getD (slOf (List.getD (List.getD (EC.encL ec_75 b2) (Int.toNat (IntKind.wrap .i64 (i + (1 : Int)))) []) (0 : Nat) C.ne)) (Int.toNat (IntKind.wrap .i64 (j + (1 : Int)))) []))) <|
 (gdE ((decide ((0 : Int) ≤ j)) && (decide (j < ((b2_2 : Nat) : Int)))) <|
 (gdE ((decide ((Int.toNat j) < (List.length (EC.encL ec_4 b3)))) && ((List.length (List.getD (EC.encL ec_4 b3) (Int.toNat j) [])) == (1 : Nat))) <|
 (gdE (EC.isL ec_192 (EC.encL ec_192 l)) <|
 (gdE (EC.isL ec_75 (EC.encL ec_75 b2)) <|
 (gdE (EC.isL ec_4 (List.set (EC.encL ec_4 b3) (Int.toNat j) (splice (List.getD (EC.encL ec_4 b3) (Int.toNat j) []) (0 : Nat) [(C.bool (boolOf (List.getD (List.getD (slOf (List.getD (List.getD (EC.encL ec_75 b2) (Int.toNat (IntKind.wrap .i64 (i + (1 : Int)))) []) (0 : Nat) C.ne)) (Int.toNat (IntKind.wrap .i64 (j + (1 : Int)))) []) (0 : Nat) C.ne)))]))) <|
 (patterns_wild_l9 (EC.decL ec_192 (EC.encL ec_192 l)) can i (IntKind.wrap .i64 (j - (1 : Int))) b0 b1 (EC.decL ec_75 (EC.encL ec_75 b2)) b2_1 b2_2 (EC.decL ec_4 (List.set (EC.encL ec_4 b3) (Int.toNat j) (splice (List.getD (EC.encL ec_4 b3) (Int.toNat j) []) (0 : Nat) [(C.bool (boolOf (List.getD (List.getD (slOf (List.getD (List.getD (EC.encL ec_75 b2) (Int.toNat (IntKind.wrap .i64 (i + (1 : Int)))) []) (0 : Nat) C.ne)) (Int.toNat (IntKind.wrap .i64 (j + (1 : Int)))) []) (0 : Nat) C.ne)))]))))))))))))))))
 (gdE ((decide ((0 : Int) ≤ j)) && (decide (j < ((b2_2 : Nat) : Int)))) <|
 (gdE ((decide ((Int.toNat j) < (List.length (EC.encL ec_4 b3)))) && ((List.length (List.getD (EC.encL ec_4 b3) (Int.toNat j) [])) == (1 : Nat))) <|
 (gdE (EC.isL ec_192 (EC.encL ec_192 l)) <|
 (gdE (EC.isL ec_75 (EC.encL ec_75 b2)) <|
 (gdE (EC.isL ec_4 (List.set (EC.encL ec_4 b3) (Int.toNat j) (splice (List.getD (EC.encL ec_4 b3) (Int.toNat j) []) (0 : Nat) [(C.bool false)]))) <|
 (patterns_wild_l9 (EC.decL ec_192 (EC.encL ec_192 l)) can i (IntKind.wrap .i64 (j - (1 : Int))) b0 b1 (EC.decL ec_75 (EC.encL ec_75 b2)) b2_1 b2_2 (EC.decL ec_4 (List.set (EC.encL ec_4 b3) (Int.toNat j) (splice (List.getD (EC.encL ec_4 b3) (Int.toNat j) []) (0 : Nat) [(C.bool false)])))))))))))))
 (gdE ((List.length (List.getD (EC.encL ec_75 b2) (Int.toNat i) [])) == (1 : Nat)) <|
 (gdE (isP [K1.sl] (0 : Nat) (List.getD (EC.encL ec_75 b2) (Int.toNat i) [])) <|
 (gdE (decide ((0 : Int) ≤ i)) <|
 (gdE ((decide ((Int.toNat i) < (List.length (EC.encL ec_192 l)))) && (isE [K1.bool, K1.bool, (K1.int Go.IntKind.u8)] (0 : Nat) (List.getD (EC.encL ec_192 l) (Int.toNat i) []))) <|
 (Option.bind (fits_s (boolOf (List.getD (List.getD (EC.encL ec_192 l) (Int.toNat i) []) (0 : Nat) C.ne)) (boolOf (List.getD (List.getD (EC.encL ec_192 l) (Int.toNat i) []) (1 : Nat) C.ne)) (intOf (List.getD (List.getD (EC.encL ec_192 l) (Int.toNat i) []) (2 : Nat) C.ne)) j b0 b1) fun r0 =>
 (brE (r0 == true)
 (gdE ((decide ((0 : Int) ≤ (IntKind.wrap .i64 (i + (1 : Int))))) && (decide ((IntKind.wrap .i64 (i + (1 : Int))) < ((can : Nat) : Int)))) <|
 (gdE (decide ((Int.toNat (IntKind.wrap .i64 (i + (1 : Int)))) < (List.length (EC.encL ec_75 b2)))) <|
 (brE ((Int.toNat (IntKind.wrap .i64 (i + (1 : Int)))) == b2_1)
 (gdE ((decide ((0 : Int) ≤ (IntKind.wrap .i64 (j + (1 : Int))))) && (decide ((IntKind.wrap .i64 (j + (1 : Int))) < ((b2_2 : Nat) : Int)))) <|
 (gdE ((decide ((Int.toNat (IntKind.wrap .i64 (j + (1 : Int)))) < (List.length (EC.encL ec_4 b3)))) && ((List.length (List.getD (EC.encL ec_4 b3) (Int.toNat (IntKind.wrap .i64 (j + (1 : Int)))) [])) == (1 : Nat))) <|
 (gdE (isP [K1.bool] (0 : Nat) (List.getD (EC.encL ec_4 b3) (Int.toNat (IntKind.wrap .i64 (j + (1 : Int)))) [])) <|
 (gdE (decide ((0 : Int) ≤ j)) <|
 (gdE ((decide ((Int.toNat j) < (List.length (slOf (List.getD (List.getD (EC.encL ec_75 b2) (Int.toNat i) []) (0 : Nat) C.ne))))) && (isE [K1.bool] (0 : Nat) (List.getD (slOf (List.getD (List.getD (EC.encL ec_75 b2) (Int.toNat i) []) (0 : Nat) C.ne)) (Int.toNat j) []))) <|
 none)))))
 (gdE ((List.length (List.getD (EC.encL ec_75 b2) (Int.toNat (IntKind.wrap .i64 (i + (1 : Int)))) [])) == (1 : Nat)) <|
 (gdE (isP [K1.sl] (0 : Nat) (List.getD (EC.encL ec_75 b2) (Int.toNat (IntKind.wrap .i64 (i + (1 : Int)))) [])) <|
 (gdE (decide ((0 : Int) ≤ (IntKind.wrap .i64 (j + (1 : Int))))) <|
 (gdE ((decide ((Int.toNat (IntKind.wrap .i64 (j + (1 : Int)))) < (List.length (slOf (List.getD (List.getD (EC.encL ec_75 b2) (Int.toNat (IntKind.wrap .i64 (i + (1 : Int)))) []) (0 : Nat) C.ne))))) && (isE [K1.bool] (0 : Nat) (List.getD (slOf (List.getD (List.getD (EC.encL ec_75 b2) (Int.toNat (IntKind.wrap .i64 (i + (1 : Int)))) []) (0 : Nat) C.ne)) (Int.toNat (IntKind.wrap .i64 (j + (1 : Int)))) []))) <|
 (gdE (decide ((0 : Int) ≤ j)) <|
 (gdE ((decide ((Int.toNat j) < (List.length (slOf (List.getD (List.getD (EC.encL ec_75 b2) (Int.toNat i) []) (0 : Nat) C.ne))))) && (isE [K1.bool] (0 : Nat) (List.getD (slOf (List.getD (List.getD (EC.encL ec_75 b2) (Int.toNat i) []) (0 : Nat) C.ne)) (Int.toNat j) []))) <|
 none)))))))))
 (gdE (decide ((0 : Int) ≤ j)) <|
 (gdE ((decide ((Int.toNat j) < (List.length (slOf (List.getD (List.getD (EC.encL ec_75 b2) (Int.toNat i) []) (0 : Nat) C.ne))))) && (isE [K1.bool] (0 : Nat) (List.getD (slOf (List.getD (List.getD (EC.encL ec_75 b2) (Int.toNat i) []) (0 : Nat) C.ne)) (Int.toNat j) []))) <|
 none)))))))))))))))
 (gdE (EC.isL ec_192 (EC.encL ec_192 l)) <|
 (gdE (EC.isL ec_75 (EC.encL ec_75 b2)) <|
 (gdE (EC.isL ec_4 (EC.encL ec_4 b3)) <|
 (some (((EC.decL ec_192 (EC.encL ec_192 l)), ((), (((), ()), (can, (i, (j, false)))))), (b0, (b1, (((EC.decL ec_75 (EC.encL ec_75 b2)), (b2_1, b2_2)), (EC.decL ec_4 (EC.encL ec_4 b3)))))))))))
theorem patterns_wild_l9_eq {l : (List S192)} {can : Nat} {i : Int} {j : Int} {b0 : ByteArray} {b1 : ByteArray} {b2 : (List (List Bool))} {b2_1 : Nat} {b2_2 : Nat} {b3 : (List Bool)} {r : (((List S192) × Unit × (Unit × Unit) × Nat × Int × Int × Bool) × (ByteArray × ByteArray × ((List (List Bool)) × Nat × Nat) × (List Bool)))} (h : patterns_wild_l9_t l can i j b0 b1 b2 b2_1 b2_2 b3 = some r) : patterns_wild_l9 l can i j b0 b1 b2 b2_1 b2_2 b3 = some r :=
  lS_tree (es := tab_fits) (hs := []) [] (by kernel_rfl) trivial trivial (by kernel_rfl) h
def patterns_wild_l9_e : LEnt Tryz.prog lv X0 155 166 := lentS Tryz.prog lv X0 9 (getLoop (cdF Tryz.f155) 9) patterns_wild_l9_s patterns_wild_l9_o (fun x => patterns_wild_l9 x.1.1 x.1.2.2.2.1 x.1.2.2.2.2.1 x.1.2.2.2.2.2 x.2.1 x.2.2.1 x.2.2.2.1.1 x.2.2.2.1.2.1 x.2.2.2.1.2.2 x.2.2.2.2) (fun _ _ h => lS_from h)
def patterns_wild_l5_s : SC (((List S192) × Unit × (Unit × Unit) × Nat × Int) × (ByteArray × ByteArray × ((List (List Bool)) × Nat × Nat) × (List Bool))) := sLS [0, 3, 7, 8, 9] (lCons (vC (cSl ec_192)) (lCons (vPtr 0 0) (lCons (vFn 165 (lCons (vPtr 0 0) (lOne (vPtr 1 0)))) (lCons (vRow 2) (lOne (vC (cInt .i64))))))) (lCons (oSome (bBox (lOne (vC cStr)))) (lCons (oSome (bBox (lOne (vC cStr)))) (lCons (oSome (bTab ec_75 (vRow 3))) (lOne (oSome (bRow ec_4)))))) [false, false, false, false] [] (by decide) (fun _ => rfl)
def patterns_wild_l5_o2 : SC (((List S192) × Unit × (Unit × Unit) × Nat × Int × Bool) × (ByteArray × ByteArray × ((List (List Bool)) × Nat × Nat) × (List Bool))) := sLS [0, 3, 7, 8, 9, 26] (lCons (vC (cSl ec_192)) (lCons (vPtr 0 0) (lCons (vFn 165 (lCons (vPtr 0 0) (lOne (vPtr 1 0)))) (lCons (vRow 2) (lCons (vC (cInt .i64)) (lOne (vC cBool))))))) (lCons (oSome (bBox (lOne (vC cStr)))) (lCons (oSome (bBox (lOne (vC cStr)))) (lCons (oSome (bTab ec_75 (vRow 3))) (lOne (oSome (bRow ec_4)))))) [false, false, false, false] [] (by decide) (fun _ => rfl)
def patterns_wild_l5_o : OC (((List S192) × Unit × (Unit × Unit) × Nat × Int × Bool) × (ByteArray × ByteArray × ((List (List Bool)) × Nat × Nat) × (List Bool))) := oAt 2 patterns_wild_l5_o2
def patterns_wild_l5 (l : (List S192)) (can : Nat) (i : Int) (b0 : ByteArray) (b1 : ByteArray) (b2 : (List (List Bool))) (b2_1 : Nat) (b2_2 : Nat) (b3 : (List Bool)) : Option (((List S192) × Unit × (Unit × Unit) × Nat × Int × Bool) × (ByteArray × ByteArray × ((List (List Bool)) × Nat × Nat) × (List Bool))) := lS Tryz.prog lv X0 155 166 (getLoop (cdF Tryz.f155) 5) patterns_wild_l5_s patterns_wild_l5_o ((l, (), ((), ()), can, i), (b0, b1, (b2, b2_1, b2_2), b3))
def patterns_wild_l5_t (l : (List S192)) (can : Nat) (i : Int) (b0 : ByteArray) (b1 : ByteArray) (b2 : (List (List Bool))) (b2_1 : Nat) (b2_2 : Nat) (b3 : (List Bool)) : Option (((List S192) × Unit × (Unit × Unit) × Nat × Int × Bool) × (ByteArray × ByteArray × ((List (List Bool)) × Nat × Nat) × (List Bool))) :=
 (brE (decide (i ≥ (0 : Int)))
 (gdE ((((decide ((IntKind.wrap .i64 ((((ByteArray.size b0) : Nat) : Int) + (1 : Int))) = (IntKind.wrap .i64 ((((ByteArray.size b0) : Nat) : Int) + (1 : Int))))) && (decide ((0 : Int) ≤ (IntKind.wrap .i64 ((((ByteArray.size b0) : Nat) : Int) + (1 : Int)))))) && (decide (((IntKind.wrap .i64 ((((ByteArray.size b0) : Nat) : Int) + (1 : Int))) * (((1 : Nat) : Nat) : Int)) ≤ (140737488355328 : Int)))) && (decide ((IntKind.wrap .i64 ((((ByteArray.size b0) : Nat) : Int) + (1 : Int))) ≤ (9223372036854775807 : Int)))) <|
 (gdE ((decide ((0 : Int) ≤ i)) && (decide (i < ((can : Nat) : Int)))) <|
 (gdE (decide ((Int.toNat i) < (List.length (EC.encL ec_75 b2)))) <|
 (brE (decide (b2_1 < (List.length (EC.encL ec_75 b2))))
 (gdE (EC.isL ec_192 (EC.encL ec_192 l)) <|
 (gdE (EC.isL ec_75 (List.set (EC.encL ec_75 b2) b2_1 [(C.sl (EC.encL ec_4 b3))])) <|
 (gdE (EC.isL ec_4 (List.replicate (Int.toNat (IntKind.wrap .i64 ((((ByteArray.size b0) : Nat) : Int) + (1 : Int)))) [(C.bool false)])) <|
 (Option.bind (patterns_wild_l9 (EC.decL ec_192 (EC.encL ec_192 l)) can i (((ByteArray.size b0) : Nat) : Int) b0 b1 (EC.decL ec_75 (List.set (EC.encL ec_75 b2) b2_1 [(C.sl (EC.encL ec_4 b3))])) (Int.toNat i) (Int.toNat (IntKind.wrap .i64 ((((ByteArray.size b0) : Nat) : Int) + (1 : Int)))) (EC.decL ec_4 (List.replicate (Int.toNat (IntKind.wrap .i64 ((((ByteArray.size b0) : Nat) : Int) + (1 : Int)))) [(C.bool false)]))) fun r0 =>
 (gdE (EC.isL ec_192 (EC.encL ec_192 ((r0).1).1)) <|
 (gdE (EC.isL ec_75 (EC.encL ec_75 (((((r0).2).2).2).1).1)) <|
 (gdE (EC.isL ec_4 (EC.encL ec_4 ((((r0).2).2).2).2)) <|
 (patterns_wild_l5 (EC.decL ec_192 (EC.encL ec_192 ((r0).1).1)) (((((r0).1).2).2).2).1 (IntKind.wrap .i64 (((((((r0).1).2).2).2).2).1 - (1 : Int))) ((r0).2).1 (((r0).2).2).1 (EC.decL ec_75 (EC.encL ec_75 (((((r0).2).2).2).1).1)) ((((((r0).2).2).2).1).2).1 ((((((r0).2).2).2).1).2).2 (EC.decL ec_4 (EC.encL ec_4 ((((r0).2).2).2).2))))))))))
 (gdE (EC.isL ec_192 (EC.encL ec_192 l)) <|
 (gdE (EC.isL ec_75 (EC.encL ec_75 b2)) <|
 (gdE (EC.isL ec_4 (List.replicate (Int.toNat (IntKind.wrap .i64 ((((ByteArray.size b0) : Nat) : Int) + (1 : Int)))) [(C.bool false)])) <|
 (Option.bind (patterns_wild_l9 (EC.decL ec_192 (EC.encL ec_192 l)) can i (((ByteArray.size b0) : Nat) : Int) b0 b1 (EC.decL ec_75 (EC.encL ec_75 b2)) (Int.toNat i) (Int.toNat (IntKind.wrap .i64 ((((ByteArray.size b0) : Nat) : Int) + (1 : Int)))) (EC.decL ec_4 (List.replicate (Int.toNat (IntKind.wrap .i64 ((((ByteArray.size b0) : Nat) : Int) + (1 : Int)))) [(C.bool false)]))) fun r0 =>
 (gdE (EC.isL ec_192 (EC.encL ec_192 ((r0).1).1)) <|
 (gdE (EC.isL ec_75 (EC.encL ec_75 (((((r0).2).2).2).1).1)) <|
 (gdE (EC.isL ec_4 (EC.encL ec_4 ((((r0).2).2).2).2)) <|
 (patterns_wild_l5 (EC.decL ec_192 (EC.encL ec_192 ((r0).1).1)) (((((r0).1).2).2).2).1 (IntKind.wrap .i64 (((((((r0).1).2).2).2).2).1 - (1 : Int))) ((r0).2).1 (((r0).2).2).1 (EC.decL ec_75 (EC.encL ec_75 (((((r0).2).2).2).1).1)) ((((((r0).2).2).2).1).2).1 ((((((r0).2).2).2).1).2).2 (EC.decL ec_4 (EC.encL ec_4 ((((r0).2).2).2).2))))))))))))))
 (gdE (EC.isL ec_192 (EC.encL ec_192 l)) <|
 (gdE (EC.isL ec_75 (EC.encL ec_75 b2)) <|
 (gdE (EC.isL ec_4 (EC.encL ec_4 b3)) <|
 (some (((EC.decL ec_192 (EC.encL ec_192 l)), ((), (((), ()), (can, (i, false))))), (b0, (b1, (((EC.decL ec_75 (EC.encL ec_75 b2)), (b2_1, b2_2)), (EC.decL ec_4 (EC.encL ec_4 b3)))))))))))
theorem patterns_wild_l5_eq {l : (List S192)} {can : Nat} {i : Int} {b0 : ByteArray} {b1 : ByteArray} {b2 : (List (List Bool))} {b2_1 : Nat} {b2_2 : Nat} {b3 : (List Bool)} {r : (((List S192) × Unit × (Unit × Unit) × Nat × Int × Bool) × (ByteArray × ByteArray × ((List (List Bool)) × Nat × Nat) × (List Bool)))} (h : patterns_wild_l5_t l can i b0 b1 b2 b2_1 b2_2 b3 = some r) : patterns_wild_l5 l can i b0 b1 b2 b2_1 b2_2 b3 = some r :=
  lS_tree (es := tab_fits) (hs := []) [patterns_wild_l9_e] (by kernel_rfl) ⟨⟨_, rfl, rfl⟩, trivial⟩ trivial (by kernel_rfl) h
def patterns_wild_l5_e : LEnt Tryz.prog lv X0 155 166 := lentS Tryz.prog lv X0 5 (getLoop (cdF Tryz.f155) 5) patterns_wild_l5_s patterns_wild_l5_o (fun x => patterns_wild_l5 x.1.1 x.1.2.2.2.1 x.1.2.2.2.2 x.2.1 x.2.2.1 x.2.2.2.1.1 x.2.2.2.1.2.1 x.2.2.2.1.2.2 x.2.2.2.2) (fun _ _ h => lS_from h)
def patterns_wild_l24_s : SC ((Unit × Nat × Nat × Int × Int × Unit × Int × (List S192) × Int × Int) × (ByteArray × ((List (List Bool)) × Nat × Nat) × (List ByteArray) × (Bool × Bool × Int) × (List Bool))) := sLS [3, 8, 11, 12, 13, 14, 15, 123, 124, 125] (lCons (vPtr 0 0) (lCons (vRow 1) (lCons (vRow 2) (lCons (vC (cInt .i64)) (lCons (vC (cInt .i64)) (lCons (vPtr 3 0) (lCons (vC (cInt .i64)) (lCons (vC (cSl ec_192)) (lCons (vC (cInt .i64)) (lOne (vC (cInt .i64)))))))))))) (lCons (oSome (bBox (lOne (vC cStr)))) (lCons (oSome (bTab ec_75 (vRow 4))) (lCons (oSome (bRow ec_9)) (lCons (oSome (bBox (lCons (vC cBool) (lCons (vC cBool) (lOne (vC (cInt .u8))))))) (lOne (oSome (bRow ec_4))))))) [false, false, false, false, false] [] (by decide) (fun _ => rfl)
def patterns_wild_l24_o9 : SC ((Unit × Nat × Nat × Int × Int × Unit × Int × (List S192) × Int × Int × Bool) × (ByteArray × ((List (List Bool)) × Nat × Nat) × (List ByteArray) × (Bool × Bool × Int) × (List Bool))) := sLS [3, 8, 11, 12, 13, 14, 15, 123, 124, 125, 143] (lCons (vPtr 0 0) (lCons (vRow 1) (lCons (vRow 2) (lCons (vC (cInt .i64)) (lCons (vC (cInt .i64)) (lCons (vPtr 3 0) (lCons (vC (cInt .i64)) (lCons (vC (cSl ec_192)) (lCons (vC (cInt .i64)) (lCons (vC (cInt .i64)) (lOne (vC cBool)))))))))))) (lCons (oSome (bBox (lOne (vC cStr)))) (lCons (oSome (bTab ec_75 (vRow 4))) (lCons (oSome (bRow ec_9)) (lCons (oSome (bBox (lCons (vC cBool) (lCons (vC cBool) (lOne (vC (cInt .u8))))))) (lOne (oSome (bRow ec_4))))))) [false, false, false, false, false] [] (by decide) (fun _ => rfl)
def patterns_wild_l24_o : OC ((Unit × Nat × Nat × Int × Int × Unit × Int × (List S192) × Int × Int × Bool) × (ByteArray × ((List (List Bool)) × Nat × Nat) × (List ByteArray) × (Bool × Bool × Int) × (List Bool))) := oAt 9 patterns_wild_l24_o9
def patterns_wild_l24 (can : Nat) (out : Nat) (j : Int) (i : Int) (from_ : Int) (t123 : (List S192)) (t124 : Int) (t125 : Int) (b0 : ByteArray) (b1 : (List (List Bool))) (b1_1 : Nat) (b1_2 : Nat) (b2 : (List ByteArray)) (b3 : Bool) (b3_1 : Bool) (b3_2 : Int) (b4 : (List Bool)) : Option ((Unit × Nat × Nat × Int × Int × Unit × Int × (List S192) × Int × Int × Bool) × (ByteArray × ((List (List Bool)) × Nat × Nat) × (List ByteArray) × (Bool × Bool × Int) × (List Bool))) := lS Tryz.prog lv X0 155 166 (getLoop (cdF Tryz.f155) 24) patterns_wild_l24_s patterns_wild_l24_o (((), can, out, j, i, (), from_, t123, t124, t125), (b0, (b1, b1_1, b1_2), b2, (b3, b3_1, b3_2), b4))
def patterns_wild_l24_t (can : Nat) (out : Nat) (j : Int) (i : Int) (from_ : Int) (t123 : (List S192)) (t124 : Int) (t125 : Int) (b0 : ByteArray) (b1 : (List (List Bool))) (b1_1 : Nat) (b1_2 : Nat) (b2 : (List ByteArray)) (b3 : Bool) (b3_1 : Bool) (b3_2 : Int) (b4 : (List Bool)) : Option ((Unit × Nat × Nat × Int × Int × Unit × Int × (List S192) × Int × Int × Bool) × (ByteArray × ((List (List Bool)) × Nat × Nat) × (List ByteArray) × (Bool × Bool × Int) × (List Bool))) :=
 (brE (b3_1 == true)
 (gdE ((decide ((0 : Int) ≤ (IntKind.wrap .i64 (i + (1 : Int))))) && (decide ((IntKind.wrap .i64 (i + (1 : Int))) < ((can : Nat) : Int)))) <|
 (gdE (decide ((Int.toNat (IntKind.wrap .i64 (i + (1 : Int)))) < (List.length (EC.encL ec_75 b1)))) <|
 (brE ((Int.toNat (IntKind.wrap .i64 (i + (1 : Int)))) == b1_1)
 (gdE ((decide ((0 : Int) ≤ j)) && (decide (j < ((b1_2 : Nat) : Int)))) <|
 (gdE ((decide ((Int.toNat j) < (List.length (EC.encL ec_4 b4)))) && ((List.length (List.getD (EC.encL ec_4 b4) (Int.toNat j) [])) == (1 : Nat))) <|
 (gdE (isP [K1.bool] (0 : Nat) (List.getD (EC.encL ec_4 b4) (Int.toNat j) [])) <|
 (brE (!(boolOf (List.getD (List.getD (EC.encL ec_4 b4) (Int.toNat j) []) (0 : Nat) C.ne)))
 (gdE (EC.isL ec_192 (EC.encL ec_192 t123)) <|
 (gdE (EC.isL ec_75 (EC.encL ec_75 b1)) <|
 (gdE (EC.isL ec_9 (EC.encL ec_9 b2)) <|
 (gdE (EC.isL ec_4 (EC.encL ec_4 b4)) <|
 (patterns_wild_l24 can out (IntKind.wrap .i64 (j + (1 : Int))) i from_ (EC.decL ec_192 (EC.encL ec_192 t123)) t124 t125 b0 (EC.decL ec_75 (EC.encL ec_75 b1)) b1_1 b1_2 (EC.decL ec_9 (EC.encL ec_9 b2)) b3 b3_1 b3_2 (EC.decL ec_4 (EC.encL ec_4 b4)))))))
 (gdE (EC.isL ec_192 (EC.encL ec_192 t123)) <|
 (gdE (EC.isL ec_75 (EC.encL ec_75 b1)) <|
 (gdE (EC.isL ec_9 (EC.encL ec_9 b2)) <|
 (gdE (EC.isL ec_4 (EC.encL ec_4 b4)) <|
 (some (((), (can, (out, (j, (i, ((), (from_, ((EC.decL ec_192 (EC.encL ec_192 t123)), (t124, (t125, false)))))))))), (b0, (((EC.decL ec_75 (EC.encL ec_75 b1)), (b1_1, b1_2)), ((EC.decL ec_9 (EC.encL ec_9 b2)), ((b3, (b3_1, b3_2)), (EC.decL ec_4 (EC.encL ec_4 b4))))))))))))))))
 (gdE ((List.length (List.getD (EC.encL ec_75 b1) (Int.toNat (IntKind.wrap .i64 (i + (1 : Int)))) [])) == (1 : Nat)) <|
 (gdE (isP [K1.sl] (0 : Nat) (List.getD (EC.encL ec_75 b1) (Int.toNat (IntKind.wrap .i64 (i + (1 : Int)))) [])) <|
 (gdE (decide ((0 : Int) ≤ j)) <|
 (gdE ((decide ((Int.toNat j) < (List.length (slOf (List.getD (List.getD (EC.encL ec_75 b1) (Int.toNat (IntKind.wrap .i64 (i + (1 : Int)))) []) (0 : Nat) C.ne))))) && (isE [K1.bool] (0 : Nat) (List.getD (slOf (List.getD (List.getD (EC.encL ec_75 b1) (Int.toNat (IntKind.wrap .i64 (i + (1 : Int)))) []) (0 : Nat) C.ne)) (Int.toNat j) []))) <|
 (brE (!(boolOf (List.getD (List.getD (slOf (List.getD (List.getD (EC.encL ec_75 b1) (Int.toNat (IntKind.wrap .i64 (i + (1 : Int)))) []) (0 : Nat) C.ne)) (Int.toNat j) []) (0 : Nat) C.ne)))
 (gdE (EC.isL ec_192 (EC.encL ec_192 t123)) <|
 (gdE (EC.isL ec_75 (EC.encL ec_75 b1)) <|
 (gdE (EC.isL ec_9 (EC.encL ec_9 b2)) <|
 (gdE (EC.isL ec_4 (EC.encL ec_4 b4)) <|
 (patterns_wild_l24 can out (IntKind.wrap .i64 (j + (1 : Int))) i from_ (EC.decL ec_192 (EC.encL ec_192 t123)) t124 t125 b0 (EC.decL ec_75 (EC.encL ec_75 b1)) b1_1 b1_2 (EC.decL ec_9 (EC.encL ec_9 b2)) b3 b3_1 b3_2 (EC.decL ec_4 (EC.encL ec_4 b4)))))))
 (gdE (EC.isL ec_192 (EC.encL ec_192 t123)) <|
 (gdE (EC.isL ec_75 (EC.encL ec_75 b1)) <|
 (gdE (EC.isL ec_9 (EC.encL ec_9 b2)) <|
 (gdE (EC.isL ec_4 (EC.encL ec_4 b4)) <|
 (some (((), (can, (out, (j, (i, ((), (from_, ((EC.decL ec_192 (EC.encL ec_192 t123)), (t124, (t125, false)))))))))), (b0, (((EC.decL ec_75 (EC.encL ec_75 b1)), (b1_1, b1_2)), ((EC.decL ec_9 (EC.encL ec_9 b2)), ((b3, (b3_1, b3_2)), (EC.decL ec_4 (EC.encL ec_4 b4))))))))))))))))))))
 (gdE (EC.isL ec_192 (EC.encL ec_192 t123)) <|
 (gdE (EC.isL ec_75 (EC.encL ec_75 b1)) <|
 (gdE (EC.isL ec_9 (EC.encL ec_9 b2)) <|
 (gdE (EC.isL ec_4 (EC.encL ec_4 b4)) <|
 (some (((), (can, (out, (j, (i, ((), (from_, ((EC.decL ec_192 (EC.encL ec_192 t123)), (t124, (t125, false)))))))))), (b0, (((EC.decL ec_75 (EC.encL ec_75 b1)), (b1_1, b1_2)), ((EC.decL ec_9 (EC.encL ec_9 b2)), ((b3, (b3_1, b3_2)), (EC.decL ec_4 (EC.encL ec_4 b4)))))))))))))
theorem patterns_wild_l24_eq {can : Nat} {out : Nat} {j : Int} {i : Int} {from_ : Int} {t123 : (List S192)} {t124 : Int} {t125 : Int} {b0 : ByteArray} {b1 : (List (List Bool))} {b1_1 : Nat} {b1_2 : Nat} {b2 : (List ByteArray)} {b3 : Bool} {b3_1 : Bool} {b3_2 : Int} {b4 : (List Bool)} {r : ((Unit × Nat × Nat × Int × Int × Unit × Int × (List S192) × Int × Int × Bool) × (ByteArray × ((List (List Bool)) × Nat × Nat) × (List ByteArray) × (Bool × Bool × Int) × (List Bool)))} (h : patterns_wild_l24_t can out j i from_ t123 t124 t125 b0 b1 b1_1 b1_2 b2 b3 b3_1 b3_2 b4 = some r) : patterns_wild_l24 can out j i from_ t123 t124 t125 b0 b1 b1_1 b1_2 b2 b3 b3_1 b3_2 b4 = some r :=
  lS_tree (es := tab_fits) (hs := []) [] (by kernel_rfl) trivial trivial (by kernel_rfl) h
def patterns_wild_l24_e : LEnt Tryz.prog lv X0 155 166 := lentS Tryz.prog lv X0 24 (getLoop (cdF Tryz.f155) 24) patterns_wild_l24_s patterns_wild_l24_o (fun x => patterns_wild_l24 x.1.2.1 x.1.2.2.1 x.1.2.2.2.1 x.1.2.2.2.2.1 x.1.2.2.2.2.2.2.1 x.1.2.2.2.2.2.2.2.1 x.1.2.2.2.2.2.2.2.2.1 x.1.2.2.2.2.2.2.2.2.2 x.2.1 x.2.2.1.1 x.2.2.1.2.1 x.2.2.1.2.2 x.2.2.2.1 x.2.2.2.2.1.1 x.2.2.2.2.1.2.1 x.2.2.2.2.1.2.2 x.2.2.2.2.2) (fun _ _ h => lS_from h)
def patterns_wild_l21_s : SC ((Unit × Nat × Nat × Int × (List S192) × Int × Int) × (ByteArray × ((List (List Bool)) × Nat × Nat) × (List ByteArray) × (List Bool))) := sLS [3, 8, 11, 12, 123, 124, 125] (lCons (vPtr 0 0) (lCons (vRow 1) (lCons (vRow 2) (lCons (vC (cInt .i64)) (lCons (vC (cSl ec_192)) (lCons (vC (cInt .i64)) (lOne (vC (cInt .i64))))))))) (lCons (oSome (bBox (lOne (vC cStr)))) (lCons (oSome (bTab ec_75 (vRow 3))) (lCons (oSome (bRow ec_9)) (lOne (oSome (bRow ec_4)))))) [false, false, false, false] [] (by decide) (fun _ => rfl)
def patterns_wild_l21_o7 : SC ((Unit × Nat × Nat × Int × (List S192) × Int × Int × Bool) × (ByteArray × ((List (List Bool)) × Nat × Nat) × (List ByteArray) × (List Bool))) := sLS [3, 8, 11, 12, 123, 124, 125, 126] (lCons (vPtr 0 0) (lCons (vRow 1) (lCons (vRow 2) (lCons (vC (cInt .i64)) (lCons (vC (cSl ec_192)) (lCons (vC (cInt .i64)) (lCons (vC (cInt .i64)) (lOne (vC cBool))))))))) (lCons (oSome (bBox (lOne (vC cStr)))) (lCons (oSome (bTab ec_75 (vRow 3))) (lCons (oSome (bRow ec_9)) (lOne (oSome (bRow ec_4)))))) [false, false, false, false] [] (by decide) (fun _ => rfl)
def patterns_wild_l21_o : OC ((Unit × Nat × Nat × Int × (List S192) × Int × Int × Bool) × (ByteArray × ((List (List Bool)) × Nat × Nat) × (List ByteArray) × (List Bool))) := oAt 7 patterns_wild_l21_o7
def patterns_wild_l21 (can : Nat) (out : Nat) (j : Int) (t123 : (List S192)) (t124 : Int) (t125 : Int) (b0 : ByteArray) (b1 : (List (List Bool))) (b1_1 : Nat) (b1_2 : Nat) (b2 : (List ByteArray)) (b3 : (List Bool)) : Option ((Unit × Nat × Nat × Int × (List S192) × Int × Int × Bool) × (ByteArray × ((List (List Bool)) × Nat × Nat) × (List ByteArray) × (List Bool))) := lS Tryz.prog lv X0 155 166 (getLoop (cdF Tryz.f155) 21) patterns_wild_l21_s patterns_wild_l21_o (((), can, out, j, t123, t124, t125), (b0, (b1, b1_1, b1_2), b2, b3))
def patterns_wild_l21_t (can : Nat) (out : Nat) (j : Int) (t123 : (List S192)) (t124 : Int) (t125 : Int) (b0 : ByteArray) (b1 : (List (List Bool))) (b1_1 : Nat) (b1_2 : Nat) (b2 : (List ByteArray)) (b3 : (List Bool)) : Option ((Unit × Nat × Nat × Int × (List S192) × Int × Int × Bool) × (ByteArray × ((List (List Bool)) × Nat × Nat) × (List ByteArray) × (List Bool))) :=
 (brE (decide (t125 < t124))
 (gdE (decide ((0 : Int) ≤ t125)) <|
 (gdE ((decide ((Int.toNat t125) < (List.length (EC.encL ec_192 t123)))) && (isE [K1.bool, K1.bool, (K1.int Go.IntKind.u8)] (0 : Nat) (List.getD (EC.encL ec_192 t123) (Int.toNat t125) []))) <|
 (gdE (EC.isL ec_192 (EC.encL ec_192 t123)) <|
 (gdE (EC.isL ec_75 (EC.encL ec_75 b1)) <|
 (gdE (EC.isL ec_9 (EC.encL ec_9 b2)) <|
 (gdE (EC.isL ec_4 (EC.encL ec_4 b3)) <|
 (Option.bind (patterns_wild_l24 can out j t125 j (EC.decL ec_192 (EC.encL ec_192 t123)) t124 t125 b0 (EC.decL ec_75 (EC.encL ec_75 b1)) b1_1 b1_2 (EC.decL ec_9 (EC.encL ec_9 b2)) (boolOf (List.getD (List.getD (EC.encL ec_192 t123) (Int.toNat t125) []) (0 : Nat) C.ne)) (boolOf (List.getD (List.getD (EC.encL ec_192 t123) (Int.toNat t125) []) (1 : Nat) C.ne)) (intOf (List.getD (List.getD (EC.encL ec_192 t123) (Int.toNat t125) []) (2 : Nat) C.ne)) (EC.decL ec_4 (EC.encL ec_4 b3))) fun r0 =>
 (brE (!(((((((r0).2).2).2).2).1).2).1)
 (brE ((((((((r0).2).2).2).2).1).2).1 == false)
 (brE ((((((r0).2).2).2).2).1).1
 (gdE ((decide ((0 : Int) ≤ (IntKind.wrap .i64 ((((((r0).1).2).2).2).1 + (1 : Int))))) && (decide ((IntKind.wrap .i64 ((((((r0).1).2).2).2).1 + (1 : Int))) ≤ (((ByteArray.size ((r0).2).1) : Nat) : Int)))) <|
 (gdE ((decide ((0 : Int) ≤ ((((((((r0).1).2).2).2).2).2).2).1)) && (decide (((((((((r0).1).2).2).2).2).2).2).1 ≤ (((Int.toNat (IntKind.wrap .i64 ((((((r0).1).2).2).2).1 + (1 : Int)))) : Nat) : Int)))) <|
 (gdE ((((List.all [[(C.str (ByteArray.extract ((r0).2).1 (Int.toNat ((((((((r0).1).2).2).2).2).2).2).1) (Int.toNat (IntKind.wrap .i64 ((((((r0).1).2).2).2).1 + (1 : Int))))))]] (fun (el : (List C)) => ((List.length el) == (1 : Nat)))) && (List.all (EC.encL ec_9 ((((r0).2).2).2).1) (fun (el : (List C)) => ((List.length el) == (1 : Nat))))) && (decide (((((((((r0).1).2).2).1 + (List.length [[(C.str (ByteArray.extract ((r0).2).1 (Int.toNat ((((((((r0).1).2).2).2).2).2).2).1) (Int.toNat (IntKind.wrap .i64 ((((((r0).1).2).2).2).1 + (1 : Int))))))]])) + ((((((r0).1).2).2).1 + (List.length [[(C.str (ByteArray.extract ((r0).2).1 (Int.toNat ((((((((r0).1).2).2).2).2).2).2).1) (Int.toNat (IntKind.wrap .i64 ((((((r0).1).2).2).2).1 + (1 : Int))))))]])) / (4 : Nat))) + (192 : Nat)) * (16 : Nat)) ≤ (281474976710656 : Nat)))) && (decide ((((((r0).1).2).2).1 + (List.length [[(C.str (ByteArray.extract ((r0).2).1 (Int.toNat ((((((((r0).1).2).2).2).2).2).2).1) (Int.toNat (IntKind.wrap .i64 ((((((r0).1).2).2).2).1 + (1 : Int))))))]])) ≤ (9223372036854775807 : Nat)))) <|
 (gdE (EC.isL ec_192 (EC.encL ec_192 (((((((((r0).1).2).2).2).2).2).2).2).1)) <|
 (gdE (EC.isL ec_75 (EC.encL ec_75 ((((r0).2).2).1).1)) <|
 (gdE (EC.isL ec_9 ((EC.encL ec_9 ((((r0).2).2).2).1) ++ [[(C.str (ByteArray.extract ((r0).2).1 (Int.toNat ((((((((r0).1).2).2).2).2).2).2).1) (Int.toNat (IntKind.wrap .i64 ((((((r0).1).2).2).2).1 + (1 : Int))))))]])) <|
 (gdE (EC.isL ec_4 (EC.encL ec_4 (((((r0).2).2).2).2).2)) <|
 (patterns_wild_l21 (((r0).1).2).1 (((((r0).1).2).2).1 + (List.length [[(C.str (ByteArray.extract ((r0).2).1 (Int.toNat ((((((((r0).1).2).2).2).2).2).2).1) (Int.toNat (IntKind.wrap .i64 ((((((r0).1).2).2).2).1 + (1 : Int))))))]])) (IntKind.wrap .i64 ((((((r0).1).2).2).2).1 + (1 : Int))) (EC.decL ec_192 (EC.encL ec_192 (((((((((r0).1).2).2).2).2).2).2).2).1)) ((((((((((r0).1).2).2).2).2).2).2).2).2).1 (IntKind.wrap .i64 ((((((((((((r0).1).2).2).2).2).2).2).2).2).2).1 + (1 : Int))) ((r0).2).1 (EC.decL ec_75 (EC.encL ec_75 ((((r0).2).2).1).1)) (((((r0).2).2).1).2).1 (((((r0).2).2).1).2).2 (EC.decL ec_9 ((EC.encL ec_9 ((((r0).2).2).2).1) ++ [[(C.str (ByteArray.extract ((r0).2).1 (Int.toNat ((((((((r0).1).2).2).2).2).2).2).1) (Int.toNat (IntKind.wrap .i64 ((((((r0).1).2).2).2).1 + (1 : Int))))))]])) (EC.decL ec_4 (EC.encL ec_4 (((((r0).2).2).2).2).2))))))))))
 (gdE (EC.isL ec_192 (EC.encL ec_192 (((((((((r0).1).2).2).2).2).2).2).2).1)) <|
 (gdE (EC.isL ec_75 (EC.encL ec_75 ((((r0).2).2).1).1)) <|
 (gdE (EC.isL ec_9 (EC.encL ec_9 ((((r0).2).2).2).1)) <|
 (gdE (EC.isL ec_4 (EC.encL ec_4 (((((r0).2).2).2).2).2)) <|
 (patterns_wild_l21 (((r0).1).2).1 ((((r0).1).2).2).1 (IntKind.wrap .i64 ((((((r0).1).2).2).2).1 + (1 : Int))) (EC.decL ec_192 (EC.encL ec_192 (((((((((r0).1).2).2).2).2).2).2).2).1)) ((((((((((r0).1).2).2).2).2).2).2).2).2).1 (IntKind.wrap .i64 ((((((((((((r0).1).2).2).2).2).2).2).2).2).2).1 + (1 : Int))) ((r0).2).1 (EC.decL ec_75 (EC.encL ec_75 ((((r0).2).2).1).1)) (((((r0).2).2).1).2).1 (((((r0).2).2).1).2).2 (EC.decL ec_9 (EC.encL ec_9 ((((r0).2).2).2).1)) (EC.decL ec_4 (EC.encL ec_4 (((((r0).2).2).2).2).2))))))))
 (gdE ((decide ((0 : Int) ≤ (IntKind.wrap .i64 ((((((r0).1).2).2).2).1 + (1 : Int))))) && (decide ((IntKind.wrap .i64 ((((((r0).1).2).2).2).1 + (1 : Int))) ≤ (((ByteArray.size ((r0).2).1) : Nat) : Int)))) <|
 (gdE ((decide ((0 : Int) ≤ ((((((((r0).1).2).2).2).2).2).2).1)) && (decide (((((((((r0).1).2).2).2).2).2).2).1 ≤ (((Int.toNat (IntKind.wrap .i64 ((((((r0).1).2).2).2).1 + (1 : Int)))) : Nat) : Int)))) <|
 (gdE ((((List.all [[(C.str (ByteArray.extract ((r0).2).1 (Int.toNat ((((((((r0).1).2).2).2).2).2).2).1) (Int.toNat (IntKind.wrap .i64 ((((((r0).1).2).2).2).1 + (1 : Int))))))]] (fun (el : (List C)) => ((List.length el) == (1 : Nat)))) && (List.all (EC.encL ec_9 ((((r0).2).2).2).1) (fun (el : (List C)) => ((List.length el) == (1 : Nat))))) && (decide (((((((((r0).1).2).2).1 + (List.length [[(C.str (ByteArray.extract ((r0).2).1 (Int.toNat ((((((((r0).1).2).2).2).2).2).2).1) (Int.toNat (IntKind.wrap .i64 ((((((r0).1).2).2).2).1 + (1 : Int))))))]])) + ((((((r0).1).2).2).1 + (List.length [[(C.str (ByteArray.extract ((r0).2).1 (Int.toNat ((((((((r0).1).2).2).2).2).2).2).1) (Int.toNat (IntKind.wrap .i64 ((((((r0).1).2).2).2).1 + (1 : Int))))))]])) / (4 : Nat))) + (192 : Nat)) * (16 : Nat)) ≤ (281474976710656 : Nat)))) && (decide ((((((r0).1).2).2).1 + (List.length [[(C.str (ByteArray.extract ((r0).2).1 (Int.toNat ((((((((r0).1).2).2).2).2).2).2).1) (Int.toNat (IntKind.wrap .i64 ((((((r0).1).2).2).2).1 + (1 : Int))))))]])) ≤ (9223372036854775807 : Nat)))) <|
 (gdE (EC.isL ec_192 (EC.encL ec_192 (((((((((r0).1).2).2).2).2).2).2).2).1)) <|
 (gdE (EC.isL ec_75 (EC.encL ec_75 ((((r0).2).2).1).1)) <|
 (gdE (EC.isL ec_9 ((EC.encL ec_9 ((((r0).2).2).2).1) ++ [[(C.str (ByteArray.extract ((r0).2).1 (Int.toNat ((((((((r0).1).2).2).2).2).2).2).1) (Int.toNat (IntKind.wrap .i64 ((((((r0).1).2).2).2).1 + (1 : Int))))))]])) <|
 (gdE (EC.isL ec_4 (EC.encL ec_4 (((((r0).2).2).2).2).2)) <|
 (patterns_wild_l21 (((r0).1).2).1 (((((r0).1).2).2).1 + (List.length [[(C.str (ByteArray.extract ((r0).2).1 (Int.toNat ((((((((r0).1).2).2).2).2).2).2).1) (Int.toNat (IntKind.wrap .i64 ((((((r0).1).2).2).2).1 + (1 : Int))))))]])) (IntKind.wrap .i64 ((((((r0).1).2).2).2).1 + (1 : Int))) (EC.decL ec_192 (EC.encL ec_192 (((((((((r0).1).2).2).2).2).2).2).2).1)) ((((((((((r0).1).2).2).2).2).2).2).2).2).1 (IntKind.wrap .i64 ((((((((((((r0).1).2).2).2).2).2).2).2).2).2).1 + (1 : Int))) ((r0).2).1 (EC.decL ec_75 (EC.encL ec_75 ((((r0).2).2).1).1)) (((((r0).2).2).1).2).1 (((((r0).2).2).1).2).2 (EC.decL ec_9 ((EC.encL ec_9 ((((r0).2).2).2).1) ++ [[(C.str (ByteArray.extract ((r0).2).1 (Int.toNat ((((((((r0).1).2).2).2).2).2).2).1) (Int.toNat (IntKind.wrap .i64 ((((((r0).1).2).2).2).1 + (1 : Int))))))]])) (EC.decL ec_4 (EC.encL ec_4 (((((r0).2).2).2).2).2)))))))))))
 (brE ((((((((r0).2).2).2).2).1).2).1 == false)
 (brE ((((((r0).2).2).2).2).1).1
 (gdE ((decide ((0 : Int) ≤ (((((r0).1).2).2).2).1)) && (decide ((((((r0).1).2).2).2).1 ≤ (((ByteArray.size ((r0).2).1) : Nat) : Int)))) <|
 (gdE ((decide ((0 : Int) ≤ ((((((((r0).1).2).2).2).2).2).2).1)) && (decide (((((((((r0).1).2).2).2).2).2).2).1 ≤ (((Int.toNat (((((r0).1).2).2).2).1) : Nat) : Int)))) <|
 (gdE ((((List.all [[(C.str (ByteArray.extract ((r0).2).1 (Int.toNat ((((((((r0).1).2).2).2).2).2).2).1) (Int.toNat (((((r0).1).2).2).2).1)))]] (fun (el : (List C)) => ((List.length el) == (1 : Nat)))) && (List.all (EC.encL ec_9 ((((r0).2).2).2).1) (fun (el : (List C)) => ((List.length el) == (1 : Nat))))) && (decide (((((((((r0).1).2).2).1 + (List.length [[(C.str (ByteArray.extract ((r0).2).1 (Int.toNat ((((((((r0).1).2).2).2).2).2).2).1) (Int.toNat (((((r0).1).2).2).2).1)))]])) + ((((((r0).1).2).2).1 + (List.length [[(C.str (ByteArray.extract ((r0).2).1 (Int.toNat ((((((((r0).1).2).2).2).2).2).2).1) (Int.toNat (((((r0).1).2).2).2).1)))]])) / (4 : Nat))) + (192 : Nat)) * (16 : Nat)) ≤ (281474976710656 : Nat)))) && (decide ((((((r0).1).2).2).1 + (List.length [[(C.str (ByteArray.extract ((r0).2).1 (Int.toNat ((((((((r0).1).2).2).2).2).2).2).1) (Int.toNat (((((r0).1).2).2).2).1)))]])) ≤ (9223372036854775807 : Nat)))) <|
 (gdE (EC.isL ec_192 (EC.encL ec_192 (((((((((r0).1).2).2).2).2).2).2).2).1)) <|
 (gdE (EC.isL ec_75 (EC.encL ec_75 ((((r0).2).2).1).1)) <|
 (gdE (EC.isL ec_9 ((EC.encL ec_9 ((((r0).2).2).2).1) ++ [[(C.str (ByteArray.extract ((r0).2).1 (Int.toNat ((((((((r0).1).2).2).2).2).2).2).1) (Int.toNat (((((r0).1).2).2).2).1)))]])) <|
 (gdE (EC.isL ec_4 (EC.encL ec_4 (((((r0).2).2).2).2).2)) <|
 (patterns_wild_l21 (((r0).1).2).1 (((((r0).1).2).2).1 + (List.length [[(C.str (ByteArray.extract ((r0).2).1 (Int.toNat ((((((((r0).1).2).2).2).2).2).2).1) (Int.toNat (((((r0).1).2).2).2).1)))]])) (((((r0).1).2).2).2).1 (EC.decL ec_192 (EC.encL ec_192 (((((((((r0).1).2).2).2).2).2).2).2).1)) ((((((((((r0).1).2).2).2).2).2).2).2).2).1 (IntKind.wrap .i64 ((((((((((((r0).1).2).2).2).2).2).2).2).2).2).1 + (1 : Int))) ((r0).2).1 (EC.decL ec_75 (EC.encL ec_75 ((((r0).2).2).1).1)) (((((r0).2).2).1).2).1 (((((r0).2).2).1).2).2 (EC.decL ec_9 ((EC.encL ec_9 ((((r0).2).2).2).1) ++ [[(C.str (ByteArray.extract ((r0).2).1 (Int.toNat ((((((((r0).1).2).2).2).2).2).2).1) (Int.toNat (((((r0).1).2).2).2).1)))]])) (EC.decL ec_4 (EC.encL ec_4 (((((r0).2).2).2).2).2))))))))))
 (gdE (EC.isL ec_192 (EC.encL ec_192 (((((((((r0).1).2).2).2).2).2).2).2).1)) <|
 (gdE (EC.isL ec_75 (EC.encL ec_75 ((((r0).2).2).1).1)) <|
 (gdE (EC.isL ec_9 (EC.encL ec_9 ((((r0).2).2).2).1)) <|
 (gdE (EC.isL ec_4 (EC.encL ec_4 (((((r0).2).2).2).2).2)) <|
 (patterns_wild_l21 (((r0).1).2).1 ((((r0).1).2).2).1 (((((r0).1).2).2).2).1 (EC.decL ec_192 (EC.encL ec_192 (((((((((r0).1).2).2).2).2).2).2).2).1)) ((((((((((r0).1).2).2).2).2).2).2).2).2).1 (IntKind.wrap .i64 ((((((((((((r0).1).2).2).2).2).2).2).2).2).2).1 + (1 : Int))) ((r0).2).1 (EC.decL ec_75 (EC.encL ec_75 ((((r0).2).2).1).1)) (((((r0).2).2).1).2).1 (((((r0).2).2).1).2).2 (EC.decL ec_9 (EC.encL ec_9 ((((r0).2).2).2).1)) (EC.decL ec_4 (EC.encL ec_4 (((((r0).2).2).2).2).2))))))))
 (gdE ((decide ((0 : Int) ≤ (((((r0).1).2).2).2).1)) && (decide ((((((r0).1).2).2).2).1 ≤ (((ByteArray.size ((r0).2).1) : Nat) : Int)))) <|
 (gdE ((decide ((0 : Int) ≤ ((((((((r0).1).2).2).2).2).2).2).1)) && (decide (((((((((r0).1).2).2).2).2).2).2).1 ≤ (((Int.toNat (((((r0).1).2).2).2).1) : Nat) : Int)))) <|
 (gdE ((((List.all [[(C.str (ByteArray.extract ((r0).2).1 (Int.toNat ((((((((r0).1).2).2).2).2).2).2).1) (Int.toNat (((((r0).1).2).2).2).1)))]] (fun (el : (List C)) => ((List.length el) == (1 : Nat)))) && (List.all (EC.encL ec_9 ((((r0).2).2).2).1) (fun (el : (List C)) => ((List.length el) == (1 : Nat))))) && (decide (((((((((r0).1).2).2).1 + (List.length [[(C.str (ByteArray.extract ((r0).2).1 (Int.toNat ((((((((r0).1).2).2).2).2).2).2).1) (Int.toNat (((((r0).1).2).2).2).1)))]])) + ((((((r0).1).2).2).1 + (List.length [[(C.str (ByteArray.extract ((r0).2).1 (Int.toNat ((((((((r0).1).2).2).2).2).2).2).1) (Int.toNat (((((r0).1).2).2).2).1)))]])) / (4 : Nat))) + (192 : Nat)) * (16 : Nat)) ≤ (281474976710656 : Nat)))) && (decide ((((((r0).1).2).2).1 + (List.length [[(C.str (ByteArray.extract ((r0).2).1 (Int.toNat ((((((((r0).1).2).2).2).2).2).2).1) (Int.toNat (((((r0).1).2).2).2).1)))]])) ≤ (9223372036854775807 : Nat)))) <|
 (gdE (EC.isL ec_192 (EC.encL ec_192 (((((((((r0).1).2).2).2).2).2).2).2).1)) <|
 (gdE (EC.isL ec_75 (EC.encL ec_75 ((((r0).2).2).1).1)) <|
 (gdE (EC.isL ec_9 ((EC.encL ec_9 ((((r0).2).2).2).1) ++ [[(C.str (ByteArray.extract ((r0).2).1 (Int.toNat ((((((((r0).1).2).2).2).2).2).2).1) (Int.toNat (((((r0).1).2).2).2).1)))]])) <|
 (gdE (EC.isL ec_4 (EC.encL ec_4 (((((r0).2).2).2).2).2)) <|
 (patterns_wild_l21 (((r0).1).2).1 (((((r0).1).2).2).1 + (List.length [[(C.str (ByteArray.extract ((r0).2).1 (Int.toNat ((((((((r0).1).2).2).2).2).2).2).1) (Int.toNat (((((r0).1).2).2).2).1)))]])) (((((r0).1).2).2).2).1 (EC.decL ec_192 (EC.encL ec_192 (((((((((r0).1).2).2).2).2).2).2).2).1)) ((((((((((r0).1).2).2).2).2).2).2).2).2).1 (IntKind.wrap .i64 ((((((((((((r0).1).2).2).2).2).2).2).2).2).2).1 + (1 : Int))) ((r0).2).1 (EC.decL ec_75 (EC.encL ec_75 ((((r0).2).2).1).1)) (((((r0).2).2).1).2).1 (((((r0).2).2).1).2).2 (EC.decL ec_9 ((EC.encL ec_9 ((((r0).2).2).2).1) ++ [[(C.str (ByteArray.extract ((r0).2).1 (Int.toNat ((((((((r0).1).2).2).2).2).2).2).1) (Int.toNat (((((r0).1).2).2).2).1)))]])) (EC.decL ec_4 (EC.encL ec_4 (((((r0).2).2).2).2).2)))))))))))))))))))
 (gdE (EC.isL ec_192 (EC.encL ec_192 t123)) <|
 (gdE (EC.isL ec_75 (EC.encL ec_75 b1)) <|
 (gdE (EC.isL ec_9 (EC.encL ec_9 b2)) <|
 (gdE (EC.isL ec_4 (EC.encL ec_4 b3)) <|
 (some (((), (can, (out, (j, ((EC.decL ec_192 (EC.encL ec_192 t123)), (t124, (t125, false))))))), (b0, (((EC.decL ec_75 (EC.encL ec_75 b1)), (b1_1, b1_2)), ((EC.decL ec_9 (EC.encL ec_9 b2)), (EC.decL ec_4 (EC.encL ec_4 b3))))))))))))
theorem patterns_wild_l21_eq {can : Nat} {out : Nat} {j : Int} {t123 : (List S192)} {t124 : Int} {t125 : Int} {b0 : ByteArray} {b1 : (List (List Bool))} {b1_1 : Nat} {b1_2 : Nat} {b2 : (List ByteArray)} {b3 : (List Bool)} {r : ((Unit × Nat × Nat × Int × (List S192) × Int × Int × Bool) × (ByteArray × ((List (List Bool)) × Nat × Nat) × (List ByteArray) × (List Bool)))} (h : patterns_wild_l21_t can out j t123 t124 t125 b0 b1 b1_1 b1_2 b2 b3 = some r) : patterns_wild_l21 can out j t123 t124 t125 b0 b1 b1_1 b1_2 b2 b3 = some r :=
  lS_tree (es := tab_fits) (hs := []) [patterns_wild_l24_e] (by kernel_rfl) ⟨⟨_, rfl, rfl⟩, trivial⟩ trivial (by kernel_rfl) h
def patterns_wild_l21_e : LEnt Tryz.prog lv X0 155 166 := lentS Tryz.prog lv X0 21 (getLoop (cdF Tryz.f155) 21) patterns_wild_l21_s patterns_wild_l21_o (fun x => patterns_wild_l21 x.1.2.1 x.1.2.2.1 x.1.2.2.2.1 x.1.2.2.2.2.1 x.1.2.2.2.2.2.1 x.1.2.2.2.2.2.2 x.2.1 x.2.2.1.1 x.2.2.1.2.1 x.2.2.1.2.2 x.2.2.2.1 x.2.2.2.2) (fun _ _ h => lS_from h)
def patterns_wild_cr : Cod (V × List B) ((Bool × Nat) × (List ByteArray)) := (cPair (vTup (lCons (vC cBool) (lOne (vRow 0)))) (lOne (bRow ec_9)))
def patterns_wild_s (l : (List S192)) (text : ByteArray) : Option ((Bool × Nat) × (List ByteArray)) := fS Tryz.prog lv X0 155 patterns_wild_ca patterns_wild_cr (l, text)
def patterns_wild_t (l : (List S192)) (text : ByteArray) : Option ((Bool × Nat) × (List ByteArray)) :=
 (Option.bind (basic_Lower_s text) fun r0 =>
 (gdE ((((decide ((IntKind.wrap .i64 ((((List.length (EC.encL ec_192 l)) : Nat) : Int) + (1 : Int))) = (IntKind.wrap .i64 ((((List.length (EC.encL ec_192 l)) : Nat) : Int) + (1 : Int))))) && (decide ((0 : Int) ≤ (IntKind.wrap .i64 ((((List.length (EC.encL ec_192 l)) : Nat) : Int) + (1 : Int)))))) && (decide (((IntKind.wrap .i64 ((((List.length (EC.encL ec_192 l)) : Nat) : Int) + (1 : Int))) * (((24 : Nat) : Nat) : Int)) ≤ (140737488355328 : Int)))) && (decide ((IntKind.wrap .i64 ((((List.length (EC.encL ec_192 l)) : Nat) : Int) + (1 : Int))) ≤ (9223372036854775807 : Int)))) <|
 (gdE (EC.isL ec_192 (EC.encL ec_192 l)) <|
 (gdE (EC.isL ec_75 (List.replicate (Int.toNat (IntKind.wrap .i64 ((((List.length (EC.encL ec_192 l)) : Nat) : Int) + (1 : Int)))) [(C.sl [])])) <|
 (Option.bind (patterns_wild_l5 (EC.decL ec_192 (EC.encL ec_192 l)) (Int.toNat (IntKind.wrap .i64 ((((List.length (EC.encL ec_192 l)) : Nat) : Int) + (1 : Int)))) (((List.length (EC.encL ec_192 l)) : Nat) : Int) text r0 (EC.decL ec_75 (List.replicate (Int.toNat (IntKind.wrap .i64 ((((List.length (EC.encL ec_192 l)) : Nat) : Int) + (1 : Int)))) [(C.sl [])])) (Int.toNat (IntKind.wrap .i64 ((((List.length (EC.encL ec_192 l)) : Nat) : Int) + (1 : Int)))) (0 : Nat) (EC.decL ec_4 [])) fun r1 =>
 (gdE ((decide ((0 : Int) ≤ (0 : Int))) && (decide ((0 : Int) < (((((((r1).1).2).2).2).1 : Nat) : Int)))) <|
 (gdE (decide ((Int.toNat (0 : Int)) < (List.length (EC.encL ec_75 (((((r1).2).2).2).1).1)))) <|
 (brE ((Int.toNat (0 : Int)) == ((((((r1).2).2).2).1).2).1)
 (gdE ((decide ((0 : Int) ≤ (0 : Int))) && (decide ((0 : Int) < ((((((((r1).2).2).2).1).2).2 : Nat) : Int)))) <|
 (gdE ((decide ((Int.toNat (0 : Int)) < (List.length (EC.encL ec_4 ((((r1).2).2).2).2)))) && ((List.length (List.getD (EC.encL ec_4 ((((r1).2).2).2).2) (Int.toNat (0 : Int)) [])) == (1 : Nat))) <|
 (gdE (isP [K1.bool] (0 : Nat) (List.getD (EC.encL ec_4 ((((r1).2).2).2).2) (Int.toNat (0 : Int)) [])) <|
 (brE (!(boolOf (List.getD (List.getD (EC.encL ec_4 ((((r1).2).2).2).2) (Int.toNat (0 : Int)) []) (0 : Nat) C.ne)))
 (some ((false, (0 : Nat)), (EC.decL ec_9 [])))
 (gdE (EC.isL ec_192 (EC.encL ec_192 ((r1).1).1)) <|
 (gdE (EC.isL ec_75 (EC.encL ec_75 (((((r1).2).2).2).1).1)) <|
 (gdE (EC.isL ec_4 (EC.encL ec_4 ((((r1).2).2).2).2)) <|
 (Option.bind (patterns_wild_l21 (((((r1).1).2).2).2).1 (0 : Nat) (0 : Int) (EC.decL ec_192 (EC.encL ec_192 ((r1).1).1)) (((List.length (EC.encL ec_192 ((r1).1).1)) : Nat) : Int) (0 : Int) ((r1).2).1 (EC.decL ec_75 (EC.encL ec_75 (((((r1).2).2).2).1).1)) ((((((r1).2).2).2).1).2).1 ((((((r1).2).2).2).1).2).2 (EC.decL ec_9 []) (EC.decL ec_4 (EC.encL ec_4 ((((r1).2).2).2).2))) fun r2 =>
 (gdE (EC.isL ec_9 (EC.encL ec_9 ((((r2).2).2).2).1)) <|
 (some ((true, ((((r2).1).2).2).1), (EC.decL ec_9 (EC.encL ec_9 ((((r2).2).2).2).1)))))))))))))
 (gdE ((List.length (List.getD (EC.encL ec_75 (((((r1).2).2).2).1).1) (Int.toNat (0 : Int)) [])) == (1 : Nat)) <|
 (gdE (isP [K1.sl] (0 : Nat) (List.getD (EC.encL ec_75 (((((r1).2).2).2).1).1) (Int.toNat (0 : Int)) [])) <|
 (gdE ((decide ((Int.toNat (0 : Int)) < (List.length (slOf (List.getD (List.getD (EC.encL ec_75 (((((r1).2).2).2).1).1) (Int.toNat (0 : Int)) []) (0 : Nat) C.ne))))) && (isE [K1.bool] (0 : Nat) (List.getD (slOf (List.getD (List.getD (EC.encL ec_75 (((((r1).2).2).2).1).1) (Int.toNat (0 : Int)) []) (0 : Nat) C.ne)) (Int.toNat (0 : Int)) []))) <|
 (brE (!(boolOf (List.getD (List.getD (slOf (List.getD (List.getD (EC.encL ec_75 (((((r1).2).2).2).1).1) (Int.toNat (0 : Int)) []) (0 : Nat) C.ne)) (Int.toNat (0 : Int)) []) (0 : Nat) C.ne)))
 (some ((false, (0 : Nat)), (EC.decL ec_9 [])))
 (gdE (EC.isL ec_192 (EC.encL ec_192 ((r1).1).1)) <|
 (gdE (EC.isL ec_75 (EC.encL ec_75 (((((r1).2).2).2).1).1)) <|
 (gdE (EC.isL ec_4 (EC.encL ec_4 ((((r1).2).2).2).2)) <|
 (Option.bind (patterns_wild_l21 (((((r1).1).2).2).2).1 (0 : Nat) (0 : Int) (EC.decL ec_192 (EC.encL ec_192 ((r1).1).1)) (((List.length (EC.encL ec_192 ((r1).1).1)) : Nat) : Int) (0 : Int) ((r1).2).1 (EC.decL ec_75 (EC.encL ec_75 (((((r1).2).2).2).1).1)) ((((((r1).2).2).2).1).2).1 ((((((r1).2).2).2).1).2).2 (EC.decL ec_9 []) (EC.decL ec_4 (EC.encL ec_4 ((((r1).2).2).2).2))) fun r2 =>
 (gdE (EC.isL ec_9 (EC.encL ec_9 ((((r2).2).2).2).1)) <|
 (some ((true, ((((r2).1).2).2).1), (EC.decL ec_9 (EC.encL ec_9 ((((r2).2).2).2).1)))))))))))))))))))))
theorem patterns_wild_eq {l : (List S192)} {text : ByteArray} {r : ((Bool × Nat) × (List ByteArray))} (h : patterns_wild_t l text = some r) : patterns_wild_s l text = some r :=
  fS_tree (es := tab_fits) (hs := []) [patterns_wild_l5_e, patterns_wild_l21_e] Tryz.func155 rfl (by kernel_rfl) rfl (by kernel_rfl) (by kernel_rfl) ⟨⟨_, rfl, rfl⟩, ⟨_, rfl, rfl⟩, trivial⟩ trivial (by kernel_rfl) h
def patterns_wild_e : Ent Tryz.prog lv X0 := entS Tryz.prog lv X0 155 [] patterns_wild_ca patterns_wild_cr (fun x => patterns_wild_s x.1 x.2) (fun _ _ h => fS_call h)
def tab_patterns_wild : List (Ent Tryz.prog lv X0) := patterns_wild_e :: tab_fits
def patterns_Match_ca : Cod (List V) (Int × ByteArray × ByteArray) := (lCons (vC (cInt .i64)) (lCons (vC cStr) (lOne (vC cStr))))
def patterns_Match_cr : Cod (V × List B) ((Bool × Nat × (Int × Int)) × (List ByteArray)) := (cPair (vTup (lCons (vC cBool) (lCons (vRow 0) (lOne (vAgg (lCons (vC (cInt .i64)) (lOne (vC (cInt .i64))))))))) (lOne (bRow ec_9)))
def patterns_Match_s (kind : Int) (pattern : ByteArray) (text : ByteArray) : Option ((Bool × Nat × (Int × Int)) × (List ByteArray)) := fS Tryz.prog lv X0 131 patterns_Match_ca patterns_Match_cr (kind, pattern, text)
def patterns_Match_t (kind : Int) (pattern : ByteArray) (text : ByteArray) : Option ((Bool × Nat × (Int × Int)) × (List ByteArray)) :=
 (brE ((decide (kind < (1 : Int))) == false)
 (brE (decide (kind > (3 : Int)))
 (Option.bind (basic_Fault_s (4 : Int) (-(2 : Int))) fun r0 =>
 (some ((false, ((0 : Nat), ((r0).1, (r0).2))), (EC.decL ec_9 []))))
 (brE (decide ((((ByteArray.size pattern) : Nat) : Int) > (200 : Int)))
 (Option.bind (basic_Fault_s (1 : Int) (-(3 : Int))) fun r0 =>
 (some ((false, ((0 : Nat), ((r0).1, (r0).2))), (EC.decL ec_9 []))))
 (Option.bind (patterns_elements_s pattern) fun r0 =>
 (brE ((kind == 3) == true)
 (brE (!((r0).1).2)
 (Option.bind (basic_Fault_s (11 : Int) (IntKind.wrap .i64 ((((ByteArray.size pattern) : Nat) : Int) - (1 : Int)))) fun r1 =>
 (some ((false, ((0 : Nat), ((r1).1, (r1).2))), (EC.decL ec_9 []))))
 (brE (decide ((((ByteArray.size text) : Nat) : Int) > (4000 : Int)))
 (Option.bind (basic_Fault_s (1 : Int) (-(1 : Int))) fun r1 =>
 (some ((false, ((0 : Nat), ((r1).1, (r1).2))), (EC.decL ec_9 []))))
 (brE (kind == 1)
 (Option.bind (basic_Same_s pattern text) fun r1 =>
 (Option.bind basic_None_s fun r2 =>
 (some ((r1, ((0 : Nat), ((r2).1, (r2).2))), (EC.decL ec_9 [])))))
 (brE (kind == 2)
 (Option.bind (basic_Lower_s text) fun r1 =>
 (Option.bind (basic_Lower_s pattern) fun r2 =>
 (Option.bind (contP r1 r2) fun r3 =>
 (Option.bind basic_None_s fun r4 =>
 (some ((r3, ((0 : Nat), ((r4).1, (r4).2))), (EC.decL ec_9 [])))))))
 (gdE (EC.isL ec_192 (EC.encL ec_192 (r0).2)) <|
 (Option.bind (patterns_wild_s (EC.decL ec_192 (EC.encL ec_192 (r0).2)) text) fun r1 =>
 (Option.bind basic_None_s fun r2 =>
 (gdE (EC.isL ec_9 (EC.encL ec_9 (r1).2)) <|
 (some ((((r1).1).1, (((r1).1).2, ((r2).1, (r2).2))), (EC.decL ec_9 (EC.encL ec_9 (r1).2))))))))))))
 (brE (decide ((((ByteArray.size text) : Nat) : Int) > (4000 : Int)))
 (Option.bind (basic_Fault_s (1 : Int) (-(1 : Int))) fun r1 =>
 (some ((false, ((0 : Nat), ((r1).1, (r1).2))), (EC.decL ec_9 []))))
 (brE (kind == 1)
 (Option.bind (basic_Same_s pattern text) fun r1 =>
 (Option.bind basic_None_s fun r2 =>
 (some ((r1, ((0 : Nat), ((r2).1, (r2).2))), (EC.decL ec_9 [])))))
 (brE (kind == 2)
 (Option.bind (basic_Lower_s text) fun r1 =>
 (Option.bind (basic_Lower_s pattern) fun r2 =>
 (Option.bind (contP r1 r2) fun r3 =>
 (Option.bind basic_None_s fun r4 =>
 (some ((r3, ((0 : Nat), ((r4).1, (r4).2))), (EC.decL ec_9 [])))))))
 (gdE (EC.isL ec_192 (EC.encL ec_192 (r0).2)) <|
 (Option.bind (patterns_wild_s (EC.decL ec_192 (EC.encL ec_192 (r0).2)) text) fun r1 =>
 (Option.bind basic_None_s fun r2 =>
 (gdE (EC.isL ec_9 (EC.encL ec_9 (r1).2)) <|
 (some ((((r1).1).1, (((r1).1).2, ((r2).1, (r2).2))), (EC.decL ec_9 (EC.encL ec_9 (r1).2)))))))))))))))
 (Option.bind (basic_Fault_s (4 : Int) (-(2 : Int))) fun r0 =>
 (some ((false, ((0 : Nat), ((r0).1, (r0).2))), (EC.decL ec_9 [])))))
theorem patterns_Match_eq {kind : Int} {pattern : ByteArray} {text : ByteArray} {r : ((Bool × Nat × (Int × Int)) × (List ByteArray))} (h : patterns_Match_t kind pattern text = some r) : patterns_Match_s kind pattern text = some r :=
  fS_tree (es := tab_patterns_wild) (hs := []) [] Tryz.func131 rfl (by kernel_rfl) rfl (by kernel_rfl) (by kernel_rfl) trivial trivial (by kernel_rfl) h
def patterns_Match_e : Ent Tryz.prog lv X0 := entS Tryz.prog lv X0 131 [] patterns_Match_ca patterns_Match_cr (fun x => patterns_Match_s x.1 x.2.1 x.2.2) (fun _ _ h => fS_call h)
def tab_patterns_Match : List (Ent Tryz.prog lv X0) := patterns_Match_e :: tab_patterns_wild
end
end Go.Proofs.YtokahibbkdbndaaGreatDoor
