/- Functions of the program as plain functions: made by program from the machine. -/
import Derived.Test.YtgmjhnijnpfkgaaGB
namespace Go.Proofs.Ytgmjhnijnpfkgaa
open Go.RowKit
set_option maxRecDepth 100000
def basic_Fault_ca : Cod (List V) (Int × Int) := (lCons (vC (cInt .i64)) (lOne (vC (cInt .i64))))
def basic_Fault_cr : Cod (V × List B) (Int × Int) := (cFstU (cPair (vAgg (lCons (vC (cInt .i64)) (lOne (vC (cInt .i64))))) lNil))
noncomputable def basic_Fault_s (code : Int) (at_ : Int) : Option (Int × Int) := fS Try.prog lv X0 40 basic_Fault_ca basic_Fault_cr (code, at_)
noncomputable def basic_Fault_t (code : Int) (at_ : Int) : Option (Int × Int) :=
  (some (code, at_))
theorem basic_Fault_eq {code : Int} {at_ : Int} {r : (Int × Int)} (h : basic_Fault_t code at_ = some r) : basic_Fault_s code at_ = some r :=
  fS_tree (es := tab0) (hs := []) [] Try.func40 rfl (by kernel_rfl) rfl (by kernel_rfl) (by kernel_rfl) trivial trivial (by kernel_rfl) h
noncomputable def basic_Fault_e : Ent Try.prog lv X0 := entS Try.prog lv X0 40 [] basic_Fault_ca basic_Fault_cr (fun x => basic_Fault_s x.1 x.2) (fun _ _ h => fS_call h)
noncomputable def tab_basic_Fault : List (Ent Try.prog lv X0) := basic_Fault_e :: tab0
def basic_None_ca : Cod (List V) Unit := lNil
def basic_None_cr : Cod (V × List B) (Int × Int) := (cFstU (cPair (vAgg (lCons (vC (cInt .i64)) (lOne (vC (cInt .i64))))) lNil))
noncomputable def basic_None_s  : Option (Int × Int) := fS Try.prog lv X0 42 basic_None_ca basic_None_cr ()
noncomputable def basic_None_t  : Option (Int × Int) :=
  (some ((0 : Int), (0 : Int)))
theorem basic_None_eq {r : (Int × Int)} (h : basic_None_t  = some r) : basic_None_s  = some r :=
  fS_tree (es := tab_basic_Fault) (hs := []) [] Try.func42 rfl (by kernel_rfl) rfl (by kernel_rfl) (by kernel_rfl) trivial trivial (by kernel_rfl) h
noncomputable def basic_None_e : Ent Try.prog lv X0 := entS Try.prog lv X0 42 [] basic_None_ca basic_None_cr (fun x => basic_None_s ) (fun _ _ h => fS_call h)
noncomputable def tab_basic_None : List (Ent Try.prog lv X0) := basic_None_e :: tab_basic_Fault
def ec_5 : EC Int where
  enc x := [.int .u8 x]
  dec c := intOf (c.getD 0 .ne)
  is c := isE [.int .u8] 0 c
  enc_dec h := decE_eq h
  dec_enc x := by rfl
  is_enc x := by simp [isE, isK]
theorem enc_5 (x : Int) : ec_5.enc x = [.int .u8 x] := rfl
theorem isE_5 (xs : List Int) (n : Nat) : isE [.int .u8] 0 ((ec_5.encL xs).getD n []) = decide (n < xs.length) := by
  by_cases h : n < xs.length
  · simp only [EC.getD_lt _ _ h]; simp [enc_5, isE, isK, h]
  · simp only [EC.getD_ge _ _ (Nat.not_lt.1 h)]; simp [isE, isK, h]
theorem at_5_0 (xs : List Int) (n : Nat) : intOf (((ec_5.encL xs).getD n []).getD 0 .ne) = (xs.getD n (ec_5.dec [])) := by
  by_cases h : n < xs.length
  · simp only [EC.getD_lt _ _ h]; simp [enc_5, h, intOf, List.getD_eq_getElem?_getD]
  · simp only [EC.getD_ge _ _ (Nat.not_lt.1 h)]; simp [Nat.not_lt.1 h, ec_5, intOf, List.getD_eq_getElem?_getD]
theorem lit_5 (a0 : Int) : ([.int .u8 a0] : List C) = ec_5.enc a0 := rfl
theorem apd_5 (xs : List Int) (a0 : Int) : ec_5.encL xs ++ [[.int .u8 a0]] = ec_5.encL (xs ++ [a0]) := by rw [lit_5]; simp [EC.encL]
theorem len_5 (xs : List Int) (n : Nat) (h : n < xs.length) : ((ec_5.encL xs).getD n []).length = 1 := by rw [EC.getD_lt _ _ h]; rfl
theorem all_5 (xs : List Int) : (ec_5.encL xs).all (fun (el : List C) => el.length == 1) = true := by induction xs with | nil => rfl | cons x xs ih => first | (simp [EC.encL, enc_5]; done) | simpa [EC.encL, enc_5] using ih
theorem set_5_0_1 (xs : List Int) (n : Nat) (a0 : Int) : (ec_5.encL xs).set n (splice ((ec_5.encL xs).getD n []) 0 [.int .u8 a0]) = ec_5.encL (xs.set n (a0)) := by
  by_cases h : n < xs.length
  · rw [EC.getD_lt _ _ h]; simp [EC.encL, List.map_set, enc_5, splice]
  · simp [EC.encL, List.set_eq_of_length_le, Nat.not_lt.1 h]
def basic_Lower_ca : Cod (List V) ByteArray := (lOne (vC cStr))
def basic_Lower_l3_s : SC ((Nat × Nat × Int × Int) × (List Int)) := sLS [3, 8, 9, 10] (lCons (vRow 0) (lCons (vRow 0) (lCons (vC (cInt .i64)) (lOne (vC (cInt .i64)))))) (lOne (oSome (bRow ec_5))) [false] [] (by decide) (fun _ => rfl)
def basic_Lower_l3_o2 : SC ((Nat × Nat × Int × Int × Bool) × (List Int)) := sLS [3, 8, 9, 10, 11] (lCons (vRow 0) (lCons (vRow 0) (lCons (vC (cInt .i64)) (lCons (vC (cInt .i64)) (lOne (vC cBool)))))) (lOne (oSome (bRow ec_5))) [false] [] (by decide) (fun _ => rfl)
def basic_Lower_l3_o : OC ((Nat × Nat × Int × Int × Bool) × (List Int)) := oAt 2 basic_Lower_l3_o2
noncomputable def basic_Lower_l3 (b : Nat) (t8 : Nat) (t9 : Int) (t10 : Int) (b0 : (List Int)) : Option ((Nat × Nat × Int × Int × Bool) × (List Int)) := lS Try.prog lv X0 65 30 (getLoop (cdF Try.f65) 3) basic_Lower_l3_s basic_Lower_l3_o ((b, t8, t9, t10), b0)
noncomputable def basic_Lower_l3_t (b : Nat) (t8 : Nat) (t9 : Int) (t10 : Int) (b0 : (List Int)) : Option ((Nat × Nat × Int × Int × Bool) × (List Int)) :=
  (brE (decide (t10 < t9))
  (gdE ((decide ((0 : Int) ≤ t10)) && (decide (t10 < ((t8 : Nat) : Int)))) <|
    (gdE ((decide ((Int.toNat t10) < (List.length (EC.encL ec_5 b0)))) && ((List.length (List.getD (EC.encL ec_5 b0) (Int.toNat t10) [])) == (1 : Nat))) <|
      (gdE (isP [(K1.int Go.IntKind.u8)] (0 : Nat) (List.getD (EC.encL ec_5 b0) (Int.toNat t10) [])) <|
        (brE ((decide ((intOf (List.getD (List.getD (EC.encL ec_5 b0) (Int.toNat t10) []) (0 : Nat) C.ne)) ≥ (65 : Int))) == true)
          (brE (decide ((intOf (List.getD (List.getD (EC.encL ec_5 b0) (Int.toNat t10) []) (0 : Nat) C.ne)) ≤ (90 : Int)))
            (gdE ((decide ((0 : Int) ≤ t10)) && (decide (t10 < ((b : Nat) : Int)))) <|
              (gdE ((decide ((Int.toNat t10) < (List.length (EC.encL ec_5 b0)))) && ((List.length (List.getD (EC.encL ec_5 b0) (Int.toNat t10) [])) == (1 : Nat))) <|
                (gdE (EC.isL ec_5 (List.set (EC.encL ec_5 b0) (Int.toNat t10) (splice (List.getD (EC.encL ec_5 b0) (Int.toNat t10) []) (0 : Nat) [(C.int Go.IntKind.u8 (Go.IntKind.wrap Go.IntKind.u8 ((Go.IntKind.wrap Go.IntKind.u8 ((intOf (List.getD (List.getD (EC.encL ec_5 b0) (Int.toNat t10) []) (0 : Nat) C.ne)) + (97 : Int))) - (65 : Int))))]))) <|
                  (basic_Lower_l3 b t8 t9 (Go.IntKind.wrap Go.IntKind.i64 (t10 + (1 : Int))) (EC.decL ec_5 (List.set (EC.encL ec_5 b0) (Int.toNat t10) (splice (List.getD (EC.encL ec_5 b0) (Int.toNat t10) []) (0 : Nat) [(C.int Go.IntKind.u8 (Go.IntKind.wrap Go.IntKind.u8 ((Go.IntKind.wrap Go.IntKind.u8 ((intOf (List.getD (List.getD (EC.encL ec_5 b0) (Int.toNat t10) []) (0 : Nat) C.ne)) + (97 : Int))) - (65 : Int))))])))))))
            (gdE (EC.isL ec_5 (EC.encL ec_5 b0)) <|
              (basic_Lower_l3 b t8 t9 (Go.IntKind.wrap Go.IntKind.i64 (t10 + (1 : Int))) (EC.decL ec_5 (EC.encL ec_5 b0)))))
          (gdE (EC.isL ec_5 (EC.encL ec_5 b0)) <|
            (basic_Lower_l3 b t8 t9 (Go.IntKind.wrap Go.IntKind.i64 (t10 + (1 : Int))) (EC.decL ec_5 (EC.encL ec_5 b0))))))))
  (gdE (EC.isL ec_5 (EC.encL ec_5 b0)) <|
    (some ((b, (t8, (t9, (t10, false)))), (EC.decL ec_5 (EC.encL ec_5 b0))))))
theorem basic_Lower_l3_eq {b : Nat} {t8 : Nat} {t9 : Int} {t10 : Int} {b0 : (List Int)} {r : ((Nat × Nat × Int × Int × Bool) × (List Int))} (h : basic_Lower_l3_t b t8 t9 t10 b0 = some r) : basic_Lower_l3 b t8 t9 t10 b0 = some r :=
  lS_tree (es := tab_basic_None) (hs := []) [] (by kernel_rfl) trivial trivial (by kernel_rfl) h
noncomputable def basic_Lower_l3_e : LEnt Try.prog lv X0 65 30 := lentS Try.prog lv X0 3 (getLoop (cdF Try.f65) 3) basic_Lower_l3_s basic_Lower_l3_o (fun x => basic_Lower_l3 x.1.1 x.1.2.1 x.1.2.2.1 x.1.2.2.2 x.2) (fun _ _ h => lS_from h)
def basic_Lower_cr : Cod (V × List B) ByteArray := (cFstU (cPair (vC cStr) lNil))
noncomputable def basic_Lower_s (s : ByteArray) : Option ByteArray := fS Try.prog lv X0 65 basic_Lower_ca basic_Lower_cr s
noncomputable def basic_Lower_t (s : ByteArray) : Option ByteArray :=
  (gdE ((decide ((ByteArray.size s) ≤ (9223372036854775807 : Nat))) && (!((ByteArray.size s) == (0 : Nat)))) <|
  (gdE (EC.isL ec_5 (bytesL s)) <|
    (Option.bind (basic_Lower_l3 (ByteArray.size s) (ByteArray.size s) (((ByteArray.size s) : Nat) : Int) (0 : Int) (EC.decL ec_5 (bytesL s))) fun r0 =>
      (Option.bind (bytesOf (EC.encL ec_5 (r0).2)) fun r1 =>
        (some (ByteArray.mk (List.toArray r1)))))))
theorem basic_Lower_eq {s : ByteArray} {r : ByteArray} (h : basic_Lower_t s = some r) : basic_Lower_s s = some r :=
  fS_tree (es := tab_basic_None) (hs := []) [basic_Lower_l3_e] Try.func65 rfl (by kernel_rfl) rfl (by kernel_rfl) (by kernel_rfl) ⟨⟨_, rfl, rfl⟩, trivial⟩ trivial (by kernel_rfl) h
noncomputable def basic_Lower_e : Ent Try.prog lv X0 := entS Try.prog lv X0 65 [] basic_Lower_ca basic_Lower_cr (fun x => basic_Lower_s x) (fun _ _ h => fS_call h)
noncomputable def tab_basic_Lower : List (Ent Try.prog lv X0) := basic_Lower_e :: tab_basic_None
def basic_Same_ca : Cod (List V) (ByteArray × ByteArray) := (lCons (vC cStr) (lOne (vC cStr)))
def basic_Same_cr : Cod (V × List B) Bool := (cFstU (cPair (vC cBool) lNil))
noncomputable def basic_Same_s (a : ByteArray) (b : ByteArray) : Option Bool := fS Try.prog lv X0 63 basic_Same_ca basic_Same_cr (a, b)
noncomputable def basic_Same_t (a : ByteArray) (b : ByteArray) : Option Bool :=
  (brE (((((ByteArray.size a) : Nat) : Int) == (((ByteArray.size b) : Nat) : Int)) == true)
  (Option.bind (basic_Lower_s a) fun r0 =>
    (Option.bind (basic_Lower_s b) fun r1 =>
      (some ((ByteArray.toList r0) == (ByteArray.toList r1)))))
  (some false))
theorem basic_Same_eq {a : ByteArray} {b : ByteArray} {r : Bool} (h : basic_Same_t a b = some r) : basic_Same_s a b = some r :=
  fS_tree (es := tab_basic_Lower) (hs := []) [] Try.func63 rfl (by kernel_rfl) rfl (by kernel_rfl) (by kernel_rfl) trivial trivial (by kernel_rfl) h
noncomputable def basic_Same_e : Ent Try.prog lv X0 := entS Try.prog lv X0 63 [] basic_Same_ca basic_Same_cr (fun x => basic_Same_s x.1 x.2) (fun _ _ h => fS_call h)
noncomputable def tab_basic_Same : List (Ent Try.prog lv X0) := basic_Same_e :: tab_basic_Lower
structure S99 where
  one : Bool
  many : Bool
  c : Int
def ec_99 : EC S99 where
  enc x := [.bool x.one, .bool x.many, .int .u8 x.c]
  dec c := ⟨boolOf (c.getD 0 .ne), boolOf (c.getD 1 .ne), intOf (c.getD 2 .ne)⟩
  is c := isE [.bool, .bool, .int .u8] 0 c
  enc_dec h := decE_eq h
  dec_enc x := by rfl
  is_enc x := by simp [isE, isK]
theorem enc_99 (x : S99) : ec_99.enc x = [.bool x.one, .bool x.many, .int .u8 x.c] := rfl
theorem isE_99 (xs : List S99) (n : Nat) : isE [.bool, .bool, .int .u8] 0 ((ec_99.encL xs).getD n []) = decide (n < xs.length) := by
  by_cases h : n < xs.length
  · simp only [EC.getD_lt _ _ h]; simp [enc_99, isE, isK, h]
  · simp only [EC.getD_ge _ _ (Nat.not_lt.1 h)]; simp [isE, isK, h]
theorem at_99_0 (xs : List S99) (n : Nat) : boolOf (((ec_99.encL xs).getD n []).getD 0 .ne) = (xs.getD n (ec_99.dec [])).one := by
  by_cases h : n < xs.length
  · simp only [EC.getD_lt _ _ h]; simp [enc_99, h, boolOf, List.getD_eq_getElem?_getD]
  · simp only [EC.getD_ge _ _ (Nat.not_lt.1 h)]; simp [Nat.not_lt.1 h, ec_99, intOf, boolOf, List.getD_eq_getElem?_getD]
theorem at_99_1 (xs : List S99) (n : Nat) : boolOf (((ec_99.encL xs).getD n []).getD 1 .ne) = (xs.getD n (ec_99.dec [])).many := by
  by_cases h : n < xs.length
  · simp only [EC.getD_lt _ _ h]; simp [enc_99, h, boolOf, List.getD_eq_getElem?_getD]
  · simp only [EC.getD_ge _ _ (Nat.not_lt.1 h)]; simp [Nat.not_lt.1 h, ec_99, intOf, boolOf, List.getD_eq_getElem?_getD]
theorem at_99_2 (xs : List S99) (n : Nat) : intOf (((ec_99.encL xs).getD n []).getD 2 .ne) = (xs.getD n (ec_99.dec [])).c := by
  by_cases h : n < xs.length
  · simp only [EC.getD_lt _ _ h]; simp [enc_99, h, intOf, List.getD_eq_getElem?_getD]
  · simp only [EC.getD_ge _ _ (Nat.not_lt.1 h)]; simp [Nat.not_lt.1 h, ec_99, intOf, boolOf, List.getD_eq_getElem?_getD]
theorem lit_99 (a0 : Bool) (a1 : Bool) (a2 : Int) : ([.bool a0, .bool a1, .int .u8 a2] : List C) = ec_99.enc (⟨a0, a1, a2⟩ : S99) := rfl
theorem apd_99 (xs : List S99) (a0 : Bool) (a1 : Bool) (a2 : Int) : ec_99.encL xs ++ [[.bool a0, .bool a1, .int .u8 a2]] = ec_99.encL (xs ++ [(⟨a0, a1, a2⟩ : S99)]) := by rw [lit_99]; simp [EC.encL]
theorem len_99 (xs : List S99) (n : Nat) (h : n < xs.length) : ((ec_99.encL xs).getD n []).length = 3 := by rw [EC.getD_lt _ _ h]; rfl
theorem all_99 (xs : List S99) : (ec_99.encL xs).all (fun (el : List C) => el.length == 3) = true := by induction xs with | nil => rfl | cons x xs ih => first | (simp [EC.encL, enc_99]; done) | simpa [EC.encL, enc_99] using ih
theorem set_99_0_3 (xs : List S99) (n : Nat) (a0 : Bool) (a1 : Bool) (a2 : Int) : (ec_99.encL xs).set n (splice ((ec_99.encL xs).getD n []) 0 [.bool a0, .bool a1, .int .u8 a2]) = ec_99.encL (xs.set n ({ xs.getD n (ec_99.dec []) with one := a0, many := a1, c := a2 })) := by
  by_cases h : n < xs.length
  · rw [EC.getD_lt _ _ h]; simp [EC.encL, List.map_set, enc_99, splice]
  · simp [EC.encL, List.set_eq_of_length_le, Nat.not_lt.1 h]
theorem set_99_0_1 (xs : List S99) (n : Nat) (a0 : Bool) : (ec_99.encL xs).set n (splice ((ec_99.encL xs).getD n []) 0 [.bool a0]) = ec_99.encL (xs.set n ({ xs.getD n (ec_99.dec []) with one := a0 })) := by
  by_cases h : n < xs.length
  · rw [EC.getD_lt _ _ h]; simp [EC.encL, List.map_set, enc_99, splice, List.getD_eq_getElem?_getD, h]
  · simp [EC.encL, List.set_eq_of_length_le, Nat.not_lt.1 h]
theorem set_99_1_1 (xs : List S99) (n : Nat) (a1 : Bool) : (ec_99.encL xs).set n (splice ((ec_99.encL xs).getD n []) 1 [.bool a1]) = ec_99.encL (xs.set n ({ xs.getD n (ec_99.dec []) with many := a1 })) := by
  by_cases h : n < xs.length
  · rw [EC.getD_lt _ _ h]; simp [EC.encL, List.map_set, enc_99, splice, List.getD_eq_getElem?_getD, h]
  · simp [EC.encL, List.set_eq_of_length_le, Nat.not_lt.1 h]
theorem set_99_2_1 (xs : List S99) (n : Nat) (a2 : Int) : (ec_99.encL xs).set n (splice ((ec_99.encL xs).getD n []) 2 [.int .u8 a2]) = ec_99.encL (xs.set n ({ xs.getD n (ec_99.dec []) with c := a2 })) := by
  by_cases h : n < xs.length
  · rw [EC.getD_lt _ _ h]; simp [EC.encL, List.map_set, enc_99, splice, List.getD_eq_getElem?_getD, h]
  · simp [EC.encL, List.set_eq_of_length_le, Nat.not_lt.1 h]
def patterns_elements_ca : Cod (List V) ByteArray := (lOne (vC cStr))
def patterns_elements_l3_s : SC ((ByteArray × Nat × Int) × (List S99)) := sLS [0, 4, 5] (lCons (vC cStr) (lCons (vRow 0) (lOne (vC (cInt .i64))))) (lOne (oSome (bRow ec_99))) [false] [] (by decide) (fun _ => rfl)
def patterns_elements_l3_o2 : SC ((ByteArray × Nat × Int × Bool) × (List S99)) := sLS [0, 4, 5, 9] (lCons (vC cStr) (lCons (vRow 0) (lCons (vC (cInt .i64)) (lOne (vC cBool))))) (lOne (oSome (bRow ec_99))) [false] [] (by decide) (fun _ => rfl)
def patterns_elements_l3_o1 : SC ((Nat × Bool) × (List S99)) := sLS [2, 3] (lCons (vRow 0) (lOne (vC cBool))) (lOne (oSome (bRow ec_99))) [false] [] (by decide) (fun _ => rfl)
def patterns_elements_l3_o : OC (((Nat × Bool) × (List S99)) ⊕ ((ByteArray × Nat × Int × Bool) × (List S99))) := oOr 1 patterns_elements_l3_o1 (oAt 2 patterns_elements_l3_o2) (fun x => (by decide : (2 : Nat) ≠ 1))
noncomputable def patterns_elements_l3 (p : ByteArray) (out : Nat) (i : Int) (b0 : (List S99)) : Option (((Nat × Bool) × (List S99)) ⊕ ((ByteArray × Nat × Int × Bool) × (List S99))) := lS Try.prog lv X0 62 50 (getLoop (cdF Try.f62) 3) patterns_elements_l3_s patterns_elements_l3_o ((p, out, i), b0)
noncomputable def patterns_elements_l3_t (p : ByteArray) (out : Nat) (i : Int) (b0 : (List S99)) : Option (((Nat × Bool) × (List S99)) ⊕ ((ByteArray × Nat × Int × Bool) × (List S99))) :=
  (brE (decide (i < (((ByteArray.size p) : Nat) : Int)))
  (gdE ((decide ((0 : Int) ≤ i)) && (decide ((Int.toNat i) < (ByteArray.size p)))) <|
    (brE ((((UInt8.toNat (Array.getD (ByteArray.data p) (Int.toNat i) (0 : UInt8))) : Nat) : Int) == (42 : Int))
      (gdE ((((List.all [[(C.bool false), (C.bool true), (C.int Go.IntKind.u8 (0 : Int))]] (fun (el : (List C)) => ((List.length el) == (3 : Nat)))) && (List.all (EC.encL ec_99 b0) (fun (el : (List C)) => ((List.length el) == (3 : Nat))))) && (decide (((out + (List.length [[(C.bool false), (C.bool true), (C.int Go.IntKind.u8 (0 : Int))]])) * (3 : Nat)) ≤ (140737488355328 : Nat)))) && (decide ((out + (List.length [[(C.bool false), (C.bool true), (C.int Go.IntKind.u8 (0 : Int))]])) ≤ (9223372036854775807 : Nat)))) <|
        (gdE (EC.isL ec_99 ((EC.encL ec_99 b0) ++ [[(C.bool false), (C.bool true), (C.int Go.IntKind.u8 (0 : Int))]])) <|
          (patterns_elements_l3 p (out + (List.length [[(C.bool false), (C.bool true), (C.int Go.IntKind.u8 (0 : Int))]])) (Go.IntKind.wrap Go.IntKind.i64 (i + (1 : Int))) (EC.decL ec_99 ((EC.encL ec_99 b0) ++ [[(C.bool false), (C.bool true), (C.int Go.IntKind.u8 (0 : Int))]])))))
      (brE ((((UInt8.toNat (Array.getD (ByteArray.data p) (Int.toNat i) (0 : UInt8))) : Nat) : Int) == (63 : Int))
        (gdE ((((List.all [[(C.bool true), (C.bool false), (C.int Go.IntKind.u8 (0 : Int))]] (fun (el : (List C)) => ((List.length el) == (3 : Nat)))) && (List.all (EC.encL ec_99 b0) (fun (el : (List C)) => ((List.length el) == (3 : Nat))))) && (decide (((out + (List.length [[(C.bool true), (C.bool false), (C.int Go.IntKind.u8 (0 : Int))]])) * (3 : Nat)) ≤ (140737488355328 : Nat)))) && (decide ((out + (List.length [[(C.bool true), (C.bool false), (C.int Go.IntKind.u8 (0 : Int))]])) ≤ (9223372036854775807 : Nat)))) <|
          (gdE (EC.isL ec_99 ((EC.encL ec_99 b0) ++ [[(C.bool true), (C.bool false), (C.int Go.IntKind.u8 (0 : Int))]])) <|
            (patterns_elements_l3 p (out + (List.length [[(C.bool true), (C.bool false), (C.int Go.IntKind.u8 (0 : Int))]])) (Go.IntKind.wrap Go.IntKind.i64 (i + (1 : Int))) (EC.decL ec_99 ((EC.encL ec_99 b0) ++ [[(C.bool true), (C.bool false), (C.int Go.IntKind.u8 (0 : Int))]])))))
        (brE ((((UInt8.toNat (Array.getD (ByteArray.data p) (Int.toNat i) (0 : UInt8))) : Nat) : Int) == (92 : Int))
          (brE ((Go.IntKind.wrap Go.IntKind.i64 (i + (1 : Int))) == (((ByteArray.size p) : Nat) : Int))
            (some (.inl (((0 : Nat), false), (EC.decL ec_99 []))))
            (gdE ((decide ((0 : Int) ≤ (Go.IntKind.wrap Go.IntKind.i64 (i + (1 : Int))))) && (decide ((Int.toNat (Go.IntKind.wrap Go.IntKind.i64 (i + (1 : Int)))) < (ByteArray.size p)))) <|
              (gdE ((((List.all [[(C.bool false), (C.bool false), (C.int Go.IntKind.u8 (((UInt8.toNat (Array.getD (ByteArray.data p) (Int.toNat (Go.IntKind.wrap Go.IntKind.i64 (i + (1 : Int)))) (0 : UInt8))) : Nat) : Int))]] (fun (el : (List C)) => ((List.length el) == (3 : Nat)))) && (List.all (EC.encL ec_99 b0) (fun (el : (List C)) => ((List.length el) == (3 : Nat))))) && (decide (((out + (List.length [[(C.bool false), (C.bool false), (C.int Go.IntKind.u8 (((UInt8.toNat (Array.getD (ByteArray.data p) (Int.toNat (Go.IntKind.wrap Go.IntKind.i64 (i + (1 : Int)))) (0 : UInt8))) : Nat) : Int))]])) * (3 : Nat)) ≤ (140737488355328 : Nat)))) && (decide ((out + (List.length [[(C.bool false), (C.bool false), (C.int Go.IntKind.u8 (((UInt8.toNat (Array.getD (ByteArray.data p) (Int.toNat (Go.IntKind.wrap Go.IntKind.i64 (i + (1 : Int)))) (0 : UInt8))) : Nat) : Int))]])) ≤ (9223372036854775807 : Nat)))) <|
                (gdE (EC.isL ec_99 ((EC.encL ec_99 b0) ++ [[(C.bool false), (C.bool false), (C.int Go.IntKind.u8 (((UInt8.toNat (Array.getD (ByteArray.data p) (Int.toNat (Go.IntKind.wrap Go.IntKind.i64 (i + (1 : Int)))) (0 : UInt8))) : Nat) : Int))]])) <|
                  (patterns_elements_l3 p (out + (List.length [[(C.bool false), (C.bool false), (C.int Go.IntKind.u8 (((UInt8.toNat (Array.getD (ByteArray.data p) (Int.toNat (Go.IntKind.wrap Go.IntKind.i64 (i + (1 : Int)))) (0 : UInt8))) : Nat) : Int))]])) (Go.IntKind.wrap Go.IntKind.i64 ((Go.IntKind.wrap Go.IntKind.i64 (i + (1 : Int))) + (1 : Int))) (EC.decL ec_99 ((EC.encL ec_99 b0) ++ [[(C.bool false), (C.bool false), (C.int Go.IntKind.u8 (((UInt8.toNat (Array.getD (ByteArray.data p) (Int.toNat (Go.IntKind.wrap Go.IntKind.i64 (i + (1 : Int)))) (0 : UInt8))) : Nat) : Int))]])))))))
          (gdE ((decide ((0 : Int) ≤ i)) && (decide ((Int.toNat i) < (ByteArray.size p)))) <|
            (gdE ((((List.all [[(C.bool false), (C.bool false), (C.int Go.IntKind.u8 (((UInt8.toNat (Array.getD (ByteArray.data p) (Int.toNat i) (0 : UInt8))) : Nat) : Int))]] (fun (el : (List C)) => ((List.length el) == (3 : Nat)))) && (List.all (EC.encL ec_99 b0) (fun (el : (List C)) => ((List.length el) == (3 : Nat))))) && (decide (((out + (List.length [[(C.bool false), (C.bool false), (C.int Go.IntKind.u8 (((UInt8.toNat (Array.getD (ByteArray.data p) (Int.toNat i) (0 : UInt8))) : Nat) : Int))]])) * (3 : Nat)) ≤ (140737488355328 : Nat)))) && (decide ((out + (List.length [[(C.bool false), (C.bool false), (C.int Go.IntKind.u8 (((UInt8.toNat (Array.getD (ByteArray.data p) (Int.toNat i) (0 : UInt8))) : Nat) : Int))]])) ≤ (9223372036854775807 : Nat)))) <|
              (gdE (EC.isL ec_99 ((EC.encL ec_99 b0) ++ [[(C.bool false), (C.bool false), (C.int Go.IntKind.u8 (((UInt8.toNat (Array.getD (ByteArray.data p) (Int.toNat i) (0 : UInt8))) : Nat) : Int))]])) <|
                (patterns_elements_l3 p (out + (List.length [[(C.bool false), (C.bool false), (C.int Go.IntKind.u8 (((UInt8.toNat (Array.getD (ByteArray.data p) (Int.toNat i) (0 : UInt8))) : Nat) : Int))]])) (Go.IntKind.wrap Go.IntKind.i64 (i + (1 : Int))) (EC.decL ec_99 ((EC.encL ec_99 b0) ++ [[(C.bool false), (C.bool false), (C.int Go.IntKind.u8 (((UInt8.toNat (Array.getD (ByteArray.data p) (Int.toNat i) (0 : UInt8))) : Nat) : Int))]]))))))))))
  (gdE (EC.isL ec_99 (EC.encL ec_99 b0)) <|
    (some (.inr ((p, (out, (i, false))), (EC.decL ec_99 (EC.encL ec_99 b0)))))))
theorem patterns_elements_l3_eq {p : ByteArray} {out : Nat} {i : Int} {b0 : (List S99)} {r : (((Nat × Bool) × (List S99)) ⊕ ((ByteArray × Nat × Int × Bool) × (List S99)))} (h : patterns_elements_l3_t p out i b0 = some r) : patterns_elements_l3 p out i b0 = some r :=
  lS_tree (es := tab_basic_Same) (hs := []) [] (by kernel_rfl) trivial trivial (by kernel_rfl) h
noncomputable def patterns_elements_l3_e : LEnt Try.prog lv X0 62 50 := lentS Try.prog lv X0 3 (getLoop (cdF Try.f62) 3) patterns_elements_l3_s patterns_elements_l3_o (fun x => patterns_elements_l3 x.1.1 x.1.2.1 x.1.2.2 x.2) (fun _ _ h => lS_from h)
def patterns_elements_cr : Cod (V × List B) ((Nat × Bool) × (List S99)) := (cPair (vTup (lCons (vRow 0) (lOne (vC cBool)))) (lOne (bRow ec_99)))
noncomputable def patterns_elements_s (p : ByteArray) : Option ((Nat × Bool) × (List S99)) := fS Try.prog lv X0 62 patterns_elements_ca patterns_elements_cr p
noncomputable def patterns_elements_t (p : ByteArray) : Option ((Nat × Bool) × (List S99)) :=
  (Option.bind (patterns_elements_l3 p (0 : Nat) (0 : Int) (EC.decL ec_99 [])) fun r0 =>
  (Sum.elim (fun r1 => (gdE (EC.isL ec_99 (EC.encL ec_99 (r1).2)) <|
      (some ((((r1).1).1, ((r1).1).2), (EC.decL ec_99 (EC.encL ec_99 (r1).2))))))
    (fun r1 => (gdE (EC.isL ec_99 (EC.encL ec_99 (r1).2)) <|
      (some (((((r1).1).2).1, true), (EC.decL ec_99 (EC.encL ec_99 (r1).2)))))) r0))
theorem patterns_elements_eq {p : ByteArray} {r : ((Nat × Bool) × (List S99))} (h : patterns_elements_t p = some r) : patterns_elements_s p = some r :=
  fS_tree (es := tab_basic_Same) (hs := []) [patterns_elements_l3_e] Try.func62 rfl (by kernel_rfl) rfl (by kernel_rfl) (by kernel_rfl) ⟨⟨_, rfl, rfl⟩, trivial⟩ trivial (by kernel_rfl) h
noncomputable def patterns_elements_e : Ent Try.prog lv X0 := entS Try.prog lv X0 62 [] patterns_elements_ca patterns_elements_cr (fun x => patterns_elements_s x) (fun _ _ h => fS_call h)
noncomputable def tab_patterns_elements : List (Ent Try.prog lv X0) := patterns_elements_e :: tab_basic_Same
def fits_ca : Cod (List V) ((Bool × Bool × Int) × Int × ByteArray × ByteArray) := (lCons (vAgg (lCons (vC cBool) (lCons (vC cBool) (lOne (vC (cInt .u8)))))) (lCons (vC (cInt .i64)) (lCons (vEptr (lOne cStr) 0) (lOne (vEptr (lOne cStr) 0)))))
def fits_cr : Cod (V × List B) Bool := (cFstU (cPair (vC cBool) lNil))
noncomputable def fits_s (e_one : Bool) (e_many : Bool) (e_c : Int) (j : Int) (c2 : ByteArray) (c3 : ByteArray) : Option Bool := fS Try.prog lv X0 74 fits_ca fits_cr ((e_one, e_many, e_c), j, c2, c3)
noncomputable def fits_t (e_one : Bool) (e_many : Bool) (e_c : Int) (j : Int) (c2 : ByteArray) (c3 : ByteArray) : Option Bool :=
  (brE ((decide (j < (((ByteArray.size c2) : Nat) : Int))) == true)
  (brE (e_one == false)
    (Option.bind (basic_Lower_s (ByteArray.mk (List.toArray [(UInt8.ofNat (Int.toNat e_c))]))) fun r0 =>
      (gdE ((decide ((0 : Int) ≤ (Go.IntKind.wrap Go.IntKind.i64 (j + (1 : Int))))) && (decide ((Go.IntKind.wrap Go.IntKind.i64 (j + (1 : Int))) ≤ (((ByteArray.size c3) : Nat) : Int)))) <|
        (gdE ((decide ((0 : Int) ≤ j)) && (decide (j ≤ (((Int.toNat (Go.IntKind.wrap Go.IntKind.i64 (j + (1 : Int)))) : Nat) : Int)))) <|
          (some ((ByteArray.toList r0) == (ByteArray.toList (ByteArray.extract c3 (Int.toNat j) (Int.toNat (Go.IntKind.wrap Go.IntKind.i64 (j + (1 : Int)))))))))))
    (some true))
  (some false))
theorem fits_eq {e_one : Bool} {e_many : Bool} {e_c : Int} {j : Int} {c2 : ByteArray} {c3 : ByteArray} {r : Bool} (h : fits_t e_one e_many e_c j c2 c3 = some r) : fits_s e_one e_many e_c j c2 c3 = some r :=
  fS_tree (es := tab_patterns_elements) (hs := []) [] Try.func74 rfl (by kernel_rfl) rfl (by kernel_rfl) (by kernel_rfl) trivial trivial (by kernel_rfl) h
noncomputable def fits_e : Ent Try.prog lv X0 := entS Try.prog lv X0 74 [] fits_ca fits_cr (fun x => fits_s x.1.1 x.1.2.1 x.1.2.2 x.2.1 x.2.2.1 x.2.2.2) (fun _ _ h => fS_call h)
noncomputable def tab_fits : List (Ent Try.prog lv X0) := fits_e :: tab_patterns_elements
def ec_4 : EC Bool where
  enc x := [.bool x]
  dec c := boolOf (c.getD 0 .ne)
  is c := isE [.bool] 0 c
  enc_dec h := decE_eq h
  dec_enc x := by rfl
  is_enc x := by simp [isE, isK]
theorem enc_4 (x : Bool) : ec_4.enc x = [.bool x] := rfl
theorem isE_4 (xs : List Bool) (n : Nat) : isE [.bool] 0 ((ec_4.encL xs).getD n []) = decide (n < xs.length) := by
  by_cases h : n < xs.length
  · simp only [EC.getD_lt _ _ h]; simp [enc_4, isE, isK, h]
  · simp only [EC.getD_ge _ _ (Nat.not_lt.1 h)]; simp [isE, isK, h]
theorem at_4_0 (xs : List Bool) (n : Nat) : boolOf (((ec_4.encL xs).getD n []).getD 0 .ne) = (xs.getD n (ec_4.dec [])) := by
  by_cases h : n < xs.length
  · simp only [EC.getD_lt _ _ h]; simp [enc_4, h, boolOf, List.getD_eq_getElem?_getD]
  · simp only [EC.getD_ge _ _ (Nat.not_lt.1 h)]; simp [Nat.not_lt.1 h, ec_4, boolOf, List.getD_eq_getElem?_getD]
theorem lit_4 (a0 : Bool) : ([.bool a0] : List C) = ec_4.enc a0 := rfl
theorem apd_4 (xs : List Bool) (a0 : Bool) : ec_4.encL xs ++ [[.bool a0]] = ec_4.encL (xs ++ [a0]) := by rw [lit_4]; simp [EC.encL]
theorem len_4 (xs : List Bool) (n : Nat) (h : n < xs.length) : ((ec_4.encL xs).getD n []).length = 1 := by rw [EC.getD_lt _ _ h]; rfl
theorem all_4 (xs : List Bool) : (ec_4.encL xs).all (fun (el : List C) => el.length == 1) = true := by induction xs with | nil => rfl | cons x xs ih => first | (simp [EC.encL, enc_4]; done) | simpa [EC.encL, enc_4] using ih
theorem set_4_0_1 (xs : List Bool) (n : Nat) (a0 : Bool) : (ec_4.encL xs).set n (splice ((ec_4.encL xs).getD n []) 0 [.bool a0]) = ec_4.encL (xs.set n (a0)) := by
  by_cases h : n < xs.length
  · rw [EC.getD_lt _ _ h]; simp [EC.encL, List.map_set, enc_4, splice]
  · simp [EC.encL, List.set_eq_of_length_le, Nat.not_lt.1 h]
def ec_103 : EC (List Bool) where
  enc x := [.sl (ec_4.encL x)]
  dec c := ec_4.decL (slOf (c.getD 0 .ne))
  is c := isE [.sl] 0 c && ec_4.isL (slOf (c.getD 0 .ne))
  enc_dec h := by
    simp only [Bool.and_eq_true] at h
    have h0 := decE_eq h.1
    simp only [decE, decC] at h0
    simp only [EC.encL_decL _ h.2]
    exact h0
  dec_enc x := by simp [slOf]
  is_enc x := by simp [isE, isK, slOf]
theorem enc_103 (x : (List Bool)) : ec_103.enc x = [.sl (ec_4.encL x)] := rfl
theorem isE_103 (xs : List (List Bool)) (n : Nat) : isE [.sl] 0 ((ec_103.encL xs).getD n []) = decide (n < xs.length) := by
  by_cases h : n < xs.length
  · simp only [EC.getD_lt _ _ h]; simp [enc_103, isE, isK, h]
  · simp only [EC.getD_ge _ _ (Nat.not_lt.1 h)]; simp [isE, isK, h]
theorem at_103_0 (xs : List (List Bool)) (n : Nat) : slOf (((ec_103.encL xs).getD n []).getD 0 .ne) = ec_4.encL (xs.getD n (ec_103.dec [])) := by
  by_cases h : n < xs.length
  · simp only [EC.getD_lt _ _ h]; simp [enc_103, h, slOf, List.getD_eq_getElem?_getD]
  · simp only [EC.getD_ge _ _ (Nat.not_lt.1 h)]; simp [Nat.not_lt.1 h, ec_103, slOf, List.getD_eq_getElem?_getD, EC.decL, EC.encL]
theorem lit_103 (a0 : (List Bool)) : ([.sl (ec_4.encL a0)] : List C) = ec_103.enc a0 := rfl
theorem apd_103 (xs : List (List Bool)) (a0 : (List Bool)) : ec_103.encL xs ++ [[.sl (ec_4.encL a0)]] = ec_103.encL (xs ++ [a0]) := by rw [lit_103]; simp [EC.encL]
theorem len_103 (xs : List (List Bool)) (n : Nat) (h : n < xs.length) : ((ec_103.encL xs).getD n []).length = 1 := by rw [EC.getD_lt _ _ h]; rfl
theorem all_103 (xs : List (List Bool)) : (ec_103.encL xs).all (fun (el : List C) => el.length == 1) = true := by induction xs with | nil => rfl | cons x xs ih => first | (simp [EC.encL, enc_103]; done) | simpa [EC.encL, enc_103] using ih
theorem set_103_0_1 (xs : List (List Bool)) (n : Nat) (a0 : (List Bool)) : (ec_103.encL xs).set n (splice ((ec_103.encL xs).getD n []) 0 [.sl (ec_4.encL a0)]) = ec_103.encL (xs.set n (a0)) := by
  by_cases h : n < xs.length
  · rw [EC.getD_lt _ _ h]; simp [EC.encL, List.map_set, enc_103, splice]
  · simp [EC.encL, List.set_eq_of_length_le, Nat.not_lt.1 h]
def ec_9 : EC ByteArray where
  enc x := [.str x]
  dec c := strOf (c.getD 0 .ne)
  is c := isE [.str] 0 c
  enc_dec h := decE_eq h
  dec_enc x := by rfl
  is_enc x := by simp [isE, isK]
theorem enc_9 (x : ByteArray) : ec_9.enc x = [.str x] := rfl
theorem isE_9 (xs : List ByteArray) (n : Nat) : isE [.str] 0 ((ec_9.encL xs).getD n []) = decide (n < xs.length) := by
  by_cases h : n < xs.length
  · simp only [EC.getD_lt _ _ h]; simp [enc_9, isE, isK, h]
  · simp only [EC.getD_ge _ _ (Nat.not_lt.1 h)]; simp [isE, isK, h]
theorem at_9_0 (xs : List ByteArray) (n : Nat) : strOf (((ec_9.encL xs).getD n []).getD 0 .ne) = (xs.getD n (ec_9.dec [])) := by
  by_cases h : n < xs.length
  · simp only [EC.getD_lt _ _ h]; simp [enc_9, h, strOf, List.getD_eq_getElem?_getD]
  · simp only [EC.getD_ge _ _ (Nat.not_lt.1 h)]; simp [Nat.not_lt.1 h, ec_9, strOf, List.getD_eq_getElem?_getD]
theorem lit_9 (a0 : ByteArray) : ([.str a0] : List C) = ec_9.enc a0 := rfl
theorem apd_9 (xs : List ByteArray) (a0 : ByteArray) : ec_9.encL xs ++ [[.str a0]] = ec_9.encL (xs ++ [a0]) := by rw [lit_9]; simp [EC.encL]
theorem len_9 (xs : List ByteArray) (n : Nat) (h : n < xs.length) : ((ec_9.encL xs).getD n []).length = 1 := by rw [EC.getD_lt _ _ h]; rfl
theorem all_9 (xs : List ByteArray) : (ec_9.encL xs).all (fun (el : List C) => el.length == 1) = true := by induction xs with | nil => rfl | cons x xs ih => first | (simp [EC.encL, enc_9]; done) | simpa [EC.encL, enc_9] using ih
theorem set_9_0_1 (xs : List ByteArray) (n : Nat) (a0 : ByteArray) : (ec_9.encL xs).set n (splice ((ec_9.encL xs).getD n []) 0 [.str a0]) = ec_9.encL (xs.set n (a0)) := by
  by_cases h : n < xs.length
  · rw [EC.getD_lt _ _ h]; simp [EC.encL, List.map_set, enc_9, splice]
  · simp [EC.encL, List.set_eq_of_length_le, Nat.not_lt.1 h]
def patterns_wild_ca : Cod (List V) ((List S99) × ByteArray) := (lCons (vC (cSl ec_99)) (lOne (vC cStr)))
def patterns_wild_l9_s : SC (((List S99) × Unit × (Unit × Unit) × Nat × Int × Int) × (ByteArray × ByteArray × ((List (List Bool)) × Nat × Nat) × (List Bool))) := sLS [0, 3, 7, 8, 9, 10] (lCons (vC (cSl ec_99)) (lCons (vPtr 0 0) (lCons (vFn 74 (lCons (vPtr 0 0) (lOne (vPtr 1 0)))) (lCons (vRow 2) (lCons (vC (cInt .i64)) (lOne (vC (cInt .i64)))))))) (lCons (oSome (bBox (lOne (vC cStr)))) (lCons (oSome (bBox (lOne (vC cStr)))) (lCons (oSome (bTab ec_103 (vRow 3))) (lOne (oSome (bRow ec_4)))))) [false, false, false, false] [] (by decide) (fun _ => rfl)
def patterns_wild_l9_o4 : SC (((List S99) × Unit × (Unit × Unit) × Nat × Int × Int × Bool) × (ByteArray × ByteArray × ((List (List Bool)) × Nat × Nat) × (List Bool))) := sLS [0, 3, 7, 8, 9, 10, 39] (lCons (vC (cSl ec_99)) (lCons (vPtr 0 0) (lCons (vFn 74 (lCons (vPtr 0 0) (lOne (vPtr 1 0)))) (lCons (vRow 2) (lCons (vC (cInt .i64)) (lCons (vC (cInt .i64)) (lOne (vC cBool)))))))) (lCons (oSome (bBox (lOne (vC cStr)))) (lCons (oSome (bBox (lOne (vC cStr)))) (lCons (oSome (bTab ec_103 (vRow 3))) (lOne (oSome (bRow ec_4)))))) [false, false, false, false] [] (by decide) (fun _ => rfl)
def patterns_wild_l9_o : OC (((List S99) × Unit × (Unit × Unit) × Nat × Int × Int × Bool) × (ByteArray × ByteArray × ((List (List Bool)) × Nat × Nat) × (List Bool))) := oAt 4 patterns_wild_l9_o4
noncomputable def patterns_wild_l9 (l : (List S99)) (can : Nat) (i : Int) (j : Int) (b0 : ByteArray) (b1 : ByteArray) (b2 : (List (List Bool))) (b2_1 : Nat) (b2_2 : Nat) (b3 : (List Bool)) : Option (((List S99) × Unit × (Unit × Unit) × Nat × Int × Int × Bool) × (ByteArray × ByteArray × ((List (List Bool)) × Nat × Nat) × (List Bool))) := lS Try.prog lv X0 66 166 (getLoop (cdF Try.f66) 9) patterns_wild_l9_s patterns_wild_l9_o ((l, (), ((), ()), can, i, j), (b0, b1, (b2, b2_1, b2_2), b3))
noncomputable def patterns_wild_l9_t (l : (List S99)) (can : Nat) (i : Int) (j : Int) (b0 : ByteArray) (b1 : ByteArray) (b2 : (List (List Bool))) (b2_1 : Nat) (b2_2 : Nat) (b3 : (List Bool)) : Option (((List S99) × Unit × (Unit × Unit) × Nat × Int × Int × Bool) × (ByteArray × ByteArray × ((List (List Bool)) × Nat × Nat) × (List Bool))) :=
  (brE (decide (j ≥ (0 : Int)))
  (brE (i == (((List.length (EC.encL ec_99 l)) : Nat) : Int))
    (gdE ((decide ((0 : Int) ≤ i)) && (decide (i < ((can : Nat) : Int)))) <|
      (gdE (decide ((Int.toNat i) < (List.length (EC.encL ec_103 b2)))) <|
        (brE ((Int.toNat i) == b2_1)
          (gdE ((decide ((0 : Int) ≤ j)) && (decide (j < ((b2_2 : Nat) : Int)))) <|
            (gdE ((decide ((Int.toNat j) < (List.length (EC.encL ec_4 b3)))) && ((List.length (List.getD (EC.encL ec_4 b3) (Int.toNat j) [])) == (1 : Nat))) <|
              (gdE (EC.isL ec_99 (EC.encL ec_99 l)) <|
                (gdE (EC.isL ec_103 (EC.encL ec_103 b2)) <|
                  (gdE (EC.isL ec_4 (List.set (EC.encL ec_4 b3) (Int.toNat j) (splice (List.getD (EC.encL ec_4 b3) (Int.toNat j) []) (0 : Nat) [(C.bool (j == (((ByteArray.size b0) : Nat) : Int)))]))) <|
                    (patterns_wild_l9 (EC.decL ec_99 (EC.encL ec_99 l)) can i (Go.IntKind.wrap Go.IntKind.i64 (j - (1 : Int))) b0 b1 (EC.decL ec_103 (EC.encL ec_103 b2)) b2_1 b2_2 (EC.decL ec_4 (List.set (EC.encL ec_4 b3) (Int.toNat j) (splice (List.getD (EC.encL ec_4 b3) (Int.toNat j) []) (0 : Nat) [(C.bool (j == (((ByteArray.size b0) : Nat) : Int)))])))))))))
          (gdE ((List.length (List.getD (EC.encL ec_103 b2) (Int.toNat i) [])) == (1 : Nat)) <|
            (gdE (isP [K1.sl] (0 : Nat) (List.getD (EC.encL ec_103 b2) (Int.toNat i) [])) <|
              (gdE (decide ((0 : Int) ≤ j)) <|
                (gdE ((decide ((Int.toNat j) < (List.length (slOf (List.getD (List.getD (EC.encL ec_103 b2) (Int.toNat i) []) (0 : Nat) C.ne))))) && (isE [K1.bool] (0 : Nat) (List.getD (slOf (List.getD (List.getD (EC.encL ec_103 b2) (Int.toNat i) []) (0 : Nat) C.ne)) (Int.toNat j) []))) <|
                  none)))))))
    (gdE (decide ((0 : Int) ≤ i)) <|
      (gdE ((decide ((Int.toNat i) < (List.length (EC.encL ec_99 l)))) && (isE [K1.bool, K1.bool, (K1.int Go.IntKind.u8)] (0 : Nat) (List.getD (EC.encL ec_99 l) (Int.toNat i) []))) <|
        (brE (boolOf (List.getD (List.getD (EC.encL ec_99 l) (Int.toNat i) []) (1 : Nat) C.ne))
          (gdE ((decide ((0 : Int) ≤ i)) && (decide (i < ((can : Nat) : Int)))) <|
            (gdE (decide ((Int.toNat i) < (List.length (EC.encL ec_103 b2)))) <|
              (brE ((Int.toNat i) == b2_1)
                (gdE ((decide ((0 : Int) ≤ (Go.IntKind.wrap Go.IntKind.i64 (i + (1 : Int))))) && (decide ((Go.IntKind.wrap Go.IntKind.i64 (i + (1 : Int))) < ((can : Nat) : Int)))) <|
                  (gdE (decide ((Int.toNat (Go.IntKind.wrap Go.IntKind.i64 (i + (1 : Int)))) < (List.length (EC.encL ec_103 b2)))) <|
                    (brE ((Int.toNat (Go.IntKind.wrap Go.IntKind.i64 (i + (1 : Int)))) == b2_1)
                      (gdE ((decide ((0 : Int) ≤ j)) && (decide (j < ((b2_2 : Nat) : Int)))) <|
                        (gdE ((decide ((Int.toNat j) < (List.length (EC.encL ec_4 b3)))) && ((List.length (List.getD (EC.encL ec_4 b3) (Int.toNat j) [])) == (1 : Nat))) <|
                          (gdE (isP [K1.bool] (0 : Nat) (List.getD (EC.encL ec_4 b3) (Int.toNat j) [])) <|
                            (brE ((boolOf (List.getD (List.getD (EC.encL ec_4 b3) (Int.toNat j) []) (0 : Nat) C.ne)) == false)
                              (brE ((decide (j < (((ByteArray.size b0) : Nat) : Int))) == true)
                                (gdE ((decide ((0 : Int) ≤ i)) && (decide (i < ((can : Nat) : Int)))) <|
                                  (gdE (decide ((Int.toNat i) < (List.length (EC.encL ec_103 b2)))) <|
                                    (brE ((Int.toNat i) == b2_1)
                                      (gdE ((decide ((0 : Int) ≤ (Go.IntKind.wrap Go.IntKind.i64 (j + (1 : Int))))) && (decide ((Go.IntKind.wrap Go.IntKind.i64 (j + (1 : Int))) < ((b2_2 : Nat) : Int)))) <|
                                        (gdE ((decide ((Int.toNat (Go.IntKind.wrap Go.IntKind.i64 (j + (1 : Int)))) < (List.length (EC.encL ec_4 b3)))) && ((List.length (List.getD (EC.encL ec_4 b3) (Int.toNat (Go.IntKind.wrap Go.IntKind.i64 (j + (1 : Int)))) [])) == (1 : Nat))) <|
                                          (gdE (isP [K1.bool] (0 : Nat) (List.getD (EC.encL ec_4 b3) (Int.toNat (Go.IntKind.wrap Go.IntKind.i64 (j + (1 : Int)))) [])) <|
                                            (gdE ((decide ((0 : Int) ≤ j)) && (decide (j < ((b2_2 : Nat) : Int)))) <|
                                              (gdE ((decide ((Int.toNat j) < (List.length (EC.encL ec_4 b3)))) && ((List.length (List.getD (EC.encL ec_4 b3) (Int.toNat j) [])) == (1 : Nat))) <|
                                                (gdE (EC.isL ec_99 (EC.encL ec_99 l)) <|
                                                  (gdE (EC.isL ec_103 (EC.encL ec_103 b2)) <|
                                                    (gdE (EC.isL ec_4 (List.set (EC.encL ec_4 b3) (Int.toNat j) (splice (List.getD (EC.encL ec_4 b3) (Int.toNat j) []) (0 : Nat) [(C.bool (boolOf (List.getD (List.getD (EC.encL ec_4 b3) (Int.toNat (Go.IntKind.wrap Go.IntKind.i64 (j + (1 : Int)))) []) (0 : Nat) C.ne)))]))) <|
                                                      (patterns_wild_l9 (EC.decL ec_99 (EC.encL ec_99 l)) can i (Go.IntKind.wrap Go.IntKind.i64 (j - (1 : Int))) b0 b1 (EC.decL ec_103 (EC.encL ec_103 b2)) b2_1 b2_2 (EC.decL ec_4 (List.set (EC.encL ec_4 b3) (Int.toNat j) (splice (List.getD (EC.encL ec_4 b3) (Int.toNat j) []) (0 : Nat) [(C.bool (boolOf (List.getD (List.getD (EC.encL ec_4 b3) (Int.toNat (Go.IntKind.wrap Go.IntKind.i64 (j + (1 : Int)))) []) (0 : Nat) C.ne)))]))))))))))))
                                      (gdE ((List.length (List.getD (EC.encL ec_103 b2) (Int.toNat i) [])) == (1 : Nat)) <|
                                        (gdE (isP [K1.sl] (0 : Nat) (List.getD (EC.encL ec_103 b2) (Int.toNat i) [])) <|
                                          (gdE (decide ((0 : Int) ≤ (Go.IntKind.wrap Go.IntKind.i64 (j + (1 : Int))))) <|
                                            (gdE ((decide ((Int.toNat (Go.IntKind.wrap Go.IntKind.i64 (j + (1 : Int)))) < (List.length (slOf (List.getD (List.getD (EC.encL ec_103 b2) (Int.toNat i) []) (0 : Nat) C.ne))))) && (isE [K1.bool] (0 : Nat) (List.getD (slOf (List.getD (List.getD (EC.encL ec_103 b2) (Int.toNat i) []) (0 : Nat) C.ne)) (Int.toNat (Go.IntKind.wrap Go.IntKind.i64 (j + (1 : Int)))) []))) <|
                                              (gdE ((decide ((0 : Int) ≤ j)) && (decide (j < ((b2_2 : Nat) : Int)))) <|
                                                (gdE ((decide ((Int.toNat j) < (List.length (EC.encL ec_4 b3)))) && ((List.length (List.getD (EC.encL ec_4 b3) (Int.toNat j) [])) == (1 : Nat))) <|
                                                  (gdE (EC.isL ec_99 (EC.encL ec_99 l)) <|
                                                    (gdE (EC.isL ec_103 (EC.encL ec_103 b2)) <|
                                                      (gdE (EC.isL ec_4 (List.set (EC.encL ec_4 b3) (Int.toNat j) (splice (List.getD (EC.encL ec_4 b3) (Int.toNat j) []) (0 : Nat) [(C.bool (boolOf (List.getD (List.getD (slOf (List.getD (List.getD (EC.encL ec_103 b2) (Int.toNat i) []) (0 : Nat) C.ne)) (Int.toNat (Go.IntKind.wrap Go.IntKind.i64 (j + (1 : Int)))) []) (0 : Nat) C.ne)))]))) <|
                                                        (patterns_wild_l9 (EC.decL ec_99 (EC.encL ec_99 l)) can i (Go.IntKind.wrap Go.IntKind.i64 (j - (1 : Int))) b0 b1 (EC.decL ec_103 (EC.encL ec_103 b2)) b2_1 b2_2 (EC.decL ec_4 (List.set (EC.encL ec_4 b3) (Int.toNat j) (splice (List.getD (EC.encL ec_4 b3) (Int.toNat j) []) (0 : Nat) [(C.bool (boolOf (List.getD (List.getD (slOf (List.getD (List.getD (EC.encL ec_103 b2) (Int.toNat i) []) (0 : Nat) C.ne)) (Int.toNat (Go.IntKind.wrap Go.IntKind.i64 (j + (1 : Int)))) []) (0 : Nat) C.ne)))]))))))))))))))))
                                (gdE ((decide ((0 : Int) ≤ j)) && (decide (j < ((b2_2 : Nat) : Int)))) <|
                                  (gdE ((decide ((Int.toNat j) < (List.length (EC.encL ec_4 b3)))) && ((List.length (List.getD (EC.encL ec_4 b3) (Int.toNat j) [])) == (1 : Nat))) <|
                                    (gdE (EC.isL ec_99 (EC.encL ec_99 l)) <|
                                      (gdE (EC.isL ec_103 (EC.encL ec_103 b2)) <|
                                        (gdE (EC.isL ec_4 (List.set (EC.encL ec_4 b3) (Int.toNat j) (splice (List.getD (EC.encL ec_4 b3) (Int.toNat j) []) (0 : Nat) [(C.bool false)]))) <|
                                          (patterns_wild_l9 (EC.decL ec_99 (EC.encL ec_99 l)) can i (Go.IntKind.wrap Go.IntKind.i64 (j - (1 : Int))) b0 b1 (EC.decL ec_103 (EC.encL ec_103 b2)) b2_1 b2_2 (EC.decL ec_4 (List.set (EC.encL ec_4 b3) (Int.toNat j) (splice (List.getD (EC.encL ec_4 b3) (Int.toNat j) []) (0 : Nat) [(C.bool false)]))))))))))
                              (gdE ((decide ((0 : Int) ≤ j)) && (decide (j < ((b2_2 : Nat) : Int)))) <|
                                (gdE ((decide ((Int.toNat j) < (List.length (EC.encL ec_4 b3)))) && ((List.length (List.getD (EC.encL ec_4 b3) (Int.toNat j) [])) == (1 : Nat))) <|
                                  (gdE (EC.isL ec_99 (EC.encL ec_99 l)) <|
                                    (gdE (EC.isL ec_103 (EC.encL ec_103 b2)) <|
                                      (gdE (EC.isL ec_4 (List.set (EC.encL ec_4 b3) (Int.toNat j) (splice (List.getD (EC.encL ec_4 b3) (Int.toNat j) []) (0 : Nat) [(C.bool true)]))) <|
                                        (patterns_wild_l9 (EC.decL ec_99 (EC.encL ec_99 l)) can i (Go.IntKind.wrap Go.IntKind.i64 (j - (1 : Int))) b0 b1 (EC.decL ec_103 (EC.encL ec_103 b2)) b2_1 b2_2 (EC.decL ec_4 (List.set (EC.encL ec_4 b3) (Int.toNat j) (splice (List.getD (EC.encL ec_4 b3) (Int.toNat j) []) (0 : Nat) [(C.bool true)])))))))))))))
                      (gdE ((List.length (List.getD (EC.encL ec_103 b2) (Int.toNat (Go.IntKind.wrap Go.IntKind.i64 (i + (1 : Int)))) [])) == (1 : Nat)) <|
                        (gdE (isP [K1.sl] (0 : Nat) (List.getD (EC.encL ec_103 b2) (Int.toNat (Go.IntKind.wrap Go.IntKind.i64 (i + (1 : Int)))) [])) <|
                          (gdE (decide ((0 : Int) ≤ j)) <|
                            (gdE ((decide ((Int.toNat j) < (List.length (slOf (List.getD (List.getD (EC.encL ec_103 b2) (Int.toNat (Go.IntKind.wrap Go.IntKind.i64 (i + (1 : Int)))) []) (0 : Nat) C.ne))))) && (isE [K1.bool] (0 : Nat) (List.getD (slOf (List.getD (List.getD (EC.encL ec_103 b2) (Int.toNat (Go.IntKind.wrap Go.IntKind.i64 (i + (1 : Int)))) []) (0 : Nat) C.ne)) (Int.toNat j) []))) <|
                              (brE ((boolOf (List.getD (List.getD (slOf (List.getD (List.getD (EC.encL ec_103 b2) (Int.toNat (Go.IntKind.wrap Go.IntKind.i64 (i + (1 : Int)))) []) (0 : Nat) C.ne)) (Int.toNat j) []) (0 : Nat) C.ne)) == false)
                                (brE ((decide (j < (((ByteArray.size b0) : Nat) : Int))) == true)
                                  (gdE ((decide ((0 : Int) ≤ i)) && (decide (i < ((can : Nat) : Int)))) <|
                                    (gdE (decide ((Int.toNat i) < (List.length (EC.encL ec_103 b2)))) <|
                                      (brE ((Int.toNat i) == b2_1)
                                        (gdE ((decide ((0 : Int) ≤ (Go.IntKind.wrap Go.IntKind.i64 (j + (1 : Int))))) && (decide ((Go.IntKind.wrap Go.IntKind.i64 (j + (1 : Int))) < ((b2_2 : Nat) : Int)))) <|
                                          (gdE ((decide ((Int.toNat (Go.IntKind.wrap Go.IntKind.i64 (j + (1 : Int)))) < (List.length (EC.encL ec_4 b3)))) && ((List.length (List.getD (EC.encL ec_4 b3) (Int.toNat (Go.IntKind.wrap Go.IntKind.i64 (j + (1 : Int)))) [])) == (1 : Nat))) <|
                                            (gdE (isP [K1.bool] (0 : Nat) (List.getD (EC.encL ec_4 b3) (Int.toNat (Go.IntKind.wrap Go.IntKind.i64 (j + (1 : Int)))) [])) <|
                                              (gdE ((decide ((0 : Int) ≤ j)) && (decide (j < ((b2_2 : Nat) : Int)))) <|
                                                (gdE ((decide ((Int.toNat j) < (List.length (EC.encL ec_4 b3)))) && ((List.length (List.getD (EC.encL ec_4 b3) (Int.toNat j) [])) == (1 : Nat))) <|
                                                  (gdE (EC.isL ec_99 (EC.encL ec_99 l)) <|
                                                    (gdE (EC.isL ec_103 (EC.encL ec_103 b2)) <|
                                                      (gdE (EC.isL ec_4 (List.set (EC.encL ec_4 b3) (Int.toNat j) (splice (List.getD (EC.encL ec_4 b3) (Int.toNat j) []) (0 : Nat) [(C.bool (boolOf (List.getD (List.getD (EC.encL ec_4 b3) (Int.toNat (Go.IntKind.wrap Go.IntKind.i64 (j + (1 : Int)))) []) (0 : Nat) C.ne)))]))) <|
                                                        (patterns_wild_l9 (EC.decL ec_99 (EC.encL ec_99 l)) can i (Go.IntKind.wrap Go.IntKind.i64 (j - (1 : Int))) b0 b1 (EC.decL ec_103 (EC.encL ec_103 b2)) b2_1 b2_2 (EC.decL ec_4 (List.set (EC.encL ec_4 b3) (Int.toNat j) (splice (List.getD (EC.encL ec_4 b3) (Int.toNat j) []) (0 : Nat) [(C.bool (boolOf (List.getD (List.getD (EC.encL ec_4 b3) (Int.toNat (Go.IntKind.wrap Go.IntKind.i64 (j + (1 : Int)))) []) (0 : Nat) C.ne)))]))))))))))))
                                        (gdE ((List.length (List.getD (EC.encL ec_103 b2) (Int.toNat i) [])) == (1 : Nat)) <|
                                          (gdE (isP [K1.sl] (0 : Nat) (List.getD (EC.encL ec_103 b2) (Int.toNat i) [])) <|
                                            (gdE (decide ((0 : Int) ≤ (Go.IntKind.wrap Go.IntKind.i64 (j + (1 : Int))))) <|
                                              (gdE ((decide ((Int.toNat (Go.IntKind.wrap Go.IntKind.i64 (j + (1 : Int)))) < (List.length (slOf (List.getD (List.getD (EC.encL ec_103 b2) (Int.toNat i) []) (0 : Nat) C.ne))))) && (isE [K1.bool] (0 : Nat) (List.getD (slOf (List.getD (List.getD (EC.encL ec_103 b2) (Int.toNat i) []) (0 : Nat) C.ne)) (Int.toNat (Go.IntKind.wrap Go.IntKind.i64 (j + (1 : Int)))) []))) <|
                                                (gdE ((decide ((0 : Int) ≤ j)) && (decide (j < ((b2_2 : Nat) : Int)))) <|
                                                  (gdE ((decide ((Int.toNat j) < (List.length (EC.encL ec_4 b3)))) && ((List.length (List.getD (EC.encL ec_4 b3) (Int.toNat j) [])) == (1 : Nat))) <|
                                                    (gdE (EC.isL ec_99 (EC.encL ec_99 l)) <|
                                                      (gdE (EC.isL ec_103 (EC.encL ec_103 b2)) <|
                                                        (gdE (EC.isL ec_4 (List.set (EC.encL ec_4 b3) (Int.toNat j) (splice (List.getD (EC.encL ec_4 b3) (Int.toNat j) []) (0 : Nat) [(C.bool (boolOf (List.getD (List.getD (slOf (List.getD (List.getD (EC.encL ec_103 b2) (Int.toNat i) []) (0 : Nat) C.ne)) (Int.toNat (Go.IntKind.wrap Go.IntKind.i64 (j + (1 : Int)))) []) (0 : Nat) C.ne)))]))) <|
                                                          (patterns_wild_l9 (EC.decL ec_99 (EC.encL ec_99 l)) can i (Go.IntKind.wrap Go.IntKind.i64 (j - (1 : Int))) b0 b1 (EC.decL ec_103 (EC.encL ec_103 b2)) b2_1 b2_2 (EC.decL ec_4 (List.set (EC.encL ec_4 b3) (Int.toNat j) (splice (List.getD (EC.encL ec_4 b3) (Int.toNat j) []) (0 : Nat) [(C.bool (boolOf (List.getD (List.getD (slOf (List.getD (List.getD (EC.encL ec_103 b2) (Int.toNat i) []) (0 : Nat) C.ne)) (Int.toNat (Go.IntKind.wrap Go.IntKind.i64 (j + (1 : Int)))) []) (0 : Nat) C.ne)))]))))))))))))))))
                                  (gdE ((decide ((0 : Int) ≤ j)) && (decide (j < ((b2_2 : Nat) : Int)))) <|
                                    (gdE ((decide ((Int.toNat j) < (List.length (EC.encL ec_4 b3)))) && ((List.length (List.getD (EC.encL ec_4 b3) (Int.toNat j) [])) == (1 : Nat))) <|
                                      (gdE (EC.isL ec_99 (EC.encL ec_99 l)) <|
                                        (gdE (EC.isL ec_103 (EC.encL ec_103 b2)) <|
                                          (gdE (EC.isL ec_4 (List.set (EC.encL ec_4 b3) (Int.toNat j) (splice (List.getD (EC.encL ec_4 b3) (Int.toNat j) []) (0 : Nat) [(C.bool false)]))) <|
                                            (patterns_wild_l9 (EC.decL ec_99 (EC.encL ec_99 l)) can i (Go.IntKind.wrap Go.IntKind.i64 (j - (1 : Int))) b0 b1 (EC.decL ec_103 (EC.encL ec_103 b2)) b2_1 b2_2 (EC.decL ec_4 (List.set (EC.encL ec_4 b3) (Int.toNat j) (splice (List.getD (EC.encL ec_4 b3) (Int.toNat j) []) (0 : Nat) [(C.bool false)]))))))))))
                                (gdE ((decide ((0 : Int) ≤ j)) && (decide (j < ((b2_2 : Nat) : Int)))) <|
                                  (gdE ((decide ((Int.toNat j) < (List.length (EC.encL ec_4 b3)))) && ((List.length (List.getD (EC.encL ec_4 b3) (Int.toNat j) [])) == (1 : Nat))) <|
                                    (gdE (EC.isL ec_99 (EC.encL ec_99 l)) <|
                                      (gdE (EC.isL ec_103 (EC.encL ec_103 b2)) <|
                                        (gdE (EC.isL ec_4 (List.set (EC.encL ec_4 b3) (Int.toNat j) (splice (List.getD (EC.encL ec_4 b3) (Int.toNat j) []) (0 : Nat) [(C.bool true)]))) <|
                                          (patterns_wild_l9 (EC.decL ec_99 (EC.encL ec_99 l)) can i (Go.IntKind.wrap Go.IntKind.i64 (j - (1 : Int))) b0 b1 (EC.decL ec_103 (EC.encL ec_103 b2)) b2_1 b2_2 (EC.decL ec_4 (List.set (EC.encL ec_4 b3) (Int.toNat j) (splice (List.getD (EC.encL ec_4 b3) (Int.toNat j) []) (0 : Nat) [(C.bool true)])))))))))))))))))
                (gdE ((List.length (List.getD (EC.encL ec_103 b2) (Int.toNat i) [])) == (1 : Nat)) <|
                  (gdE (isP [K1.sl] (0 : Nat) (List.getD (EC.encL ec_103 b2) (Int.toNat i) [])) <|
                    (gdE ((decide ((0 : Int) ≤ (Go.IntKind.wrap Go.IntKind.i64 (i + (1 : Int))))) && (decide ((Go.IntKind.wrap Go.IntKind.i64 (i + (1 : Int))) < ((can : Nat) : Int)))) <|
                      (gdE (decide ((Int.toNat (Go.IntKind.wrap Go.IntKind.i64 (i + (1 : Int)))) < (List.length (EC.encL ec_103 b2)))) <|
                        (brE ((Int.toNat (Go.IntKind.wrap Go.IntKind.i64 (i + (1 : Int)))) == b2_1)
                          (gdE ((decide ((0 : Int) ≤ j)) && (decide (j < ((b2_2 : Nat) : Int)))) <|
                            (gdE ((decide ((Int.toNat j) < (List.length (EC.encL ec_4 b3)))) && ((List.length (List.getD (EC.encL ec_4 b3) (Int.toNat j) [])) == (1 : Nat))) <|
                              (gdE (isP [K1.bool] (0 : Nat) (List.getD (EC.encL ec_4 b3) (Int.toNat j) [])) <|
                                (brE ((boolOf (List.getD (List.getD (EC.encL ec_4 b3) (Int.toNat j) []) (0 : Nat) C.ne)) == false)
                                  (brE ((decide (j < (((ByteArray.size b0) : Nat) : Int))) == true)
                                    (gdE ((decide ((0 : Int) ≤ i)) && (decide (i < ((can : Nat) : Int)))) <|
                                      (gdE (decide ((Int.toNat i) < (List.length (EC.encL ec_103 b2)))) <|
                                        (brE ((Int.toNat i) == b2_1)
                                          (gdE ((decide ((0 : Int) ≤ (Go.IntKind.wrap Go.IntKind.i64 (j + (1 : Int))))) && (decide ((Go.IntKind.wrap Go.IntKind.i64 (j + (1 : Int))) < ((b2_2 : Nat) : Int)))) <|
                                            (gdE ((decide ((Int.toNat (Go.IntKind.wrap Go.IntKind.i64 (j + (1 : Int)))) < (List.length (EC.encL ec_4 b3)))) && ((List.length (List.getD (EC.encL ec_4 b3) (Int.toNat (Go.IntKind.wrap Go.IntKind.i64 (j + (1 : Int)))) [])) == (1 : Nat))) <|
                                              (gdE (isP [K1.bool] (0 : Nat) (List.getD (EC.encL ec_4 b3) (Int.toNat (Go.IntKind.wrap Go.IntKind.i64 (j + (1 : Int)))) [])) <|
                                                (gdE (decide ((0 : Int) ≤ j)) <|
                                                  (gdE ((decide ((Int.toNat j) < (List.length (slOf (List.getD (List.getD (EC.encL ec_103 b2) (Int.toNat i) []) (0 : Nat) C.ne))))) && (isE [K1.bool] (0 : Nat) (List.getD (slOf (List.getD (List.getD (EC.encL ec_103 b2) (Int.toNat i) []) (0 : Nat) C.ne)) (Int.toNat j) []))) <|
                                                    none)))))
                                          (gdE ((List.length (List.getD (EC.encL ec_103 b2) (Int.toNat i) [])) == (1 : Nat)) <|
                                            (gdE (isP [K1.sl] (0 : Nat) (List.getD (EC.encL ec_103 b2) (Int.toNat i) [])) <|
                                              (gdE (decide ((0 : Int) ≤ (Go.IntKind.wrap Go.IntKind.i64 (j + (1 : Int))))) <|
                                                (gdE ((decide ((Int.toNat (Go.IntKind.wrap Go.IntKind.i64 (j + (1 : Int)))) < (List.length (slOf (List.getD (List.getD (EC.encL ec_103 b2) (Int.toNat i) []) (0 : Nat) C.ne))))) && (isE [K1.bool] (0 : Nat) (List.getD (slOf (List.getD (List.getD (EC.encL ec_103 b2) (Int.toNat i) []) (0 : Nat) C.ne)) (Int.toNat (Go.IntKind.wrap Go.IntKind.i64 (j + (1 : Int)))) []))) <|
                                                  (gdE (decide ((0 : Int) ≤ j)) <|
                                                    (gdE ((decide ((Int.toNat j) < (List.length (slOf (List.getD (List.getD (EC.encL ec_103 b2) (Int.toNat i) []) (0 : Nat) C.ne))))) && (isE [K1.bool] (0 : Nat) (List.getD (slOf (List.getD (List.getD (EC.encL ec_103 b2) (Int.toNat i) []) (0 : Nat) C.ne)) (Int.toNat j) []))) <|
                                                      none)))))))))
                                    (gdE (decide ((0 : Int) ≤ j)) <|
                                      (gdE ((decide ((Int.toNat j) < (List.length (slOf (List.getD (List.getD (EC.encL ec_103 b2) (Int.toNat i) []) (0 : Nat) C.ne))))) && (isE [K1.bool] (0 : Nat) (List.getD (slOf (List.getD (List.getD (EC.encL ec_103 b2) (Int.toNat i) []) (0 : Nat) C.ne)) (Int.toNat j) []))) <|
                                        none)))
                                  (gdE (decide ((0 : Int) ≤ j)) <|
                                    (gdE ((decide ((Int.toNat j) < (List.length (slOf (List.getD (List.getD (EC.encL ec_103 b2) (Int.toNat i) []) (0 : Nat) C.ne))))) && (isE [K1.bool] (0 : Nat) (List.getD (slOf (List.getD (List.getD (EC.encL ec_103 b2) (Int.toNat i) []) (0 : Nat) C.ne)) (Int.toNat j) []))) <|
                                      none))))))
                          (gdE ((List.length (List.getD (EC.encL ec_103 b2) (Int.toNat (Go.IntKind.wrap Go.IntKind.i64 (i + (1 : Int)))) [])) == (1 : Nat)) <|
                            (gdE (isP [K1.sl] (0 : Nat) (List.getD (EC.encL ec_103 b2) (Int.toNat (Go.IntKind.wrap Go.IntKind.i64 (i + (1 : Int)))) [])) <|
                              (gdE (decide ((0 : Int) ≤ j)) <|
                                (gdE ((decide ((Int.toNat j) < (List.length (slOf (List.getD (List.getD (EC.encL ec_103 b2) (Int.toNat (Go.IntKind.wrap Go.IntKind.i64 (i + (1 : Int)))) []) (0 : Nat) C.ne))))) && (isE [K1.bool] (0 : Nat) (List.getD (slOf (List.getD (List.getD (EC.encL ec_103 b2) (Int.toNat (Go.IntKind.wrap Go.IntKind.i64 (i + (1 : Int)))) []) (0 : Nat) C.ne)) (Int.toNat j) []))) <|
                                  (brE ((boolOf (List.getD (List.getD (slOf (List.getD (List.getD (EC.encL ec_103 b2) (Int.toNat (Go.IntKind.wrap Go.IntKind.i64 (i + (1 : Int)))) []) (0 : Nat) C.ne)) (Int.toNat j) []) (0 : Nat) C.ne)) == false)
                                    (brE ((decide (j < (((ByteArray.size b0) : Nat) : Int))) == true)
                                      (gdE ((decide ((0 : Int) ≤ i)) && (decide (i < ((can : Nat) : Int)))) <|
                                        (gdE (decide ((Int.toNat i) < (List.length (EC.encL ec_103 b2)))) <|
                                          (brE ((Int.toNat i) == b2_1)
                                            (gdE ((decide ((0 : Int) ≤ (Go.IntKind.wrap Go.IntKind.i64 (j + (1 : Int))))) && (decide ((Go.IntKind.wrap Go.IntKind.i64 (j + (1 : Int))) < ((b2_2 : Nat) : Int)))) <|
                                              (gdE ((decide ((Int.toNat (Go.IntKind.wrap Go.IntKind.i64 (j + (1 : Int)))) < (List.length (EC.encL ec_4 b3)))) && ((List.length (List.getD (EC.encL ec_4 b3) (Int.toNat (Go.IntKind.wrap Go.IntKind.i64 (j + (1 : Int)))) [])) == (1 : Nat))) <|
                                                (gdE (isP [K1.bool] (0 : Nat) (List.getD (EC.encL ec_4 b3) (Int.toNat (Go.IntKind.wrap Go.IntKind.i64 (j + (1 : Int)))) [])) <|
                                                  (gdE (decide ((0 : Int) ≤ j)) <|
                                                    (gdE ((decide ((Int.toNat j) < (List.length (slOf (List.getD (List.getD (EC.encL ec_103 b2) (Int.toNat i) []) (0 : Nat) C.ne))))) && (isE [K1.bool] (0 : Nat) (List.getD (slOf (List.getD (List.getD (EC.encL ec_103 b2) (Int.toNat i) []) (0 : Nat) C.ne)) (Int.toNat j) []))) <|
                                                      none)))))
                                            (gdE ((List.length (List.getD (EC.encL ec_103 b2) (Int.toNat i) [])) == (1 : Nat)) <|
                                              (gdE (isP [K1.sl] (0 : Nat) (List.getD (EC.encL ec_103 b2) (Int.toNat i) [])) <|
                                                (gdE (decide ((0 : Int) ≤ (Go.IntKind.wrap Go.IntKind.i64 (j + (1 : Int))))) <|
                                                  (gdE ((decide ((Int.toNat (Go.IntKind.wrap Go.IntKind.i64 (j + (1 : Int)))) < (List.length (slOf (List.getD (List.getD (EC.encL ec_103 b2) (Int.toNat i) []) (0 : Nat) C.ne))))) && (isE [K1.bool] (0 : Nat) (List.getD (slOf (List.getD (List.getD (EC.encL ec_103 b2) (Int.toNat i) []) (0 : Nat) C.ne)) (Int.toNat (Go.IntKind.wrap Go.IntKind.i64 (j + (1 : Int)))) []))) <|
                                                    (gdE (decide ((0 : Int) ≤ j)) <|
                                                      (gdE ((decide ((Int.toNat j) < (List.length (slOf (List.getD (List.getD (EC.encL ec_103 b2) (Int.toNat i) []) (0 : Nat) C.ne))))) && (isE [K1.bool] (0 : Nat) (List.getD (slOf (List.getD (List.getD (EC.encL ec_103 b2) (Int.toNat i) []) (0 : Nat) C.ne)) (Int.toNat j) []))) <|
                                                        none)))))))))
                                      (gdE (decide ((0 : Int) ≤ j)) <|
                                        (gdE ((decide ((Int.toNat j) < (List.length (slOf (List.getD (List.getD (EC.encL ec_103 b2) (Int.toNat i) []) (0 : Nat) C.ne))))) && (isE [K1.bool] (0 : Nat) (List.getD (slOf (List.getD (List.getD (EC.encL ec_103 b2) (Int.toNat i) []) (0 : Nat) C.ne)) (Int.toNat j) []))) <|
                                          none)))
                                    (gdE (decide ((0 : Int) ≤ j)) <|
                                      (gdE ((decide ((Int.toNat j) < (List.length (slOf (List.getD (List.getD (EC.encL ec_103 b2) (Int.toNat i) []) (0 : Nat) C.ne))))) && (isE [K1.bool] (0 : Nat) (List.getD (slOf (List.getD (List.getD (EC.encL ec_103 b2) (Int.toNat i) []) (0 : Nat) C.ne)) (Int.toNat j) []))) <|
                                        none)))))))))))))))
          (gdE ((decide ((0 : Int) ≤ i)) && (decide (i < ((can : Nat) : Int)))) <|
            (gdE (decide ((Int.toNat i) < (List.length (EC.encL ec_103 b2)))) <|
              (brE ((Int.toNat i) == b2_1)
                (gdE (decide ((0 : Int) ≤ i)) <|
                  (gdE ((decide ((Int.toNat i) < (List.length (EC.encL ec_99 l)))) && (isE [K1.bool, K1.bool, (K1.int Go.IntKind.u8)] (0 : Nat) (List.getD (EC.encL ec_99 l) (Int.toNat i) []))) <|
                    (Option.bind (fits_s (boolOf (List.getD (List.getD (EC.encL ec_99 l) (Int.toNat i) []) (0 : Nat) C.ne)) (boolOf (List.getD (List.getD (EC.encL ec_99 l) (Int.toNat i) []) (1 : Nat) C.ne)) (intOf (List.getD (List.getD (EC.encL ec_99 l) (Int.toNat i) []) (2 : Nat) C.ne)) j b0 b1) fun r0 =>
                      (brE (r0 == true)
                        (gdE ((decide ((0 : Int) ≤ (Go.IntKind.wrap Go.IntKind.i64 (i + (1 : Int))))) && (decide ((Go.IntKind.wrap Go.IntKind.i64 (i + (1 : Int))) < ((can : Nat) : Int)))) <|
                          (gdE (decide ((Int.toNat (Go.IntKind.wrap Go.IntKind.i64 (i + (1 : Int)))) < (List.length (EC.encL ec_103 b2)))) <|
                            (brE ((Int.toNat (Go.IntKind.wrap Go.IntKind.i64 (i + (1 : Int)))) == b2_1)
                              (gdE ((decide ((0 : Int) ≤ (Go.IntKind.wrap Go.IntKind.i64 (j + (1 : Int))))) && (decide ((Go.IntKind.wrap Go.IntKind.i64 (j + (1 : Int))) < ((b2_2 : Nat) : Int)))) <|
                                (gdE ((decide ((Int.toNat (Go.IntKind.wrap Go.IntKind.i64 (j + (1 : Int)))) < (List.length (EC.encL ec_4 b3)))) && ((List.length (List.getD (EC.encL ec_4 b3) (Int.toNat (Go.IntKind.wrap Go.IntKind.i64 (j + (1 : Int)))) [])) == (1 : Nat))) <|
                                  (gdE (isP [K1.bool] (0 : Nat) (List.getD (EC.encL ec_4 b3) (Int.toNat (Go.IntKind.wrap Go.IntKind.i64 (j + (1 : Int)))) [])) <|
                                    (gdE ((decide ((0 : Int) ≤ j)) && (decide (j < ((b2_2 : Nat) : Int)))) <|
                                      (gdE ((decide ((Int.toNat j) < (List.length (EC.encL ec_4 b3)))) && ((List.length (List.getD (EC.encL ec_4 b3) (Int.toNat j) [])) == (1 : Nat))) <|
                                        (gdE (EC.isL ec_99 (EC.encL ec_99 l)) <|
                                          (gdE (EC.isL ec_103 (EC.encL ec_103 b2)) <|
                                            (gdE (EC.isL ec_4 (List.set (EC.encL ec_4 b3) (Int.toNat j) (splice (List.getD (EC.encL ec_4 b3) (Int.toNat j) []) (0 : Nat) [(C.bool (boolOf (List.getD (List.getD (EC.encL ec_4 b3) (Int.toNat (Go.IntKind.wrap Go.IntKind.i64 (j + (1 : Int)))) []) (0 : Nat) C.ne)))]))) <|
                                              (patterns_wild_l9 (EC.decL ec_99 (EC.encL ec_99 l)) can i (Go.IntKind.wrap Go.IntKind.i64 (j - (1 : Int))) b0 b1 (EC.decL ec_103 (EC.encL ec_103 b2)) b2_1 b2_2 (EC.decL ec_4 (List.set (EC.encL ec_4 b3) (Int.toNat j) (splice (List.getD (EC.encL ec_4 b3) (Int.toNat j) []) (0 : Nat) [(C.bool (boolOf (List.getD (List.getD (EC.encL ec_4 b3) (Int.toNat (Go.IntKind.wrap Go.IntKind.i64 (j + (1 : Int)))) []) (0 : Nat) C.ne)))]))))))))))))
                              (gdE ((List.length (List.getD (EC.encL ec_103 b2) (Int.toNat (Go.IntKind.wrap Go.IntKind.i64 (i + (1 : Int)))) [])) == (1 : Nat)) <|
                                (gdE (isP [K1.sl] (0 : Nat) (List.getD (EC.encL ec_103 b2) (Int.toNat (Go.IntKind.wrap Go.IntKind.i64 (i + (1 : Int)))) [])) <|
                                  (gdE (decide ((0 : Int) ≤ (Go.IntKind.wrap Go.IntKind.i64 (j + (1 : Int))))) <|
                                    (gdE ((decide ((Int.toNat (Go.IntKind.wrap Go.IntKind.i64 (j + (1 : Int)))) < (List.length (slOf (List.getD (List.getD (EC.encL ec_103 b2) (Int.toNat (Go.IntKind.wrap Go.IntKind.i64 (i + (1 : Int)))) []) (0 : Nat) C.ne))))) && (isE [K1.bool] (0 : Nat) (List.getD (slOf (List.getD (List.getD (EC.encL ec_103 b2) (Int.toNat (Go.IntKind.wrap Go.IntKind.i64 (i + (1 : Int)))) []) (0 : Nat) C.ne)) (Int.toNat (Go.IntKind.wrap Go.IntKind.i64 (j + (1 : Int)))) []))) <|
                                      (gdE ((decide ((0 : Int) ≤ j)) && (decide (j < ((b2_2 : Nat) : Int)))) <|
                                        (gdE ((decide ((Int.toNat j) < (List.length (EC.encL ec_4 b3)))) && ((List.length (List.getD (EC.encL ec_4 b3) (Int.toNat j) [])) == (1 : Nat))) <|
                                          (gdE (EC.isL ec_99 (EC.encL ec_99 l)) <|
                                            (gdE (EC.isL ec_103 (EC.encL ec_103 b2)) <|
                                              (gdE (EC.isL ec_4 (List.set (EC.encL ec_4 b3) (Int.toNat j) (splice (List.getD (EC.encL ec_4 b3) (Int.toNat j) []) (0 : Nat) [(C.bool (boolOf (List.getD (List.getD (slOf (List.getD (List.getD (EC.encL ec_103 b2) (Int.toNat (Go.IntKind.wrap Go.IntKind.i64 (i + (1 : Int)))) []) (0 : Nat) C.ne)) (Int.toNat (Go.IntKind.wrap Go.IntKind.i64 (j + (1 : Int)))) []) (0 : Nat) C.ne)))]))) <|
                                                (patterns_wild_l9 (EC.decL ec_99 (EC.encL ec_99 l)) can i (Go.IntKind.wrap Go.IntKind.i64 (j - (1 : Int))) b0 b1 (EC.decL ec_103 (EC.encL ec_103 b2)) b2_1 b2_2 (EC.decL ec_4 (List.set (EC.encL ec_4 b3) (Int.toNat j) (splice (List.getD (EC.encL ec_4 b3) (Int.toNat j) []) (0 : Nat) [(C.bool (boolOf (List.getD (List.getD (slOf (List.getD (List.getD (EC.encL ec_103 b2) (Int.toNat (Go.IntKind.wrap Go.IntKind.i64 (i + (1 : Int)))) []) (0 : Nat) C.ne)) (Int.toNat (Go.IntKind.wrap Go.IntKind.i64 (j + (1 : Int)))) []) (0 : Nat) C.ne)))]))))))))))))))))
                        (gdE ((decide ((0 : Int) ≤ j)) && (decide (j < ((b2_2 : Nat) : Int)))) <|
                          (gdE ((decide ((Int.toNat j) < (List.length (EC.encL ec_4 b3)))) && ((List.length (List.getD (EC.encL ec_4 b3) (Int.toNat j) [])) == (1 : Nat))) <|
                            (gdE (EC.isL ec_99 (EC.encL ec_99 l)) <|
                              (gdE (EC.isL ec_103 (EC.encL ec_103 b2)) <|
                                (gdE (EC.isL ec_4 (List.set (EC.encL ec_4 b3) (Int.toNat j) (splice (List.getD (EC.encL ec_4 b3) (Int.toNat j) []) (0 : Nat) [(C.bool false)]))) <|
                                  (patterns_wild_l9 (EC.decL ec_99 (EC.encL ec_99 l)) can i (Go.IntKind.wrap Go.IntKind.i64 (j - (1 : Int))) b0 b1 (EC.decL ec_103 (EC.encL ec_103 b2)) b2_1 b2_2 (EC.decL ec_4 (List.set (EC.encL ec_4 b3) (Int.toNat j) (splice (List.getD (EC.encL ec_4 b3) (Int.toNat j) []) (0 : Nat) [(C.bool false)])))))))))))))
                (gdE ((List.length (List.getD (EC.encL ec_103 b2) (Int.toNat i) [])) == (1 : Nat)) <|
                  (gdE (isP [K1.sl] (0 : Nat) (List.getD (EC.encL ec_103 b2) (Int.toNat i) [])) <|
                    (gdE (decide ((0 : Int) ≤ i)) <|
                      (gdE ((decide ((Int.toNat i) < (List.length (EC.encL ec_99 l)))) && (isE [K1.bool, K1.bool, (K1.int Go.IntKind.u8)] (0 : Nat) (List.getD (EC.encL ec_99 l) (Int.toNat i) []))) <|
                        (Option.bind (fits_s (boolOf (List.getD (List.getD (EC.encL ec_99 l) (Int.toNat i) []) (0 : Nat) C.ne)) (boolOf (List.getD (List.getD (EC.encL ec_99 l) (Int.toNat i) []) (1 : Nat) C.ne)) (intOf (List.getD (List.getD (EC.encL ec_99 l) (Int.toNat i) []) (2 : Nat) C.ne)) j b0 b1) fun r0 =>
                          (brE (r0 == true)
                            (gdE ((decide ((0 : Int) ≤ (Go.IntKind.wrap Go.IntKind.i64 (i + (1 : Int))))) && (decide ((Go.IntKind.wrap Go.IntKind.i64 (i + (1 : Int))) < ((can : Nat) : Int)))) <|
                              (gdE (decide ((Int.toNat (Go.IntKind.wrap Go.IntKind.i64 (i + (1 : Int)))) < (List.length (EC.encL ec_103 b2)))) <|
                                (brE ((Int.toNat (Go.IntKind.wrap Go.IntKind.i64 (i + (1 : Int)))) == b2_1)
                                  (gdE ((decide ((0 : Int) ≤ (Go.IntKind.wrap Go.IntKind.i64 (j + (1 : Int))))) && (decide ((Go.IntKind.wrap Go.IntKind.i64 (j + (1 : Int))) < ((b2_2 : Nat) : Int)))) <|
                                    (gdE ((decide ((Int.toNat (Go.IntKind.wrap Go.IntKind.i64 (j + (1 : Int)))) < (List.length (EC.encL ec_4 b3)))) && ((List.length (List.getD (EC.encL ec_4 b3) (Int.toNat (Go.IntKind.wrap Go.IntKind.i64 (j + (1 : Int)))) [])) == (1 : Nat))) <|
                                      (gdE (isP [K1.bool] (0 : Nat) (List.getD (EC.encL ec_4 b3) (Int.toNat (Go.IntKind.wrap Go.IntKind.i64 (j + (1 : Int)))) [])) <|
                                        (gdE (decide ((0 : Int) ≤ j)) <|
                                          (gdE ((decide ((Int.toNat j) < (List.length (slOf (List.getD (List.getD (EC.encL ec_103 b2) (Int.toNat i) []) (0 : Nat) C.ne))))) && (isE [K1.bool] (0 : Nat) (List.getD (slOf (List.getD (List.getD (EC.encL ec_103 b2) (Int.toNat i) []) (0 : Nat) C.ne)) (Int.toNat j) []))) <|
                                            none)))))
                                  (gdE ((List.length (List.getD (EC.encL ec_103 b2) (Int.toNat (Go.IntKind.wrap Go.IntKind.i64 (i + (1 : Int)))) [])) == (1 : Nat)) <|
                                    (gdE (isP [K1.sl] (0 : Nat) (List.getD (EC.encL ec_103 b2) (Int.toNat (Go.IntKind.wrap Go.IntKind.i64 (i + (1 : Int)))) [])) <|
                                      (gdE (decide ((0 : Int) ≤ (Go.IntKind.wrap Go.IntKind.i64 (j + (1 : Int))))) <|
                                        (gdE ((decide ((Int.toNat (Go.IntKind.wrap Go.IntKind.i64 (j + (1 : Int)))) < (List.length (slOf (List.getD (List.getD (EC.encL ec_103 b2) (Int.toNat (Go.IntKind.wrap Go.IntKind.i64 (i + (1 : Int)))) []) (0 : Nat) C.ne))))) && (isE [K1.bool] (0 : Nat) (List.getD (slOf (List.getD (List.getD (EC.encL ec_103 b2) (Int.toNat (Go.IntKind.wrap Go.IntKind.i64 (i + (1 : Int)))) []) (0 : Nat) C.ne)) (Int.toNat (Go.IntKind.wrap Go.IntKind.i64 (j + (1 : Int)))) []))) <|
                                          (gdE (decide ((0 : Int) ≤ j)) <|
                                            (gdE ((decide ((Int.toNat j) < (List.length (slOf (List.getD (List.getD (EC.encL ec_103 b2) (Int.toNat i) []) (0 : Nat) C.ne))))) && (isE [K1.bool] (0 : Nat) (List.getD (slOf (List.getD (List.getD (EC.encL ec_103 b2) (Int.toNat i) []) (0 : Nat) C.ne)) (Int.toNat j) []))) <|
                                              none)))))))))
                            (gdE (decide ((0 : Int) ≤ j)) <|
                              (gdE ((decide ((Int.toNat j) < (List.length (slOf (List.getD (List.getD (EC.encL ec_103 b2) (Int.toNat i) []) (0 : Nat) C.ne))))) && (isE [K1.bool] (0 : Nat) (List.getD (slOf (List.getD (List.getD (EC.encL ec_103 b2) (Int.toNat i) []) (0 : Nat) C.ne)) (Int.toNat j) []))) <|
                                none)))))))))))))))
  (gdE (EC.isL ec_99 (EC.encL ec_99 l)) <|
    (gdE (EC.isL ec_103 (EC.encL ec_103 b2)) <|
      (gdE (EC.isL ec_4 (EC.encL ec_4 b3)) <|
        (some (((EC.decL ec_99 (EC.encL ec_99 l)), ((), (((), ()), (can, (i, (j, false)))))), (b0, (b1, (((EC.decL ec_103 (EC.encL ec_103 b2)), (b2_1, b2_2)), (EC.decL ec_4 (EC.encL ec_4 b3)))))))))))
theorem patterns_wild_l9_eq {l : (List S99)} {can : Nat} {i : Int} {j : Int} {b0 : ByteArray} {b1 : ByteArray} {b2 : (List (List Bool))} {b2_1 : Nat} {b2_2 : Nat} {b3 : (List Bool)} {r : (((List S99) × Unit × (Unit × Unit) × Nat × Int × Int × Bool) × (ByteArray × ByteArray × ((List (List Bool)) × Nat × Nat) × (List Bool)))} (h : patterns_wild_l9_t l can i j b0 b1 b2 b2_1 b2_2 b3 = some r) : patterns_wild_l9 l can i j b0 b1 b2 b2_1 b2_2 b3 = some r :=
  lS_tree (es := tab_fits) (hs := []) [] (by kernel_rfl) trivial trivial (by kernel_rfl) h
noncomputable def patterns_wild_l9_e : LEnt Try.prog lv X0 66 166 := lentS Try.prog lv X0 9 (getLoop (cdF Try.f66) 9) patterns_wild_l9_s patterns_wild_l9_o (fun x => patterns_wild_l9 x.1.1 x.1.2.2.2.1 x.1.2.2.2.2.1 x.1.2.2.2.2.2 x.2.1 x.2.2.1 x.2.2.2.1.1 x.2.2.2.1.2.1 x.2.2.2.1.2.2 x.2.2.2.2) (fun _ _ h => lS_from h)
def patterns_wild_l5_s : SC (((List S99) × Unit × (Unit × Unit) × Nat × Int) × (ByteArray × ByteArray × ((List (List Bool)) × Nat × Nat) × (List Bool))) := sLS [0, 3, 7, 8, 9] (lCons (vC (cSl ec_99)) (lCons (vPtr 0 0) (lCons (vFn 74 (lCons (vPtr 0 0) (lOne (vPtr 1 0)))) (lCons (vRow 2) (lOne (vC (cInt .i64))))))) (lCons (oSome (bBox (lOne (vC cStr)))) (lCons (oSome (bBox (lOne (vC cStr)))) (lCons (oSome (bTab ec_103 (vRow 3))) (lOne (oSome (bRow ec_4)))))) [false, false, false, false] [] (by decide) (fun _ => rfl)
def patterns_wild_l5_o2 : SC (((List S99) × Unit × (Unit × Unit) × Nat × Int × Bool) × (ByteArray × ByteArray × ((List (List Bool)) × Nat × Nat) × (List Bool))) := sLS [0, 3, 7, 8, 9, 26] (lCons (vC (cSl ec_99)) (lCons (vPtr 0 0) (lCons (vFn 74 (lCons (vPtr 0 0) (lOne (vPtr 1 0)))) (lCons (vRow 2) (lCons (vC (cInt .i64)) (lOne (vC cBool))))))) (lCons (oSome (bBox (lOne (vC cStr)))) (lCons (oSome (bBox (lOne (vC cStr)))) (lCons (oSome (bTab ec_103 (vRow 3))) (lOne (oSome (bRow ec_4)))))) [false, false, false, false] [] (by decide) (fun _ => rfl)
def patterns_wild_l5_o : OC (((List S99) × Unit × (Unit × Unit) × Nat × Int × Bool) × (ByteArray × ByteArray × ((List (List Bool)) × Nat × Nat) × (List Bool))) := oAt 2 patterns_wild_l5_o2
noncomputable def patterns_wild_l5 (l : (List S99)) (can : Nat) (i : Int) (b0 : ByteArray) (b1 : ByteArray) (b2 : (List (List Bool))) (b2_1 : Nat) (b2_2 : Nat) (b3 : (List Bool)) : Option (((List S99) × Unit × (Unit × Unit) × Nat × Int × Bool) × (ByteArray × ByteArray × ((List (List Bool)) × Nat × Nat) × (List Bool))) := lS Try.prog lv X0 66 166 (getLoop (cdF Try.f66) 5) patterns_wild_l5_s patterns_wild_l5_o ((l, (), ((), ()), can, i), (b0, b1, (b2, b2_1, b2_2), b3))
noncomputable def patterns_wild_l5_t (l : (List S99)) (can : Nat) (i : Int) (b0 : ByteArray) (b1 : ByteArray) (b2 : (List (List Bool))) (b2_1 : Nat) (b2_2 : Nat) (b3 : (List Bool)) : Option (((List S99) × Unit × (Unit × Unit) × Nat × Int × Bool) × (ByteArray × ByteArray × ((List (List Bool)) × Nat × Nat) × (List Bool))) :=
  (brE (decide (i ≥ (0 : Int)))
  (gdE ((((decide ((Go.IntKind.wrap Go.IntKind.i64 ((((ByteArray.size b0) : Nat) : Int) + (1 : Int))) = (Go.IntKind.wrap Go.IntKind.i64 ((((ByteArray.size b0) : Nat) : Int) + (1 : Int))))) && (decide ((0 : Int) ≤ (Go.IntKind.wrap Go.IntKind.i64 ((((ByteArray.size b0) : Nat) : Int) + (1 : Int)))))) && (decide (((Go.IntKind.wrap Go.IntKind.i64 ((((ByteArray.size b0) : Nat) : Int) + (1 : Int))) * (((1 : Nat) : Nat) : Int)) ≤ (140737488355328 : Int)))) && (decide ((Go.IntKind.wrap Go.IntKind.i64 ((((ByteArray.size b0) : Nat) : Int) + (1 : Int))) ≤ (9223372036854775807 : Int)))) <|
    (gdE ((decide ((0 : Int) ≤ i)) && (decide (i < ((can : Nat) : Int)))) <|
      (gdE (decide ((Int.toNat i) < (List.length (EC.encL ec_103 b2)))) <|
        (brE (decide (b2_1 < (List.length (EC.encL ec_103 b2))))
          (gdE (EC.isL ec_99 (EC.encL ec_99 l)) <|
            (gdE (EC.isL ec_103 (List.set (EC.encL ec_103 b2) b2_1 [(C.sl (EC.encL ec_4 b3))])) <|
              (gdE (EC.isL ec_4 (List.replicate (Int.toNat (Go.IntKind.wrap Go.IntKind.i64 ((((ByteArray.size b0) : Nat) : Int) + (1 : Int)))) [(C.bool false)])) <|
                (Option.bind (patterns_wild_l9 (EC.decL ec_99 (EC.encL ec_99 l)) can i (((ByteArray.size b0) : Nat) : Int) b0 b1 (EC.decL ec_103 (List.set (EC.encL ec_103 b2) b2_1 [(C.sl (EC.encL ec_4 b3))])) (Int.toNat i) (Int.toNat (Go.IntKind.wrap Go.IntKind.i64 ((((ByteArray.size b0) : Nat) : Int) + (1 : Int)))) (EC.decL ec_4 (List.replicate (Int.toNat (Go.IntKind.wrap Go.IntKind.i64 ((((ByteArray.size b0) : Nat) : Int) + (1 : Int)))) [(C.bool false)]))) fun r0 =>
                  (gdE (EC.isL ec_99 (EC.encL ec_99 ((r0).1).1)) <|
                    (gdE (EC.isL ec_103 (EC.encL ec_103 (((((r0).2).2).2).1).1)) <|
                      (gdE (EC.isL ec_4 (EC.encL ec_4 ((((r0).2).2).2).2)) <|
                        (patterns_wild_l5 (EC.decL ec_99 (EC.encL ec_99 ((r0).1).1)) (((((r0).1).2).2).2).1 (Go.IntKind.wrap Go.IntKind.i64 (((((((r0).1).2).2).2).2).1 - (1 : Int))) ((r0).2).1 (((r0).2).2).1 (EC.decL ec_103 (EC.encL ec_103 (((((r0).2).2).2).1).1)) ((((((r0).2).2).2).1).2).1 ((((((r0).2).2).2).1).2).2 (EC.decL ec_4 (EC.encL ec_4 ((((r0).2).2).2).2))))))))))
          (gdE (EC.isL ec_99 (EC.encL ec_99 l)) <|
            (gdE (EC.isL ec_103 (EC.encL ec_103 b2)) <|
              (gdE (EC.isL ec_4 (List.replicate (Int.toNat (Go.IntKind.wrap Go.IntKind.i64 ((((ByteArray.size b0) : Nat) : Int) + (1 : Int)))) [(C.bool false)])) <|
                (Option.bind (patterns_wild_l9 (EC.decL ec_99 (EC.encL ec_99 l)) can i (((ByteArray.size b0) : Nat) : Int) b0 b1 (EC.decL ec_103 (EC.encL ec_103 b2)) (Int.toNat i) (Int.toNat (Go.IntKind.wrap Go.IntKind.i64 ((((ByteArray.size b0) : Nat) : Int) + (1 : Int)))) (EC.decL ec_4 (List.replicate (Int.toNat (Go.IntKind.wrap Go.IntKind.i64 ((((ByteArray.size b0) : Nat) : Int) + (1 : Int)))) [(C.bool false)]))) fun r0 =>
                  (gdE (EC.isL ec_99 (EC.encL ec_99 ((r0).1).1)) <|
                    (gdE (EC.isL ec_103 (EC.encL ec_103 (((((r0).2).2).2).1).1)) <|
                      (gdE (EC.isL ec_4 (EC.encL ec_4 ((((r0).2).2).2).2)) <|
                        (patterns_wild_l5 (EC.decL ec_99 (EC.encL ec_99 ((r0).1).1)) (((((r0).1).2).2).2).1 (Go.IntKind.wrap Go.IntKind.i64 (((((((r0).1).2).2).2).2).1 - (1 : Int))) ((r0).2).1 (((r0).2).2).1 (EC.decL ec_103 (EC.encL ec_103 (((((r0).2).2).2).1).1)) ((((((r0).2).2).2).1).2).1 ((((((r0).2).2).2).1).2).2 (EC.decL ec_4 (EC.encL ec_4 ((((r0).2).2).2).2))))))))))))))
  (gdE (EC.isL ec_99 (EC.encL ec_99 l)) <|
    (gdE (EC.isL ec_103 (EC.encL ec_103 b2)) <|
      (gdE (EC.isL ec_4 (EC.encL ec_4 b3)) <|
        (some (((EC.decL ec_99 (EC.encL ec_99 l)), ((), (((), ()), (can, (i, false))))), (b0, (b1, (((EC.decL ec_103 (EC.encL ec_103 b2)), (b2_1, b2_2)), (EC.decL ec_4 (EC.encL ec_4 b3)))))))))))
theorem patterns_wild_l5_eq {l : (List S99)} {can : Nat} {i : Int} {b0 : ByteArray} {b1 : ByteArray} {b2 : (List (List Bool))} {b2_1 : Nat} {b2_2 : Nat} {b3 : (List Bool)} {r : (((List S99) × Unit × (Unit × Unit) × Nat × Int × Bool) × (ByteArray × ByteArray × ((List (List Bool)) × Nat × Nat) × (List Bool)))} (h : patterns_wild_l5_t l can i b0 b1 b2 b2_1 b2_2 b3 = some r) : patterns_wild_l5 l can i b0 b1 b2 b2_1 b2_2 b3 = some r :=
  lS_tree (es := tab_fits) (hs := []) [patterns_wild_l9_e] (by kernel_rfl) ⟨⟨_, rfl, rfl⟩, trivial⟩ trivial (by kernel_rfl) h
noncomputable def patterns_wild_l5_e : LEnt Try.prog lv X0 66 166 := lentS Try.prog lv X0 5 (getLoop (cdF Try.f66) 5) patterns_wild_l5_s patterns_wild_l5_o (fun x => patterns_wild_l5 x.1.1 x.1.2.2.2.1 x.1.2.2.2.2 x.2.1 x.2.2.1 x.2.2.2.1.1 x.2.2.2.1.2.1 x.2.2.2.1.2.2 x.2.2.2.2) (fun _ _ h => lS_from h)
def patterns_wild_l24_s : SC ((Unit × Nat × Nat × Int × Int × Unit × Int × (List S99) × Int × Int) × (ByteArray × ((List (List Bool)) × Nat × Nat) × (List ByteArray) × (Bool × Bool × Int) × (List Bool))) := sLS [3, 8, 11, 12, 13, 14, 15, 123, 124, 125] (lCons (vPtr 0 0) (lCons (vRow 1) (lCons (vRow 2) (lCons (vC (cInt .i64)) (lCons (vC (cInt .i64)) (lCons (vPtr 3 0) (lCons (vC (cInt .i64)) (lCons (vC (cSl ec_99)) (lCons (vC (cInt .i64)) (lOne (vC (cInt .i64)))))))))))) (lCons (oSome (bBox (lOne (vC cStr)))) (lCons (oSome (bTab ec_103 (vRow 4))) (lCons (oSome (bRow ec_9)) (lCons (oSome (bBox (lCons (vC cBool) (lCons (vC cBool) (lOne (vC (cInt .u8))))))) (lOne (oSome (bRow ec_4))))))) [false, false, false, false, false] [] (by decide) (fun _ => rfl)
def patterns_wild_l24_o9 : SC ((Unit × Nat × Nat × Int × Int × Unit × Int × (List S99) × Int × Int × Bool) × (ByteArray × ((List (List Bool)) × Nat × Nat) × (List ByteArray) × (Bool × Bool × Int) × (List Bool))) := sLS [3, 8, 11, 12, 13, 14, 15, 123, 124, 125, 143] (lCons (vPtr 0 0) (lCons (vRow 1) (lCons (vRow 2) (lCons (vC (cInt .i64)) (lCons (vC (cInt .i64)) (lCons (vPtr 3 0) (lCons (vC (cInt .i64)) (lCons (vC (cSl ec_99)) (lCons (vC (cInt .i64)) (lCons (vC (cInt .i64)) (lOne (vC cBool)))))))))))) (lCons (oSome (bBox (lOne (vC cStr)))) (lCons (oSome (bTab ec_103 (vRow 4))) (lCons (oSome (bRow ec_9)) (lCons (oSome (bBox (lCons (vC cBool) (lCons (vC cBool) (lOne (vC (cInt .u8))))))) (lOne (oSome (bRow ec_4))))))) [false, false, false, false, false] [] (by decide) (fun _ => rfl)
def patterns_wild_l24_o : OC ((Unit × Nat × Nat × Int × Int × Unit × Int × (List S99) × Int × Int × Bool) × (ByteArray × ((List (List Bool)) × Nat × Nat) × (List ByteArray) × (Bool × Bool × Int) × (List Bool))) := oAt 9 patterns_wild_l24_o9
noncomputable def patterns_wild_l24 (can : Nat) (out : Nat) (j : Int) (i : Int) (from_ : Int) (t123 : (List S99)) (t124 : Int) (t125 : Int) (b0 : ByteArray) (b1 : (List (List Bool))) (b1_1 : Nat) (b1_2 : Nat) (b2 : (List ByteArray)) (b3 : Bool) (b3_1 : Bool) (b3_2 : Int) (b4 : (List Bool)) : Option ((Unit × Nat × Nat × Int × Int × Unit × Int × (List S99) × Int × Int × Bool) × (ByteArray × ((List (List Bool)) × Nat × Nat) × (List ByteArray) × (Bool × Bool × Int) × (List Bool))) := lS Try.prog lv X0 66 166 (getLoop (cdF Try.f66) 24) patterns_wild_l24_s patterns_wild_l24_o (((), can, out, j, i, (), from_, t123, t124, t125), (b0, (b1, b1_1, b1_2), b2, (b3, b3_1, b3_2), b4))
noncomputable def patterns_wild_l24_t (can : Nat) (out : Nat) (j : Int) (i : Int) (from_ : Int) (t123 : (List S99)) (t124 : Int) (t125 : Int) (b0 : ByteArray) (b1 : (List (List Bool))) (b1_1 : Nat) (b1_2 : Nat) (b2 : (List ByteArray)) (b3 : Bool) (b3_1 : Bool) (b3_2 : Int) (b4 : (List Bool)) : Option ((Unit × Nat × Nat × Int × Int × Unit × Int × (List S99) × Int × Int × Bool) × (ByteArray × ((List (List Bool)) × Nat × Nat) × (List ByteArray) × (Bool × Bool × Int) × (List Bool))) :=
  (brE (b3_1 == true)
  (gdE ((decide ((0 : Int) ≤ (Go.IntKind.wrap Go.IntKind.i64 (i + (1 : Int))))) && (decide ((Go.IntKind.wrap Go.IntKind.i64 (i + (1 : Int))) < ((can : Nat) : Int)))) <|
    (gdE (decide ((Int.toNat (Go.IntKind.wrap Go.IntKind.i64 (i + (1 : Int)))) < (List.length (EC.encL ec_103 b1)))) <|
      (brE ((Int.toNat (Go.IntKind.wrap Go.IntKind.i64 (i + (1 : Int)))) == b1_1)
        (gdE ((decide ((0 : Int) ≤ j)) && (decide (j < ((b1_2 : Nat) : Int)))) <|
          (gdE ((decide ((Int.toNat j) < (List.length (EC.encL ec_4 b4)))) && ((List.length (List.getD (EC.encL ec_4 b4) (Int.toNat j) [])) == (1 : Nat))) <|
            (gdE (isP [K1.bool] (0 : Nat) (List.getD (EC.encL ec_4 b4) (Int.toNat j) [])) <|
              (brE (!(boolOf (List.getD (List.getD (EC.encL ec_4 b4) (Int.toNat j) []) (0 : Nat) C.ne)))
                (gdE (EC.isL ec_99 (EC.encL ec_99 t123)) <|
                  (gdE (EC.isL ec_103 (EC.encL ec_103 b1)) <|
                    (gdE (EC.isL ec_9 (EC.encL ec_9 b2)) <|
                      (gdE (EC.isL ec_4 (EC.encL ec_4 b4)) <|
                        (patterns_wild_l24 can out (Go.IntKind.wrap Go.IntKind.i64 (j + (1 : Int))) i from_ (EC.decL ec_99 (EC.encL ec_99 t123)) t124 t125 b0 (EC.decL ec_103 (EC.encL ec_103 b1)) b1_1 b1_2 (EC.decL ec_9 (EC.encL ec_9 b2)) b3 b3_1 b3_2 (EC.decL ec_4 (EC.encL ec_4 b4)))))))
                (gdE (EC.isL ec_99 (EC.encL ec_99 t123)) <|
                  (gdE (EC.isL ec_103 (EC.encL ec_103 b1)) <|
                    (gdE (EC.isL ec_9 (EC.encL ec_9 b2)) <|
                      (gdE (EC.isL ec_4 (EC.encL ec_4 b4)) <|
                        (some (((), (can, (out, (j, (i, ((), (from_, ((EC.decL ec_99 (EC.encL ec_99 t123)), (t124, (t125, false)))))))))), (b0, (((EC.decL ec_103 (EC.encL ec_103 b1)), (b1_1, b1_2)), ((EC.decL ec_9 (EC.encL ec_9 b2)), ((b3, (b3_1, b3_2)), (EC.decL ec_4 (EC.encL ec_4 b4))))))))))))))))
        (gdE ((List.length (List.getD (EC.encL ec_103 b1) (Int.toNat (Go.IntKind.wrap Go.IntKind.i64 (i + (1 : Int)))) [])) == (1 : Nat)) <|
          (gdE (isP [K1.sl] (0 : Nat) (List.getD (EC.encL ec_103 b1) (Int.toNat (Go.IntKind.wrap Go.IntKind.i64 (i + (1 : Int)))) [])) <|
            (gdE (decide ((0 : Int) ≤ j)) <|
              (gdE ((decide ((Int.toNat j) < (List.length (slOf (List.getD (List.getD (EC.encL ec_103 b1) (Int.toNat (Go.IntKind.wrap Go.IntKind.i64 (i + (1 : Int)))) []) (0 : Nat) C.ne))))) && (isE [K1.bool] (0 : Nat) (List.getD (slOf (List.getD (List.getD (EC.encL ec_103 b1) (Int.toNat (Go.IntKind.wrap Go.IntKind.i64 (i + (1 : Int)))) []) (0 : Nat) C.ne)) (Int.toNat j) []))) <|
                (brE (!(boolOf (List.getD (List.getD (slOf (List.getD (List.getD (EC.encL ec_103 b1) (Int.toNat (Go.IntKind.wrap Go.IntKind.i64 (i + (1 : Int)))) []) (0 : Nat) C.ne)) (Int.toNat j) []) (0 : Nat) C.ne)))
                  (gdE (EC.isL ec_99 (EC.encL ec_99 t123)) <|
                    (gdE (EC.isL ec_103 (EC.encL ec_103 b1)) <|
                      (gdE (EC.isL ec_9 (EC.encL ec_9 b2)) <|
                        (gdE (EC.isL ec_4 (EC.encL ec_4 b4)) <|
                          (patterns_wild_l24 can out (Go.IntKind.wrap Go.IntKind.i64 (j + (1 : Int))) i from_ (EC.decL ec_99 (EC.encL ec_99 t123)) t124 t125 b0 (EC.decL ec_103 (EC.encL ec_103 b1)) b1_1 b1_2 (EC.decL ec_9 (EC.encL ec_9 b2)) b3 b3_1 b3_2 (EC.decL ec_4 (EC.encL ec_4 b4)))))))
                  (gdE (EC.isL ec_99 (EC.encL ec_99 t123)) <|
                    (gdE (EC.isL ec_103 (EC.encL ec_103 b1)) <|
                      (gdE (EC.isL ec_9 (EC.encL ec_9 b2)) <|
                        (gdE (EC.isL ec_4 (EC.encL ec_4 b4)) <|
                          (some (((), (can, (out, (j, (i, ((), (from_, ((EC.decL ec_99 (EC.encL ec_99 t123)), (t124, (t125, false)))))))))), (b0, (((EC.decL ec_103 (EC.encL ec_103 b1)), (b1_1, b1_2)), ((EC.decL ec_9 (EC.encL ec_9 b2)), ((b3, (b3_1, b3_2)), (EC.decL ec_4 (EC.encL ec_4 b4))))))))))))))))))))
  (gdE (EC.isL ec_99 (EC.encL ec_99 t123)) <|
    (gdE (EC.isL ec_103 (EC.encL ec_103 b1)) <|
      (gdE (EC.isL ec_9 (EC.encL ec_9 b2)) <|
        (gdE (EC.isL ec_4 (EC.encL ec_4 b4)) <|
          (some (((), (can, (out, (j, (i, ((), (from_, ((EC.decL ec_99 (EC.encL ec_99 t123)), (t124, (t125, false)))))))))), (b0, (((EC.decL ec_103 (EC.encL ec_103 b1)), (b1_1, b1_2)), ((EC.decL ec_9 (EC.encL ec_9 b2)), ((b3, (b3_1, b3_2)), (EC.decL ec_4 (EC.encL ec_4 b4)))))))))))))
theorem patterns_wild_l24_eq {can : Nat} {out : Nat} {j : Int} {i : Int} {from_ : Int} {t123 : (List S99)} {t124 : Int} {t125 : Int} {b0 : ByteArray} {b1 : (List (List Bool))} {b1_1 : Nat} {b1_2 : Nat} {b2 : (List ByteArray)} {b3 : Bool} {b3_1 : Bool} {b3_2 : Int} {b4 : (List Bool)} {r : ((Unit × Nat × Nat × Int × Int × Unit × Int × (List S99) × Int × Int × Bool) × (ByteArray × ((List (List Bool)) × Nat × Nat) × (List ByteArray) × (Bool × Bool × Int) × (List Bool)))} (h : patterns_wild_l24_t can out j i from_ t123 t124 t125 b0 b1 b1_1 b1_2 b2 b3 b3_1 b3_2 b4 = some r) : patterns_wild_l24 can out j i from_ t123 t124 t125 b0 b1 b1_1 b1_2 b2 b3 b3_1 b3_2 b4 = some r :=
  lS_tree (es := tab_fits) (hs := []) [] (by kernel_rfl) trivial trivial (by kernel_rfl) h
noncomputable def patterns_wild_l24_e : LEnt Try.prog lv X0 66 166 := lentS Try.prog lv X0 24 (getLoop (cdF Try.f66) 24) patterns_wild_l24_s patterns_wild_l24_o (fun x => patterns_wild_l24 x.1.2.1 x.1.2.2.1 x.1.2.2.2.1 x.1.2.2.2.2.1 x.1.2.2.2.2.2.2.1 x.1.2.2.2.2.2.2.2.1 x.1.2.2.2.2.2.2.2.2.1 x.1.2.2.2.2.2.2.2.2.2 x.2.1 x.2.2.1.1 x.2.2.1.2.1 x.2.2.1.2.2 x.2.2.2.1 x.2.2.2.2.1.1 x.2.2.2.2.1.2.1 x.2.2.2.2.1.2.2 x.2.2.2.2.2) (fun _ _ h => lS_from h)
def patterns_wild_l21_s : SC ((Unit × Nat × Nat × Int × (List S99) × Int × Int) × (ByteArray × ((List (List Bool)) × Nat × Nat) × (List ByteArray) × (List Bool))) := sLS [3, 8, 11, 12, 123, 124, 125] (lCons (vPtr 0 0) (lCons (vRow 1) (lCons (vRow 2) (lCons (vC (cInt .i64)) (lCons (vC (cSl ec_99)) (lCons (vC (cInt .i64)) (lOne (vC (cInt .i64))))))))) (lCons (oSome (bBox (lOne (vC cStr)))) (lCons (oSome (bTab ec_103 (vRow 3))) (lCons (oSome (bRow ec_9)) (lOne (oSome (bRow ec_4)))))) [false, false, false, false] [] (by decide) (fun _ => rfl)
def patterns_wild_l21_o7 : SC ((Unit × Nat × Nat × Int × (List S99) × Int × Int × Bool) × (ByteArray × ((List (List Bool)) × Nat × Nat) × (List ByteArray) × (List Bool))) := sLS [3, 8, 11, 12, 123, 124, 125, 126] (lCons (vPtr 0 0) (lCons (vRow 1) (lCons (vRow 2) (lCons (vC (cInt .i64)) (lCons (vC (cSl ec_99)) (lCons (vC (cInt .i64)) (lCons (vC (cInt .i64)) (lOne (vC cBool))))))))) (lCons (oSome (bBox (lOne (vC cStr)))) (lCons (oSome (bTab ec_103 (vRow 3))) (lCons (oSome (bRow ec_9)) (lOne (oSome (bRow ec_4)))))) [false, false, false, false] [] (by decide) (fun _ => rfl)
def patterns_wild_l21_o : OC ((Unit × Nat × Nat × Int × (List S99) × Int × Int × Bool) × (ByteArray × ((List (List Bool)) × Nat × Nat) × (List ByteArray) × (List Bool))) := oAt 7 patterns_wild_l21_o7
noncomputable def patterns_wild_l21 (can : Nat) (out : Nat) (j : Int) (t123 : (List S99)) (t124 : Int) (t125 : Int) (b0 : ByteArray) (b1 : (List (List Bool))) (b1_1 : Nat) (b1_2 : Nat) (b2 : (List ByteArray)) (b3 : (List Bool)) : Option ((Unit × Nat × Nat × Int × (List S99) × Int × Int × Bool) × (ByteArray × ((List (List Bool)) × Nat × Nat) × (List ByteArray) × (List Bool))) := lS Try.prog lv X0 66 166 (getLoop (cdF Try.f66) 21) patterns_wild_l21_s patterns_wild_l21_o (((), can, out, j, t123, t124, t125), (b0, (b1, b1_1, b1_2), b2, b3))
noncomputable def patterns_wild_l21_t (can : Nat) (out : Nat) (j : Int) (t123 : (List S99)) (t124 : Int) (t125 : Int) (b0 : ByteArray) (b1 : (List (List Bool))) (b1_1 : Nat) (b1_2 : Nat) (b2 : (List ByteArray)) (b3 : (List Bool)) : Option ((Unit × Nat × Nat × Int × (List S99) × Int × Int × Bool) × (ByteArray × ((List (List Bool)) × Nat × Nat) × (List ByteArray) × (List Bool))) :=
  (brE (decide (t125 < t124))
  (gdE (decide ((0 : Int) ≤ t125)) <|
    (gdE ((decide ((Int.toNat t125) < (List.length (EC.encL ec_99 t123)))) && (isE [K1.bool, K1.bool, (K1.int Go.IntKind.u8)] (0 : Nat) (List.getD (EC.encL ec_99 t123) (Int.toNat t125) []))) <|
      (gdE (EC.isL ec_99 (EC.encL ec_99 t123)) <|
        (gdE (EC.isL ec_103 (EC.encL ec_103 b1)) <|
          (gdE (EC.isL ec_9 (EC.encL ec_9 b2)) <|
            (gdE (EC.isL ec_4 (EC.encL ec_4 b3)) <|
              (Option.bind (patterns_wild_l24 can out j t125 j (EC.decL ec_99 (EC.encL ec_99 t123)) t124 t125 b0 (EC.decL ec_103 (EC.encL ec_103 b1)) b1_1 b1_2 (EC.decL ec_9 (EC.encL ec_9 b2)) (boolOf (List.getD (List.getD (EC.encL ec_99 t123) (Int.toNat t125) []) (0 : Nat) C.ne)) (boolOf (List.getD (List.getD (EC.encL ec_99 t123) (Int.toNat t125) []) (1 : Nat) C.ne)) (intOf (List.getD (List.getD (EC.encL ec_99 t123) (Int.toNat t125) []) (2 : Nat) C.ne)) (EC.decL ec_4 (EC.encL ec_4 b3))) fun r0 =>
                (brE (!(((((((r0).2).2).2).2).1).2).1)
                  (brE ((((((((r0).2).2).2).2).1).2).1 == false)
                    (brE ((((((r0).2).2).2).2).1).1
                      (gdE ((decide ((0 : Int) ≤ (Go.IntKind.wrap Go.IntKind.i64 ((((((r0).1).2).2).2).1 + (1 : Int))))) && (decide ((Go.IntKind.wrap Go.IntKind.i64 ((((((r0).1).2).2).2).1 + (1 : Int))) ≤ (((ByteArray.size ((r0).2).1) : Nat) : Int)))) <|
                        (gdE ((decide ((0 : Int) ≤ ((((((((r0).1).2).2).2).2).2).2).1)) && (decide (((((((((r0).1).2).2).2).2).2).2).1 ≤ (((Int.toNat (Go.IntKind.wrap Go.IntKind.i64 ((((((r0).1).2).2).2).1 + (1 : Int)))) : Nat) : Int)))) <|
                          (gdE ((((List.all [[(C.str (ByteArray.extract ((r0).2).1 (Int.toNat ((((((((r0).1).2).2).2).2).2).2).1) (Int.toNat (Go.IntKind.wrap Go.IntKind.i64 ((((((r0).1).2).2).2).1 + (1 : Int))))))]] (fun (el : (List C)) => ((List.length el) == (1 : Nat)))) && (List.all (EC.encL ec_9 ((((r0).2).2).2).1) (fun (el : (List C)) => ((List.length el) == (1 : Nat))))) && (decide (((((((r0).1).2).2).1 + (List.length [[(C.str (ByteArray.extract ((r0).2).1 (Int.toNat ((((((((r0).1).2).2).2).2).2).2).1) (Int.toNat (Go.IntKind.wrap Go.IntKind.i64 ((((((r0).1).2).2).2).1 + (1 : Int))))))]])) * (16 : Nat)) ≤ (140737488355328 : Nat)))) && (decide ((((((r0).1).2).2).1 + (List.length [[(C.str (ByteArray.extract ((r0).2).1 (Int.toNat ((((((((r0).1).2).2).2).2).2).2).1) (Int.toNat (Go.IntKind.wrap Go.IntKind.i64 ((((((r0).1).2).2).2).1 + (1 : Int))))))]])) ≤ (9223372036854775807 : Nat)))) <|
                            (gdE (EC.isL ec_99 (EC.encL ec_99 (((((((((r0).1).2).2).2).2).2).2).2).1)) <|
                              (gdE (EC.isL ec_103 (EC.encL ec_103 ((((r0).2).2).1).1)) <|
                                (gdE (EC.isL ec_9 ((EC.encL ec_9 ((((r0).2).2).2).1) ++ [[(C.str (ByteArray.extract ((r0).2).1 (Int.toNat ((((((((r0).1).2).2).2).2).2).2).1) (Int.toNat (Go.IntKind.wrap Go.IntKind.i64 ((((((r0).1).2).2).2).1 + (1 : Int))))))]])) <|
                                  (gdE (EC.isL ec_4 (EC.encL ec_4 (((((r0).2).2).2).2).2)) <|
                                    (patterns_wild_l21 (((r0).1).2).1 (((((r0).1).2).2).1 + (List.length [[(C.str (ByteArray.extract ((r0).2).1 (Int.toNat ((((((((r0).1).2).2).2).2).2).2).1) (Int.toNat (Go.IntKind.wrap Go.IntKind.i64 ((((((r0).1).2).2).2).1 + (1 : Int))))))]])) (Go.IntKind.wrap Go.IntKind.i64 ((((((r0).1).2).2).2).1 + (1 : Int))) (EC.decL ec_99 (EC.encL ec_99 (((((((((r0).1).2).2).2).2).2).2).2).1)) ((((((((((r0).1).2).2).2).2).2).2).2).2).1 (Go.IntKind.wrap Go.IntKind.i64 ((((((((((((r0).1).2).2).2).2).2).2).2).2).2).1 + (1 : Int))) ((r0).2).1 (EC.decL ec_103 (EC.encL ec_103 ((((r0).2).2).1).1)) (((((r0).2).2).1).2).1 (((((r0).2).2).1).2).2 (EC.decL ec_9 ((EC.encL ec_9 ((((r0).2).2).2).1) ++ [[(C.str (ByteArray.extract ((r0).2).1 (Int.toNat ((((((((r0).1).2).2).2).2).2).2).1) (Int.toNat (Go.IntKind.wrap Go.IntKind.i64 ((((((r0).1).2).2).2).1 + (1 : Int))))))]])) (EC.decL ec_4 (EC.encL ec_4 (((((r0).2).2).2).2).2))))))))))
                      (gdE (EC.isL ec_99 (EC.encL ec_99 (((((((((r0).1).2).2).2).2).2).2).2).1)) <|
                        (gdE (EC.isL ec_103 (EC.encL ec_103 ((((r0).2).2).1).1)) <|
                          (gdE (EC.isL ec_9 (EC.encL ec_9 ((((r0).2).2).2).1)) <|
                            (gdE (EC.isL ec_4 (EC.encL ec_4 (((((r0).2).2).2).2).2)) <|
                              (patterns_wild_l21 (((r0).1).2).1 ((((r0).1).2).2).1 (Go.IntKind.wrap Go.IntKind.i64 ((((((r0).1).2).2).2).1 + (1 : Int))) (EC.decL ec_99 (EC.encL ec_99 (((((((((r0).1).2).2).2).2).2).2).2).1)) ((((((((((r0).1).2).2).2).2).2).2).2).2).1 (Go.IntKind.wrap Go.IntKind.i64 ((((((((((((r0).1).2).2).2).2).2).2).2).2).2).1 + (1 : Int))) ((r0).2).1 (EC.decL ec_103 (EC.encL ec_103 ((((r0).2).2).1).1)) (((((r0).2).2).1).2).1 (((((r0).2).2).1).2).2 (EC.decL ec_9 (EC.encL ec_9 ((((r0).2).2).2).1)) (EC.decL ec_4 (EC.encL ec_4 (((((r0).2).2).2).2).2))))))))
                    (gdE ((decide ((0 : Int) ≤ (Go.IntKind.wrap Go.IntKind.i64 ((((((r0).1).2).2).2).1 + (1 : Int))))) && (decide ((Go.IntKind.wrap Go.IntKind.i64 ((((((r0).1).2).2).2).1 + (1 : Int))) ≤ (((ByteArray.size ((r0).2).1) : Nat) : Int)))) <|
                      (gdE ((decide ((0 : Int) ≤ ((((((((r0).1).2).2).2).2).2).2).1)) && (decide (((((((((r0).1).2).2).2).2).2).2).1 ≤ (((Int.toNat (Go.IntKind.wrap Go.IntKind.i64 ((((((r0).1).2).2).2).1 + (1 : Int)))) : Nat) : Int)))) <|
                        (gdE ((((List.all [[(C.str (ByteArray.extract ((r0).2).1 (Int.toNat ((((((((r0).1).2).2).2).2).2).2).1) (Int.toNat (Go.IntKind.wrap Go.IntKind.i64 ((((((r0).1).2).2).2).1 + (1 : Int))))))]] (fun (el : (List C)) => ((List.length el) == (1 : Nat)))) && (List.all (EC.encL ec_9 ((((r0).2).2).2).1) (fun (el : (List C)) => ((List.length el) == (1 : Nat))))) && (decide (((((((r0).1).2).2).1 + (List.length [[(C.str (ByteArray.extract ((r0).2).1 (Int.toNat ((((((((r0).1).2).2).2).2).2).2).1) (Int.toNat (Go.IntKind.wrap Go.IntKind.i64 ((((((r0).1).2).2).2).1 + (1 : Int))))))]])) * (16 : Nat)) ≤ (140737488355328 : Nat)))) && (decide ((((((r0).1).2).2).1 + (List.length [[(C.str (ByteArray.extract ((r0).2).1 (Int.toNat ((((((((r0).1).2).2).2).2).2).2).1) (Int.toNat (Go.IntKind.wrap Go.IntKind.i64 ((((((r0).1).2).2).2).1 + (1 : Int))))))]])) ≤ (9223372036854775807 : Nat)))) <|
                          (gdE (EC.isL ec_99 (EC.encL ec_99 (((((((((r0).1).2).2).2).2).2).2).2).1)) <|
                            (gdE (EC.isL ec_103 (EC.encL ec_103 ((((r0).2).2).1).1)) <|
                              (gdE (EC.isL ec_9 ((EC.encL ec_9 ((((r0).2).2).2).1) ++ [[(C.str (ByteArray.extract ((r0).2).1 (Int.toNat ((((((((r0).1).2).2).2).2).2).2).1) (Int.toNat (Go.IntKind.wrap Go.IntKind.i64 ((((((r0).1).2).2).2).1 + (1 : Int))))))]])) <|
                                (gdE (EC.isL ec_4 (EC.encL ec_4 (((((r0).2).2).2).2).2)) <|
                                  (patterns_wild_l21 (((r0).1).2).1 (((((r0).1).2).2).1 + (List.length [[(C.str (ByteArray.extract ((r0).2).1 (Int.toNat ((((((((r0).1).2).2).2).2).2).2).1) (Int.toNat (Go.IntKind.wrap Go.IntKind.i64 ((((((r0).1).2).2).2).1 + (1 : Int))))))]])) (Go.IntKind.wrap Go.IntKind.i64 ((((((r0).1).2).2).2).1 + (1 : Int))) (EC.decL ec_99 (EC.encL ec_99 (((((((((r0).1).2).2).2).2).2).2).2).1)) ((((((((((r0).1).2).2).2).2).2).2).2).2).1 (Go.IntKind.wrap Go.IntKind.i64 ((((((((((((r0).1).2).2).2).2).2).2).2).2).2).1 + (1 : Int))) ((r0).2).1 (EC.decL ec_103 (EC.encL ec_103 ((((r0).2).2).1).1)) (((((r0).2).2).1).2).1 (((((r0).2).2).1).2).2 (EC.decL ec_9 ((EC.encL ec_9 ((((r0).2).2).2).1) ++ [[(C.str (ByteArray.extract ((r0).2).1 (Int.toNat ((((((((r0).1).2).2).2).2).2).2).1) (Int.toNat (Go.IntKind.wrap Go.IntKind.i64 ((((((r0).1).2).2).2).1 + (1 : Int))))))]])) (EC.decL ec_4 (EC.encL ec_4 (((((r0).2).2).2).2).2)))))))))))
                  (brE ((((((((r0).2).2).2).2).1).2).1 == false)
                    (brE ((((((r0).2).2).2).2).1).1
                      (gdE ((decide ((0 : Int) ≤ (((((r0).1).2).2).2).1)) && (decide ((((((r0).1).2).2).2).1 ≤ (((ByteArray.size ((r0).2).1) : Nat) : Int)))) <|
                        (gdE ((decide ((0 : Int) ≤ ((((((((r0).1).2).2).2).2).2).2).1)) && (decide (((((((((r0).1).2).2).2).2).2).2).1 ≤ (((Int.toNat (((((r0).1).2).2).2).1) : Nat) : Int)))) <|
                          (gdE ((((List.all [[(C.str (ByteArray.extract ((r0).2).1 (Int.toNat ((((((((r0).1).2).2).2).2).2).2).1) (Int.toNat (((((r0).1).2).2).2).1)))]] (fun (el : (List C)) => ((List.length el) == (1 : Nat)))) && (List.all (EC.encL ec_9 ((((r0).2).2).2).1) (fun (el : (List C)) => ((List.length el) == (1 : Nat))))) && (decide (((((((r0).1).2).2).1 + (List.length [[(C.str (ByteArray.extract ((r0).2).1 (Int.toNat ((((((((r0).1).2).2).2).2).2).2).1) (Int.toNat (((((r0).1).2).2).2).1)))]])) * (16 : Nat)) ≤ (140737488355328 : Nat)))) && (decide ((((((r0).1).2).2).1 + (List.length [[(C.str (ByteArray.extract ((r0).2).1 (Int.toNat ((((((((r0).1).2).2).2).2).2).2).1) (Int.toNat (((((r0).1).2).2).2).1)))]])) ≤ (9223372036854775807 : Nat)))) <|
                            (gdE (EC.isL ec_99 (EC.encL ec_99 (((((((((r0).1).2).2).2).2).2).2).2).1)) <|
                              (gdE (EC.isL ec_103 (EC.encL ec_103 ((((r0).2).2).1).1)) <|
                                (gdE (EC.isL ec_9 ((EC.encL ec_9 ((((r0).2).2).2).1) ++ [[(C.str (ByteArray.extract ((r0).2).1 (Int.toNat ((((((((r0).1).2).2).2).2).2).2).1) (Int.toNat (((((r0).1).2).2).2).1)))]])) <|
                                  (gdE (EC.isL ec_4 (EC.encL ec_4 (((((r0).2).2).2).2).2)) <|
                                    (patterns_wild_l21 (((r0).1).2).1 (((((r0).1).2).2).1 + (List.length [[(C.str (ByteArray.extract ((r0).2).1 (Int.toNat ((((((((r0).1).2).2).2).2).2).2).1) (Int.toNat (((((r0).1).2).2).2).1)))]])) (((((r0).1).2).2).2).1 (EC.decL ec_99 (EC.encL ec_99 (((((((((r0).1).2).2).2).2).2).2).2).1)) ((((((((((r0).1).2).2).2).2).2).2).2).2).1 (Go.IntKind.wrap Go.IntKind.i64 ((((((((((((r0).1).2).2).2).2).2).2).2).2).2).1 + (1 : Int))) ((r0).2).1 (EC.decL ec_103 (EC.encL ec_103 ((((r0).2).2).1).1)) (((((r0).2).2).1).2).1 (((((r0).2).2).1).2).2 (EC.decL ec_9 ((EC.encL ec_9 ((((r0).2).2).2).1) ++ [[(C.str (ByteArray.extract ((r0).2).1 (Int.toNat ((((((((r0).1).2).2).2).2).2).2).1) (Int.toNat (((((r0).1).2).2).2).1)))]])) (EC.decL ec_4 (EC.encL ec_4 (((((r0).2).2).2).2).2))))))))))
                      (gdE (EC.isL ec_99 (EC.encL ec_99 (((((((((r0).1).2).2).2).2).2).2).2).1)) <|
                        (gdE (EC.isL ec_103 (EC.encL ec_103 ((((r0).2).2).1).1)) <|
                          (gdE (EC.isL ec_9 (EC.encL ec_9 ((((r0).2).2).2).1)) <|
                            (gdE (EC.isL ec_4 (EC.encL ec_4 (((((r0).2).2).2).2).2)) <|
                              (patterns_wild_l21 (((r0).1).2).1 ((((r0).1).2).2).1 (((((r0).1).2).2).2).1 (EC.decL ec_99 (EC.encL ec_99 (((((((((r0).1).2).2).2).2).2).2).2).1)) ((((((((((r0).1).2).2).2).2).2).2).2).2).1 (Go.IntKind.wrap Go.IntKind.i64 ((((((((((((r0).1).2).2).2).2).2).2).2).2).2).1 + (1 : Int))) ((r0).2).1 (EC.decL ec_103 (EC.encL ec_103 ((((r0).2).2).1).1)) (((((r0).2).2).1).2).1 (((((r0).2).2).1).2).2 (EC.decL ec_9 (EC.encL ec_9 ((((r0).2).2).2).1)) (EC.decL ec_4 (EC.encL ec_4 (((((r0).2).2).2).2).2))))))))
                    (gdE ((decide ((0 : Int) ≤ (((((r0).1).2).2).2).1)) && (decide ((((((r0).1).2).2).2).1 ≤ (((ByteArray.size ((r0).2).1) : Nat) : Int)))) <|
                      (gdE ((decide ((0 : Int) ≤ ((((((((r0).1).2).2).2).2).2).2).1)) && (decide (((((((((r0).1).2).2).2).2).2).2).1 ≤ (((Int.toNat (((((r0).1).2).2).2).1) : Nat) : Int)))) <|
                        (gdE ((((List.all [[(C.str (ByteArray.extract ((r0).2).1 (Int.toNat ((((((((r0).1).2).2).2).2).2).2).1) (Int.toNat (((((r0).1).2).2).2).1)))]] (fun (el : (List C)) => ((List.length el) == (1 : Nat)))) && (List.all (EC.encL ec_9 ((((r0).2).2).2).1) (fun (el : (List C)) => ((List.length el) == (1 : Nat))))) && (decide (((((((r0).1).2).2).1 + (List.length [[(C.str (ByteArray.extract ((r0).2).1 (Int.toNat ((((((((r0).1).2).2).2).2).2).2).1) (Int.toNat (((((r0).1).2).2).2).1)))]])) * (16 : Nat)) ≤ (140737488355328 : Nat)))) && (decide ((((((r0).1).2).2).1 + (List.length [[(C.str (ByteArray.extract ((r0).2).1 (Int.toNat ((((((((r0).1).2).2).2).2).2).2).1) (Int.toNat (((((r0).1).2).2).2).1)))]])) ≤ (9223372036854775807 : Nat)))) <|
                          (gdE (EC.isL ec_99 (EC.encL ec_99 (((((((((r0).1).2).2).2).2).2).2).2).1)) <|
                            (gdE (EC.isL ec_103 (EC.encL ec_103 ((((r0).2).2).1).1)) <|
                              (gdE (EC.isL ec_9 ((EC.encL ec_9 ((((r0).2).2).2).1) ++ [[(C.str (ByteArray.extract ((r0).2).1 (Int.toNat ((((((((r0).1).2).2).2).2).2).2).1) (Int.toNat (((((r0).1).2).2).2).1)))]])) <|
                                (gdE (EC.isL ec_4 (EC.encL ec_4 (((((r0).2).2).2).2).2)) <|
                                  (patterns_wild_l21 (((r0).1).2).1 (((((r0).1).2).2).1 + (List.length [[(C.str (ByteArray.extract ((r0).2).1 (Int.toNat ((((((((r0).1).2).2).2).2).2).2).1) (Int.toNat (((((r0).1).2).2).2).1)))]])) (((((r0).1).2).2).2).1 (EC.decL ec_99 (EC.encL ec_99 (((((((((r0).1).2).2).2).2).2).2).2).1)) ((((((((((r0).1).2).2).2).2).2).2).2).2).1 (Go.IntKind.wrap Go.IntKind.i64 ((((((((((((r0).1).2).2).2).2).2).2).2).2).2).1 + (1 : Int))) ((r0).2).1 (EC.decL ec_103 (EC.encL ec_103 ((((r0).2).2).1).1)) (((((r0).2).2).1).2).1 (((((r0).2).2).1).2).2 (EC.decL ec_9 ((EC.encL ec_9 ((((r0).2).2).2).1) ++ [[(C.str (ByteArray.extract ((r0).2).1 (Int.toNat ((((((((r0).1).2).2).2).2).2).2).1) (Int.toNat (((((r0).1).2).2).2).1)))]])) (EC.decL ec_4 (EC.encL ec_4 (((((r0).2).2).2).2).2)))))))))))))))))))
  (gdE (EC.isL ec_99 (EC.encL ec_99 t123)) <|
    (gdE (EC.isL ec_103 (EC.encL ec_103 b1)) <|
      (gdE (EC.isL ec_9 (EC.encL ec_9 b2)) <|
        (gdE (EC.isL ec_4 (EC.encL ec_4 b3)) <|
          (some (((), (can, (out, (j, ((EC.decL ec_99 (EC.encL ec_99 t123)), (t124, (t125, false))))))), (b0, (((EC.decL ec_103 (EC.encL ec_103 b1)), (b1_1, b1_2)), ((EC.decL ec_9 (EC.encL ec_9 b2)), (EC.decL ec_4 (EC.encL ec_4 b3))))))))))))
theorem patterns_wild_l21_eq {can : Nat} {out : Nat} {j : Int} {t123 : (List S99)} {t124 : Int} {t125 : Int} {b0 : ByteArray} {b1 : (List (List Bool))} {b1_1 : Nat} {b1_2 : Nat} {b2 : (List ByteArray)} {b3 : (List Bool)} {r : ((Unit × Nat × Nat × Int × (List S99) × Int × Int × Bool) × (ByteArray × ((List (List Bool)) × Nat × Nat) × (List ByteArray) × (List Bool)))} (h : patterns_wild_l21_t can out j t123 t124 t125 b0 b1 b1_1 b1_2 b2 b3 = some r) : patterns_wild_l21 can out j t123 t124 t125 b0 b1 b1_1 b1_2 b2 b3 = some r :=
  lS_tree (es := tab_fits) (hs := []) [patterns_wild_l24_e] (by kernel_rfl) ⟨⟨_, rfl, rfl⟩, trivial⟩ trivial (by kernel_rfl) h
noncomputable def patterns_wild_l21_e : LEnt Try.prog lv X0 66 166 := lentS Try.prog lv X0 21 (getLoop (cdF Try.f66) 21) patterns_wild_l21_s patterns_wild_l21_o (fun x => patterns_wild_l21 x.1.2.1 x.1.2.2.1 x.1.2.2.2.1 x.1.2.2.2.2.1 x.1.2.2.2.2.2.1 x.1.2.2.2.2.2.2 x.2.1 x.2.2.1.1 x.2.2.1.2.1 x.2.2.1.2.2 x.2.2.2.1 x.2.2.2.2) (fun _ _ h => lS_from h)
def patterns_wild_cr : Cod (V × List B) ((Bool × Nat) × (List ByteArray)) := (cPair (vTup (lCons (vC cBool) (lOne (vRow 0)))) (lOne (bRow ec_9)))
noncomputable def patterns_wild_s (l : (List S99)) (text : ByteArray) : Option ((Bool × Nat) × (List ByteArray)) := fS Try.prog lv X0 66 patterns_wild_ca patterns_wild_cr (l, text)
noncomputable def patterns_wild_t (l : (List S99)) (text : ByteArray) : Option ((Bool × Nat) × (List ByteArray)) :=
  (Option.bind (basic_Lower_s text) fun r0 =>
  (gdE ((((decide ((Go.IntKind.wrap Go.IntKind.i64 ((((List.length (EC.encL ec_99 l)) : Nat) : Int) + (1 : Int))) = (Go.IntKind.wrap Go.IntKind.i64 ((((List.length (EC.encL ec_99 l)) : Nat) : Int) + (1 : Int))))) && (decide ((0 : Int) ≤ (Go.IntKind.wrap Go.IntKind.i64 ((((List.length (EC.encL ec_99 l)) : Nat) : Int) + (1 : Int)))))) && (decide (((Go.IntKind.wrap Go.IntKind.i64 ((((List.length (EC.encL ec_99 l)) : Nat) : Int) + (1 : Int))) * (((24 : Nat) : Nat) : Int)) ≤ (140737488355328 : Int)))) && (decide ((Go.IntKind.wrap Go.IntKind.i64 ((((List.length (EC.encL ec_99 l)) : Nat) : Int) + (1 : Int))) ≤ (9223372036854775807 : Int)))) <|
    (gdE (EC.isL ec_99 (EC.encL ec_99 l)) <|
      (gdE (EC.isL ec_103 (List.replicate (Int.toNat (Go.IntKind.wrap Go.IntKind.i64 ((((List.length (EC.encL ec_99 l)) : Nat) : Int) + (1 : Int)))) [(C.sl [])])) <|
        (Option.bind (patterns_wild_l5 (EC.decL ec_99 (EC.encL ec_99 l)) (Int.toNat (Go.IntKind.wrap Go.IntKind.i64 ((((List.length (EC.encL ec_99 l)) : Nat) : Int) + (1 : Int)))) (((List.length (EC.encL ec_99 l)) : Nat) : Int) text r0 (EC.decL ec_103 (List.replicate (Int.toNat (Go.IntKind.wrap Go.IntKind.i64 ((((List.length (EC.encL ec_99 l)) : Nat) : Int) + (1 : Int)))) [(C.sl [])])) (Int.toNat (Go.IntKind.wrap Go.IntKind.i64 ((((List.length (EC.encL ec_99 l)) : Nat) : Int) + (1 : Int)))) (0 : Nat) (EC.decL ec_4 [])) fun r1 =>
          (gdE ((decide ((0 : Int) ≤ (0 : Int))) && (decide ((0 : Int) < (((((((r1).1).2).2).2).1 : Nat) : Int)))) <|
            (gdE (decide ((Int.toNat (0 : Int)) < (List.length (EC.encL ec_103 (((((r1).2).2).2).1).1)))) <|
              (brE ((Int.toNat (0 : Int)) == ((((((r1).2).2).2).1).2).1)
                (gdE ((decide ((0 : Int) ≤ (0 : Int))) && (decide ((0 : Int) < ((((((((r1).2).2).2).1).2).2 : Nat) : Int)))) <|
                  (gdE ((decide ((Int.toNat (0 : Int)) < (List.length (EC.encL ec_4 ((((r1).2).2).2).2)))) && ((List.length (List.getD (EC.encL ec_4 ((((r1).2).2).2).2) (Int.toNat (0 : Int)) [])) == (1 : Nat))) <|
                    (gdE (isP [K1.bool] (0 : Nat) (List.getD (EC.encL ec_4 ((((r1).2).2).2).2) (Int.toNat (0 : Int)) [])) <|
                      (brE (!(boolOf (List.getD (List.getD (EC.encL ec_4 ((((r1).2).2).2).2) (Int.toNat (0 : Int)) []) (0 : Nat) C.ne)))
                        (some ((false, (0 : Nat)), (EC.decL ec_9 [])))
                        (gdE (EC.isL ec_99 (EC.encL ec_99 ((r1).1).1)) <|
                          (gdE (EC.isL ec_103 (EC.encL ec_103 (((((r1).2).2).2).1).1)) <|
                            (gdE (EC.isL ec_4 (EC.encL ec_4 ((((r1).2).2).2).2)) <|
                              (Option.bind (patterns_wild_l21 (((((r1).1).2).2).2).1 (0 : Nat) (0 : Int) (EC.decL ec_99 (EC.encL ec_99 ((r1).1).1)) (((List.length (EC.encL ec_99 ((r1).1).1)) : Nat) : Int) (0 : Int) ((r1).2).1 (EC.decL ec_103 (EC.encL ec_103 (((((r1).2).2).2).1).1)) ((((((r1).2).2).2).1).2).1 ((((((r1).2).2).2).1).2).2 (EC.decL ec_9 []) (EC.decL ec_4 (EC.encL ec_4 ((((r1).2).2).2).2))) fun r2 =>
                                (gdE (EC.isL ec_9 (EC.encL ec_9 ((((r2).2).2).2).1)) <|
                                  (some ((true, ((((r2).1).2).2).1), (EC.decL ec_9 (EC.encL ec_9 ((((r2).2).2).2).1)))))))))))))
                (gdE ((List.length (List.getD (EC.encL ec_103 (((((r1).2).2).2).1).1) (Int.toNat (0 : Int)) [])) == (1 : Nat)) <|
                  (gdE (isP [K1.sl] (0 : Nat) (List.getD (EC.encL ec_103 (((((r1).2).2).2).1).1) (Int.toNat (0 : Int)) [])) <|
                    (gdE ((decide ((Int.toNat (0 : Int)) < (List.length (slOf (List.getD (List.getD (EC.encL ec_103 (((((r1).2).2).2).1).1) (Int.toNat (0 : Int)) []) (0 : Nat) C.ne))))) && (isE [K1.bool] (0 : Nat) (List.getD (slOf (List.getD (List.getD (EC.encL ec_103 (((((r1).2).2).2).1).1) (Int.toNat (0 : Int)) []) (0 : Nat) C.ne)) (Int.toNat (0 : Int)) []))) <|
                      (brE (!(boolOf (List.getD (List.getD (slOf (List.getD (List.getD (EC.encL ec_103 (((((r1).2).2).2).1).1) (Int.toNat (0 : Int)) []) (0 : Nat) C.ne)) (Int.toNat (0 : Int)) []) (0 : Nat) C.ne)))
                        (some ((false, (0 : Nat)), (EC.decL ec_9 [])))
                        (gdE (EC.isL ec_99 (EC.encL ec_99 ((r1).1).1)) <|
                          (gdE (EC.isL ec_103 (EC.encL ec_103 (((((r1).2).2).2).1).1)) <|
                            (gdE (EC.isL ec_4 (EC.encL ec_4 ((((r1).2).2).2).2)) <|
                              (Option.bind (patterns_wild_l21 (((((r1).1).2).2).2).1 (0 : Nat) (0 : Int) (EC.decL ec_99 (EC.encL ec_99 ((r1).1).1)) (((List.length (EC.encL ec_99 ((r1).1).1)) : Nat) : Int) (0 : Int) ((r1).2).1 (EC.decL ec_103 (EC.encL ec_103 (((((r1).2).2).2).1).1)) ((((((r1).2).2).2).1).2).1 ((((((r1).2).2).2).1).2).2 (EC.decL ec_9 []) (EC.decL ec_4 (EC.encL ec_4 ((((r1).2).2).2).2))) fun r2 =>
                                (gdE (EC.isL ec_9 (EC.encL ec_9 ((((r2).2).2).2).1)) <|
                                  (some ((true, ((((r2).1).2).2).1), (EC.decL ec_9 (EC.encL ec_9 ((((r2).2).2).2).1)))))))))))))))))))))
theorem patterns_wild_eq {l : (List S99)} {text : ByteArray} {r : ((Bool × Nat) × (List ByteArray))} (h : patterns_wild_t l text = some r) : patterns_wild_s l text = some r :=
  fS_tree (es := tab_fits) (hs := []) [patterns_wild_l5_e, patterns_wild_l21_e] Try.func66 rfl (by kernel_rfl) rfl (by kernel_rfl) (by kernel_rfl) ⟨⟨_, rfl, rfl⟩, ⟨_, rfl, rfl⟩, trivial⟩ trivial (by kernel_rfl) h
noncomputable def patterns_wild_e : Ent Try.prog lv X0 := entS Try.prog lv X0 66 [] patterns_wild_ca patterns_wild_cr (fun x => patterns_wild_s x.1 x.2) (fun _ _ h => fS_call h)
noncomputable def tab_patterns_wild : List (Ent Try.prog lv X0) := patterns_wild_e :: tab_fits
def patterns_Match_ca : Cod (List V) (Int × ByteArray × ByteArray) := (lCons (vC (cInt .i64)) (lCons (vC cStr) (lOne (vC cStr))))
def patterns_Match_cr : Cod (V × List B) ((Bool × Nat × (Int × Int)) × (List ByteArray)) := (cPair (vTup (lCons (vC cBool) (lCons (vRow 0) (lOne (vAgg (lCons (vC (cInt .i64)) (lOne (vC (cInt .i64))))))))) (lOne (bRow ec_9)))
noncomputable def patterns_Match_s (kind : Int) (pattern : ByteArray) (text : ByteArray) : Option ((Bool × Nat × (Int × Int)) × (List ByteArray)) := fS Try.prog lv X0 33 patterns_Match_ca patterns_Match_cr (kind, pattern, text)
noncomputable def patterns_Match_t (kind : Int) (pattern : ByteArray) (text : ByteArray) : Option ((Bool × Nat × (Int × Int)) × (List ByteArray)) :=
  (brE ((decide (kind < (1 : Int))) == false)
  (brE (decide (kind > (3 : Int)))
    (Option.bind (basic_Fault_s (4 : Int) (-(2 : Int))) fun r0 =>
      (some ((false, ((0 : Nat), ((r0).1, (r0).2))), (EC.decL ec_9 []))))
    (brE (decide ((((ByteArray.size pattern) : Nat) : Int) > (200 : Int)))
      (Option.bind (basic_Fault_s (1 : Int) (-(3 : Int))) fun r0 =>
        (some ((false, ((0 : Nat), ((r0).1, (r0).2))), (EC.decL ec_9 []))))
      (Option.bind (patterns_elements_s pattern) fun r0 =>
        (brE ((kind == (3 : Int)) == true)
          (brE (!((r0).1).2)
            (Option.bind (basic_Fault_s (11 : Int) (Go.IntKind.wrap Go.IntKind.i64 ((((ByteArray.size pattern) : Nat) : Int) - (1 : Int)))) fun r1 =>
              (some ((false, ((0 : Nat), ((r1).1, (r1).2))), (EC.decL ec_9 []))))
            (brE (decide ((((ByteArray.size text) : Nat) : Int) > (4000 : Int)))
              (Option.bind (basic_Fault_s (1 : Int) (-(1 : Int))) fun r1 =>
                (some ((false, ((0 : Nat), ((r1).1, (r1).2))), (EC.decL ec_9 []))))
              (brE (kind == (1 : Int))
                (Option.bind (basic_Same_s pattern text) fun r1 =>
                  (Option.bind basic_None_s fun r2 =>
                    (some ((r1, ((0 : Nat), ((r2).1, (r2).2))), (EC.decL ec_9 [])))))
                (brE (kind == (2 : Int))
                  (Option.bind (basic_Lower_s text) fun r1 =>
                    (Option.bind (basic_Lower_s pattern) fun r2 =>
                      (Option.bind (contP r1 r2) fun r3 =>
                        (Option.bind basic_None_s fun r4 =>
                          (some ((r3, ((0 : Nat), ((r4).1, (r4).2))), (EC.decL ec_9 [])))))))
                  (gdE (EC.isL ec_99 (EC.encL ec_99 (r0).2)) <|
                    (Option.bind (patterns_wild_s (EC.decL ec_99 (EC.encL ec_99 (r0).2)) text) fun r1 =>
                      (Option.bind basic_None_s fun r2 =>
                        (gdE (EC.isL ec_9 (EC.encL ec_9 (r1).2)) <|
                          (some ((((r1).1).1, (((r1).1).2, ((r2).1, (r2).2))), (EC.decL ec_9 (EC.encL ec_9 (r1).2))))))))))))
          (brE (decide ((((ByteArray.size text) : Nat) : Int) > (4000 : Int)))
            (Option.bind (basic_Fault_s (1 : Int) (-(1 : Int))) fun r1 =>
              (some ((false, ((0 : Nat), ((r1).1, (r1).2))), (EC.decL ec_9 []))))
            (brE (kind == (1 : Int))
              (Option.bind (basic_Same_s pattern text) fun r1 =>
                (Option.bind basic_None_s fun r2 =>
                  (some ((r1, ((0 : Nat), ((r2).1, (r2).2))), (EC.decL ec_9 [])))))
              (brE (kind == (2 : Int))
                (Option.bind (basic_Lower_s text) fun r1 =>
                  (Option.bind (basic_Lower_s pattern) fun r2 =>
                    (Option.bind (contP r1 r2) fun r3 =>
                      (Option.bind basic_None_s fun r4 =>
                        (some ((r3, ((0 : Nat), ((r4).1, (r4).2))), (EC.decL ec_9 [])))))))
                (gdE (EC.isL ec_99 (EC.encL ec_99 (r0).2)) <|
                  (Option.bind (patterns_wild_s (EC.decL ec_99 (EC.encL ec_99 (r0).2)) text) fun r1 =>
                    (Option.bind basic_None_s fun r2 =>
                      (gdE (EC.isL ec_9 (EC.encL ec_9 (r1).2)) <|
                        (some ((((r1).1).1, (((r1).1).2, ((r2).1, (r2).2))), (EC.decL ec_9 (EC.encL ec_9 (r1).2)))))))))))))))
  (Option.bind (basic_Fault_s (4 : Int) (-(2 : Int))) fun r0 =>
    (some ((false, ((0 : Nat), ((r0).1, (r0).2))), (EC.decL ec_9 [])))))
theorem patterns_Match_eq {kind : Int} {pattern : ByteArray} {text : ByteArray} {r : ((Bool × Nat × (Int × Int)) × (List ByteArray))} (h : patterns_Match_t kind pattern text = some r) : patterns_Match_s kind pattern text = some r :=
  fS_tree (es := tab_patterns_wild) (hs := []) [] Try.func33 rfl (by kernel_rfl) rfl (by kernel_rfl) (by kernel_rfl) trivial trivial (by kernel_rfl) h
noncomputable def patterns_Match_e : Ent Try.prog lv X0 := entS Try.prog lv X0 33 [] patterns_Match_ca patterns_Match_cr (fun x => patterns_Match_s x.1 x.2.1 x.2.2) (fun _ _ h => fS_call h)
noncomputable def tab_patterns_Match : List (Ent Try.prog lv X0) := patterns_Match_e :: tab_patterns_wild
def posthouseref5_In_ca : Cod (List V) (Int × Int × Int) := (lCons (vC (cInt .i64)) (lCons (vC (cInt .i64)) (lOne (vC (cInt .i64)))))
def posthouseref5_In_cr : Cod (V × List B) Bool := (cFstU (cPair (vC cBool) lNil))
noncomputable def posthouseref5_In_s (n : Int) (low : Int) (high : Int) : Option Bool := fS Try.prog lv X0 26 posthouseref5_In_ca posthouseref5_In_cr (n, low, high)
noncomputable def posthouseref5_In_t (n : Int) (low : Int) (high : Int) : Option Bool :=
  (brE ((decide (low ≤ n)) == true)
  (some (decide (n ≤ high)))
  (some false))
theorem posthouseref5_In_eq {n : Int} {low : Int} {high : Int} {r : Bool} (h : posthouseref5_In_t n low high = some r) : posthouseref5_In_s n low high = some r :=
  fS_tree (es := tab_patterns_Match) (hs := []) [] Try.func26 rfl (by kernel_rfl) rfl (by kernel_rfl) (by kernel_rfl) trivial trivial (by kernel_rfl) h
noncomputable def posthouseref5_In_e : Ent Try.prog lv X0 := entS Try.prog lv X0 26 [] posthouseref5_In_ca posthouseref5_In_cr (fun x => posthouseref5_In_s x.1 x.2.1 x.2.2) (fun _ _ h => fS_call h)
noncomputable def tab_posthouseref5_In : List (Ent Try.prog lv X0) := posthouseref5_In_e :: tab_patterns_Match
def posthouseref5_At_ca : Cod (List V) (Int × Int) := (lCons (vC (cInt .i64)) (lOne (vC (cInt .i64))))
def posthouseref5_At_cr : Cod (V × List B) (Int × Int) := (cFstU (cPair (vAgg (lCons (vC (cInt .i64)) (lOne (vC (cInt .i64))))) lNil))
noncomputable def posthouseref5_At_s (code : Int) (index : Int) : Option (Int × Int) := fS Try.prog lv X0 25 posthouseref5_At_ca posthouseref5_At_cr (code, index)
noncomputable def posthouseref5_At_t (code : Int) (index : Int) : Option (Int × Int) :=
  (some (code, index))
theorem posthouseref5_At_eq {code : Int} {index : Int} {r : (Int × Int)} (h : posthouseref5_At_t code index = some r) : posthouseref5_At_s code index = some r :=
  fS_tree (es := tab_posthouseref5_In) (hs := []) [] Try.func25 rfl (by kernel_rfl) rfl (by kernel_rfl) (by kernel_rfl) trivial trivial (by kernel_rfl) h
noncomputable def posthouseref5_At_e : Ent Try.prog lv X0 := entS Try.prog lv X0 25 [] posthouseref5_At_ca posthouseref5_At_cr (fun x => posthouseref5_At_s x.1 x.2) (fun _ _ h => fS_call h)
noncomputable def tab_posthouseref5_At : List (Ent Try.prog lv X0) := posthouseref5_At_e :: tab_posthouseref5_In
def posthouseref5_Low_ca : Cod (List V) Int := (lOne (vC (cInt .u8)))
def posthouseref5_Low_cr : Cod (V × List B) Int := (cFstU (cPair (vC (cInt .u8)) lNil))
noncomputable def posthouseref5_Low_s (c : Int) : Option Int := fS Try.prog lv X0 38 posthouseref5_Low_ca posthouseref5_Low_cr c
noncomputable def posthouseref5_Low_t (c : Int) : Option Int :=
  (Option.bind (posthouseref5_In_s (Go.IntKind.wrap Go.IntKind.i64 c) (65 : Int) (90 : Int)) fun r0 =>
  (brE r0
    (some (Go.IntKind.wrap Go.IntKind.u8 (c + (32 : Int))))
    (some c)))
theorem posthouseref5_Low_eq {c : Int} {r : Int} (h : posthouseref5_Low_t c = some r) : posthouseref5_Low_s c = some r :=
  fS_tree (es := tab_posthouseref5_At) (hs := []) [] Try.func38 rfl (by kernel_rfl) rfl (by kernel_rfl) (by kernel_rfl) trivial trivial (by kernel_rfl) h
noncomputable def posthouseref5_Low_e : Ent Try.prog lv X0 := entS Try.prog lv X0 38 [] posthouseref5_Low_ca posthouseref5_Low_cr (fun x => posthouseref5_Low_s x) (fun _ _ h => fS_call h)
noncomputable def tab_posthouseref5_Low : List (Ent Try.prog lv X0) := posthouseref5_Low_e :: tab_posthouseref5_At
def posthouseref5_Alike_ca : Cod (List V) (ByteArray × ByteArray) := (lCons (vC cStr) (lOne (vC cStr)))
def posthouseref5_Alike_l4_s : SC ((ByteArray × ByteArray × Int) × Unit) := sLS [0, 1, 5] (lCons (vC cStr) (lCons (vC cStr) (lOne (vC (cInt .i64))))) lNil [] [] (by decide) (fun _ => rfl)
def posthouseref5_Alike_l4_o2 : SC ((ByteArray × ByteArray × Int × Bool) × Unit) := sLS [0, 1, 5, 14] (lCons (vC cStr) (lCons (vC cStr) (lCons (vC (cInt .i64)) (lOne (vC cBool))))) lNil [] [] (by decide) (fun _ => rfl)
def posthouseref5_Alike_l4_o1 : SC (Bool × Unit) := sLS [4] (lOne (vC cBool)) lNil [] [] (by decide) (fun _ => rfl)
def posthouseref5_Alike_l4_o : OC ((Bool × Unit) ⊕ ((ByteArray × ByteArray × Int × Bool) × Unit)) := oOr 1 posthouseref5_Alike_l4_o1 (oAt 2 posthouseref5_Alike_l4_o2) (fun x => (by decide : (2 : Nat) ≠ 1))
noncomputable def posthouseref5_Alike_l4 (a : ByteArray) (b : ByteArray) (i : Int) : Option ((Bool × Unit) ⊕ ((ByteArray × ByteArray × Int × Bool) × Unit)) := lS Try.prog lv X0 39 26 (getLoop (cdF Try.f39) 4) posthouseref5_Alike_l4_s posthouseref5_Alike_l4_o ((a, b, i), ())
noncomputable def posthouseref5_Alike_l4_t (a : ByteArray) (b : ByteArray) (i : Int) : Option ((Bool × Unit) ⊕ ((ByteArray × ByteArray × Int × Bool) × Unit)) :=
  (brE (decide (i < (((ByteArray.size a) : Nat) : Int)))
  (gdE ((decide ((0 : Int) ≤ i)) && (decide ((Int.toNat i) < (ByteArray.size a)))) <|
    (Option.bind (posthouseref5_Low_s (((UInt8.toNat (Array.getD (ByteArray.data a) (Int.toNat i) (0 : UInt8))) : Nat) : Int)) fun r0 =>
      (gdE ((decide ((0 : Int) ≤ i)) && (decide ((Int.toNat i) < (ByteArray.size b)))) <|
        (Option.bind (posthouseref5_Low_s (((UInt8.toNat (Array.getD (ByteArray.data b) (Int.toNat i) (0 : UInt8))) : Nat) : Int)) fun r1 =>
          (brE (r0 != r1)
            (some (.inl (false, ())))
            (posthouseref5_Alike_l4 a b (Go.IntKind.wrap Go.IntKind.i64 (i + (1 : Int)))))))))
  (some (.inr ((a, (b, (i, false))), ()))))
theorem posthouseref5_Alike_l4_eq {a : ByteArray} {b : ByteArray} {i : Int} {r : ((Bool × Unit) ⊕ ((ByteArray × ByteArray × Int × Bool) × Unit))} (h : posthouseref5_Alike_l4_t a b i = some r) : posthouseref5_Alike_l4 a b i = some r :=
  lS_tree (es := tab_posthouseref5_Low) (hs := []) [] (by kernel_rfl) trivial trivial (by kernel_rfl) h
noncomputable def posthouseref5_Alike_l4_e : LEnt Try.prog lv X0 39 26 := lentS Try.prog lv X0 4 (getLoop (cdF Try.f39) 4) posthouseref5_Alike_l4_s posthouseref5_Alike_l4_o (fun x => posthouseref5_Alike_l4 x.1.1 x.1.2.1 x.1.2.2) (fun _ _ h => lS_from h)
def posthouseref5_Alike_cr : Cod (V × List B) Bool := (cFstU (cPair (vC cBool) lNil))
noncomputable def posthouseref5_Alike_s (a : ByteArray) (b : ByteArray) : Option Bool := fS Try.prog lv X0 39 posthouseref5_Alike_ca posthouseref5_Alike_cr (a, b)
noncomputable def posthouseref5_Alike_t (a : ByteArray) (b : ByteArray) : Option Bool :=
  (brE ((((ByteArray.size a) : Nat) : Int) != (((ByteArray.size b) : Nat) : Int))
  (some false)
  (Option.bind (posthouseref5_Alike_l4 a b (0 : Int)) fun r0 =>
    (Sum.elim (fun r1 => (some (r1).1))
      (fun r1 => (some true)) r0)))
theorem posthouseref5_Alike_eq {a : ByteArray} {b : ByteArray} {r : Bool} (h : posthouseref5_Alike_t a b = some r) : posthouseref5_Alike_s a b = some r :=
  fS_tree (es := tab_posthouseref5_Low) (hs := []) [posthouseref5_Alike_l4_e] Try.func39 rfl (by kernel_rfl) rfl (by kernel_rfl) (by kernel_rfl) ⟨⟨_, rfl, rfl⟩, trivial⟩ trivial (by kernel_rfl) h
noncomputable def posthouseref5_Alike_e : Ent Try.prog lv X0 := entS Try.prog lv X0 39 [] posthouseref5_Alike_ca posthouseref5_Alike_cr (fun x => posthouseref5_Alike_s x.1 x.2) (fun _ _ h => fS_call h)
noncomputable def tab_posthouseref5_Alike : List (Ent Try.prog lv X0) := posthouseref5_Alike_e :: tab_posthouseref5_Low
def posthouseref5_SameTexts_ca : Cod (List V) ((List ByteArray) × (List ByteArray)) := (lCons (vC (cSl ec_9)) (lOne (vC (cSl ec_9))))
def posthouseref5_SameTexts_l4_s : SC (((List ByteArray) × (List ByteArray) × Int) × Unit) := sLS [0, 1, 5] (lCons (vC (cSl ec_9)) (lCons (vC (cSl ec_9)) (lOne (vC (cInt .i64))))) lNil [] [] (by decide) (fun _ => rfl)
def posthouseref5_SameTexts_l4_o2 : SC (((List ByteArray) × (List ByteArray) × Int × Bool) × Unit) := sLS [0, 1, 5, 14] (lCons (vC (cSl ec_9)) (lCons (vC (cSl ec_9)) (lCons (vC (cInt .i64)) (lOne (vC cBool))))) lNil [] [] (by decide) (fun _ => rfl)
def posthouseref5_SameTexts_l4_o1 : SC (Bool × Unit) := sLS [4] (lOne (vC cBool)) lNil [] [] (by decide) (fun _ => rfl)
def posthouseref5_SameTexts_l4_o : OC ((Bool × Unit) ⊕ (((List ByteArray) × (List ByteArray) × Int × Bool) × Unit)) := oOr 1 posthouseref5_SameTexts_l4_o1 (oAt 2 posthouseref5_SameTexts_l4_o2) (fun x => (by decide : (2 : Nat) ≠ 1))
noncomputable def posthouseref5_SameTexts_l4 (a : (List ByteArray)) (b : (List ByteArray)) (i : Int) : Option ((Bool × Unit) ⊕ (((List ByteArray) × (List ByteArray) × Int × Bool) × Unit)) := lS Try.prog lv X0 37 26 (getLoop (cdF Try.f37) 4) posthouseref5_SameTexts_l4_s posthouseref5_SameTexts_l4_o ((a, b, i), ())
noncomputable def posthouseref5_SameTexts_l4_t (a : (List ByteArray)) (b : (List ByteArray)) (i : Int) : Option ((Bool × Unit) ⊕ (((List ByteArray) × (List ByteArray) × Int × Bool) × Unit)) :=
  (brE (decide (i < (((List.length (EC.encL ec_9 a)) : Nat) : Int)))
  (gdE (decide ((0 : Int) ≤ i)) <|
    (gdE ((decide ((Int.toNat i) < (List.length (EC.encL ec_9 a)))) && (isE [K1.str] (0 : Nat) (List.getD (EC.encL ec_9 a) (Int.toNat i) []))) <|
      (gdE (decide ((0 : Int) ≤ i)) <|
        (gdE ((decide ((Int.toNat i) < (List.length (EC.encL ec_9 b)))) && (isE [K1.str] (0 : Nat) (List.getD (EC.encL ec_9 b) (Int.toNat i) []))) <|
          (brE (!((ByteArray.toList (strOf (List.getD (List.getD (EC.encL ec_9 a) (Int.toNat i) []) (0 : Nat) C.ne))) == (ByteArray.toList (strOf (List.getD (List.getD (EC.encL ec_9 b) (Int.toNat i) []) (0 : Nat) C.ne)))))
            (some (.inl (false, ())))
            (gdE (EC.isL ec_9 (EC.encL ec_9 a)) <|
              (gdE (EC.isL ec_9 (EC.encL ec_9 b)) <|
                (posthouseref5_SameTexts_l4 (EC.decL ec_9 (EC.encL ec_9 a)) (EC.decL ec_9 (EC.encL ec_9 b)) (Go.IntKind.wrap Go.IntKind.i64 (i + (1 : Int)))))))))))
  (gdE (EC.isL ec_9 (EC.encL ec_9 a)) <|
    (gdE (EC.isL ec_9 (EC.encL ec_9 b)) <|
      (some (.inr (((EC.decL ec_9 (EC.encL ec_9 a)), ((EC.decL ec_9 (EC.encL ec_9 b)), (i, false))), ()))))))
theorem posthouseref5_SameTexts_l4_eq {a : (List ByteArray)} {b : (List ByteArray)} {i : Int} {r : ((Bool × Unit) ⊕ (((List ByteArray) × (List ByteArray) × Int × Bool) × Unit))} (h : posthouseref5_SameTexts_l4_t a b i = some r) : posthouseref5_SameTexts_l4 a b i = some r :=
  lS_tree (es := tab_posthouseref5_Alike) (hs := []) [] (by kernel_rfl) trivial trivial (by kernel_rfl) h
noncomputable def posthouseref5_SameTexts_l4_e : LEnt Try.prog lv X0 37 26 := lentS Try.prog lv X0 4 (getLoop (cdF Try.f37) 4) posthouseref5_SameTexts_l4_s posthouseref5_SameTexts_l4_o (fun x => posthouseref5_SameTexts_l4 x.1.1 x.1.2.1 x.1.2.2) (fun _ _ h => lS_from h)
def posthouseref5_SameTexts_cr : Cod (V × List B) Bool := (cFstU (cPair (vC cBool) lNil))
noncomputable def posthouseref5_SameTexts_s (a : (List ByteArray)) (b : (List ByteArray)) : Option Bool := fS Try.prog lv X0 37 posthouseref5_SameTexts_ca posthouseref5_SameTexts_cr (a, b)
noncomputable def posthouseref5_SameTexts_t (a : (List ByteArray)) (b : (List ByteArray)) : Option Bool :=
  (brE ((((List.length (EC.encL ec_9 a)) : Nat) : Int) != (((List.length (EC.encL ec_9 b)) : Nat) : Int))
  (some false)
  (gdE (EC.isL ec_9 (EC.encL ec_9 a)) <|
    (gdE (EC.isL ec_9 (EC.encL ec_9 b)) <|
      (Option.bind (posthouseref5_SameTexts_l4 (EC.decL ec_9 (EC.encL ec_9 a)) (EC.decL ec_9 (EC.encL ec_9 b)) (0 : Int)) fun r0 =>
        (Sum.elim (fun r1 => (some (r1).1))
          (fun r1 => (some true)) r0)))))
theorem posthouseref5_SameTexts_eq {a : (List ByteArray)} {b : (List ByteArray)} {r : Bool} (h : posthouseref5_SameTexts_t a b = some r) : posthouseref5_SameTexts_s a b = some r :=
  fS_tree (es := tab_posthouseref5_Alike) (hs := []) [posthouseref5_SameTexts_l4_e] Try.func37 rfl (by kernel_rfl) rfl (by kernel_rfl) (by kernel_rfl) ⟨⟨_, rfl, rfl⟩, trivial⟩ trivial (by kernel_rfl) h
noncomputable def posthouseref5_SameTexts_e : Ent Try.prog lv X0 := entS Try.prog lv X0 37 [] posthouseref5_SameTexts_ca posthouseref5_SameTexts_cr (fun x => posthouseref5_SameTexts_s x.1 x.2) (fun _ _ h => fS_call h)
noncomputable def tab_posthouseref5_SameTexts : List (Ent Try.prog lv X0) := posthouseref5_SameTexts_e :: tab_posthouseref5_Alike
def ralike_ca : Cod (List V) (Int × Int) := (lCons (vC (cInt .u8)) (lOne (vC (cInt .u8))))
def ralike_cr : Cod (V × List B) Bool := (cFstU (cPair (vC cBool) lNil))
noncomputable def ralike_s (a : Int) (b : Int) : Option Bool := fS Try.prog lv X0 75 ralike_ca ralike_cr (a, b)
noncomputable def ralike_t (a : Int) (b : Int) : Option Bool :=
  (Option.bind (posthouseref5_Low_s a) fun r0 =>
  (Option.bind (posthouseref5_Low_s b) fun r1 =>
    (some (r0 == r1))))
theorem ralike_eq {a : Int} {b : Int} {r : Bool} (h : ralike_t a b = some r) : ralike_s a b = some r :=
  fS_tree (es := tab_posthouseref5_SameTexts) (hs := []) [] Try.func75 rfl (by kernel_rfl) rfl (by kernel_rfl) (by kernel_rfl) trivial trivial (by kernel_rfl) h
noncomputable def ralike_e : Ent Try.prog lv X0 := entS Try.prog lv X0 75 [] ralike_ca ralike_cr (fun x => ralike_s x.1 x.2) (fun _ _ h => fS_call h)
noncomputable def tab_ralike : List (Ent Try.prog lv X0) := ralike_e :: tab_posthouseref5_SameTexts
def posthouseref6_Suits_ca : Cod (List V) (ByteArray × ByteArray) := (lCons (vC cStr) (lOne (vC cStr)))
def posthouseref6_Suits_l13_s : SC ((ByteArray × ByteArray × Nat × Int × Nat × Int × Bool × Int) × ((List Bool) × (List Bool))) := sLS [0, 1, 5, 6, 7, 8, 9, 10] (lCons (vC cStr) (lCons (vC cStr) (lCons (vRow 0) (lCons (vC (cInt .i64)) (lCons (vRow 1) (lCons (vC (cInt .u8)) (lCons (vC cBool) (lOne (vC (cInt .i64)))))))))) (lCons (oSome (bRow ec_4)) (lOne (oSome (bRow ec_4)))) [false, false] [] (by decide) (fun _ => rfl)
def posthouseref6_Suits_l13_o4 : SC ((ByteArray × ByteArray × Nat × Int × Nat × Int × Bool × Int × Bool) × ((List Bool) × (List Bool))) := sLS [0, 1, 5, 6, 7, 8, 9, 10, 53] (lCons (vC cStr) (lCons (vC cStr) (lCons (vRow 0) (lCons (vC (cInt .i64)) (lCons (vRow 1) (lCons (vC (cInt .u8)) (lCons (vC cBool) (lCons (vC (cInt .i64)) (lOne (vC cBool)))))))))) (lCons (oSome (bRow ec_4)) (lOne (oSome (bRow ec_4)))) [false, false] [] (by decide) (fun _ => rfl)
def posthouseref6_Suits_l13_o : OC ((ByteArray × ByteArray × Nat × Int × Nat × Int × Bool × Int × Bool) × ((List Bool) × (List Bool))) := oAt 4 posthouseref6_Suits_l13_o4
noncomputable def posthouseref6_Suits_l13 (pattern : ByteArray) (text : ByteArray) (on : Nat) (k : Int) (next_ : Nat) (c : Int) (plain : Bool) (i : Int) (b0 : (List Bool)) (b1 : (List Bool)) : Option ((ByteArray × ByteArray × Nat × Int × Nat × Int × Bool × Int × Bool) × ((List Bool) × (List Bool))) := lS Try.prog lv X0 67 108 (getLoop (cdF Try.f67) 13) posthouseref6_Suits_l13_s posthouseref6_Suits_l13_o ((pattern, text, on, k, next_, c, plain, i), (b0, b1))
noncomputable def posthouseref6_Suits_l13_t (pattern : ByteArray) (text : ByteArray) (on : Nat) (k : Int) (next_ : Nat) (c : Int) (plain : Bool) (i : Int) (b0 : (List Bool)) (b1 : (List Bool)) : Option ((ByteArray × ByteArray × Nat × Int × Nat × Int × Bool × Int × Bool) × ((List Bool) × (List Bool))) :=
  (brE (decide (i ≤ (((ByteArray.size text) : Nat) : Int)))
  (brE ((!plain) == true)
    (brE (c == (42 : Int))
      (gdE ((decide ((0 : Int) ≤ i)) && (decide (i < ((on : Nat) : Int)))) <|
        (gdE ((decide ((Int.toNat i) < (List.length (EC.encL ec_4 b0)))) && ((List.length (List.getD (EC.encL ec_4 b0) (Int.toNat i) [])) == (1 : Nat))) <|
          (gdE (isP [K1.bool] (0 : Nat) (List.getD (EC.encL ec_4 b0) (Int.toNat i) [])) <|
            (brE ((boolOf (List.getD (List.getD (EC.encL ec_4 b0) (Int.toNat i) []) (0 : Nat) C.ne)) == false)
              (brE ((decide (i > (0 : Int))) == true)
                (gdE ((decide ((0 : Int) ≤ (Go.IntKind.wrap Go.IntKind.i64 (i - (1 : Int))))) && (decide ((Go.IntKind.wrap Go.IntKind.i64 (i - (1 : Int))) < ((next_ : Nat) : Int)))) <|
                  (gdE ((decide ((Int.toNat (Go.IntKind.wrap Go.IntKind.i64 (i - (1 : Int)))) < (List.length (EC.encL ec_4 b1)))) && ((List.length (List.getD (EC.encL ec_4 b1) (Int.toNat (Go.IntKind.wrap Go.IntKind.i64 (i - (1 : Int)))) [])) == (1 : Nat))) <|
                    (gdE (isP [K1.bool] (0 : Nat) (List.getD (EC.encL ec_4 b1) (Int.toNat (Go.IntKind.wrap Go.IntKind.i64 (i - (1 : Int)))) [])) <|
                      (gdE ((decide ((0 : Int) ≤ i)) && (decide (i < ((next_ : Nat) : Int)))) <|
                        (gdE ((decide ((Int.toNat i) < (List.length (EC.encL ec_4 b1)))) && ((List.length (List.getD (EC.encL ec_4 b1) (Int.toNat i) [])) == (1 : Nat))) <|
                          (gdE (EC.isL ec_4 (EC.encL ec_4 b0)) <|
                            (gdE (EC.isL ec_4 (List.set (EC.encL ec_4 b1) (Int.toNat i) (splice (List.getD (EC.encL ec_4 b1) (Int.toNat i) []) (0 : Nat) [(C.bool (boolOf (List.getD (List.getD (EC.encL ec_4 b1) (Int.toNat (Go.IntKind.wrap Go.IntKind.i64 (i - (1 : Int)))) []) (0 : Nat) C.ne)))]))) <|
                              (posthouseref6_Suits_l13 pattern text on k next_ c plain (Go.IntKind.wrap Go.IntKind.i64 (i + (1 : Int))) (EC.decL ec_4 (EC.encL ec_4 b0)) (EC.decL ec_4 (List.set (EC.encL ec_4 b1) (Int.toNat i) (splice (List.getD (EC.encL ec_4 b1) (Int.toNat i) []) (0 : Nat) [(C.bool (boolOf (List.getD (List.getD (EC.encL ec_4 b1) (Int.toNat (Go.IntKind.wrap Go.IntKind.i64 (i - (1 : Int)))) []) (0 : Nat) C.ne)))])))))))))))
                (gdE ((decide ((0 : Int) ≤ i)) && (decide (i < ((next_ : Nat) : Int)))) <|
                  (gdE ((decide ((Int.toNat i) < (List.length (EC.encL ec_4 b1)))) && ((List.length (List.getD (EC.encL ec_4 b1) (Int.toNat i) [])) == (1 : Nat))) <|
                    (gdE (EC.isL ec_4 (EC.encL ec_4 b0)) <|
                      (gdE (EC.isL ec_4 (List.set (EC.encL ec_4 b1) (Int.toNat i) (splice (List.getD (EC.encL ec_4 b1) (Int.toNat i) []) (0 : Nat) [(C.bool false)]))) <|
                        (posthouseref6_Suits_l13 pattern text on k next_ c plain (Go.IntKind.wrap Go.IntKind.i64 (i + (1 : Int))) (EC.decL ec_4 (EC.encL ec_4 b0)) (EC.decL ec_4 (List.set (EC.encL ec_4 b1) (Int.toNat i) (splice (List.getD (EC.encL ec_4 b1) (Int.toNat i) []) (0 : Nat) [(C.bool false)])))))))))
              (gdE ((decide ((0 : Int) ≤ i)) && (decide (i < ((next_ : Nat) : Int)))) <|
                (gdE ((decide ((Int.toNat i) < (List.length (EC.encL ec_4 b1)))) && ((List.length (List.getD (EC.encL ec_4 b1) (Int.toNat i) [])) == (1 : Nat))) <|
                  (gdE (EC.isL ec_4 (EC.encL ec_4 b0)) <|
                    (gdE (EC.isL ec_4 (List.set (EC.encL ec_4 b1) (Int.toNat i) (splice (List.getD (EC.encL ec_4 b1) (Int.toNat i) []) (0 : Nat) [(C.bool true)]))) <|
                      (posthouseref6_Suits_l13 pattern text on k next_ c plain (Go.IntKind.wrap Go.IntKind.i64 (i + (1 : Int))) (EC.decL ec_4 (EC.encL ec_4 b0)) (EC.decL ec_4 (List.set (EC.encL ec_4 b1) (Int.toNat i) (splice (List.getD (EC.encL ec_4 b1) (Int.toNat i) []) (0 : Nat) [(C.bool true)]))))))))))))
      (brE ((decide (i > (0 : Int))) == true)
        (gdE ((decide ((0 : Int) ≤ (Go.IntKind.wrap Go.IntKind.i64 (i - (1 : Int))))) && (decide ((Go.IntKind.wrap Go.IntKind.i64 (i - (1 : Int))) < ((on : Nat) : Int)))) <|
          (gdE ((decide ((Int.toNat (Go.IntKind.wrap Go.IntKind.i64 (i - (1 : Int)))) < (List.length (EC.encL ec_4 b0)))) && ((List.length (List.getD (EC.encL ec_4 b0) (Int.toNat (Go.IntKind.wrap Go.IntKind.i64 (i - (1 : Int)))) [])) == (1 : Nat))) <|
            (gdE (isP [K1.bool] (0 : Nat) (List.getD (EC.encL ec_4 b0) (Int.toNat (Go.IntKind.wrap Go.IntKind.i64 (i - (1 : Int)))) [])) <|
              (brE (boolOf (List.getD (List.getD (EC.encL ec_4 b0) (Int.toNat (Go.IntKind.wrap Go.IntKind.i64 (i - (1 : Int)))) []) (0 : Nat) C.ne))
                (brE ((!plain) == false)
                  (gdE ((decide ((0 : Int) ≤ (Go.IntKind.wrap Go.IntKind.i64 (i - (1 : Int))))) && (decide ((Int.toNat (Go.IntKind.wrap Go.IntKind.i64 (i - (1 : Int)))) < (ByteArray.size text)))) <|
                    (Option.bind (ralike_s c (((UInt8.toNat (Array.getD (ByteArray.data text) (Int.toNat (Go.IntKind.wrap Go.IntKind.i64 (i - (1 : Int)))) (0 : UInt8))) : Nat) : Int)) fun r0 =>
                      (gdE ((decide ((0 : Int) ≤ i)) && (decide (i < ((next_ : Nat) : Int)))) <|
                        (gdE ((decide ((Int.toNat i) < (List.length (EC.encL ec_4 b1)))) && ((List.length (List.getD (EC.encL ec_4 b1) (Int.toNat i) [])) == (1 : Nat))) <|
                          (gdE (EC.isL ec_4 (EC.encL ec_4 b0)) <|
                            (gdE (EC.isL ec_4 (List.set (EC.encL ec_4 b1) (Int.toNat i) (splice (List.getD (EC.encL ec_4 b1) (Int.toNat i) []) (0 : Nat) [(C.bool r0)]))) <|
                              (posthouseref6_Suits_l13 pattern text on k next_ c plain (Go.IntKind.wrap Go.IntKind.i64 (i + (1 : Int))) (EC.decL ec_4 (EC.encL ec_4 b0)) (EC.decL ec_4 (List.set (EC.encL ec_4 b1) (Int.toNat i) (splice (List.getD (EC.encL ec_4 b1) (Int.toNat i) []) (0 : Nat) [(C.bool r0)]))))))))))
                  (gdE ((decide ((0 : Int) ≤ i)) && (decide (i < ((next_ : Nat) : Int)))) <|
                    (gdE ((decide ((Int.toNat i) < (List.length (EC.encL ec_4 b1)))) && ((List.length (List.getD (EC.encL ec_4 b1) (Int.toNat i) [])) == (1 : Nat))) <|
                      (gdE (EC.isL ec_4 (EC.encL ec_4 b0)) <|
                        (gdE (EC.isL ec_4 (List.set (EC.encL ec_4 b1) (Int.toNat i) (splice (List.getD (EC.encL ec_4 b1) (Int.toNat i) []) (0 : Nat) [(C.bool true)]))) <|
                          (posthouseref6_Suits_l13 pattern text on k next_ c plain (Go.IntKind.wrap Go.IntKind.i64 (i + (1 : Int))) (EC.decL ec_4 (EC.encL ec_4 b0)) (EC.decL ec_4 (List.set (EC.encL ec_4 b1) (Int.toNat i) (splice (List.getD (EC.encL ec_4 b1) (Int.toNat i) []) (0 : Nat) [(C.bool true)])))))))))
                (gdE (EC.isL ec_4 (EC.encL ec_4 b0)) <|
                  (gdE (EC.isL ec_4 (EC.encL ec_4 b1)) <|
                    (posthouseref6_Suits_l13 pattern text on k next_ c plain (Go.IntKind.wrap Go.IntKind.i64 (i + (1 : Int))) (EC.decL ec_4 (EC.encL ec_4 b0)) (EC.decL ec_4 (EC.encL ec_4 b1)))))))))
        (gdE (EC.isL ec_4 (EC.encL ec_4 b0)) <|
          (gdE (EC.isL ec_4 (EC.encL ec_4 b1)) <|
            (posthouseref6_Suits_l13 pattern text on k next_ c plain (Go.IntKind.wrap Go.IntKind.i64 (i + (1 : Int))) (EC.decL ec_4 (EC.encL ec_4 b0)) (EC.decL ec_4 (EC.encL ec_4 b1)))))))
    (brE ((decide (i > (0 : Int))) == true)
      (gdE ((decide ((0 : Int) ≤ (Go.IntKind.wrap Go.IntKind.i64 (i - (1 : Int))))) && (decide ((Go.IntKind.wrap Go.IntKind.i64 (i - (1 : Int))) < ((on : Nat) : Int)))) <|
        (gdE ((decide ((Int.toNat (Go.IntKind.wrap Go.IntKind.i64 (i - (1 : Int)))) < (List.length (EC.encL ec_4 b0)))) && ((List.length (List.getD (EC.encL ec_4 b0) (Int.toNat (Go.IntKind.wrap Go.IntKind.i64 (i - (1 : Int)))) [])) == (1 : Nat))) <|
          (gdE (isP [K1.bool] (0 : Nat) (List.getD (EC.encL ec_4 b0) (Int.toNat (Go.IntKind.wrap Go.IntKind.i64 (i - (1 : Int)))) [])) <|
            (brE (boolOf (List.getD (List.getD (EC.encL ec_4 b0) (Int.toNat (Go.IntKind.wrap Go.IntKind.i64 (i - (1 : Int)))) []) (0 : Nat) C.ne))
              (brE ((!plain) == false)
                (gdE ((decide ((0 : Int) ≤ (Go.IntKind.wrap Go.IntKind.i64 (i - (1 : Int))))) && (decide ((Int.toNat (Go.IntKind.wrap Go.IntKind.i64 (i - (1 : Int)))) < (ByteArray.size text)))) <|
                  (Option.bind (ralike_s c (((UInt8.toNat (Array.getD (ByteArray.data text) (Int.toNat (Go.IntKind.wrap Go.IntKind.i64 (i - (1 : Int)))) (0 : UInt8))) : Nat) : Int)) fun r0 =>
                    (gdE ((decide ((0 : Int) ≤ i)) && (decide (i < ((next_ : Nat) : Int)))) <|
                      (gdE ((decide ((Int.toNat i) < (List.length (EC.encL ec_4 b1)))) && ((List.length (List.getD (EC.encL ec_4 b1) (Int.toNat i) [])) == (1 : Nat))) <|
                        (gdE (EC.isL ec_4 (EC.encL ec_4 b0)) <|
                          (gdE (EC.isL ec_4 (List.set (EC.encL ec_4 b1) (Int.toNat i) (splice (List.getD (EC.encL ec_4 b1) (Int.toNat i) []) (0 : Nat) [(C.bool r0)]))) <|
                            (posthouseref6_Suits_l13 pattern text on k next_ c plain (Go.IntKind.wrap Go.IntKind.i64 (i + (1 : Int))) (EC.decL ec_4 (EC.encL ec_4 b0)) (EC.decL ec_4 (List.set (EC.encL ec_4 b1) (Int.toNat i) (splice (List.getD (EC.encL ec_4 b1) (Int.toNat i) []) (0 : Nat) [(C.bool r0)]))))))))))
                (gdE ((decide ((0 : Int) ≤ i)) && (decide (i < ((next_ : Nat) : Int)))) <|
                  (gdE ((decide ((Int.toNat i) < (List.length (EC.encL ec_4 b1)))) && ((List.length (List.getD (EC.encL ec_4 b1) (Int.toNat i) [])) == (1 : Nat))) <|
                    (gdE (EC.isL ec_4 (EC.encL ec_4 b0)) <|
                      (gdE (EC.isL ec_4 (List.set (EC.encL ec_4 b1) (Int.toNat i) (splice (List.getD (EC.encL ec_4 b1) (Int.toNat i) []) (0 : Nat) [(C.bool true)]))) <|
                        (posthouseref6_Suits_l13 pattern text on k next_ c plain (Go.IntKind.wrap Go.IntKind.i64 (i + (1 : Int))) (EC.decL ec_4 (EC.encL ec_4 b0)) (EC.decL ec_4 (List.set (EC.encL ec_4 b1) (Int.toNat i) (splice (List.getD (EC.encL ec_4 b1) (Int.toNat i) []) (0 : Nat) [(C.bool true)])))))))))
              (gdE (EC.isL ec_4 (EC.encL ec_4 b0)) <|
                (gdE (EC.isL ec_4 (EC.encL ec_4 b1)) <|
                  (posthouseref6_Suits_l13 pattern text on k next_ c plain (Go.IntKind.wrap Go.IntKind.i64 (i + (1 : Int))) (EC.decL ec_4 (EC.encL ec_4 b0)) (EC.decL ec_4 (EC.encL ec_4 b1)))))))))
      (gdE (EC.isL ec_4 (EC.encL ec_4 b0)) <|
        (gdE (EC.isL ec_4 (EC.encL ec_4 b1)) <|
          (posthouseref6_Suits_l13 pattern text on k next_ c plain (Go.IntKind.wrap Go.IntKind.i64 (i + (1 : Int))) (EC.decL ec_4 (EC.encL ec_4 b0)) (EC.decL ec_4 (EC.encL ec_4 b1)))))))
  (gdE (EC.isL ec_4 (EC.encL ec_4 b0)) <|
    (gdE (EC.isL ec_4 (EC.encL ec_4 b1)) <|
      (some ((pattern, (text, (on, (k, (next_, (c, (plain, (i, false)))))))), ((EC.decL ec_4 (EC.encL ec_4 b0)), (EC.decL ec_4 (EC.encL ec_4 b1))))))))
theorem posthouseref6_Suits_l13_eq {pattern : ByteArray} {text : ByteArray} {on : Nat} {k : Int} {next_ : Nat} {c : Int} {plain : Bool} {i : Int} {b0 : (List Bool)} {b1 : (List Bool)} {r : ((ByteArray × ByteArray × Nat × Int × Nat × Int × Bool × Int × Bool) × ((List Bool) × (List Bool)))} (h : posthouseref6_Suits_l13_t pattern text on k next_ c plain i b0 b1 = some r) : posthouseref6_Suits_l13 pattern text on k next_ c plain i b0 b1 = some r :=
  lS_tree (es := tab_ralike) (hs := []) [] (by kernel_rfl) trivial trivial (by kernel_rfl) h
noncomputable def posthouseref6_Suits_l13_e : LEnt Try.prog lv X0 67 108 := lentS Try.prog lv X0 13 (getLoop (cdF Try.f67) 13) posthouseref6_Suits_l13_s posthouseref6_Suits_l13_o (fun x => posthouseref6_Suits_l13 x.1.1 x.1.2.1 x.1.2.2.1 x.1.2.2.2.1 x.1.2.2.2.2.1 x.1.2.2.2.2.2.1 x.1.2.2.2.2.2.2.1 x.1.2.2.2.2.2.2.2 x.2.1 x.2.2) (fun _ _ h => lS_from h)
def posthouseref6_Suits_l4_s : SC ((ByteArray × ByteArray × Nat × Int) × (List Bool)) := sLS [0, 1, 5, 6] (lCons (vC cStr) (lCons (vC cStr) (lCons (vRow 0) (lOne (vC (cInt .i64)))))) (lOne (oSome (bRow ec_4))) [false] [] (by decide) (fun _ => rfl)
def posthouseref6_Suits_l4_o2 : SC ((ByteArray × ByteArray × Nat × Int × Bool) × (List Bool)) := sLS [0, 1, 5, 6, 20] (lCons (vC cStr) (lCons (vC cStr) (lCons (vRow 0) (lCons (vC (cInt .i64)) (lOne (vC cBool)))))) (lOne (oSome (bRow ec_4))) [false] [] (by decide) (fun _ => rfl)
def posthouseref6_Suits_l4_o : OC ((ByteArray × ByteArray × Nat × Int × Bool) × (List Bool)) := oAt 2 posthouseref6_Suits_l4_o2
noncomputable def posthouseref6_Suits_l4 (pattern : ByteArray) (text : ByteArray) (on : Nat) (k : Int) (b0 : (List Bool)) : Option ((ByteArray × ByteArray × Nat × Int × Bool) × (List Bool)) := lS Try.prog lv X0 67 108 (getLoop (cdF Try.f67) 4) posthouseref6_Suits_l4_s posthouseref6_Suits_l4_o ((pattern, text, on, k), b0)
noncomputable def posthouseref6_Suits_l4_t (pattern : ByteArray) (text : ByteArray) (on : Nat) (k : Int) (b0 : (List Bool)) : Option ((ByteArray × ByteArray × Nat × Int × Bool) × (List Bool)) :=
  (brE (decide (k < (((ByteArray.size pattern) : Nat) : Int)))
  (gdE ((((decide ((Go.IntKind.wrap Go.IntKind.i64 ((((ByteArray.size text) : Nat) : Int) + (1 : Int))) = (Go.IntKind.wrap Go.IntKind.i64 ((((ByteArray.size text) : Nat) : Int) + (1 : Int))))) && (decide ((0 : Int) ≤ (Go.IntKind.wrap Go.IntKind.i64 ((((ByteArray.size text) : Nat) : Int) + (1 : Int)))))) && (decide (((Go.IntKind.wrap Go.IntKind.i64 ((((ByteArray.size text) : Nat) : Int) + (1 : Int))) * (((1 : Nat) : Nat) : Int)) ≤ (140737488355328 : Int)))) && (decide ((Go.IntKind.wrap Go.IntKind.i64 ((((ByteArray.size text) : Nat) : Int) + (1 : Int))) ≤ (9223372036854775807 : Int)))) <|
    (gdE ((decide ((0 : Int) ≤ k)) && (decide ((Int.toNat k) < (ByteArray.size pattern)))) <|
      (brE (((((UInt8.toNat (Array.getD (ByteArray.data pattern) (Int.toNat k) (0 : UInt8))) : Nat) : Int) != (42 : Int)) == true)
        (brE (((((UInt8.toNat (Array.getD (ByteArray.data pattern) (Int.toNat k) (0 : UInt8))) : Nat) : Int) == (92 : Int)) == true)
          (brE (decide ((Go.IntKind.wrap Go.IntKind.i64 (k + (1 : Int))) < (((ByteArray.size pattern) : Nat) : Int)))
            (gdE ((decide ((0 : Int) ≤ (Go.IntKind.wrap Go.IntKind.i64 (k + (1 : Int))))) && (decide ((Int.toNat (Go.IntKind.wrap Go.IntKind.i64 (k + (1 : Int)))) < (ByteArray.size pattern)))) <|
              (gdE (EC.isL ec_4 (EC.encL ec_4 b0)) <|
                (gdE (EC.isL ec_4 (List.replicate (Int.toNat (Go.IntKind.wrap Go.IntKind.i64 ((((ByteArray.size text) : Nat) : Int) + (1 : Int)))) [(C.bool false)])) <|
                  (Option.bind (posthouseref6_Suits_l13 pattern text on (Go.IntKind.wrap Go.IntKind.i64 (k + (1 : Int))) (Int.toNat (Go.IntKind.wrap Go.IntKind.i64 ((((ByteArray.size text) : Nat) : Int) + (1 : Int)))) (((UInt8.toNat (Array.getD (ByteArray.data pattern) (Int.toNat (Go.IntKind.wrap Go.IntKind.i64 (k + (1 : Int)))) (0 : UInt8))) : Nat) : Int) ((((UInt8.toNat (Array.getD (ByteArray.data pattern) (Int.toNat k) (0 : UInt8))) : Nat) : Int) != (63 : Int)) (0 : Int) (EC.decL ec_4 (EC.encL ec_4 b0)) (EC.decL ec_4 (List.replicate (Int.toNat (Go.IntKind.wrap Go.IntKind.i64 ((((ByteArray.size text) : Nat) : Int) + (1 : Int)))) [(C.bool false)]))) fun r0 =>
                    (gdE (EC.isL ec_4 (EC.encL ec_4 ((r0).2).2)) <|
                      (posthouseref6_Suits_l4 ((r0).1).1 (((r0).1).2).1 ((((((r0).1).2).2).2).2).1 (Go.IntKind.wrap Go.IntKind.i64 ((((((r0).1).2).2).2).1 + (1 : Int))) (EC.decL ec_4 (EC.encL ec_4 ((r0).2).2))))))))
            (gdE (EC.isL ec_4 (EC.encL ec_4 b0)) <|
              (gdE (EC.isL ec_4 (List.replicate (Int.toNat (Go.IntKind.wrap Go.IntKind.i64 ((((ByteArray.size text) : Nat) : Int) + (1 : Int)))) [(C.bool false)])) <|
                (Option.bind (posthouseref6_Suits_l13 pattern text on k (Int.toNat (Go.IntKind.wrap Go.IntKind.i64 ((((ByteArray.size text) : Nat) : Int) + (1 : Int)))) (((UInt8.toNat (Array.getD (ByteArray.data pattern) (Int.toNat k) (0 : UInt8))) : Nat) : Int) ((((UInt8.toNat (Array.getD (ByteArray.data pattern) (Int.toNat k) (0 : UInt8))) : Nat) : Int) != (63 : Int)) (0 : Int) (EC.decL ec_4 (EC.encL ec_4 b0)) (EC.decL ec_4 (List.replicate (Int.toNat (Go.IntKind.wrap Go.IntKind.i64 ((((ByteArray.size text) : Nat) : Int) + (1 : Int)))) [(C.bool false)]))) fun r0 =>
                  (gdE (EC.isL ec_4 (EC.encL ec_4 ((r0).2).2)) <|
                    (posthouseref6_Suits_l4 ((r0).1).1 (((r0).1).2).1 ((((((r0).1).2).2).2).2).1 (Go.IntKind.wrap Go.IntKind.i64 ((((((r0).1).2).2).2).1 + (1 : Int))) (EC.decL ec_4 (EC.encL ec_4 ((r0).2).2))))))))
          (gdE (EC.isL ec_4 (EC.encL ec_4 b0)) <|
            (gdE (EC.isL ec_4 (List.replicate (Int.toNat (Go.IntKind.wrap Go.IntKind.i64 ((((ByteArray.size text) : Nat) : Int) + (1 : Int)))) [(C.bool false)])) <|
              (Option.bind (posthouseref6_Suits_l13 pattern text on k (Int.toNat (Go.IntKind.wrap Go.IntKind.i64 ((((ByteArray.size text) : Nat) : Int) + (1 : Int)))) (((UInt8.toNat (Array.getD (ByteArray.data pattern) (Int.toNat k) (0 : UInt8))) : Nat) : Int) ((((UInt8.toNat (Array.getD (ByteArray.data pattern) (Int.toNat k) (0 : UInt8))) : Nat) : Int) != (63 : Int)) (0 : Int) (EC.decL ec_4 (EC.encL ec_4 b0)) (EC.decL ec_4 (List.replicate (Int.toNat (Go.IntKind.wrap Go.IntKind.i64 ((((ByteArray.size text) : Nat) : Int) + (1 : Int)))) [(C.bool false)]))) fun r0 =>
                (gdE (EC.isL ec_4 (EC.encL ec_4 ((r0).2).2)) <|
                  (posthouseref6_Suits_l4 ((r0).1).1 (((r0).1).2).1 ((((((r0).1).2).2).2).2).1 (Go.IntKind.wrap Go.IntKind.i64 ((((((r0).1).2).2).2).1 + (1 : Int))) (EC.decL ec_4 (EC.encL ec_4 ((r0).2).2))))))))
        (brE (((((UInt8.toNat (Array.getD (ByteArray.data pattern) (Int.toNat k) (0 : UInt8))) : Nat) : Int) == (92 : Int)) == true)
          (brE (decide ((Go.IntKind.wrap Go.IntKind.i64 (k + (1 : Int))) < (((ByteArray.size pattern) : Nat) : Int)))
            (gdE ((decide ((0 : Int) ≤ (Go.IntKind.wrap Go.IntKind.i64 (k + (1 : Int))))) && (decide ((Int.toNat (Go.IntKind.wrap Go.IntKind.i64 (k + (1 : Int)))) < (ByteArray.size pattern)))) <|
              (gdE (EC.isL ec_4 (EC.encL ec_4 b0)) <|
                (gdE (EC.isL ec_4 (List.replicate (Int.toNat (Go.IntKind.wrap Go.IntKind.i64 ((((ByteArray.size text) : Nat) : Int) + (1 : Int)))) [(C.bool false)])) <|
                  (Option.bind (posthouseref6_Suits_l13 pattern text on (Go.IntKind.wrap Go.IntKind.i64 (k + (1 : Int))) (Int.toNat (Go.IntKind.wrap Go.IntKind.i64 ((((ByteArray.size text) : Nat) : Int) + (1 : Int)))) (((UInt8.toNat (Array.getD (ByteArray.data pattern) (Int.toNat (Go.IntKind.wrap Go.IntKind.i64 (k + (1 : Int)))) (0 : UInt8))) : Nat) : Int) false (0 : Int) (EC.decL ec_4 (EC.encL ec_4 b0)) (EC.decL ec_4 (List.replicate (Int.toNat (Go.IntKind.wrap Go.IntKind.i64 ((((ByteArray.size text) : Nat) : Int) + (1 : Int)))) [(C.bool false)]))) fun r0 =>
                    (gdE (EC.isL ec_4 (EC.encL ec_4 ((r0).2).2)) <|
                      (posthouseref6_Suits_l4 ((r0).1).1 (((r0).1).2).1 ((((((r0).1).2).2).2).2).1 (Go.IntKind.wrap Go.IntKind.i64 ((((((r0).1).2).2).2).1 + (1 : Int))) (EC.decL ec_4 (EC.encL ec_4 ((r0).2).2))))))))
            (gdE (EC.isL ec_4 (EC.encL ec_4 b0)) <|
              (gdE (EC.isL ec_4 (List.replicate (Int.toNat (Go.IntKind.wrap Go.IntKind.i64 ((((ByteArray.size text) : Nat) : Int) + (1 : Int)))) [(C.bool false)])) <|
                (Option.bind (posthouseref6_Suits_l13 pattern text on k (Int.toNat (Go.IntKind.wrap Go.IntKind.i64 ((((ByteArray.size text) : Nat) : Int) + (1 : Int)))) (((UInt8.toNat (Array.getD (ByteArray.data pattern) (Int.toNat k) (0 : UInt8))) : Nat) : Int) false (0 : Int) (EC.decL ec_4 (EC.encL ec_4 b0)) (EC.decL ec_4 (List.replicate (Int.toNat (Go.IntKind.wrap Go.IntKind.i64 ((((ByteArray.size text) : Nat) : Int) + (1 : Int)))) [(C.bool false)]))) fun r0 =>
                  (gdE (EC.isL ec_4 (EC.encL ec_4 ((r0).2).2)) <|
                    (posthouseref6_Suits_l4 ((r0).1).1 (((r0).1).2).1 ((((((r0).1).2).2).2).2).1 (Go.IntKind.wrap Go.IntKind.i64 ((((((r0).1).2).2).2).1 + (1 : Int))) (EC.decL ec_4 (EC.encL ec_4 ((r0).2).2))))))))
          (gdE (EC.isL ec_4 (EC.encL ec_4 b0)) <|
            (gdE (EC.isL ec_4 (List.replicate (Int.toNat (Go.IntKind.wrap Go.IntKind.i64 ((((ByteArray.size text) : Nat) : Int) + (1 : Int)))) [(C.bool false)])) <|
              (Option.bind (posthouseref6_Suits_l13 pattern text on k (Int.toNat (Go.IntKind.wrap Go.IntKind.i64 ((((ByteArray.size text) : Nat) : Int) + (1 : Int)))) (((UInt8.toNat (Array.getD (ByteArray.data pattern) (Int.toNat k) (0 : UInt8))) : Nat) : Int) false (0 : Int) (EC.decL ec_4 (EC.encL ec_4 b0)) (EC.decL ec_4 (List.replicate (Int.toNat (Go.IntKind.wrap Go.IntKind.i64 ((((ByteArray.size text) : Nat) : Int) + (1 : Int)))) [(C.bool false)]))) fun r0 =>
                (gdE (EC.isL ec_4 (EC.encL ec_4 ((r0).2).2)) <|
                  (posthouseref6_Suits_l4 ((r0).1).1 (((r0).1).2).1 ((((((r0).1).2).2).2).2).1 (Go.IntKind.wrap Go.IntKind.i64 ((((((r0).1).2).2).2).1 + (1 : Int))) (EC.decL ec_4 (EC.encL ec_4 ((r0).2).2)))))))))))
  (gdE (EC.isL ec_4 (EC.encL ec_4 b0)) <|
    (some ((pattern, (text, (on, (k, false)))), (EC.decL ec_4 (EC.encL ec_4 b0))))))
theorem posthouseref6_Suits_l4_eq {pattern : ByteArray} {text : ByteArray} {on : Nat} {k : Int} {b0 : (List Bool)} {r : ((ByteArray × ByteArray × Nat × Int × Bool) × (List Bool))} (h : posthouseref6_Suits_l4_t pattern text on k b0 = some r) : posthouseref6_Suits_l4 pattern text on k b0 = some r :=
  lS_tree (es := tab_ralike) (hs := []) [posthouseref6_Suits_l13_e] (by kernel_rfl) ⟨⟨_, rfl, rfl⟩, trivial⟩ trivial (by kernel_rfl) h
noncomputable def posthouseref6_Suits_l4_e : LEnt Try.prog lv X0 67 108 := lentS Try.prog lv X0 4 (getLoop (cdF Try.f67) 4) posthouseref6_Suits_l4_s posthouseref6_Suits_l4_o (fun x => posthouseref6_Suits_l4 x.1.1 x.1.2.1 x.1.2.2.1 x.1.2.2.2 x.2) (fun _ _ h => lS_from h)
def posthouseref6_Suits_cr : Cod (V × List B) Bool := (cFstU (cPair (vC cBool) lNil))
noncomputable def posthouseref6_Suits_s (pattern : ByteArray) (text : ByteArray) : Option Bool := fS Try.prog lv X0 67 posthouseref6_Suits_ca posthouseref6_Suits_cr (pattern, text)
noncomputable def posthouseref6_Suits_t (pattern : ByteArray) (text : ByteArray) : Option Bool :=
  (gdE ((((decide ((Go.IntKind.wrap Go.IntKind.i64 ((((ByteArray.size text) : Nat) : Int) + (1 : Int))) = (Go.IntKind.wrap Go.IntKind.i64 ((((ByteArray.size text) : Nat) : Int) + (1 : Int))))) && (decide ((0 : Int) ≤ (Go.IntKind.wrap Go.IntKind.i64 ((((ByteArray.size text) : Nat) : Int) + (1 : Int)))))) && (decide (((Go.IntKind.wrap Go.IntKind.i64 ((((ByteArray.size text) : Nat) : Int) + (1 : Int))) * (((1 : Nat) : Nat) : Int)) ≤ (140737488355328 : Int)))) && (decide ((Go.IntKind.wrap Go.IntKind.i64 ((((ByteArray.size text) : Nat) : Int) + (1 : Int))) ≤ (9223372036854775807 : Int)))) <|
  (gdE ((decide ((0 : Int) ≤ (0 : Int))) && (decide ((0 : Int) < (((Int.toNat (Go.IntKind.wrap Go.IntKind.i64 ((((ByteArray.size text) : Nat) : Int) + (1 : Int)))) : Nat) : Int)))) <|
    (gdE ((decide ((Int.toNat (0 : Int)) < (List.length (List.replicate (Int.toNat (Go.IntKind.wrap Go.IntKind.i64 ((((ByteArray.size text) : Nat) : Int) + (1 : Int)))) [(C.bool false)])))) && ((List.length (List.getD (List.replicate (Int.toNat (Go.IntKind.wrap Go.IntKind.i64 ((((ByteArray.size text) : Nat) : Int) + (1 : Int)))) [(C.bool false)]) (Int.toNat (0 : Int)) [])) == (1 : Nat))) <|
      (gdE (EC.isL ec_4 (List.set (List.replicate (Int.toNat (Go.IntKind.wrap Go.IntKind.i64 ((((ByteArray.size text) : Nat) : Int) + (1 : Int)))) [(C.bool false)]) (Int.toNat (0 : Int)) (splice (List.getD (List.replicate (Int.toNat (Go.IntKind.wrap Go.IntKind.i64 ((((ByteArray.size text) : Nat) : Int) + (1 : Int)))) [(C.bool false)]) (Int.toNat (0 : Int)) []) (0 : Nat) [(C.bool true)]))) <|
        (Option.bind (posthouseref6_Suits_l4 pattern text (Int.toNat (Go.IntKind.wrap Go.IntKind.i64 ((((ByteArray.size text) : Nat) : Int) + (1 : Int)))) (0 : Int) (EC.decL ec_4 (List.set (List.replicate (Int.toNat (Go.IntKind.wrap Go.IntKind.i64 ((((ByteArray.size text) : Nat) : Int) + (1 : Int)))) [(C.bool false)]) (Int.toNat (0 : Int)) (splice (List.getD (List.replicate (Int.toNat (Go.IntKind.wrap Go.IntKind.i64 ((((ByteArray.size text) : Nat) : Int) + (1 : Int)))) [(C.bool false)]) (Int.toNat (0 : Int)) []) (0 : Nat) [(C.bool true)])))) fun r0 =>
          (gdE ((decide ((0 : Int) ≤ (((ByteArray.size (((r0).1).2).1) : Nat) : Int))) && (decide ((((ByteArray.size (((r0).1).2).1) : Nat) : Int) < ((((((r0).1).2).2).1 : Nat) : Int)))) <|
            (gdE ((decide ((Int.toNat (((ByteArray.size (((r0).1).2).1) : Nat) : Int)) < (List.length (EC.encL ec_4 (r0).2)))) && ((List.length (List.getD (EC.encL ec_4 (r0).2) (Int.toNat (((ByteArray.size (((r0).1).2).1) : Nat) : Int)) [])) == (1 : Nat))) <|
              (gdE (isP [K1.bool] (0 : Nat) (List.getD (EC.encL ec_4 (r0).2) (Int.toNat (((ByteArray.size (((r0).1).2).1) : Nat) : Int)) [])) <|
                (some (boolOf (List.getD (List.getD (EC.encL ec_4 (r0).2) (Int.toNat (((ByteArray.size (((r0).1).2).1) : Nat) : Int)) []) (0 : Nat) C.ne)))))))))))
theorem posthouseref6_Suits_eq {pattern : ByteArray} {text : ByteArray} {r : Bool} (h : posthouseref6_Suits_t pattern text = some r) : posthouseref6_Suits_s pattern text = some r :=
  fS_tree (es := tab_ralike) (hs := []) [posthouseref6_Suits_l4_e] Try.func67 rfl (by kernel_rfl) rfl (by kernel_rfl) (by kernel_rfl) ⟨⟨_, rfl, rfl⟩, trivial⟩ trivial (by kernel_rfl) h
noncomputable def posthouseref6_Suits_e : Ent Try.prog lv X0 := entS Try.prog lv X0 67 [] posthouseref6_Suits_ca posthouseref6_Suits_cr (fun x => posthouseref6_Suits_s x.1 x.2) (fun _ _ h => fS_call h)
noncomputable def tab_posthouseref6_Suits : List (Ent Try.prog lv X0) := posthouseref6_Suits_e :: tab_ralike
def rwild_ca : Cod (List V) (ByteArray × ByteArray) := (lCons (vC cStr) (lOne (vC cStr)))
def rwild_cr : Cod (V × List B) ((Bool × Nat) × (List ByteArray)) := (cPair (vTup (lCons (vC cBool) (lOne (vRow 0)))) (lOne (bRow ec_9)))
noncomputable def rwild_s (pattern : ByteArray) (text : ByteArray) : Option ((Bool × Nat) × (List ByteArray)) := fS Try.prog lv X0 68 rwild_ca rwild_cr (pattern, text)
noncomputable def rwild_e : Ent Try.prog lv X0 := entS Try.prog lv X0 68 [] rwild_ca rwild_cr (fun x => rwild_s x.1 x.2) (fun _ _ h => fS_call h)
noncomputable def tab_rwild : List (Ent Try.prog lv X0) := rwild_e :: tab_posthouseref6_Suits
def rwild_l5_s : SC ((ByteArray × ByteArray × Int) × Unit) := sLS [0, 1, 6] (lCons (vC cStr) (lCons (vC cStr) (lOne (vC (cInt .i64))))) lNil [] [] (by decide) (fun _ => rfl)
def rwild_l5_o2 : SC ((ByteArray × ByteArray × Int × Bool) × Unit) := sLS [0, 1, 6, 21] (lCons (vC cStr) (lCons (vC cStr) (lCons (vC (cInt .i64)) (lOne (vC cBool))))) lNil [] [] (by decide) (fun _ => rfl)
def rwild_l5_o1 : SC ((Bool × Nat) × (List ByteArray)) := sLS [4, 5] (lCons (vC cBool) (lOne (vRow 0))) (lOne (oSome (bRow ec_9))) [false] [] (by decide) (fun _ => rfl)
def rwild_l5_o : OC (((Bool × Nat) × (List ByteArray)) ⊕ ((ByteArray × ByteArray × Int × Bool) × Unit)) := oOr 1 rwild_l5_o1 (oAt 2 rwild_l5_o2) (fun x => (by decide : (2 : Nat) ≠ 1))
noncomputable def rwild_l5 (pattern : ByteArray) (text : ByteArray) (n : Int) : Option (((Bool × Nat) × (List ByteArray)) ⊕ ((ByteArray × ByteArray × Int × Bool) × Unit)) := lS Try.prog lv X0 68 100 (getLoop (cdF Try.f68) 5) rwild_l5_s rwild_l5_o ((pattern, text, n), ())
noncomputable def rwild_l5_t (pattern : ByteArray) (text : ByteArray) (n : Int) : Option (((Bool × Nat) × (List ByteArray)) ⊕ ((ByteArray × ByteArray × Int × Bool) × Unit)) :=
  (brE (decide (n ≤ (((ByteArray.size text) : Nat) : Int)))
  (gdE ((decide ((0 : Int) ≤ (1 : Int))) && (decide ((1 : Int) ≤ (((ByteArray.size pattern) : Nat) : Int)))) <|
    (gdE ((decide ((0 : Int) ≤ n)) && (decide (n ≤ (((ByteArray.size text) : Nat) : Int)))) <|
      (Option.bind (posthouseref6_Suits_s (ByteArray.extract pattern (Int.toNat (1 : Int)) (ByteArray.size pattern)) (ByteArray.extract text (Int.toNat n) (ByteArray.size text))) fun r0 =>
        (brE (!r0)
          (rwild_l5 pattern text (Go.IntKind.wrap Go.IntKind.i64 (n + (1 : Int))))
          (gdE ((decide ((0 : Int) ≤ (1 : Int))) && (decide ((1 : Int) ≤ (((ByteArray.size pattern) : Nat) : Int)))) <|
            (gdE ((decide ((0 : Int) ≤ n)) && (decide (n ≤ (((ByteArray.size text) : Nat) : Int)))) <|
              (Option.bind (rwild_s (ByteArray.extract pattern (Int.toNat (1 : Int)) (ByteArray.size pattern)) (ByteArray.extract text (Int.toNat n) (ByteArray.size text))) fun r1 =>
                (gdE ((decide ((0 : Int) ≤ n)) && (decide (n ≤ (((ByteArray.size text) : Nat) : Int)))) <|
                  (gdE ((((List.all (EC.encL ec_9 (r1).2) (fun (el : (List C)) => ((List.length el) == (1 : Nat)))) && (List.all [[(C.str (ByteArray.extract text (0 : Nat) (Int.toNat n)))]] (fun (el : (List C)) => ((List.length el) == (1 : Nat))))) && (decide ((((1 : Nat) + (List.length (EC.encL ec_9 (r1).2))) * (16 : Nat)) ≤ (140737488355328 : Nat)))) && (decide (((1 : Nat) + (List.length (EC.encL ec_9 (r1).2))) ≤ (9223372036854775807 : Nat)))) <|
                    (gdE (EC.isL ec_9 ([[(C.str (ByteArray.extract text (0 : Nat) (Int.toNat n)))]] ++ (EC.encL ec_9 (r1).2))) <|
                      (some (.inl ((true, ((1 : Nat) + (List.length (EC.encL ec_9 (r1).2)))), (EC.decL ec_9 ([[(C.str (ByteArray.extract text (0 : Nat) (Int.toNat n)))]] ++ (EC.encL ec_9 (r1).2))))))))))))))))
  (some (.inr ((pattern, (text, (n, false))), ()))))
theorem rwild_l5_eq {pattern : ByteArray} {text : ByteArray} {n : Int} {r : (((Bool × Nat) × (List ByteArray)) ⊕ ((ByteArray × ByteArray × Int × Bool) × Unit))} (h : rwild_l5_t pattern text n = some r) : rwild_l5 pattern text n = some r :=
  lS_tree (es := tab_rwild) (hs := []) [] (by kernel_rfl) trivial trivial (by kernel_rfl) h
noncomputable def rwild_l5_e : LEnt Try.prog lv X0 68 100 := lentS Try.prog lv X0 5 (getLoop (cdF Try.f68) 5) rwild_l5_s rwild_l5_o (fun x => rwild_l5 x.1.1 x.1.2.1 x.1.2.2) (fun _ _ h => lS_from h)
noncomputable def rwild_t (pattern : ByteArray) (text : ByteArray) : Option ((Bool × Nat) × (List ByteArray)) :=
  (brE ((ByteArray.toList pattern) == (ByteArray.toList (ByteArray.mk (List.toArray []))))
  (some ((((ByteArray.toList text) == (ByteArray.toList (ByteArray.mk (List.toArray [])))), (0 : Nat)), (EC.decL ec_9 [])))
  (gdE ((decide ((0 : Int) ≤ (0 : Int))) && (decide ((Int.toNat (0 : Int)) < (ByteArray.size pattern)))) <|
    (brE ((((UInt8.toNat (Array.getD (ByteArray.data pattern) (Int.toNat (0 : Int)) (0 : UInt8))) : Nat) : Int) == (42 : Int))
      (Option.bind (rwild_l5 pattern text (0 : Int)) fun r0 =>
        (Sum.elim (fun r1 => (gdE (EC.isL ec_9 (EC.encL ec_9 (r1).2)) <|
            (some ((((r1).1).1, ((r1).1).2), (EC.decL ec_9 (EC.encL ec_9 (r1).2))))))
          (fun r1 => (some ((false, (0 : Nat)), (EC.decL ec_9 [])))) r0))
      (brE ((ByteArray.toList text) == (ByteArray.toList (ByteArray.mk (List.toArray []))))
        (some ((false, (0 : Nat)), (EC.decL ec_9 [])))
        (gdE ((decide ((0 : Int) ≤ (0 : Int))) && (decide ((Int.toNat (0 : Int)) < (ByteArray.size pattern)))) <|
          (brE ((((UInt8.toNat (Array.getD (ByteArray.data pattern) (Int.toNat (0 : Int)) (0 : UInt8))) : Nat) : Int) == (63 : Int))
            (gdE ((decide ((0 : Int) ≤ (1 : Int))) && (decide ((1 : Int) ≤ (((ByteArray.size pattern) : Nat) : Int)))) <|
              (gdE ((decide ((0 : Int) ≤ (1 : Int))) && (decide ((1 : Int) ≤ (((ByteArray.size text) : Nat) : Int)))) <|
                (Option.bind (rwild_s (ByteArray.extract pattern (Int.toNat (1 : Int)) (ByteArray.size pattern)) (ByteArray.extract text (Int.toNat (1 : Int)) (ByteArray.size text))) fun r0 =>
                  (brE (!((r0).1).1)
                    (some ((false, (0 : Nat)), (EC.decL ec_9 [])))
                    (gdE ((decide ((0 : Int) ≤ (1 : Int))) && (decide ((1 : Int) ≤ (((ByteArray.size text) : Nat) : Int)))) <|
                      (gdE ((((List.all (EC.encL ec_9 (r0).2) (fun (el : (List C)) => ((List.length el) == (1 : Nat)))) && (List.all [[(C.str (ByteArray.extract text (0 : Nat) (Int.toNat (1 : Int))))]] (fun (el : (List C)) => ((List.length el) == (1 : Nat))))) && (decide ((((1 : Nat) + (List.length (EC.encL ec_9 (r0).2))) * (16 : Nat)) ≤ (140737488355328 : Nat)))) && (decide (((1 : Nat) + (List.length (EC.encL ec_9 (r0).2))) ≤ (9223372036854775807 : Nat)))) <|
                        (gdE (EC.isL ec_9 ([[(C.str (ByteArray.extract text (0 : Nat) (Int.toNat (1 : Int))))]] ++ (EC.encL ec_9 (r0).2))) <|
                          (some ((true, ((1 : Nat) + (List.length (EC.encL ec_9 (r0).2)))), (EC.decL ec_9 ([[(C.str (ByteArray.extract text (0 : Nat) (Int.toNat (1 : Int))))]] ++ (EC.encL ec_9 (r0).2))))))))))))
            (gdE ((decide ((0 : Int) ≤ (0 : Int))) && (decide ((Int.toNat (0 : Int)) < (ByteArray.size pattern)))) <|
              (brE (((((UInt8.toNat (Array.getD (ByteArray.data pattern) (Int.toNat (0 : Int)) (0 : UInt8))) : Nat) : Int) == (92 : Int)) == true)
                (brE (decide ((((ByteArray.size pattern) : Nat) : Int) > (1 : Int)))
                  (gdE ((decide ((0 : Int) ≤ (1 : Int))) && (decide ((Int.toNat (1 : Int)) < (ByteArray.size pattern)))) <|
                    (gdE ((decide ((0 : Int) ≤ (0 : Int))) && (decide ((Int.toNat (0 : Int)) < (ByteArray.size text)))) <|
                      (Option.bind (ralike_s (((UInt8.toNat (Array.getD (ByteArray.data pattern) (Int.toNat (1 : Int)) (0 : UInt8))) : Nat) : Int) (((UInt8.toNat (Array.getD (ByteArray.data text) (Int.toNat (0 : Int)) (0 : UInt8))) : Nat) : Int)) fun r0 =>
                        (brE (!r0)
                          (some ((false, (0 : Nat)), (EC.decL ec_9 [])))
                          (gdE ((decide ((0 : Int) ≤ (2 : Int))) && (decide ((2 : Int) ≤ (((ByteArray.size pattern) : Nat) : Int)))) <|
                            (gdE ((decide ((0 : Int) ≤ (1 : Int))) && (decide ((1 : Int) ≤ (((ByteArray.size text) : Nat) : Int)))) <|
                              (Option.bind (rwild_s (ByteArray.extract pattern (Int.toNat (2 : Int)) (ByteArray.size pattern)) (ByteArray.extract text (Int.toNat (1 : Int)) (ByteArray.size text))) fun r1 =>
                                (gdE (EC.isL ec_9 (EC.encL ec_9 (r1).2)) <|
                                  (some ((((r1).1).1, ((r1).1).2), (EC.decL ec_9 (EC.encL ec_9 (r1).2))))))))))))
                  (gdE ((decide ((0 : Int) ≤ (0 : Int))) && (decide ((Int.toNat (0 : Int)) < (ByteArray.size pattern)))) <|
                    (gdE ((decide ((0 : Int) ≤ (0 : Int))) && (decide ((Int.toNat (0 : Int)) < (ByteArray.size text)))) <|
                      (Option.bind (ralike_s (((UInt8.toNat (Array.getD (ByteArray.data pattern) (Int.toNat (0 : Int)) (0 : UInt8))) : Nat) : Int) (((UInt8.toNat (Array.getD (ByteArray.data text) (Int.toNat (0 : Int)) (0 : UInt8))) : Nat) : Int)) fun r0 =>
                        (brE (!r0)
                          (some ((false, (0 : Nat)), (EC.decL ec_9 [])))
                          (gdE ((decide ((0 : Int) ≤ (1 : Int))) && (decide ((1 : Int) ≤ (((ByteArray.size pattern) : Nat) : Int)))) <|
                            (gdE ((decide ((0 : Int) ≤ (1 : Int))) && (decide ((1 : Int) ≤ (((ByteArray.size text) : Nat) : Int)))) <|
                              (Option.bind (rwild_s (ByteArray.extract pattern (Int.toNat (1 : Int)) (ByteArray.size pattern)) (ByteArray.extract text (Int.toNat (1 : Int)) (ByteArray.size text))) fun r1 =>
                                (gdE (EC.isL ec_9 (EC.encL ec_9 (r1).2)) <|
                                  (some ((((r1).1).1, ((r1).1).2), (EC.decL ec_9 (EC.encL ec_9 (r1).2)))))))))))))
                (gdE ((decide ((0 : Int) ≤ (0 : Int))) && (decide ((Int.toNat (0 : Int)) < (ByteArray.size pattern)))) <|
                  (gdE ((decide ((0 : Int) ≤ (0 : Int))) && (decide ((Int.toNat (0 : Int)) < (ByteArray.size text)))) <|
                    (Option.bind (ralike_s (((UInt8.toNat (Array.getD (ByteArray.data pattern) (Int.toNat (0 : Int)) (0 : UInt8))) : Nat) : Int) (((UInt8.toNat (Array.getD (ByteArray.data text) (Int.toNat (0 : Int)) (0 : UInt8))) : Nat) : Int)) fun r0 =>
                      (brE (!r0)
                        (some ((false, (0 : Nat)), (EC.decL ec_9 [])))
                        (gdE ((decide ((0 : Int) ≤ (1 : Int))) && (decide ((1 : Int) ≤ (((ByteArray.size pattern) : Nat) : Int)))) <|
                          (gdE ((decide ((0 : Int) ≤ (1 : Int))) && (decide ((1 : Int) ≤ (((ByteArray.size text) : Nat) : Int)))) <|
                            (Option.bind (rwild_s (ByteArray.extract pattern (Int.toNat (1 : Int)) (ByteArray.size pattern)) (ByteArray.extract text (Int.toNat (1 : Int)) (ByteArray.size text))) fun r1 =>
                              (gdE (EC.isL ec_9 (EC.encL ec_9 (r1).2)) <|
                                (some ((((r1).1).1, ((r1).1).2), (EC.decL ec_9 (EC.encL ec_9 (r1).2))))))))))))))))))))
theorem rwild_eq {pattern : ByteArray} {text : ByteArray} {r : ((Bool × Nat) × (List ByteArray))} (h : rwild_t pattern text = some r) : rwild_s pattern text = some r :=
  fS_tree (es := tab_rwild) (hs := []) [rwild_l5_e] Try.func68 rfl (by kernel_rfl) rfl (by kernel_rfl) (by kernel_rfl) ⟨⟨_, rfl, rfl⟩, trivial⟩ trivial (by kernel_rfl) h
def posthouseref6_PatternFault_ca : Cod (List V) (Int × ByteArray) := (lCons (vC (cInt .i64)) (lOne (vC cStr)))
def posthouseref6_PatternFault_l7_s : SC ((Int × ByteArray × Unit × Int × Int) × (Int × Int)) := sLS [0, 1, 4, 5, 6] (lCons (vC (cInt .i64)) (lCons (vC cStr) (lCons (vPtr 0 0) (lCons (vC (cInt .i64)) (lOne (vC (cInt .i64))))))) (lOne (oSome (bBox (lCons (vC (cInt .i64)) (lOne (vC (cInt .i64))))))) [false] [] (by decide) (fun _ => rfl)
def posthouseref6_PatternFault_l7_o2 : SC ((Int × ByteArray × Unit × Int × Int × Bool) × (Int × Int)) := sLS [0, 1, 4, 5, 6, 25] (lCons (vC (cInt .i64)) (lCons (vC cStr) (lCons (vPtr 0 0) (lCons (vC (cInt .i64)) (lCons (vC (cInt .i64)) (lOne (vC cBool))))))) (lOne (oSome (bBox (lCons (vC (cInt .i64)) (lOne (vC (cInt .i64))))))) [false] [] (by decide) (fun _ => rfl)
def posthouseref6_PatternFault_l7_o : OC ((Int × ByteArray × Unit × Int × Int × Bool) × (Int × Int)) := oAt 2 posthouseref6_PatternFault_l7_o2
noncomputable def posthouseref6_PatternFault_l7 (kind : Int) (pattern : ByteArray) (slashes : Int) (i : Int) (b0 : Int) (b0_1 : Int) : Option ((Int × ByteArray × Unit × Int × Int × Bool) × (Int × Int)) := lS Try.prog lv X0 34 42 (getLoop (cdF Try.f34) 7) posthouseref6_PatternFault_l7_s posthouseref6_PatternFault_l7_o ((kind, pattern, (), slashes, i), (b0, b0_1))
noncomputable def posthouseref6_PatternFault_l7_t (kind : Int) (pattern : ByteArray) (slashes : Int) (i : Int) (b0 : Int) (b0_1 : Int) : Option ((Int × ByteArray × Unit × Int × Int × Bool) × (Int × Int)) :=
  (brE ((decide (i ≥ (0 : Int))) == true)
  (gdE ((decide ((0 : Int) ≤ i)) && (decide ((Int.toNat i) < (ByteArray.size pattern)))) <|
    (brE ((((UInt8.toNat (Array.getD (ByteArray.data pattern) (Int.toNat i) (0 : UInt8))) : Nat) : Int) == (92 : Int))
      (posthouseref6_PatternFault_l7 kind pattern (Go.IntKind.wrap Go.IntKind.i64 (slashes + (1 : Int))) (Go.IntKind.wrap Go.IntKind.i64 (i - (1 : Int))) b0 b0_1)
      (some ((kind, (pattern, ((), (slashes, (i, false))))), (b0, b0_1)))))
  (some ((kind, (pattern, ((), (slashes, (i, false))))), (b0, b0_1))))
theorem posthouseref6_PatternFault_l7_eq {kind : Int} {pattern : ByteArray} {slashes : Int} {i : Int} {b0 : Int} {b0_1 : Int} {r : ((Int × ByteArray × Unit × Int × Int × Bool) × (Int × Int))} (h : posthouseref6_PatternFault_l7_t kind pattern slashes i b0 b0_1 = some r) : posthouseref6_PatternFault_l7 kind pattern slashes i b0 b0_1 = some r :=
  lS_tree (es := tab_rwild) (hs := []) [] (by kernel_rfl) trivial trivial (by kernel_rfl) h
noncomputable def posthouseref6_PatternFault_l7_e : LEnt Try.prog lv X0 34 42 := lentS Try.prog lv X0 7 (getLoop (cdF Try.f34) 7) posthouseref6_PatternFault_l7_s posthouseref6_PatternFault_l7_o (fun x => posthouseref6_PatternFault_l7 x.1.1 x.1.2.1 x.1.2.2.2.1 x.1.2.2.2.2 x.2.1 x.2.2) (fun _ _ h => lS_from h)
def posthouseref6_PatternFault_cr : Cod (V × List B) (Int × Int) := (cFstU (cPair (vAgg (lCons (vC (cInt .i64)) (lOne (vC (cInt .i64))))) lNil))
noncomputable def posthouseref6_PatternFault_s (kind : Int) (pattern : ByteArray) : Option (Int × Int) := fS Try.prog lv X0 34 posthouseref6_PatternFault_ca posthouseref6_PatternFault_cr (kind, pattern)
noncomputable def posthouseref6_PatternFault_t (kind : Int) (pattern : ByteArray) : Option (Int × Int) :=
  (Option.bind (posthouseref5_In_s kind (1 : Int) (3 : Int)) fun r0 =>
  (brE (!r0)
    (Option.bind (posthouseref5_At_s (4 : Int) (-(2 : Int))) fun r1 =>
      (some ((r1).1, (r1).2)))
    (brE (decide ((((ByteArray.size pattern) : Nat) : Int) > (200 : Int)))
      (Option.bind (posthouseref5_At_s (1 : Int) (-(3 : Int))) fun r1 =>
        (some ((r1).1, (r1).2)))
      (Option.bind (posthouseref6_PatternFault_l7 kind pattern (0 : Int) (Go.IntKind.wrap Go.IntKind.i64 ((((ByteArray.size pattern) : Nat) : Int) - (1 : Int))) (0 : Int) (0 : Int)) fun r1 =>
        (brE ((((r1).1).1 == (3 : Int)) == true)
          (brE ((Int.tmod (((((r1).1).2).2).2).1 (2 : Int)) == (1 : Int))
            (Option.bind (posthouseref5_At_s (11 : Int) (Go.IntKind.wrap Go.IntKind.i64 ((((ByteArray.size (((r1).1).2).1) : Nat) : Int) - (1 : Int)))) fun r2 =>
              (some ((r2).1, (r2).2)))
            (some ((0 : Int), (0 : Int))))
          (some ((0 : Int), (0 : Int))))))))
theorem posthouseref6_PatternFault_eq {kind : Int} {pattern : ByteArray} {r : (Int × Int)} (h : posthouseref6_PatternFault_t kind pattern = some r) : posthouseref6_PatternFault_s kind pattern = some r :=
  fS_tree (es := tab_rwild) (hs := []) [posthouseref6_PatternFault_l7_e] Try.func34 rfl (by kernel_rfl) rfl (by kernel_rfl) (by kernel_rfl) ⟨⟨_, rfl, rfl⟩, trivial⟩ trivial (by kernel_rfl) h
noncomputable def posthouseref6_PatternFault_e : Ent Try.prog lv X0 := entS Try.prog lv X0 34 [] posthouseref6_PatternFault_ca posthouseref6_PatternFault_cr (fun x => posthouseref6_PatternFault_s x.1 x.2) (fun _ _ h => fS_call h)
noncomputable def tab_posthouseref6_PatternFault : List (Ent Try.prog lv X0) := posthouseref6_PatternFault_e :: tab_rwild
def posthouseref6_Matched_ca : Cod (List V) (Int × ByteArray × ByteArray) := (lCons (vC (cInt .i64)) (lCons (vC cStr) (lOne (vC cStr))))
def posthouseref6_Matched_l5_s : SC ((ByteArray × ByteArray × Int) × Unit) := sLS [1, 2, 8] (lCons (vC cStr) (lCons (vC cStr) (lOne (vC (cInt .i64))))) lNil [] [] (by decide) (fun _ => rfl)
def posthouseref6_Matched_l5_o2 : SC ((ByteArray × ByteArray × Int × Bool) × Unit) := sLS [1, 2, 8, 22] (lCons (vC cStr) (lCons (vC cStr) (lCons (vC (cInt .i64)) (lOne (vC cBool))))) lNil [] [] (by decide) (fun _ => rfl)
def posthouseref6_Matched_l5_o1 : SC ((Bool × Nat) × (List ByteArray)) := sLS [6, 7] (lCons (vC cBool) (lOne (vRow 0))) (lOne (oSome (bRow ec_9))) [false] [] (by decide) (fun _ => rfl)
def posthouseref6_Matched_l5_o : OC (((Bool × Nat) × (List ByteArray)) ⊕ ((ByteArray × ByteArray × Int × Bool) × Unit)) := oOr 1 posthouseref6_Matched_l5_o1 (oAt 2 posthouseref6_Matched_l5_o2) (fun x => (by decide : (2 : Nat) ≠ 1))
noncomputable def posthouseref6_Matched_l5 (pattern : ByteArray) (text : ByteArray) (i : Int) : Option (((Bool × Nat) × (List ByteArray)) ⊕ ((ByteArray × ByteArray × Int × Bool) × Unit)) := lS Try.prog lv X0 36 43 (getLoop (cdF Try.f36) 5) posthouseref6_Matched_l5_s posthouseref6_Matched_l5_o ((pattern, text, i), ())
noncomputable def posthouseref6_Matched_l5_t (pattern : ByteArray) (text : ByteArray) (i : Int) : Option (((Bool × Nat) × (List ByteArray)) ⊕ ((ByteArray × ByteArray × Int × Bool) × Unit)) :=
  (brE (decide ((Go.IntKind.wrap Go.IntKind.i64 (i + (((ByteArray.size pattern) : Nat) : Int))) ≤ (((ByteArray.size text) : Nat) : Int)))
  (gdE ((decide ((0 : Int) ≤ (Go.IntKind.wrap Go.IntKind.i64 (i + (((ByteArray.size pattern) : Nat) : Int))))) && (decide ((Go.IntKind.wrap Go.IntKind.i64 (i + (((ByteArray.size pattern) : Nat) : Int))) ≤ (((ByteArray.size text) : Nat) : Int)))) <|
    (gdE ((decide ((0 : Int) ≤ i)) && (decide (i ≤ (((Int.toNat (Go.IntKind.wrap Go.IntKind.i64 (i + (((ByteArray.size pattern) : Nat) : Int)))) : Nat) : Int)))) <|
      (Option.bind (posthouseref5_Alike_s (ByteArray.extract text (Int.toNat i) (Int.toNat (Go.IntKind.wrap Go.IntKind.i64 (i + (((ByteArray.size pattern) : Nat) : Int))))) pattern) fun r0 =>
        (brE r0
          (some (.inl ((true, (0 : Nat)), (EC.decL ec_9 []))))
          (posthouseref6_Matched_l5 pattern text (Go.IntKind.wrap Go.IntKind.i64 (i + (1 : Int))))))))
  (some (.inr ((pattern, (text, (i, false))), ()))))
theorem posthouseref6_Matched_l5_eq {pattern : ByteArray} {text : ByteArray} {i : Int} {r : (((Bool × Nat) × (List ByteArray)) ⊕ ((ByteArray × ByteArray × Int × Bool) × Unit))} (h : posthouseref6_Matched_l5_t pattern text i = some r) : posthouseref6_Matched_l5 pattern text i = some r :=
  lS_tree (es := tab_posthouseref6_PatternFault) (hs := []) [] (by kernel_rfl) trivial trivial (by kernel_rfl) h
noncomputable def posthouseref6_Matched_l5_e : LEnt Try.prog lv X0 36 43 := lentS Try.prog lv X0 5 (getLoop (cdF Try.f36) 5) posthouseref6_Matched_l5_s posthouseref6_Matched_l5_o (fun x => posthouseref6_Matched_l5 x.1.1 x.1.2.1 x.1.2.2) (fun _ _ h => lS_from h)
def posthouseref6_Matched_cr : Cod (V × List B) ((Bool × Nat) × (List ByteArray)) := (cPair (vTup (lCons (vC cBool) (lOne (vRow 0)))) (lOne (bRow ec_9)))
noncomputable def posthouseref6_Matched_s (kind : Int) (pattern : ByteArray) (text : ByteArray) : Option ((Bool × Nat) × (List ByteArray)) := fS Try.prog lv X0 36 posthouseref6_Matched_ca posthouseref6_Matched_cr (kind, pattern, text)
noncomputable def posthouseref6_Matched_t (kind : Int) (pattern : ByteArray) (text : ByteArray) : Option ((Bool × Nat) × (List ByteArray)) :=
  (brE (kind == (1 : Int))
  (Option.bind (posthouseref5_Alike_s pattern text) fun r0 =>
    (some ((r0, (0 : Nat)), (EC.decL ec_9 []))))
  (brE (kind == (2 : Int))
    (Option.bind (posthouseref6_Matched_l5 pattern text (0 : Int)) fun r0 =>
      (Sum.elim (fun r1 => (gdE (EC.isL ec_9 (EC.encL ec_9 (r1).2)) <|
          (some ((((r1).1).1, ((r1).1).2), (EC.decL ec_9 (EC.encL ec_9 (r1).2))))))
        (fun r1 => (some ((false, (0 : Nat)), (EC.decL ec_9 [])))) r0))
    (Option.bind (posthouseref6_Suits_s pattern text) fun r0 =>
      (brE (!r0)
        (some ((false, (0 : Nat)), (EC.decL ec_9 [])))
        (Option.bind (rwild_s pattern text) fun r1 =>
          (gdE (EC.isL ec_9 (EC.encL ec_9 (r1).2)) <|
            (some ((((r1).1).1, ((r1).1).2), (EC.decL ec_9 (EC.encL ec_9 (r1).2))))))))))
theorem posthouseref6_Matched_eq {kind : Int} {pattern : ByteArray} {text : ByteArray} {r : ((Bool × Nat) × (List ByteArray))} (h : posthouseref6_Matched_t kind pattern text = some r) : posthouseref6_Matched_s kind pattern text = some r :=
  fS_tree (es := tab_posthouseref6_PatternFault) (hs := []) [posthouseref6_Matched_l5_e] Try.func36 rfl (by kernel_rfl) rfl (by kernel_rfl) (by kernel_rfl) ⟨⟨_, rfl, rfl⟩, trivial⟩ trivial (by kernel_rfl) h
noncomputable def posthouseref6_Matched_e : Ent Try.prog lv X0 := entS Try.prog lv X0 36 [] posthouseref6_Matched_ca posthouseref6_Matched_cr (fun x => posthouseref6_Matched_s x.1 x.2.1 x.2.2) (fun _ _ h => fS_call h)
noncomputable def tab_posthouseref6_Matched : List (Ent Try.prog lv X0) := posthouseref6_Matched_e :: tab_posthouseref6_PatternFault
def lmatched_ca : Cod (List V) Unit := lNil
def lmatched_cr : Cod (V × List B) Bool := (cFstU (cPair (vC cBool) lNil))
noncomputable def lmatched_s  : Option Bool := fS Try.prog lv X0 35 lmatched_ca lmatched_cr ()
noncomputable def lmatched_t  : Option Bool :=
  (Option.bind (patterns_Match_s (3 : Int) (ByteArray.mk (List.toArray [(97 : UInt8), (42 : UInt8), (98 : UInt8)])) (ByteArray.mk (List.toArray [(97 : UInt8), (88 : UInt8), (98 : UInt8), (98 : UInt8)]))) fun r0 =>
  (Option.bind (patterns_Match_s (1 : Int) (ByteArray.mk (List.toArray [(97 : UInt8)])) (ByteArray.mk (List.toArray [(98 : UInt8)]))) fun r1 =>
    (brE ((((((r0).1).2).2).1 == (0 : Int)) == true)
      (brE ((((((r1).1).2).2).1 == (0 : Int)) == true)
        (brE (((r0).1).1 == true)
          (brE ((!((r1).1).1) == true)
            (gdE (EC.isL ec_9 (EC.encL ec_9 (r0).2)) <|
              (Option.bind (posthouseref5_SameTexts_s (EC.decL ec_9 (EC.encL ec_9 (r0).2)) (EC.decL ec_9 [[(C.str (ByteArray.mk (List.toArray [(88 : UInt8), (98 : UInt8)])))]])) fun r2 =>
                (some r2)))
            (some false))
          (some false))
        (some false))
      (some false))))
theorem lmatched_eq {r : Bool} (h : lmatched_t  = some r) : lmatched_s  = some r :=
  fS_tree (es := tab_posthouseref6_Matched) (hs := []) [] Try.func35 rfl (by kernel_rfl) rfl (by kernel_rfl) (by kernel_rfl) trivial trivial (by kernel_rfl) h
noncomputable def lmatched_e : Ent Try.prog lv X0 := entS Try.prog lv X0 35 [] lmatched_ca lmatched_cr (fun x => lmatched_s ) (fun _ _ h => fS_call h)
noncomputable def tab_lmatched : List (Ent Try.prog lv X0) := lmatched_e :: tab_posthouseref6_Matched
def posthouselaw6_PatternsMatchSpec_ca : Cod (List V) (Int × ByteArray × ByteArray) := (lCons (vC (cInt .i64)) (lCons (vC cStr) (lOne (vC cStr))))
def posthouselaw6_PatternsMatchSpec_cr : Cod (V × List B) Bool := (cFstU (cPair (vC cBool) lNil))
noncomputable def posthouselaw6_PatternsMatchSpec_s (kind : Int) (pattern : ByteArray) (text : ByteArray) : Option Bool := fS Try.prog lv X0 10 posthouselaw6_PatternsMatchSpec_ca posthouselaw6_PatternsMatchSpec_cr (kind, pattern, text)
noncomputable def posthouselaw6_PatternsMatchSpec_t (kind : Int) (pattern : ByteArray) (text : ByteArray) : Option Bool :=
  (Option.bind (patterns_Match_s kind pattern text) fun r0 =>
  (Option.bind (posthouseref6_PatternFault_s kind pattern) fun r1 =>
    (brE (((r1).1 == (0 : Int)) == true)
      (brE (decide ((((ByteArray.size text) : Nat) : Int) > (4000 : Int)))
        (Option.bind (posthouseref5_At_s (1 : Int) (-(1 : Int))) fun r2 =>
          (brE ((r2).1 != (0 : Int))
            (brE (((((((r0).1).2).2).1 == (r2).1) && ((((((r0).1).2).2).2 == (r2).2) && true)) == true)
              (brE ((!((r0).1).1) == true)
                (brE (((((((r0).1).2).1 : Nat) : Int) == (0 : Int)) == true)
                  (Option.bind lmatched_s fun r3 =>
                    (some r3))
                  (some false))
                (some false))
              (some false))
            (Option.bind (posthouseref6_Matched_s kind pattern text) fun r3 =>
              (brE ((((((r0).1).2).2).1 == (0 : Int)) == true)
                (brE ((((r0).1).1 == ((r3).1).1) == true)
                  (gdE (EC.isL ec_9 (EC.encL ec_9 (r0).2)) <|
                    (gdE (EC.isL ec_9 (EC.encL ec_9 (r3).2)) <|
                      (Option.bind (posthouseref5_SameTexts_s (EC.decL ec_9 (EC.encL ec_9 (r0).2)) (EC.decL ec_9 (EC.encL ec_9 (r3).2))) fun r4 =>
                        (brE (r4 == true)
                          (Option.bind lmatched_s fun r5 =>
                            (some r5))
                          (some false)))))
                  (some false))
                (some false)))))
        (brE ((r1).1 != (0 : Int))
          (brE (((((((r0).1).2).2).1 == (r1).1) && ((((((r0).1).2).2).2 == (r1).2) && true)) == true)
            (brE ((!((r0).1).1) == true)
              (brE (((((((r0).1).2).1 : Nat) : Int) == (0 : Int)) == true)
                (Option.bind lmatched_s fun r2 =>
                  (some r2))
                (some false))
              (some false))
            (some false))
          (Option.bind (posthouseref6_Matched_s kind pattern text) fun r2 =>
            (brE ((((((r0).1).2).2).1 == (0 : Int)) == true)
              (brE ((((r0).1).1 == ((r2).1).1) == true)
                (gdE (EC.isL ec_9 (EC.encL ec_9 (r0).2)) <|
                  (gdE (EC.isL ec_9 (EC.encL ec_9 (r2).2)) <|
                    (Option.bind (posthouseref5_SameTexts_s (EC.decL ec_9 (EC.encL ec_9 (r0).2)) (EC.decL ec_9 (EC.encL ec_9 (r2).2))) fun r3 =>
                      (brE (r3 == true)
                        (Option.bind lmatched_s fun r4 =>
                          (some r4))
                        (some false)))))
                (some false))
              (some false)))))
      (brE ((r1).1 != (0 : Int))
        (brE (((((((r0).1).2).2).1 == (r1).1) && ((((((r0).1).2).2).2 == (r1).2) && true)) == true)
          (brE ((!((r0).1).1) == true)
            (brE (((((((r0).1).2).1 : Nat) : Int) == (0 : Int)) == true)
              (Option.bind lmatched_s fun r2 =>
                (some r2))
              (some false))
            (some false))
          (some false))
        (Option.bind (posthouseref6_Matched_s kind pattern text) fun r2 =>
          (brE ((((((r0).1).2).2).1 == (0 : Int)) == true)
            (brE ((((r0).1).1 == ((r2).1).1) == true)
              (gdE (EC.isL ec_9 (EC.encL ec_9 (r0).2)) <|
                (gdE (EC.isL ec_9 (EC.encL ec_9 (r2).2)) <|
                  (Option.bind (posthouseref5_SameTexts_s (EC.decL ec_9 (EC.encL ec_9 (r0).2)) (EC.decL ec_9 (EC.encL ec_9 (r2).2))) fun r3 =>
                    (brE (r3 == true)
                      (Option.bind lmatched_s fun r4 =>
                        (some r4))
                      (some false)))))
              (some false))
            (some false)))))))
theorem posthouselaw6_PatternsMatchSpec_eq {kind : Int} {pattern : ByteArray} {text : ByteArray} {r : Bool} (h : posthouselaw6_PatternsMatchSpec_t kind pattern text = some r) : posthouselaw6_PatternsMatchSpec_s kind pattern text = some r :=
  fS_tree (es := tab_lmatched) (hs := []) [] Try.func10 rfl (by kernel_rfl) rfl (by kernel_rfl) (by kernel_rfl) trivial trivial (by kernel_rfl) h
noncomputable def posthouselaw6_PatternsMatchSpec_e : Ent Try.prog lv X0 := entS Try.prog lv X0 10 [] posthouselaw6_PatternsMatchSpec_ca posthouselaw6_PatternsMatchSpec_cr (fun x => posthouselaw6_PatternsMatchSpec_s x.1 x.2.1 x.2.2) (fun _ _ h => fS_call h)
noncomputable def tab_posthouselaw6_PatternsMatchSpec : List (Ent Try.prog lv X0) := posthouselaw6_PatternsMatchSpec_e :: tab_lmatched
def posthouselaw6_PatternsIgnoreCase_ca : Cod (List V) (Int × ByteArray × ByteArray) := (lCons (vC (cInt .i64)) (lCons (vC cStr) (lOne (vC cStr))))
def posthouselaw6_PatternsIgnoreCase_l4_s : SC ((Int × ByteArray × ByteArray × Bool × Nat × Unit × Nat × Int) × ((List ByteArray) × (Int × Int) × (List Int))) := sLS [0, 1, 2, 7, 8, 9, 10, 11] (lCons (vC (cInt .i64)) (lCons (vC cStr) (lCons (vC cStr) (lCons (vC cBool) (lCons (vRow 0) (lCons (vPtr 1 0) (lCons (vRow 2) (lOne (vC (cInt .i64)))))))))) (lCons (oSome (bRow ec_9)) (lCons (oSome (bBox (lCons (vC (cInt .i64)) (lOne (vC (cInt .i64)))))) (lOne (oSome (bRow ec_5))))) [false, false, false] [] (by decide) (fun _ => rfl)
def posthouselaw6_PatternsIgnoreCase_l4_o2 : SC ((Int × ByteArray × ByteArray × Bool × Nat × Unit × Nat × Int × Bool) × ((List ByteArray) × (Int × Int) × (List Int))) := sLS [0, 1, 2, 7, 8, 9, 10, 11, 27] (lCons (vC (cInt .i64)) (lCons (vC cStr) (lCons (vC cStr) (lCons (vC cBool) (lCons (vRow 0) (lCons (vPtr 1 0) (lCons (vRow 2) (lCons (vC (cInt .i64)) (lOne (vC cBool)))))))))) (lCons (oSome (bRow ec_9)) (lCons (oSome (bBox (lCons (vC (cInt .i64)) (lOne (vC (cInt .i64)))))) (lOne (oSome (bRow ec_5))))) [false, false, false] [] (by decide) (fun _ => rfl)
def posthouselaw6_PatternsIgnoreCase_l4_o : OC ((Int × ByteArray × ByteArray × Bool × Nat × Unit × Nat × Int × Bool) × ((List ByteArray) × (Int × Int) × (List Int))) := oAt 2 posthouselaw6_PatternsIgnoreCase_l4_o2
noncomputable def posthouselaw6_PatternsIgnoreCase_l4 (kind : Int) (pattern : ByteArray) (text : ByteArray) (is : Bool) (l : Nat) (b : Nat) (i : Int) (b0 : (List ByteArray)) (b1 : Int) (b1_1 : Int) (b2 : (List Int)) : Option ((Int × ByteArray × ByteArray × Bool × Nat × Unit × Nat × Int × Bool) × ((List ByteArray) × (Int × Int) × (List Int))) := lS Try.prog lv X0 11 78 (getLoop (cdF Try.f11) 4) posthouselaw6_PatternsIgnoreCase_l4_s posthouselaw6_PatternsIgnoreCase_l4_o ((kind, pattern, text, is, l, (), b, i), (b0, (b1, b1_1), b2))
noncomputable def posthouselaw6_PatternsIgnoreCase_l4_t (kind : Int) (pattern : ByteArray) (text : ByteArray) (is : Bool) (l : Nat) (b : Nat) (i : Int) (b0 : (List ByteArray)) (b1 : Int) (b1_1 : Int) (b2 : (List Int)) : Option ((Int × ByteArray × ByteArray × Bool × Nat × Unit × Nat × Int × Bool) × ((List ByteArray) × (Int × Int) × (List Int))) :=
  (brE (decide (i < (((ByteArray.size text) : Nat) : Int)))
  (gdE ((decide ((0 : Int) ≤ i)) && (decide ((Int.toNat i) < (ByteArray.size text)))) <|
    (Option.bind (posthouseref5_Low_s (((UInt8.toNat (Array.getD (ByteArray.data text) (Int.toNat i) (0 : UInt8))) : Nat) : Int)) fun r0 =>
      (gdE ((((List.all [[(C.int Go.IntKind.u8 r0)]] (fun (el : (List C)) => ((List.length el) == (1 : Nat)))) && (List.all (EC.encL ec_5 b2) (fun (el : (List C)) => ((List.length el) == (1 : Nat))))) && (decide (((b + (List.length [[(C.int Go.IntKind.u8 r0)]])) * (1 : Nat)) ≤ (140737488355328 : Nat)))) && (decide ((b + (List.length [[(C.int Go.IntKind.u8 r0)]])) ≤ (9223372036854775807 : Nat)))) <|
        (gdE (EC.isL ec_9 (EC.encL ec_9 b0)) <|
          (gdE (EC.isL ec_5 ((EC.encL ec_5 b2) ++ [[(C.int Go.IntKind.u8 r0)]])) <|
            (posthouselaw6_PatternsIgnoreCase_l4 kind pattern text is l (b + (List.length [[(C.int Go.IntKind.u8 r0)]])) (Go.IntKind.wrap Go.IntKind.i64 (i + (1 : Int))) (EC.decL ec_9 (EC.encL ec_9 b0)) b1 b1_1 (EC.decL ec_5 ((EC.encL ec_5 b2) ++ [[(C.int Go.IntKind.u8 r0)]]))))))))
  (gdE (EC.isL ec_9 (EC.encL ec_9 b0)) <|
    (gdE (EC.isL ec_5 (EC.encL ec_5 b2)) <|
      (some ((kind, (pattern, (text, (is, (l, ((), (b, (i, false)))))))), ((EC.decL ec_9 (EC.encL ec_9 b0)), ((b1, b1_1), (EC.decL ec_5 (EC.encL ec_5 b2)))))))))
theorem posthouselaw6_PatternsIgnoreCase_l4_eq {kind : Int} {pattern : ByteArray} {text : ByteArray} {is : Bool} {l : Nat} {b : Nat} {i : Int} {b0 : (List ByteArray)} {b1 : Int} {b1_1 : Int} {b2 : (List Int)} {r : ((Int × ByteArray × ByteArray × Bool × Nat × Unit × Nat × Int × Bool) × ((List ByteArray) × (Int × Int) × (List Int)))} (h : posthouselaw6_PatternsIgnoreCase_l4_t kind pattern text is l b i b0 b1 b1_1 b2 = some r) : posthouselaw6_PatternsIgnoreCase_l4 kind pattern text is l b i b0 b1 b1_1 b2 = some r :=
  lS_tree (es := tab_posthouselaw6_PatternsMatchSpec) (hs := []) [] (by kernel_rfl) trivial trivial (by kernel_rfl) h
noncomputable def posthouselaw6_PatternsIgnoreCase_l4_e : LEnt Try.prog lv X0 11 78 := lentS Try.prog lv X0 4 (getLoop (cdF Try.f11) 4) posthouselaw6_PatternsIgnoreCase_l4_s posthouselaw6_PatternsIgnoreCase_l4_o (fun x => posthouselaw6_PatternsIgnoreCase_l4 x.1.1 x.1.2.1 x.1.2.2.1 x.1.2.2.2.1 x.1.2.2.2.2.1 x.1.2.2.2.2.2.2.1 x.1.2.2.2.2.2.2.2 x.2.1 x.2.2.1.1 x.2.2.1.2 x.2.2.2) (fun _ _ h => lS_from h)
def posthouselaw6_PatternsIgnoreCase_l11_s : SC ((Nat × Nat × Int) × ((List ByteArray) × (List ByteArray))) := sLS [8, 13, 15] (lCons (vRow 0) (lCons (vRow 1) (lOne (vC (cInt .i64))))) (lCons (oSome (bRow ec_9)) (lOne (oSome (bRow ec_9)))) [false, false] [] (by decide) (fun _ => rfl)
def posthouselaw6_PatternsIgnoreCase_l11_o4 : SC ((Nat × Nat × Int × Bool) × ((List ByteArray) × (List ByteArray))) := sLS [8, 13, 15, 64] (lCons (vRow 0) (lCons (vRow 1) (lCons (vC (cInt .i64)) (lOne (vC cBool))))) (lCons (oSome (bRow ec_9)) (lOne (oSome (bRow ec_9)))) [false, false] [] (by decide) (fun _ => rfl)
def posthouselaw6_PatternsIgnoreCase_l11_o1 : SC (Bool × Unit) := sLS [6] (lOne (vC cBool)) lNil [] [] (by decide) (fun _ => rfl)
def posthouselaw6_PatternsIgnoreCase_l11_o : OC ((Bool × Unit) ⊕ ((Nat × Nat × Int × Bool) × ((List ByteArray) × (List ByteArray)))) := oOr 1 posthouselaw6_PatternsIgnoreCase_l11_o1 (oAt 4 posthouselaw6_PatternsIgnoreCase_l11_o4) (fun x => (by decide : (4 : Nat) ≠ 1))
noncomputable def posthouselaw6_PatternsIgnoreCase_l11 (l : Nat) (m_ : Nat) (i : Int) (b0 : (List ByteArray)) (b1 : (List ByteArray)) : Option ((Bool × Unit) ⊕ ((Nat × Nat × Int × Bool) × ((List ByteArray) × (List ByteArray)))) := lS Try.prog lv X0 11 78 (getLoop (cdF Try.f11) 11) posthouselaw6_PatternsIgnoreCase_l11_s posthouselaw6_PatternsIgnoreCase_l11_o ((l, m_, i), (b0, b1))
noncomputable def posthouselaw6_PatternsIgnoreCase_l11_t (l : Nat) (m_ : Nat) (i : Int) (b0 : (List ByteArray)) (b1 : (List ByteArray)) : Option ((Bool × Unit) ⊕ ((Nat × Nat × Int × Bool) × ((List ByteArray) × (List ByteArray)))) :=
  (brE (decide (i < ((l : Nat) : Int)))
  (gdE ((decide ((0 : Int) ≤ i)) && (decide (i < ((l : Nat) : Int)))) <|
    (gdE ((decide ((Int.toNat i) < (List.length (EC.encL ec_9 b0)))) && ((List.length (List.getD (EC.encL ec_9 b0) (Int.toNat i) [])) == (1 : Nat))) <|
      (gdE (isP [K1.str] (0 : Nat) (List.getD (EC.encL ec_9 b0) (Int.toNat i) [])) <|
        (gdE ((decide ((0 : Int) ≤ i)) && (decide (i < ((m_ : Nat) : Int)))) <|
          (gdE ((decide ((Int.toNat i) < (List.length (EC.encL ec_9 b1)))) && ((List.length (List.getD (EC.encL ec_9 b1) (Int.toNat i) [])) == (1 : Nat))) <|
            (gdE (isP [K1.str] (0 : Nat) (List.getD (EC.encL ec_9 b1) (Int.toNat i) [])) <|
              (Option.bind (posthouseref5_Alike_s (strOf (List.getD (List.getD (EC.encL ec_9 b0) (Int.toNat i) []) (0 : Nat) C.ne)) (strOf (List.getD (List.getD (EC.encL ec_9 b1) (Int.toNat i) []) (0 : Nat) C.ne))) fun r0 =>
                (brE (!r0)
                  (some (.inl (false, ())))
                  (gdE (EC.isL ec_9 (EC.encL ec_9 b0)) <|
                    (gdE (EC.isL ec_9 (EC.encL ec_9 b1)) <|
                      (posthouselaw6_PatternsIgnoreCase_l11 l m_ (Go.IntKind.wrap Go.IntKind.i64 (i + (1 : Int))) (EC.decL ec_9 (EC.encL ec_9 b0)) (EC.decL ec_9 (EC.encL ec_9 b1)))))))))))))
  (gdE (EC.isL ec_9 (EC.encL ec_9 b0)) <|
    (gdE (EC.isL ec_9 (EC.encL ec_9 b1)) <|
      (some (.inr ((l, (m_, (i, false))), ((EC.decL ec_9 (EC.encL ec_9 b0)), (EC.decL ec_9 (EC.encL ec_9 b1)))))))))
theorem posthouselaw6_PatternsIgnoreCase_l11_eq {l : Nat} {m_ : Nat} {i : Int} {b0 : (List ByteArray)} {b1 : (List ByteArray)} {r : ((Bool × Unit) ⊕ ((Nat × Nat × Int × Bool) × ((List ByteArray) × (List ByteArray))))} (h : posthouselaw6_PatternsIgnoreCase_l11_t l m_ i b0 b1 = some r) : posthouselaw6_PatternsIgnoreCase_l11 l m_ i b0 b1 = some r :=
  lS_tree (es := tab_posthouselaw6_PatternsMatchSpec) (hs := []) [] (by kernel_rfl) trivial trivial (by kernel_rfl) h
noncomputable def posthouselaw6_PatternsIgnoreCase_l11_e : LEnt Try.prog lv X0 11 78 := lentS Try.prog lv X0 11 (getLoop (cdF Try.f11) 11) posthouselaw6_PatternsIgnoreCase_l11_s posthouselaw6_PatternsIgnoreCase_l11_o (fun x => posthouselaw6_PatternsIgnoreCase_l11 x.1.1 x.1.2.1 x.1.2.2 x.2.1 x.2.2) (fun _ _ h => lS_from h)
def posthouselaw6_PatternsIgnoreCase_cr : Cod (V × List B) Bool := (cFstU (cPair (vC cBool) lNil))
noncomputable def posthouselaw6_PatternsIgnoreCase_s (kind : Int) (pattern : ByteArray) (text : ByteArray) : Option Bool := fS Try.prog lv X0 11 posthouselaw6_PatternsIgnoreCase_ca posthouselaw6_PatternsIgnoreCase_cr (kind, pattern, text)
noncomputable def posthouselaw6_PatternsIgnoreCase_t (kind : Int) (pattern : ByteArray) (text : ByteArray) : Option Bool :=
  (Option.bind (patterns_Match_s kind pattern text) fun r0 =>
  (gdE (EC.isL ec_9 (EC.encL ec_9 (r0).2)) <|
    (Option.bind (posthouselaw6_PatternsIgnoreCase_l4 kind pattern text ((r0).1).1 (((r0).1).2).1 (0 : Nat) (0 : Int) (EC.decL ec_9 (EC.encL ec_9 (r0).2)) ((((r0).1).2).2).1 ((((r0).1).2).2).2 (EC.decL ec_5 [])) fun r1 =>
      (Option.bind (bytesOf (EC.encL ec_5 (((r1).2).2).2)) fun r2 =>
        (Option.bind (patterns_Match_s ((r1).1).1 (((r1).1).2).1 (ByteArray.mk (List.toArray r2))) fun r3 =>
          (brE ((!((((((r1).2).2).1).1 == ((((r3).1).2).2).1) && ((((((r1).2).2).1).2 == ((((r3).1).2).2).2) && true))) == false)
            (brE ((!((((((r1).1).2).2).2).1 == ((r3).1).1)) == false)
              (brE (((((((((r1).1).2).2).2).2).1 : Nat) : Int) != (((((r3).1).2).1 : Nat) : Int))
                (some false)
                (gdE (EC.isL ec_9 (EC.encL ec_9 ((r1).2).1)) <|
                  (gdE (EC.isL ec_9 (EC.encL ec_9 (r3).2)) <|
                    (Option.bind (posthouselaw6_PatternsIgnoreCase_l11 ((((((r1).1).2).2).2).2).1 (((r3).1).2).1 (0 : Int) (EC.decL ec_9 (EC.encL ec_9 ((r1).2).1)) (EC.decL ec_9 (EC.encL ec_9 (r3).2))) fun r4 =>
                      (Sum.elim (fun r5 => (some (r5).1))
                        (fun r5 => (Option.bind lmatched_s fun r6 =>
                          (some r6))) r4)))))
              (some false))
            (some false)))))))
theorem posthouselaw6_PatternsIgnoreCase_eq {kind : Int} {pattern : ByteArray} {text : ByteArray} {r : Bool} (h : posthouselaw6_PatternsIgnoreCase_t kind pattern text = some r) : posthouselaw6_PatternsIgnoreCase_s kind pattern text = some r :=
  fS_tree (es := tab_posthouselaw6_PatternsMatchSpec) (hs := []) [posthouselaw6_PatternsIgnoreCase_l4_e, posthouselaw6_PatternsIgnoreCase_l11_e] Try.func11 rfl (by kernel_rfl) rfl (by kernel_rfl) (by kernel_rfl) ⟨⟨_, rfl, rfl⟩, ⟨_, rfl, rfl⟩, trivial⟩ trivial (by kernel_rfl) h
noncomputable def posthouselaw6_PatternsIgnoreCase_e : Ent Try.prog lv X0 := entS Try.prog lv X0 11 [] posthouselaw6_PatternsIgnoreCase_ca posthouselaw6_PatternsIgnoreCase_cr (fun x => posthouselaw6_PatternsIgnoreCase_s x.1 x.2.1 x.2.2) (fun _ _ h => fS_call h)
noncomputable def tab_posthouselaw6_PatternsIgnoreCase : List (Ent Try.prog lv X0) := posthouselaw6_PatternsIgnoreCase_e :: tab_posthouselaw6_PatternsMatchSpec
def posthouselaw6_PatternsWithStars_ca : Cod (List V) (ByteArray × ByteArray) := (lCons (vC cStr) (lOne (vC cStr)))
def posthouselaw6_PatternsWithStars_l2_s : SC ((ByteArray × ByteArray × Int) × Unit) := sLS [0, 1, 5] (lCons (vC cStr) (lCons (vC cStr) (lOne (vC (cInt .i64))))) lNil [] [] (by decide) (fun _ => rfl)
def posthouselaw6_PatternsWithStars_l2_o2 : SC ((ByteArray × ByteArray × Int × Bool) × Unit) := sLS [0, 1, 5, 15] (lCons (vC cStr) (lCons (vC cStr) (lCons (vC (cInt .i64)) (lOne (vC cBool))))) lNil [] [] (by decide) (fun _ => rfl)
def posthouselaw6_PatternsWithStars_l2_o1 : SC (Bool × Unit) := sLS [4] (lOne (vC cBool)) lNil [] [] (by decide) (fun _ => rfl)
def posthouselaw6_PatternsWithStars_l2_o : OC ((Bool × Unit) ⊕ ((ByteArray × ByteArray × Int × Bool) × Unit)) := oOr 1 posthouselaw6_PatternsWithStars_l2_o1 (oAt 2 posthouselaw6_PatternsWithStars_l2_o2) (fun x => (by decide : (2 : Nat) ≠ 1))
noncomputable def posthouselaw6_PatternsWithStars_l2 (pattern : ByteArray) (text : ByteArray) (i : Int) : Option ((Bool × Unit) ⊕ ((ByteArray × ByteArray × Int × Bool) × Unit)) := lS Try.prog lv X0 12 106 (getLoop (cdF Try.f12) 2) posthouselaw6_PatternsWithStars_l2_s posthouselaw6_PatternsWithStars_l2_o ((pattern, text, i), ())
noncomputable def posthouselaw6_PatternsWithStars_l2_t (pattern : ByteArray) (text : ByteArray) (i : Int) : Option ((Bool × Unit) ⊕ ((ByteArray × ByteArray × Int × Bool) × Unit)) :=
  (brE (decide (i < (((ByteArray.size pattern) : Nat) : Int)))
  (gdE ((decide ((0 : Int) ≤ i)) && (decide ((Int.toNat i) < (ByteArray.size pattern)))) <|
    (brE (((((UInt8.toNat (Array.getD (ByteArray.data pattern) (Int.toNat i) (0 : UInt8))) : Nat) : Int) == (42 : Int)) == false)
      (gdE ((decide ((0 : Int) ≤ i)) && (decide ((Int.toNat i) < (ByteArray.size pattern)))) <|
        (brE (((((UInt8.toNat (Array.getD (ByteArray.data pattern) (Int.toNat i) (0 : UInt8))) : Nat) : Int) == (63 : Int)) == false)
          (gdE ((decide ((0 : Int) ≤ i)) && (decide ((Int.toNat i) < (ByteArray.size pattern)))) <|
            (brE ((((UInt8.toNat (Array.getD (ByteArray.data pattern) (Int.toNat i) (0 : UInt8))) : Nat) : Int) == (92 : Int))
              (Option.bind lmatched_s fun r0 =>
                (some (.inl (r0, ()))))
              (posthouselaw6_PatternsWithStars_l2 pattern text (Go.IntKind.wrap Go.IntKind.i64 (i + (1 : Int))))))
          (Option.bind lmatched_s fun r0 =>
            (some (.inl (r0, ()))))))
      (Option.bind lmatched_s fun r0 =>
        (some (.inl (r0, ()))))))
  (some (.inr ((pattern, (text, (i, false))), ()))))
theorem posthouselaw6_PatternsWithStars_l2_eq {pattern : ByteArray} {text : ByteArray} {i : Int} {r : ((Bool × Unit) ⊕ ((ByteArray × ByteArray × Int × Bool) × Unit))} (h : posthouselaw6_PatternsWithStars_l2_t pattern text i = some r) : posthouselaw6_PatternsWithStars_l2 pattern text i = some r :=
  lS_tree (es := tab_posthouselaw6_PatternsIgnoreCase) (hs := []) [] (by kernel_rfl) trivial trivial (by kernel_rfl) h
noncomputable def posthouselaw6_PatternsWithStars_l2_e : LEnt Try.prog lv X0 12 106 := lentS Try.prog lv X0 2 (getLoop (cdF Try.f12) 2) posthouselaw6_PatternsWithStars_l2_s posthouselaw6_PatternsWithStars_l2_o (fun x => posthouselaw6_PatternsWithStars_l2 x.1.1 x.1.2.1 x.1.2.2) (fun _ _ h => lS_from h)
def posthouselaw6_PatternsWithStars_cr : Cod (V × List B) Bool := (cFstU (cPair (vC cBool) lNil))
noncomputable def posthouselaw6_PatternsWithStars_s (pattern : ByteArray) (text : ByteArray) : Option Bool := fS Try.prog lv X0 12 posthouselaw6_PatternsWithStars_ca posthouselaw6_PatternsWithStars_cr (pattern, text)
noncomputable def posthouselaw6_PatternsWithStars_t (pattern : ByteArray) (text : ByteArray) : Option Bool :=
  (Option.bind (posthouselaw6_PatternsWithStars_l2 pattern text (0 : Int)) fun r0 =>
  (Sum.elim (fun r1 => (some (r1).1))
    (fun r1 => (Option.bind (patterns_Match_s (2 : Int) ((r1).1).1 (((r1).1).2).1) fun r2 =>
      (brE (decide (((((ByteArray.size (ByteArray.mk (List.toArray [(42 : UInt8)]))) + (ByteArray.size ((r1).1).1)) : Nat) : Int) > (Go.IntKind.max Go.IntKind.i64)))
        none
        (brE (decide (((((ByteArray.size ((ByteArray.mk (List.toArray [(42 : UInt8)])) ++ ((r1).1).1)) + (ByteArray.size (ByteArray.mk (List.toArray [(42 : UInt8)])))) : Nat) : Int) > (Go.IntKind.max Go.IntKind.i64)))
          none
          (Option.bind (patterns_Match_s (3 : Int) (((ByteArray.mk (List.toArray [(42 : UInt8)])) ++ ((r1).1).1) ++ (ByteArray.mk (List.toArray [(42 : UInt8)]))) (((r1).1).2).1) fun r3 =>
            (brE ((((((r2).1).2).2).1 != (0 : Int)) == false)
              (brE (((((r3).1).2).2).1 != (0 : Int))
                (Option.bind lmatched_s fun r4 =>
                  (some r4))
                (brE ((!(((r2).1).1 == ((r3).1).1)) == false)
                  (brE (((r3).1).1 == true)
                    (brE ((((((r3).1).2).1 : Nat) : Int) != (2 : Int))
                      (some false)
                      (brE ((!((r3).1).1) == false)
                        (gdE ((decide ((0 : Int) ≤ (0 : Int))) && (decide ((0 : Int) < (((((r3).1).2).1 : Nat) : Int)))) <|
                          (gdE ((decide ((Int.toNat (0 : Int)) < (List.length (EC.encL ec_9 (r3).2)))) && ((List.length (List.getD (EC.encL ec_9 (r3).2) (Int.toNat (0 : Int)) [])) == (1 : Nat))) <|
                            (gdE (isP [K1.str] (0 : Nat) (List.getD (EC.encL ec_9 (r3).2) (Int.toNat (0 : Int)) [])) <|
                              (gdE ((decide ((0 : Int) ≤ (1 : Int))) && (decide ((1 : Int) < (((((r3).1).2).1 : Nat) : Int)))) <|
                                (gdE ((decide ((Int.toNat (1 : Int)) < (List.length (EC.encL ec_9 (r3).2)))) && ((List.length (List.getD (EC.encL ec_9 (r3).2) (Int.toNat (1 : Int)) [])) == (1 : Nat))) <|
                                  (gdE (isP [K1.str] (0 : Nat) (List.getD (EC.encL ec_9 (r3).2) (Int.toNat (1 : Int)) [])) <|
                                    (brE (((Go.IntKind.wrap Go.IntKind.i64 ((Go.IntKind.wrap Go.IntKind.i64 ((((ByteArray.size (strOf (List.getD (List.getD (EC.encL ec_9 (r3).2) (Int.toNat (0 : Int)) []) (0 : Nat) C.ne))) : Nat) : Int) + (((ByteArray.size ((r1).1).1) : Nat) : Int))) + (((ByteArray.size (strOf (List.getD (List.getD (EC.encL ec_9 (r3).2) (Int.toNat (1 : Int)) []) (0 : Nat) C.ne))) : Nat) : Int))) == (((ByteArray.size (((r1).1).2).1) : Nat) : Int)) == true)
                                      (gdE ((decide ((0 : Int) ≤ (0 : Int))) && (decide ((0 : Int) < (((((r3).1).2).1 : Nat) : Int)))) <|
                                        (gdE ((decide ((Int.toNat (0 : Int)) < (List.length (EC.encL ec_9 (r3).2)))) && ((List.length (List.getD (EC.encL ec_9 (r3).2) (Int.toNat (0 : Int)) [])) == (1 : Nat))) <|
                                          (gdE (isP [K1.str] (0 : Nat) (List.getD (EC.encL ec_9 (r3).2) (Int.toNat (0 : Int)) [])) <|
                                            (brE (decide (((((ByteArray.size (strOf (List.getD (List.getD (EC.encL ec_9 (r3).2) (Int.toNat (0 : Int)) []) (0 : Nat) C.ne))) + (ByteArray.size ((r1).1).1)) : Nat) : Int) > (Go.IntKind.max Go.IntKind.i64)))
                                              none
                                              (gdE ((decide ((0 : Int) ≤ (1 : Int))) && (decide ((1 : Int) < (((((r3).1).2).1 : Nat) : Int)))) <|
                                                (gdE ((decide ((Int.toNat (1 : Int)) < (List.length (EC.encL ec_9 (r3).2)))) && ((List.length (List.getD (EC.encL ec_9 (r3).2) (Int.toNat (1 : Int)) [])) == (1 : Nat))) <|
                                                  (gdE (isP [K1.str] (0 : Nat) (List.getD (EC.encL ec_9 (r3).2) (Int.toNat (1 : Int)) [])) <|
                                                    (brE (decide (((((ByteArray.size ((strOf (List.getD (List.getD (EC.encL ec_9 (r3).2) (Int.toNat (0 : Int)) []) (0 : Nat) C.ne)) ++ ((r1).1).1)) + (ByteArray.size (strOf (List.getD (List.getD (EC.encL ec_9 (r3).2) (Int.toNat (1 : Int)) []) (0 : Nat) C.ne)))) : Nat) : Int) > (Go.IntKind.max Go.IntKind.i64)))
                                                      none
                                                      (Option.bind (posthouseref5_Alike_s (((strOf (List.getD (List.getD (EC.encL ec_9 (r3).2) (Int.toNat (0 : Int)) []) (0 : Nat) C.ne)) ++ ((r1).1).1) ++ (strOf (List.getD (List.getD (EC.encL ec_9 (r3).2) (Int.toNat (1 : Int)) []) (0 : Nat) C.ne))) (((r1).1).2).1) fun r4 =>
                                                        (brE (r4 == true)
                                                          (Option.bind lmatched_s fun r5 =>
                                                            (some r5))
                                                          (some false)))))))))))
                                      (some false))))))))
                        (Option.bind lmatched_s fun r4 =>
                          (some r4))))
                    (brE ((!((r3).1).1) == false)
                      (gdE ((decide ((0 : Int) ≤ (0 : Int))) && (decide ((0 : Int) < (((((r3).1).2).1 : Nat) : Int)))) <|
                        (gdE ((decide ((Int.toNat (0 : Int)) < (List.length (EC.encL ec_9 (r3).2)))) && ((List.length (List.getD (EC.encL ec_9 (r3).2) (Int.toNat (0 : Int)) [])) == (1 : Nat))) <|
                          (gdE (isP [K1.str] (0 : Nat) (List.getD (EC.encL ec_9 (r3).2) (Int.toNat (0 : Int)) [])) <|
                            (gdE ((decide ((0 : Int) ≤ (1 : Int))) && (decide ((1 : Int) < (((((r3).1).2).1 : Nat) : Int)))) <|
                              (gdE ((decide ((Int.toNat (1 : Int)) < (List.length (EC.encL ec_9 (r3).2)))) && ((List.length (List.getD (EC.encL ec_9 (r3).2) (Int.toNat (1 : Int)) [])) == (1 : Nat))) <|
                                (gdE (isP [K1.str] (0 : Nat) (List.getD (EC.encL ec_9 (r3).2) (Int.toNat (1 : Int)) [])) <|
                                  (brE (((Go.IntKind.wrap Go.IntKind.i64 ((Go.IntKind.wrap Go.IntKind.i64 ((((ByteArray.size (strOf (List.getD (List.getD (EC.encL ec_9 (r3).2) (Int.toNat (0 : Int)) []) (0 : Nat) C.ne))) : Nat) : Int) + (((ByteArray.size ((r1).1).1) : Nat) : Int))) + (((ByteArray.size (strOf (List.getD (List.getD (EC.encL ec_9 (r3).2) (Int.toNat (1 : Int)) []) (0 : Nat) C.ne))) : Nat) : Int))) == (((ByteArray.size (((r1).1).2).1) : Nat) : Int)) == true)
                                    (gdE ((decide ((0 : Int) ≤ (0 : Int))) && (decide ((0 : Int) < (((((r3).1).2).1 : Nat) : Int)))) <|
                                      (gdE ((decide ((Int.toNat (0 : Int)) < (List.length (EC.encL ec_9 (r3).2)))) && ((List.length (List.getD (EC.encL ec_9 (r3).2) (Int.toNat (0 : Int)) [])) == (1 : Nat))) <|
                                        (gdE (isP [K1.str] (0 : Nat) (List.getD (EC.encL ec_9 (r3).2) (Int.toNat (0 : Int)) [])) <|
                                          (brE (decide (((((ByteArray.size (strOf (List.getD (List.getD (EC.encL ec_9 (r3).2) (Int.toNat (0 : Int)) []) (0 : Nat) C.ne))) + (ByteArray.size ((r1).1).1)) : Nat) : Int) > (Go.IntKind.max Go.IntKind.i64)))
                                            none
                                            (gdE ((decide ((0 : Int) ≤ (1 : Int))) && (decide ((1 : Int) < (((((r3).1).2).1 : Nat) : Int)))) <|
                                              (gdE ((decide ((Int.toNat (1 : Int)) < (List.length (EC.encL ec_9 (r3).2)))) && ((List.length (List.getD (EC.encL ec_9 (r3).2) (Int.toNat (1 : Int)) [])) == (1 : Nat))) <|
                                                (gdE (isP [K1.str] (0 : Nat) (List.getD (EC.encL ec_9 (r3).2) (Int.toNat (1 : Int)) [])) <|
                                                  (brE (decide (((((ByteArray.size ((strOf (List.getD (List.getD (EC.encL ec_9 (r3).2) (Int.toNat (0 : Int)) []) (0 : Nat) C.ne)) ++ ((r1).1).1)) + (ByteArray.size (strOf (List.getD (List.getD (EC.encL ec_9 (r3).2) (Int.toNat (1 : Int)) []) (0 : Nat) C.ne)))) : Nat) : Int) > (Go.IntKind.max Go.IntKind.i64)))
                                                    none
                                                    (Option.bind (posthouseref5_Alike_s (((strOf (List.getD (List.getD (EC.encL ec_9 (r3).2) (Int.toNat (0 : Int)) []) (0 : Nat) C.ne)) ++ ((r1).1).1) ++ (strOf (List.getD (List.getD (EC.encL ec_9 (r3).2) (Int.toNat (1 : Int)) []) (0 : Nat) C.ne))) (((r1).1).2).1) fun r4 =>
                                                      (brE (r4 == true)
                                                        (Option.bind lmatched_s fun r5 =>
                                                          (some r5))
                                                        (some false)))))))))))
                                    (some false))))))))
                      (Option.bind lmatched_s fun r4 =>
                        (some r4))))
                  (some false)))
              (Option.bind lmatched_s fun r4 =>
                (some r4)))))))) r0))
theorem posthouselaw6_PatternsWithStars_eq {pattern : ByteArray} {text : ByteArray} {r : Bool} (h : posthouselaw6_PatternsWithStars_t pattern text = some r) : posthouselaw6_PatternsWithStars_s pattern text = some r :=
  fS_tree (es := tab_posthouselaw6_PatternsIgnoreCase) (hs := []) [posthouselaw6_PatternsWithStars_l2_e] Try.func12 rfl (by kernel_rfl) rfl (by kernel_rfl) (by kernel_rfl) ⟨⟨_, rfl, rfl⟩, trivial⟩ trivial (by kernel_rfl) h
noncomputable def posthouselaw6_PatternsWithStars_e : Ent Try.prog lv X0 := entS Try.prog lv X0 12 [] posthouselaw6_PatternsWithStars_ca posthouselaw6_PatternsWithStars_cr (fun x => posthouselaw6_PatternsWithStars_s x.1 x.2) (fun _ _ h => fS_call h)
noncomputable def tab_posthouselaw6_PatternsWithStars : List (Ent Try.prog lv X0) := posthouselaw6_PatternsWithStars_e :: tab_posthouselaw6_PatternsIgnoreCase
def posthouselaw6_PatternsPiecesFit_ca : Cod (List V) (ByteArray × ByteArray) := (lCons (vC cStr) (lOne (vC cStr)))
def posthouselaw6_PatternsPiecesFit_l7_s : SC ((ByteArray × ByteArray × Nat × Int × Int × Int) × (List ByteArray)) := sLS [0, 1, 6, 8, 9, 10] (lCons (vC cStr) (lCons (vC cStr) (lCons (vRow 0) (lCons (vC (cInt .i64)) (lCons (vC (cInt .i64)) (lOne (vC (cInt .i64)))))))) (lOne (oSome (bRow ec_9))) [false] [] (by decide) (fun _ => rfl)
def posthouselaw6_PatternsPiecesFit_l7_o2 : SC ((ByteArray × ByteArray × Nat × Int × Int × Int × Bool) × (List ByteArray)) := sLS [0, 1, 6, 8, 9, 10, 35] (lCons (vC cStr) (lCons (vC cStr) (lCons (vRow 0) (lCons (vC (cInt .i64)) (lCons (vC (cInt .i64)) (lCons (vC (cInt .i64)) (lOne (vC cBool)))))))) (lOne (oSome (bRow ec_9))) [false] [] (by decide) (fun _ => rfl)
def posthouselaw6_PatternsPiecesFit_l7_o1 : SC (Bool × Unit) := sLS [4] (lOne (vC cBool)) lNil [] [] (by decide) (fun _ => rfl)
def posthouselaw6_PatternsPiecesFit_l7_o : OC ((Bool × Unit) ⊕ ((ByteArray × ByteArray × Nat × Int × Int × Int × Bool) × (List ByteArray))) := oOr 1 posthouselaw6_PatternsPiecesFit_l7_o1 (oAt 2 posthouselaw6_PatternsPiecesFit_l7_o2) (fun x => (by decide : (2 : Nat) ≠ 1))
noncomputable def posthouselaw6_PatternsPiecesFit_l7 (pattern : ByteArray) (text : ByteArray) (l : Nat) (k : Int) (at_ : Int) (i : Int) (b0 : (List ByteArray)) : Option ((Bool × Unit) ⊕ ((ByteArray × ByteArray × Nat × Int × Int × Int × Bool) × (List ByteArray))) := lS Try.prog lv X0 13 114 (getLoop (cdF Try.f13) 7) posthouselaw6_PatternsPiecesFit_l7_s posthouselaw6_PatternsPiecesFit_l7_o ((pattern, text, l, k, at_, i), b0)
noncomputable def posthouselaw6_PatternsPiecesFit_l7_t (pattern : ByteArray) (text : ByteArray) (l : Nat) (k : Int) (at_ : Int) (i : Int) (b0 : (List ByteArray)) : Option ((Bool × Unit) ⊕ ((ByteArray × ByteArray × Nat × Int × Int × Int × Bool) × (List ByteArray))) :=
  (brE (decide (i < (((ByteArray.size pattern) : Nat) : Int)))
  (gdE ((decide ((0 : Int) ≤ i)) && (decide ((Int.toNat i) < (ByteArray.size pattern)))) <|
    (brE ((((UInt8.toNat (Array.getD (ByteArray.data pattern) (Int.toNat i) (0 : UInt8))) : Nat) : Int) == (92 : Int))
      (gdE (EC.isL ec_9 (EC.encL ec_9 b0)) <|
        (posthouselaw6_PatternsPiecesFit_l7 pattern text l k (Go.IntKind.wrap Go.IntKind.i64 (at_ + (1 : Int))) (Go.IntKind.wrap Go.IntKind.i64 ((Go.IntKind.wrap Go.IntKind.i64 (i + (1 : Int))) + (1 : Int))) (EC.decL ec_9 (EC.encL ec_9 b0))))
      (gdE ((decide ((0 : Int) ≤ i)) && (decide ((Int.toNat i) < (ByteArray.size pattern)))) <|
        (brE (((((UInt8.toNat (Array.getD (ByteArray.data pattern) (Int.toNat i) (0 : UInt8))) : Nat) : Int) == (42 : Int)) == false)
          (gdE ((decide ((0 : Int) ≤ i)) && (decide ((Int.toNat i) < (ByteArray.size pattern)))) <|
            (brE ((((UInt8.toNat (Array.getD (ByteArray.data pattern) (Int.toNat i) (0 : UInt8))) : Nat) : Int) == (63 : Int))
              (brE ((decide (k ≥ ((l : Nat) : Int))) == false)
                (gdE ((decide ((0 : Int) ≤ i)) && (decide ((Int.toNat i) < (ByteArray.size pattern)))) <|
                  (brE (((((UInt8.toNat (Array.getD (ByteArray.data pattern) (Int.toNat i) (0 : UInt8))) : Nat) : Int) == (63 : Int)) == true)
                    (gdE ((decide ((0 : Int) ≤ k)) && (decide (k < ((l : Nat) : Int)))) <|
                      (gdE ((decide ((Int.toNat k) < (List.length (EC.encL ec_9 b0)))) && ((List.length (List.getD (EC.encL ec_9 b0) (Int.toNat k) [])) == (1 : Nat))) <|
                        (gdE (isP [K1.str] (0 : Nat) (List.getD (EC.encL ec_9 b0) (Int.toNat k) [])) <|
                          (brE ((((ByteArray.size (strOf (List.getD (List.getD (EC.encL ec_9 b0) (Int.toNat k) []) (0 : Nat) C.ne))) : Nat) : Int) != (1 : Int))
                            (some (.inl (false, ())))
                            (gdE ((decide ((0 : Int) ≤ k)) && (decide (k < ((l : Nat) : Int)))) <|
                              (gdE ((decide ((Int.toNat k) < (List.length (EC.encL ec_9 b0)))) && ((List.length (List.getD (EC.encL ec_9 b0) (Int.toNat k) [])) == (1 : Nat))) <|
                                (gdE (isP [K1.str] (0 : Nat) (List.getD (EC.encL ec_9 b0) (Int.toNat k) [])) <|
                                  (brE ((decide ((Go.IntKind.wrap Go.IntKind.i64 (at_ + (((ByteArray.size (strOf (List.getD (List.getD (EC.encL ec_9 b0) (Int.toNat k) []) (0 : Nat) C.ne))) : Nat) : Int))) > (((ByteArray.size text) : Nat) : Int))) == false)
                                    (gdE ((decide ((0 : Int) ≤ (Go.IntKind.wrap Go.IntKind.i64 (at_ + (((ByteArray.size (strOf (List.getD (List.getD (EC.encL ec_9 b0) (Int.toNat k) []) (0 : Nat) C.ne))) : Nat) : Int))))) && (decide ((Go.IntKind.wrap Go.IntKind.i64 (at_ + (((ByteArray.size (strOf (List.getD (List.getD (EC.encL ec_9 b0) (Int.toNat k) []) (0 : Nat) C.ne))) : Nat) : Int))) ≤ (((ByteArray.size text) : Nat) : Int)))) <|
                                      (gdE ((decide ((0 : Int) ≤ at_)) && (decide (at_ ≤ (((Int.toNat (Go.IntKind.wrap Go.IntKind.i64 (at_ + (((ByteArray.size (strOf (List.getD (List.getD (EC.encL ec_9 b0) (Int.toNat k) []) (0 : Nat) C.ne))) : Nat) : Int)))) : Nat) : Int)))) <|
                                        (gdE ((decide ((0 : Int) ≤ k)) && (decide (k < ((l : Nat) : Int)))) <|
                                          (gdE ((decide ((Int.toNat k) < (List.length (EC.encL ec_9 b0)))) && ((List.length (List.getD (EC.encL ec_9 b0) (Int.toNat k) [])) == (1 : Nat))) <|
                                            (gdE (isP [K1.str] (0 : Nat) (List.getD (EC.encL ec_9 b0) (Int.toNat k) [])) <|
                                              (brE (!((ByteArray.toList (ByteArray.extract text (Int.toNat at_) (Int.toNat (Go.IntKind.wrap Go.IntKind.i64 (at_ + (((ByteArray.size (strOf (List.getD (List.getD (EC.encL ec_9 b0) (Int.toNat k) []) (0 : Nat) C.ne))) : Nat) : Int)))))) == (ByteArray.toList (strOf (List.getD (List.getD (EC.encL ec_9 b0) (Int.toNat k) []) (0 : Nat) C.ne)))))
                                                (some (.inl (false, ())))
                                                (gdE (EC.isL ec_9 (EC.encL ec_9 b0)) <|
                                                  (posthouselaw6_PatternsPiecesFit_l7 pattern text l (Go.IntKind.wrap Go.IntKind.i64 (k + (1 : Int))) (Go.IntKind.wrap Go.IntKind.i64 (at_ + (((ByteArray.size (strOf (List.getD (List.getD (EC.encL ec_9 b0) (Int.toNat k) []) (0 : Nat) C.ne))) : Nat) : Int))) (Go.IntKind.wrap Go.IntKind.i64 (i + (1 : Int))) (EC.decL ec_9 (EC.encL ec_9 b0))))))))))
                                    (some (.inl (false, ())))))))))))
                    (gdE ((decide ((0 : Int) ≤ k)) && (decide (k < ((l : Nat) : Int)))) <|
                      (gdE ((decide ((Int.toNat k) < (List.length (EC.encL ec_9 b0)))) && ((List.length (List.getD (EC.encL ec_9 b0) (Int.toNat k) [])) == (1 : Nat))) <|
                        (gdE (isP [K1.str] (0 : Nat) (List.getD (EC.encL ec_9 b0) (Int.toNat k) [])) <|
                          (brE ((decide ((Go.IntKind.wrap Go.IntKind.i64 (at_ + (((ByteArray.size (strOf (List.getD (List.getD (EC.encL ec_9 b0) (Int.toNat k) []) (0 : Nat) C.ne))) : Nat) : Int))) > (((ByteArray.size text) : Nat) : Int))) == false)
                            (gdE ((decide ((0 : Int) ≤ (Go.IntKind.wrap Go.IntKind.i64 (at_ + (((ByteArray.size (strOf (List.getD (List.getD (EC.encL ec_9 b0) (Int.toNat k) []) (0 : Nat) C.ne))) : Nat) : Int))))) && (decide ((Go.IntKind.wrap Go.IntKind.i64 (at_ + (((ByteArray.size (strOf (List.getD (List.getD (EC.encL ec_9 b0) (Int.toNat k) []) (0 : Nat) C.ne))) : Nat) : Int))) ≤ (((ByteArray.size text) : Nat) : Int)))) <|
                              (gdE ((decide ((0 : Int) ≤ at_)) && (decide (at_ ≤ (((Int.toNat (Go.IntKind.wrap Go.IntKind.i64 (at_ + (((ByteArray.size (strOf (List.getD (List.getD (EC.encL ec_9 b0) (Int.toNat k) []) (0 : Nat) C.ne))) : Nat) : Int)))) : Nat) : Int)))) <|
                                (gdE ((decide ((0 : Int) ≤ k)) && (decide (k < ((l : Nat) : Int)))) <|
                                  (gdE ((decide ((Int.toNat k) < (List.length (EC.encL ec_9 b0)))) && ((List.length (List.getD (EC.encL ec_9 b0) (Int.toNat k) [])) == (1 : Nat))) <|
                                    (gdE (isP [K1.str] (0 : Nat) (List.getD (EC.encL ec_9 b0) (Int.toNat k) [])) <|
                                      (brE (!((ByteArray.toList (ByteArray.extract text (Int.toNat at_) (Int.toNat (Go.IntKind.wrap Go.IntKind.i64 (at_ + (((ByteArray.size (strOf (List.getD (List.getD (EC.encL ec_9 b0) (Int.toNat k) []) (0 : Nat) C.ne))) : Nat) : Int)))))) == (ByteArray.toList (strOf (List.getD (List.getD (EC.encL ec_9 b0) (Int.toNat k) []) (0 : Nat) C.ne)))))
                                        (some (.inl (false, ())))
                                        (gdE (EC.isL ec_9 (EC.encL ec_9 b0)) <|
                                          (posthouselaw6_PatternsPiecesFit_l7 pattern text l (Go.IntKind.wrap Go.IntKind.i64 (k + (1 : Int))) (Go.IntKind.wrap Go.IntKind.i64 (at_ + (((ByteArray.size (strOf (List.getD (List.getD (EC.encL ec_9 b0) (Int.toNat k) []) (0 : Nat) C.ne))) : Nat) : Int))) (Go.IntKind.wrap Go.IntKind.i64 (i + (1 : Int))) (EC.decL ec_9 (EC.encL ec_9 b0))))))))))
                            (some (.inl (false, ())))))))))
                (some (.inl (false, ()))))
              (gdE (EC.isL ec_9 (EC.encL ec_9 b0)) <|
                (posthouselaw6_PatternsPiecesFit_l7 pattern text l k (Go.IntKind.wrap Go.IntKind.i64 (at_ + (1 : Int))) (Go.IntKind.wrap Go.IntKind.i64 (i + (1 : Int))) (EC.decL ec_9 (EC.encL ec_9 b0))))))
          (brE ((decide (k ≥ ((l : Nat) : Int))) == false)
            (gdE ((decide ((0 : Int) ≤ i)) && (decide ((Int.toNat i) < (ByteArray.size pattern)))) <|
              (brE (((((UInt8.toNat (Array.getD (ByteArray.data pattern) (Int.toNat i) (0 : UInt8))) : Nat) : Int) == (63 : Int)) == true)
                (gdE ((decide ((0 : Int) ≤ k)) && (decide (k < ((l : Nat) : Int)))) <|
                  (gdE ((decide ((Int.toNat k) < (List.length (EC.encL ec_9 b0)))) && ((List.length (List.getD (EC.encL ec_9 b0) (Int.toNat k) [])) == (1 : Nat))) <|
                    (gdE (isP [K1.str] (0 : Nat) (List.getD (EC.encL ec_9 b0) (Int.toNat k) [])) <|
                      (brE ((((ByteArray.size (strOf (List.getD (List.getD (EC.encL ec_9 b0) (Int.toNat k) []) (0 : Nat) C.ne))) : Nat) : Int) != (1 : Int))
                        (some (.inl (false, ())))
                        (gdE ((decide ((0 : Int) ≤ k)) && (decide (k < ((l : Nat) : Int)))) <|
                          (gdE ((decide ((Int.toNat k) < (List.length (EC.encL ec_9 b0)))) && ((List.length (List.getD (EC.encL ec_9 b0) (Int.toNat k) [])) == (1 : Nat))) <|
                            (gdE (isP [K1.str] (0 : Nat) (List.getD (EC.encL ec_9 b0) (Int.toNat k) [])) <|
                              (brE ((decide ((Go.IntKind.wrap Go.IntKind.i64 (at_ + (((ByteArray.size (strOf (List.getD (List.getD (EC.encL ec_9 b0) (Int.toNat k) []) (0 : Nat) C.ne))) : Nat) : Int))) > (((ByteArray.size text) : Nat) : Int))) == false)
                                (gdE ((decide ((0 : Int) ≤ (Go.IntKind.wrap Go.IntKind.i64 (at_ + (((ByteArray.size (strOf (List.getD (List.getD (EC.encL ec_9 b0) (Int.toNat k) []) (0 : Nat) C.ne))) : Nat) : Int))))) && (decide ((Go.IntKind.wrap Go.IntKind.i64 (at_ + (((ByteArray.size (strOf (List.getD (List.getD (EC.encL ec_9 b0) (Int.toNat k) []) (0 : Nat) C.ne))) : Nat) : Int))) ≤ (((ByteArray.size text) : Nat) : Int)))) <|
                                  (gdE ((decide ((0 : Int) ≤ at_)) && (decide (at_ ≤ (((Int.toNat (Go.IntKind.wrap Go.IntKind.i64 (at_ + (((ByteArray.size (strOf (List.getD (List.getD (EC.encL ec_9 b0) (Int.toNat k) []) (0 : Nat) C.ne))) : Nat) : Int)))) : Nat) : Int)))) <|
                                    (gdE ((decide ((0 : Int) ≤ k)) && (decide (k < ((l : Nat) : Int)))) <|
                                      (gdE ((decide ((Int.toNat k) < (List.length (EC.encL ec_9 b0)))) && ((List.length (List.getD (EC.encL ec_9 b0) (Int.toNat k) [])) == (1 : Nat))) <|
                                        (gdE (isP [K1.str] (0 : Nat) (List.getD (EC.encL ec_9 b0) (Int.toNat k) [])) <|
                                          (brE (!((ByteArray.toList (ByteArray.extract text (Int.toNat at_) (Int.toNat (Go.IntKind.wrap Go.IntKind.i64 (at_ + (((ByteArray.size (strOf (List.getD (List.getD (EC.encL ec_9 b0) (Int.toNat k) []) (0 : Nat) C.ne))) : Nat) : Int)))))) == (ByteArray.toList (strOf (List.getD (List.getD (EC.encL ec_9 b0) (Int.toNat k) []) (0 : Nat) C.ne)))))
                                            (some (.inl (false, ())))
                                            (gdE (EC.isL ec_9 (EC.encL ec_9 b0)) <|
                                              (posthouselaw6_PatternsPiecesFit_l7 pattern text l (Go.IntKind.wrap Go.IntKind.i64 (k + (1 : Int))) (Go.IntKind.wrap Go.IntKind.i64 (at_ + (((ByteArray.size (strOf (List.getD (List.getD (EC.encL ec_9 b0) (Int.toNat k) []) (0 : Nat) C.ne))) : Nat) : Int))) (Go.IntKind.wrap Go.IntKind.i64 (i + (1 : Int))) (EC.decL ec_9 (EC.encL ec_9 b0))))))))))
                                (some (.inl (false, ())))))))))))
                (gdE ((decide ((0 : Int) ≤ k)) && (decide (k < ((l : Nat) : Int)))) <|
                  (gdE ((decide ((Int.toNat k) < (List.length (EC.encL ec_9 b0)))) && ((List.length (List.getD (EC.encL ec_9 b0) (Int.toNat k) [])) == (1 : Nat))) <|
                    (gdE (isP [K1.str] (0 : Nat) (List.getD (EC.encL ec_9 b0) (Int.toNat k) [])) <|
                      (brE ((decide ((Go.IntKind.wrap Go.IntKind.i64 (at_ + (((ByteArray.size (strOf (List.getD (List.getD (EC.encL ec_9 b0) (Int.toNat k) []) (0 : Nat) C.ne))) : Nat) : Int))) > (((ByteArray.size text) : Nat) : Int))) == false)
                        (gdE ((decide ((0 : Int) ≤ (Go.IntKind.wrap Go.IntKind.i64 (at_ + (((ByteArray.size (strOf (List.getD (List.getD (EC.encL ec_9 b0) (Int.toNat k) []) (0 : Nat) C.ne))) : Nat) : Int))))) && (decide ((Go.IntKind.wrap Go.IntKind.i64 (at_ + (((ByteArray.size (strOf (List.getD (List.getD (EC.encL ec_9 b0) (Int.toNat k) []) (0 : Nat) C.ne))) : Nat) : Int))) ≤ (((ByteArray.size text) : Nat) : Int)))) <|
                          (gdE ((decide ((0 : Int) ≤ at_)) && (decide (at_ ≤ (((Int.toNat (Go.IntKind.wrap Go.IntKind.i64 (at_ + (((ByteArray.size (strOf (List.getD (List.getD (EC.encL ec_9 b0) (Int.toNat k) []) (0 : Nat) C.ne))) : Nat) : Int)))) : Nat) : Int)))) <|
                            (gdE ((decide ((0 : Int) ≤ k)) && (decide (k < ((l : Nat) : Int)))) <|
                              (gdE ((decide ((Int.toNat k) < (List.length (EC.encL ec_9 b0)))) && ((List.length (List.getD (EC.encL ec_9 b0) (Int.toNat k) [])) == (1 : Nat))) <|
                                (gdE (isP [K1.str] (0 : Nat) (List.getD (EC.encL ec_9 b0) (Int.toNat k) [])) <|
                                  (brE (!((ByteArray.toList (ByteArray.extract text (Int.toNat at_) (Int.toNat (Go.IntKind.wrap Go.IntKind.i64 (at_ + (((ByteArray.size (strOf (List.getD (List.getD (EC.encL ec_9 b0) (Int.toNat k) []) (0 : Nat) C.ne))) : Nat) : Int)))))) == (ByteArray.toList (strOf (List.getD (List.getD (EC.encL ec_9 b0) (Int.toNat k) []) (0 : Nat) C.ne)))))
                                    (some (.inl (false, ())))
                                    (gdE (EC.isL ec_9 (EC.encL ec_9 b0)) <|
                                      (posthouselaw6_PatternsPiecesFit_l7 pattern text l (Go.IntKind.wrap Go.IntKind.i64 (k + (1 : Int))) (Go.IntKind.wrap Go.IntKind.i64 (at_ + (((ByteArray.size (strOf (List.getD (List.getD (EC.encL ec_9 b0) (Int.toNat k) []) (0 : Nat) C.ne))) : Nat) : Int))) (Go.IntKind.wrap Go.IntKind.i64 (i + (1 : Int))) (EC.decL ec_9 (EC.encL ec_9 b0))))))))))
                        (some (.inl (false, ())))))))))
            (some (.inl (false, ()))))))))
  (gdE (EC.isL ec_9 (EC.encL ec_9 b0)) <|
    (some (.inr ((pattern, (text, (l, (k, (at_, (i, false)))))), (EC.decL ec_9 (EC.encL ec_9 b0)))))))
theorem posthouselaw6_PatternsPiecesFit_l7_eq {pattern : ByteArray} {text : ByteArray} {l : Nat} {k : Int} {at_ : Int} {i : Int} {b0 : (List ByteArray)} {r : ((Bool × Unit) ⊕ ((ByteArray × ByteArray × Nat × Int × Int × Int × Bool) × (List ByteArray)))} (h : posthouselaw6_PatternsPiecesFit_l7_t pattern text l k at_ i b0 = some r) : posthouselaw6_PatternsPiecesFit_l7 pattern text l k at_ i b0 = some r :=
  lS_tree (es := tab_posthouselaw6_PatternsWithStars) (hs := []) [] (by kernel_rfl) trivial trivial (by kernel_rfl) h
noncomputable def posthouselaw6_PatternsPiecesFit_l7_e : LEnt Try.prog lv X0 13 114 := lentS Try.prog lv X0 7 (getLoop (cdF Try.f13) 7) posthouselaw6_PatternsPiecesFit_l7_s posthouselaw6_PatternsPiecesFit_l7_o (fun x => posthouselaw6_PatternsPiecesFit_l7 x.1.1 x.1.2.1 x.1.2.2.1 x.1.2.2.2.1 x.1.2.2.2.2.1 x.1.2.2.2.2.2 x.2) (fun _ _ h => lS_from h)
def posthouselaw6_PatternsPiecesFit_cr : Cod (V × List B) Bool := (cFstU (cPair (vC cBool) lNil))
noncomputable def posthouselaw6_PatternsPiecesFit_s (pattern : ByteArray) (text : ByteArray) : Option Bool := fS Try.prog lv X0 13 posthouselaw6_PatternsPiecesFit_ca posthouselaw6_PatternsPiecesFit_cr (pattern, text)
noncomputable def posthouselaw6_PatternsPiecesFit_t (pattern : ByteArray) (text : ByteArray) : Option Bool :=
  (Option.bind (patterns_Match_s (3 : Int) pattern text) fun r0 =>
  (brE ((((((r0).1).2).2).1 != (0 : Int)) == false)
    (brE (!((r0).1).1)
      (brE (((((((r0).1).2).1 : Nat) : Int) == (0 : Int)) == true)
        (Option.bind lmatched_s fun r1 =>
          (some r1))
        (some false))
      (gdE (EC.isL ec_9 (EC.encL ec_9 (r0).2)) <|
        (Option.bind (posthouselaw6_PatternsPiecesFit_l7 pattern text (((r0).1).2).1 (0 : Int) (0 : Int) (0 : Int) (EC.decL ec_9 (EC.encL ec_9 (r0).2))) fun r1 =>
          (Sum.elim (fun r2 => (some (r2).1))
            (fun r2 => (brE (((((((r2).1).2).2).2).1 == ((((((r2).1).2).2).1 : Nat) : Int)) == true)
              (brE ((((((((r2).1).2).2).2).2).1 == (((ByteArray.size (((r2).1).2).1) : Nat) : Int)) == true)
                (Option.bind lmatched_s fun r3 =>
                  (some r3))
                (some false))
              (some false))) r1))))
    (brE (((((((r0).1).2).1 : Nat) : Int) == (0 : Int)) == true)
      (Option.bind lmatched_s fun r1 =>
        (some r1))
      (some false))))
theorem posthouselaw6_PatternsPiecesFit_eq {pattern : ByteArray} {text : ByteArray} {r : Bool} (h : posthouselaw6_PatternsPiecesFit_t pattern text = some r) : posthouselaw6_PatternsPiecesFit_s pattern text = some r :=
  fS_tree (es := tab_posthouselaw6_PatternsWithStars) (hs := []) [posthouselaw6_PatternsPiecesFit_l7_e] Try.func13 rfl (by kernel_rfl) rfl (by kernel_rfl) (by kernel_rfl) ⟨⟨_, rfl, rfl⟩, trivial⟩ trivial (by kernel_rfl) h
noncomputable def posthouselaw6_PatternsPiecesFit_e : Ent Try.prog lv X0 := entS Try.prog lv X0 13 [] posthouselaw6_PatternsPiecesFit_ca posthouselaw6_PatternsPiecesFit_cr (fun x => posthouselaw6_PatternsPiecesFit_s x.1 x.2) (fun _ _ h => fS_call h)
noncomputable def tab_posthouselaw6_PatternsPiecesFit : List (Ent Try.prog lv X0) := posthouselaw6_PatternsPiecesFit_e :: tab_posthouselaw6_PatternsWithStars
end Go.Proofs.Ytgmjhnijnpfkgaa
