/- Functions of the program asx plain functions: made by program from the machine. -/
import Derived.Test.YtomnbknaanlmaaaGreatDoorZ09
namespace Go.Proofs.YtomnbknaanlmaaaGreatDoor
open Go.RowKit
set_option maxRecDepth 100000
noncomputable section
def basic_Fault_ca : Cod (List V) (Int × Int) := (lCons (vC (cInt .i64)) (lOne (vC (cInt .i64))))
def basic_Fault_cr : Cod (V × List B) (Int × Int) := (cFstU (cPair (vAgg (lCons (vC (cInt .i64)) (lOne (vC (cInt .i64))))) lNil))
def basic_Fault_s (code : Int) (at_ : Int) : Option (Int × Int) := fS Tryz.prog lv X0 10 basic_Fault_ca basic_Fault_cr (code, at_)
def basic_Fault_t (code : Int) (at_ : Int) : Option (Int × Int) :=
 (some (code, at_))
theorem basic_Fault_eq {code : Int} {at_ : Int} {r : (Int × Int)} (h : basic_Fault_t code at_ = some r) : basic_Fault_s code at_ = some r :=
  fS_tree (es := tab0) (hs := []) [] Tryz.func10 rfl (by kernel_rfl) rfl (by kernel_rfl) (by kernel_rfl) trivial trivial (by kernel_rfl) h
def basic_Fault_e : Ent Tryz.prog lv X0 := entS Tryz.prog lv X0 10 [] basic_Fault_ca basic_Fault_cr (fun x => basic_Fault_s x.1 x.2) (fun _ _ h => fS_call h)
def tab_basic_Fault : List (Ent Tryz.prog lv X0) := basic_Fault_e :: tab0
def basic_None_ca : Cod (List V) Unit := lNil
def basic_None_cr : Cod (V × List B) (Int × Int) := (cFstU (cPair (vAgg (lCons (vC (cInt .i64)) (lOne (vC (cInt .i64))))) lNil))
def basic_None_s  : Option (Int × Int) := fS Tryz.prog lv X0 14 basic_None_ca basic_None_cr ()
def basic_None_t  : Option (Int × Int) :=
 (some ((0 : Int), (0 : Int)))
theorem basic_None_eq {r : (Int × Int)} (h : basic_None_t  = some r) : basic_None_s  = some r :=
  fS_tree (es := tab_basic_Fault) (hs := []) [] Tryz.func14 rfl (by kernel_rfl) rfl (by kernel_rfl) (by kernel_rfl) trivial trivial (by kernel_rfl) h
def basic_None_e : Ent Tryz.prog lv X0 := entS Tryz.prog lv X0 14 [] basic_None_ca basic_None_cr (fun _x => basic_None_s ) (fun _ _ h => fS_call h)
def tab_basic_None : List (Ent Tryz.prog lv X0) := basic_None_e :: tab_basic_Fault
def basic_Failed_ca : Cod (List V) (Int × Int) := (lOne (vAgg (lCons (vC (cInt .i64)) (lOne (vC (cInt .i64))))))
def basic_Failed_cr : Cod (V × List B) Bool := (cFstU (cPair (vC cBool) lNil))
def basic_Failed_s (f_Code : Int) (f_Index : Int) : Option Bool := fS Tryz.prog lv X0 19 basic_Failed_ca basic_Failed_cr (f_Code, f_Index)
def basic_Failed_t (f_Code : Int) (_f_Index : Int) : Option Bool :=
 (some (f_Code != 0))
theorem basic_Failed_eq {f_Code : Int} {f_Index : Int} {r : Bool} (h : basic_Failed_t f_Code f_Index = some r) : basic_Failed_s f_Code f_Index = some r :=
  fS_tree (es := tab_basic_None) (hs := []) [] Tryz.func19 rfl (by kernel_rfl) rfl (by kernel_rfl) (by kernel_rfl) trivial trivial (by kernel_rfl) h
def basic_Failed_e : Ent Tryz.prog lv X0 := entS Tryz.prog lv X0 19 [] basic_Failed_ca basic_Failed_cr (fun x => basic_Failed_s x.1 x.2) (fun _ _ h => fS_call h)
def tab_basic_Failed : List (Ent Tryz.prog lv X0) := basic_Failed_e :: tab_basic_None
def classify_named_ca : Cod (List V) ByteArray := (lOne (vC cStr))
def classify_named_cr : Cod (V × List B) Bool := (cFstU (cPair (vC cBool) lNil))
def classify_named_s (s : ByteArray) : Option Bool := fS Tryz.prog lv X0 52 classify_named_ca classify_named_cr s
def classify_named_t (s : ByteArray) : Option Bool :=
 (brE ((decide ((((ByteArray.size s) : Nat) : Int) ≥ (1 : Int))) == true)
 (some (decide ((((ByteArray.size s) : Nat) : Int) ≤ (200 : Int))))
 (some false))
theorem classify_named_eq {s : ByteArray} {r : Bool} (h : classify_named_t s = some r) : classify_named_s s = some r :=
  fS_tree (es := tab_basic_Failed) (hs := []) [] Tryz.func52 rfl (by kernel_rfl) rfl (by kernel_rfl) (by kernel_rfl) trivial trivial (by kernel_rfl) h
def classify_named_e : Ent Tryz.prog lv X0 := entS Tryz.prog lv X0 52 [] classify_named_ca classify_named_cr (fun x => classify_named_s x) (fun _ _ h => fS_call h)
def tab_classify_named : List (Ent Tryz.prog lv X0) := classify_named_e :: tab_basic_Failed
def classify_within_ca : Cod (List V) (Int × Int) := (lCons (vC (cInt .i64)) (lOne (vC (cInt .i64))))
def classify_within_cr : Cod (V × List B) Bool := (cFstU (cPair (vC cBool) lNil))
def classify_within_s (n : Int) (most : Int) : Option Bool := fS Tryz.prog lv X0 59 classify_within_ca classify_within_cr (n, most)
def classify_within_t (n : Int) (most : Int) : Option Bool :=
 (brE ((decide (n ≥ (0 : Int))) == true)
 (some (decide (n ≤ most)))
 (some false))
theorem classify_within_eq {n : Int} {most : Int} {r : Bool} (h : classify_within_t n most = some r) : classify_within_s n most = some r :=
  fS_tree (es := tab_classify_named) (hs := []) [] Tryz.func59 rfl (by kernel_rfl) rfl (by kernel_rfl) (by kernel_rfl) trivial trivial (by kernel_rfl) h
def classify_within_e : Ent Tryz.prog lv X0 := entS Tryz.prog lv X0 59 [] classify_within_ca classify_within_cr (fun x => classify_within_s x.1 x.2) (fun _ _ h => fS_call h)
def tab_classify_within : List (Ent Tryz.prog lv X0) := classify_within_e :: tab_classify_named
structure S74 where
  Text : ByteArray
  Good : Int
  Junk : Int
def ec_74 : EC S74 where
  enc x := [.str x.Text, .int .i64 x.Good, .int .i64 x.Junk]
  dec c := ⟨strOf (c.getD 0 .ne), intOf (c.getD 1 .ne), intOf (c.getD 2 .ne)⟩
  is c := isE [.str, .int .i64, .int .i64] 0 c
  enc_dec h := decE_eq h
  dec_enc x := by rfl
  is_enc x := by simp [isE, isK]
theorem enc_74 (x : S74) : ec_74.enc x = [.str x.Text, .int .i64 x.Good, .int .i64 x.Junk] := rfl
theorem isE_74 (xs : List S74) (n : Nat) : isE [.str, .int .i64, .int .i64] 0 ((ec_74.encL xs).getD n []) = decide (n < xs.length) := by
  by_cases h : n < xs.length
  · simp only [EC.getD_lt _ _ h]; simp [enc_74, isE, isK, h]
  · simp only [EC.getD_ge _ _ (Nat.not_lt.1 h)]; simp [isE, isK, h]
theorem at_74_0 (xs : List S74) (n : Nat) : strOf (((ec_74.encL xs).getD n []).getD 0 .ne) = (xs.getD n (ec_74.dec [])).Text := by
  by_cases h : n < xs.length
  · simp only [EC.getD_lt _ _ h]; simp [enc_74, h, strOf, List.getD_eq_getElem?_getD]
  · simp only [EC.getD_ge _ _ (Nat.not_lt.1 h)]; simp [Nat.not_lt.1 h, ec_74, strOf, intOf, List.getD_eq_getElem?_getD]
theorem at_74_1 (xs : List S74) (n : Nat) : intOf (((ec_74.encL xs).getD n []).getD 1 .ne) = (xs.getD n (ec_74.dec [])).Good := by
  by_cases h : n < xs.length
  · simp only [EC.getD_lt _ _ h]; simp [enc_74, h, intOf, List.getD_eq_getElem?_getD]
  · simp only [EC.getD_ge _ _ (Nat.not_lt.1 h)]; simp [Nat.not_lt.1 h, ec_74, strOf, intOf, List.getD_eq_getElem?_getD]
theorem at_74_2 (xs : List S74) (n : Nat) : intOf (((ec_74.encL xs).getD n []).getD 2 .ne) = (xs.getD n (ec_74.dec [])).Junk := by
  by_cases h : n < xs.length
  · simp only [EC.getD_lt _ _ h]; simp [enc_74, h, intOf, List.getD_eq_getElem?_getD]
  · simp only [EC.getD_ge _ _ (Nat.not_lt.1 h)]; simp [Nat.not_lt.1 h, ec_74, strOf, intOf, List.getD_eq_getElem?_getD]
theorem all_74 (xs : List S74) : (ec_74.encL xs).all (fun (el : List C) => el.length == 3) = true := by induction xs with | nil => rfl | cons x xs ih => first | (simp [EC.encL, enc_74]; done) | simpa [EC.encL, enc_74] using ih
theorem set_74_1_1 (xs : List S74) (n : Nat) (a1 : Int) : (ec_74.encL xs).set n (splice ((ec_74.encL xs).getD n []) 1 [.int .i64 a1]) = ec_74.encL (xs.set n ({ xs.getD n (ec_74.dec []) with Good := a1 })) := by
  by_cases h : n < xs.length
  · rw [EC.getD_lt _ _ h]; simp [EC.encL, List.map_set, enc_74, splice, List.getD_eq_getElem?_getD, h]
  · simp [EC.encL, List.set_eq_of_length_le, Nat.not_lt.1 h]
theorem set_74_2_1 (xs : List S74) (n : Nat) (a2 : Int) : (ec_74.encL xs).set n (splice ((ec_74.encL xs).getD n []) 2 [.int .i64 a2]) = ec_74.encL (xs.set n ({ xs.getD n (ec_74.dec []) with Junk := a2 })) := by
  by_cases h : n < xs.length
  · rw [EC.getD_lt _ _ h]; simp [EC.encL, List.map_set, enc_74, splice, List.getD_eq_getElem?_getD, h]
  · simp [EC.encL, List.set_eq_of_length_le, Nat.not_lt.1 h]
def classify_Validate_ca : Cod (List V) (Int × Int × (List S74)) := (lOne (vAgg (lCons (vC (cInt .i64)) (lCons (vC (cInt .i64)) (lOne (vC (cSl ec_74)))))))
def classify_Validate_l6_s : SC ((Unit × Unit × (List S74) × Int × Int) × ((Int × Int × (List S74)) × (Int × Int))) := sLS [1, 2, 22, 23, 24] (lCons (vPtr 0 0) (lCons (vPtr 1 0) (lCons (vC (cSl ec_74)) (lCons (vC (cInt .i64)) (lOne (vC (cInt .i64))))))) (lCons (oSome (bBox (lCons (vC (cInt .i64)) (lCons (vC (cInt .i64)) (lOne (vC (cSl ec_74))))))) (lOne (oSome (bBox (lCons (vC (cInt .i64)) (lOne (vC (cInt .i64)))))))) [false, false] [] (by decide) (fun _ => rfl)
def classify_Validate_l6_o2 : SC ((Unit × Unit × (List S74) × Int × Int × Bool) × ((Int × Int × (List S74)) × (Int × Int))) := sLS [1, 2, 22, 23, 24, 25] (lCons (vPtr 0 0) (lCons (vPtr 1 0) (lCons (vC (cSl ec_74)) (lCons (vC (cInt .i64)) (lCons (vC (cInt .i64)) (lOne (vC cBool))))))) (lCons (oSome (bBox (lCons (vC (cInt .i64)) (lCons (vC (cInt .i64)) (lOne (vC (cSl ec_74))))))) (lOne (oSome (bBox (lCons (vC (cInt .i64)) (lOne (vC (cInt .i64)))))))) [false, false] [] (by decide) (fun _ => rfl)
def classify_Validate_l6_o1 : SC (Unit × (Int × Int)) := sLS [2] (lOne (vPtr 0 0)) (lOne (oSome (bBox (lCons (vC (cInt .i64)) (lOne (vC (cInt .i64))))))) [false] [] (by decide) (fun _ => rfl)
def classify_Validate_l6_o : OC ((Unit × (Int × Int)) ⊕ ((Unit × Unit × (List S74) × Int × Int × Bool) × ((Int × Int × (List S74)) × (Int × Int)))) := oOr 1 classify_Validate_l6_o1 (oAt 2 classify_Validate_l6_o2) (fun x => (by decide : (2 : Nat) ≠ 1))
def classify_Validate_l6 (t22 : (List S74)) (t23 : Int) (t24 : Int) (b0 : Int) (b0_1 : Int) (b0_2 : (List S74)) (b1 : Int) (b1_1 : Int) : Option ((Unit × (Int × Int)) ⊕ ((Unit × Unit × (List S74) × Int × Int × Bool) × ((Int × Int × (List S74)) × (Int × Int)))) := lS Tryz.prog lv X0 26 80 (getLoop (cdF Tryz.f26) 6) classify_Validate_l6_s classify_Validate_l6_o (((), (), t22, t23, t24), ((b0, b0_1, b0_2), (b1, b1_1)))
def classify_Validate_l6_t (t22 : (List S74)) (t23 : Int) (t24 : Int) (b0 : Int) (b0_1 : Int) (b0_2 : (List S74)) (b1 : Int) (b1_1 : Int) : Option ((Unit × (Int × Int)) ⊕ ((Unit × Unit × (List S74) × Int × Int × Bool) × ((Int × Int × (List S74)) × (Int × Int)))) :=
 (brE (decide (t24 < t23))
 (gdE (decide ((0 : Int) ≤ t24)) <|
 (gdE ((decide ((Int.toNat t24) < (List.length (EC.encL ec_74 t22)))) && (isE [K1.str, (K1.int Go.IntKind.i64), (K1.int Go.IntKind.i64)] (0 : Nat) (List.getD (EC.encL ec_74 t22) (Int.toNat t24) []))) <|
 (Option.bind (classify_named_s (strOf (List.getD (List.getD (EC.encL ec_74 t22) (Int.toNat t24) []) (0 : Nat) C.ne))) fun r0 =>
 (brE (!r0)
 (Option.bind (basic_Fault_s (10 : Int) t24) fun r1 =>
 (some (.inl ((), ((r1).1, (r1).2)))))
 (Option.bind (classify_within_s (intOf (List.getD (List.getD (EC.encL ec_74 t22) (Int.toNat t24) []) (1 : Nat) C.ne)) b0) fun r1 =>
 (brE ((!r1) == false)
 (Option.bind (classify_within_s (intOf (List.getD (List.getD (EC.encL ec_74 t22) (Int.toNat t24) []) (2 : Nat) C.ne)) b0_1) fun r2 =>
 (brE ((!r2) == false)
 (brE ((IntKind.wrap .i64 ((intOf (List.getD (List.getD (EC.encL ec_74 t22) (Int.toNat t24) []) (1 : Nat) C.ne)) + (intOf (List.getD (List.getD (EC.encL ec_74 t22) (Int.toNat t24) []) (2 : Nat) C.ne)))) == 0)
 (Option.bind (basic_Fault_s (3 : Int) t24) fun r3 =>
 (some (.inl ((), ((r3).1, (r3).2)))))
 (brE ((decide (t24 > (0 : Int))) == true)
 (gdE (decide ((0 : Int) ≤ (IntKind.wrap .i64 (t24 - (1 : Int))))) <|
 (gdE ((decide ((Int.toNat (IntKind.wrap .i64 (t24 - (1 : Int)))) < (List.length (EC.encL ec_74 b0_2)))) && (isE [K1.str, (K1.int Go.IntKind.i64), (K1.int Go.IntKind.i64)] (0 : Nat) (List.getD (EC.encL ec_74 b0_2) (Int.toNat (IntKind.wrap .i64 (t24 - (1 : Int)))) []))) <|
 (brE ((Go.Op.bytesLess (ByteArray.toList (strOf (List.getD (List.getD (EC.encL ec_74 t22) (Int.toNat t24) []) (0 : Nat) C.ne))) (ByteArray.toList (strOf (List.getD (List.getD (EC.encL ec_74 b0_2) (Int.toNat (IntKind.wrap .i64 (t24 - (1 : Int)))) []) (0 : Nat) C.ne)))) || ((ByteArray.toList (strOf (List.getD (List.getD (EC.encL ec_74 t22) (Int.toNat t24) []) (0 : Nat) C.ne))) == (ByteArray.toList (strOf (List.getD (List.getD (EC.encL ec_74 b0_2) (Int.toNat (IntKind.wrap .i64 (t24 - (1 : Int)))) []) (0 : Nat) C.ne)))))
 (Option.bind (basic_Fault_s (19 : Int) t24) fun r3 =>
 (some (.inl ((), ((r3).1, (r3).2)))))
 (gdE (EC.isL ec_74 (EC.encL ec_74 t22)) <|
 (gdE (EC.isL ec_74 (EC.encL ec_74 b0_2)) <|
 (classify_Validate_l6 (EC.decL ec_74 (EC.encL ec_74 t22)) t23 (IntKind.wrap .i64 (t24 + (1 : Int))) b0 b0_1 (EC.decL ec_74 (EC.encL ec_74 b0_2)) b1 b1_1))))))
 (gdE (EC.isL ec_74 (EC.encL ec_74 t22)) <|
 (gdE (EC.isL ec_74 (EC.encL ec_74 b0_2)) <|
 (classify_Validate_l6 (EC.decL ec_74 (EC.encL ec_74 t22)) t23 (IntKind.wrap .i64 (t24 + (1 : Int))) b0 b0_1 (EC.decL ec_74 (EC.encL ec_74 b0_2)) b1 b1_1)))))
 (Option.bind (basic_Fault_s (3 : Int) t24) fun r3 =>
 (some (.inl ((), ((r3).1, (r3).2)))))))
 (Option.bind (basic_Fault_s (3 : Int) t24) fun r2 =>
 (some (.inl ((), ((r2).1, (r2).2)))))))))))
 (gdE (EC.isL ec_74 (EC.encL ec_74 t22)) <|
 (gdE (EC.isL ec_74 (EC.encL ec_74 b0_2)) <|
 (some (.inr (((), ((), ((EC.decL ec_74 (EC.encL ec_74 t22)), (t23, (t24, false))))), ((b0, (b0_1, (EC.decL ec_74 (EC.encL ec_74 b0_2)))), (b1, b1_1))))))))
theorem classify_Validate_l6_eq {t22 : (List S74)} {t23 : Int} {t24 : Int} {b0 : Int} {b0_1 : Int} {b0_2 : (List S74)} {b1 : Int} {b1_1 : Int} {r : ((Unit × (Int × Int)) ⊕ ((Unit × Unit × (List S74) × Int × Int × Bool) × ((Int × Int × (List S74)) × (Int × Int))))} (h : classify_Validate_l6_t t22 t23 t24 b0 b0_1 b0_2 b1 b1_1 = some r) : classify_Validate_l6 t22 t23 t24 b0 b0_1 b0_2 b1 b1_1 = some r :=
  lS_tree (es := tab_classify_within) (hs := []) [] (by kernel_rfl) trivial trivial (by kernel_rfl) h
def classify_Validate_l6_e : LEnt Tryz.prog lv X0 26 80 := lentS Tryz.prog lv X0 6 (getLoop (cdF Tryz.f26) 6) classify_Validate_l6_s classify_Validate_l6_o (fun x => classify_Validate_l6 x.1.2.2.1 x.1.2.2.2.1 x.1.2.2.2.2 x.2.1.1 x.2.1.2.1 x.2.1.2.2 x.2.2.1 x.2.2.2) (fun _ _ h => lS_from h)
def classify_Validate_cr : Cod (V × List B) (Int × Int) := (cFstU (cPair (vAgg (lCons (vC (cInt .i64)) (lOne (vC (cInt .i64))))) lNil))
def classify_Validate_s (w_Good : Int) (w_Junk : Int) (w_Tokens : (List S74)) : Option (Int × Int) := fS Tryz.prog lv X0 26 classify_Validate_ca classify_Validate_cr (w_Good, w_Junk, w_Tokens)
def classify_Validate_t (w_Good : Int) (w_Junk : Int) (w_Tokens : (List S74)) : Option (Int × Int) :=
 (Option.bind (classify_within_s w_Good (1000000 : Int)) fun r0 =>
 (brE ((!r0) == false)
 (Option.bind (classify_within_s w_Junk (1000000 : Int)) fun r1 =>
 (brE (!r1)
 (Option.bind (basic_Fault_s (3 : Int) (-(2 : Int))) fun r2 =>
 (some ((r2).1, (r2).2)))
 (brE (decide ((((List.length (EC.encL ec_74 w_Tokens)) : Nat) : Int) > (2000 : Int)))
 (Option.bind (basic_Fault_s (2 : Int) (-(1 : Int))) fun r2 =>
 (some ((r2).1, (r2).2)))
 (gdE (EC.isL ec_74 (EC.encL ec_74 w_Tokens)) <|
 (gdE (EC.isL ec_74 (EC.encL ec_74 w_Tokens)) <|
 (Option.bind (classify_Validate_l6 (EC.decL ec_74 (EC.encL ec_74 w_Tokens)) (((List.length (EC.encL ec_74 w_Tokens)) : Nat) : Int) (0 : Int) w_Good w_Junk (EC.decL ec_74 (EC.encL ec_74 w_Tokens)) (0 : Int) (0 : Int)) fun r2 =>
 (Sum.elim (fun r3 => (some (((r3).2).1, ((r3).2).2)))
 (fun _r3 => (Option.bind basic_None_s fun r4 =>
 (some ((r4).1, (r4).2)))) r2)))))))
 (Option.bind (basic_Fault_s (3 : Int) (-(2 : Int))) fun r1 =>
 (some ((r1).1, (r1).2)))))
theorem classify_Validate_eq {w_Good : Int} {w_Junk : Int} {w_Tokens : (List S74)} {r : (Int × Int)} (h : classify_Validate_t w_Good w_Junk w_Tokens = some r) : classify_Validate_s w_Good w_Junk w_Tokens = some r :=
  fS_tree (es := tab_classify_within) (hs := []) [classify_Validate_l6_e] Tryz.func26 rfl (by kernel_rfl) rfl (by kernel_rfl) (by kernel_rfl) ⟨⟨_, rfl, rfl⟩, trivial⟩ trivial (by kernel_rfl) h
def classify_Validate_e : Ent Tryz.prog lv X0 := entS Tryz.prog lv X0 26 [] classify_Validate_ca classify_Validate_cr (fun x => classify_Validate_s x.1 x.2.1 x.2.2) (fun _ _ h => fS_call h)
def tab_classify_Validate : List (Ent Tryz.prog lv X0) := classify_Validate_e :: tab_classify_within
def ec_9 : EC ByteArray where
  enc x := [.str x]
  dec c := strOf (c.getD 0 .ne)
  is c := isE [.str] 0 c
  enc_dec h := decE_eq h
  dec_enc x := by rfl
  is_enc x := by simp [isE, isK]
theorem enc_9 (x : ByteArray) : ec_9.enc x = [.str x] := rfl
theorem isE_9 (xs : List ByteArray) (n : Nat) : isE [.str] 0 ((ec_9.encL xs).getD n []) = decide (n < xs.length) := by
  by_cases h : n < xs.length
  · simp only [EC.getD_lt _ _ h]; simp [enc_9, isE, isK, h]
  · simp only [EC.getD_ge _ _ (Nat.not_lt.1 h)]; simp [isE, isK, h]
theorem at_9_0 (xs : List ByteArray) (n : Nat) : strOf (((ec_9.encL xs).getD n []).getD 0 .ne) = (xs.getD n (ec_9.dec [])) := by
  by_cases h : n < xs.length
  · simp only [EC.getD_lt _ _ h]; simp [enc_9, h, strOf, List.getD_eq_getElem?_getD]
  · simp only [EC.getD_ge _ _ (Nat.not_lt.1 h)]; simp [Nat.not_lt.1 h, ec_9, strOf, List.getD_eq_getElem?_getD]
def classify_common_ca : Cod (List V) ((Int × Int × (List S74)) × (List ByteArray)) := (lCons (vAgg (lCons (vC (cInt .i64)) (lCons (vC (cInt .i64)) (lOne (vC (cSl ec_74)))))) (lOne (vC (cSl ec_9))))
def classify_common_l7_s : SC (((List ByteArray) × Unit × (List ByteArray) × Int × Int) × (Int × Int)) := sLS [1, 4, 17, 18, 19] (lCons (vC (cSl ec_9)) (lCons (vPtr 0 0) (lCons (vC (cSl ec_9)) (lCons (vC (cInt .i64)) (lOne (vC (cInt .i64))))))) (lOne (oSome (bBox (lCons (vC (cInt .i64)) (lOne (vC (cInt .i64))))))) [false] [] (by decide) (fun _ => rfl)
def classify_common_l7_o2 : SC (((List ByteArray) × Unit × (List ByteArray) × Int × Int × Bool) × (Int × Int)) := sLS [1, 4, 17, 18, 19, 20] (lCons (vC (cSl ec_9)) (lCons (vPtr 0 0) (lCons (vC (cSl ec_9)) (lCons (vC (cInt .i64)) (lCons (vC (cInt .i64)) (lOne (vC cBool))))))) (lOne (oSome (bBox (lCons (vC (cInt .i64)) (lOne (vC (cInt .i64))))))) [false] [] (by decide) (fun _ => rfl)
def classify_common_l7_o1 : SC (Unit × (Int × Int)) := sLS [4] (lOne (vPtr 0 0)) (lOne (oSome (bBox (lCons (vC (cInt .i64)) (lOne (vC (cInt .i64))))))) [false] [] (by decide) (fun _ => rfl)
def classify_common_l7_o : OC ((Unit × (Int × Int)) ⊕ (((List ByteArray) × Unit × (List ByteArray) × Int × Int × Bool) × (Int × Int))) := oOr 1 classify_common_l7_o1 (oAt 2 classify_common_l7_o2) (fun x => (by decide : (2 : Nat) ≠ 1))
def classify_common_l7 (tokens : (List ByteArray)) (t17 : (List ByteArray)) (t18 : Int) (t19 : Int) (b0 : Int) (b0_1 : Int) : Option ((Unit × (Int × Int)) ⊕ (((List ByteArray) × Unit × (List ByteArray) × Int × Int × Bool) × (Int × Int))) := lS Tryz.prog lv X0 18 46 (getLoop (cdF Tryz.f18) 7) classify_common_l7_s classify_common_l7_o ((tokens, (), t17, t18, t19), (b0, b0_1))
def classify_common_l7_t (tokens : (List ByteArray)) (t17 : (List ByteArray)) (t18 : Int) (t19 : Int) (b0 : Int) (b0_1 : Int) : Option ((Unit × (Int × Int)) ⊕ (((List ByteArray) × Unit × (List ByteArray) × Int × Int × Bool) × (Int × Int))) :=
 (brE (decide (t19 < t18))
 (gdE (decide ((0 : Int) ≤ t19)) <|
 (gdE ((decide ((Int.toNat t19) < (List.length (EC.encL ec_9 t17)))) && (isE [K1.str] (0 : Nat) (List.getD (EC.encL ec_9 t17) (Int.toNat t19) []))) <|
 (Option.bind (classify_named_s (strOf (List.getD (List.getD (EC.encL ec_9 t17) (Int.toNat t19) []) (0 : Nat) C.ne))) fun r0 =>
 (brE (!r0)
 (Option.bind (basic_Fault_s (10 : Int) (IntKind.wrap .i64 ((-(10 : Int)) - t19))) fun r1 =>
 (some (.inl ((), ((r1).1, (r1).2)))))
 (brE ((decide (t19 > (0 : Int))) == true)
 (gdE (decide ((0 : Int) ≤ (IntKind.wrap .i64 (t19 - (1 : Int))))) <|
 (gdE ((decide ((Int.toNat (IntKind.wrap .i64 (t19 - (1 : Int)))) < (List.length (EC.encL ec_9 tokens)))) && (isE [K1.str] (0 : Nat) (List.getD (EC.encL ec_9 tokens) (Int.toNat (IntKind.wrap .i64 (t19 - (1 : Int)))) []))) <|
 (brE ((Go.Op.bytesLess (ByteArray.toList (strOf (List.getD (List.getD (EC.encL ec_9 t17) (Int.toNat t19) []) (0 : Nat) C.ne))) (ByteArray.toList (strOf (List.getD (List.getD (EC.encL ec_9 tokens) (Int.toNat (IntKind.wrap .i64 (t19 - (1 : Int)))) []) (0 : Nat) C.ne)))) || ((ByteArray.toList (strOf (List.getD (List.getD (EC.encL ec_9 t17) (Int.toNat t19) []) (0 : Nat) C.ne))) == (ByteArray.toList (strOf (List.getD (List.getD (EC.encL ec_9 tokens) (Int.toNat (IntKind.wrap .i64 (t19 - (1 : Int)))) []) (0 : Nat) C.ne)))))
 (Option.bind (basic_Fault_s (19 : Int) (IntKind.wrap .i64 ((-(10 : Int)) - t19))) fun r1 =>
 (some (.inl ((), ((r1).1, (r1).2)))))
 (gdE (EC.isL ec_9 (EC.encL ec_9 tokens)) <|
 (gdE (EC.isL ec_9 (EC.encL ec_9 t17)) <|
 (classify_common_l7 (EC.decL ec_9 (EC.encL ec_9 tokens)) (EC.decL ec_9 (EC.encL ec_9 t17)) t18 (IntKind.wrap .i64 (t19 + (1 : Int))) b0 b0_1))))))
 (gdE (EC.isL ec_9 (EC.encL ec_9 tokens)) <|
 (gdE (EC.isL ec_9 (EC.encL ec_9 t17)) <|
 (classify_common_l7 (EC.decL ec_9 (EC.encL ec_9 tokens)) (EC.decL ec_9 (EC.encL ec_9 t17)) t18 (IntKind.wrap .i64 (t19 + (1 : Int))) b0 b0_1))))))))
 (gdE (EC.isL ec_9 (EC.encL ec_9 tokens)) <|
 (gdE (EC.isL ec_9 (EC.encL ec_9 t17)) <|
 (some (.inr (((EC.decL ec_9 (EC.encL ec_9 tokens)), ((), ((EC.decL ec_9 (EC.encL ec_9 t17)), (t18, (t19, false))))), (b0, b0_1)))))))
theorem classify_common_l7_eq {tokens : (List ByteArray)} {t17 : (List ByteArray)} {t18 : Int} {t19 : Int} {b0 : Int} {b0_1 : Int} {r : ((Unit × (Int × Int)) ⊕ (((List ByteArray) × Unit × (List ByteArray) × Int × Int × Bool) × (Int × Int)))} (h : classify_common_l7_t tokens t17 t18 t19 b0 b0_1 = some r) : classify_common_l7 tokens t17 t18 t19 b0 b0_1 = some r :=
  lS_tree (es := tab_classify_Validate) (hs := []) [] (by kernel_rfl) trivial trivial (by kernel_rfl) h
def classify_common_l7_e : LEnt Tryz.prog lv X0 18 46 := lentS Tryz.prog lv X0 7 (getLoop (cdF Tryz.f18) 7) classify_common_l7_s classify_common_l7_o (fun x => classify_common_l7 x.1.1 x.1.2.2.1 x.1.2.2.2.1 x.1.2.2.2.2 x.2.1 x.2.2) (fun _ _ h => lS_from h)
def classify_common_cr : Cod (V × List B) (Int × Int) := (cFstU (cPair (vAgg (lCons (vC (cInt .i64)) (lOne (vC (cInt .i64))))) lNil))
def classify_common_s (w_Good : Int) (w_Junk : Int) (w_Tokens : (List S74)) (tokens : (List ByteArray)) : Option (Int × Int) := fS Tryz.prog lv X0 18 classify_common_ca classify_common_cr ((w_Good, w_Junk, w_Tokens), tokens)
def classify_common_t (w_Good : Int) (w_Junk : Int) (w_Tokens : (List S74)) (tokens : (List ByteArray)) : Option (Int × Int) :=
 (gdE (EC.isL ec_74 (EC.encL ec_74 w_Tokens)) <|
 (Option.bind (classify_Validate_s w_Good w_Junk (EC.decL ec_74 (EC.encL ec_74 w_Tokens))) fun r0 =>
 (Option.bind (basic_Failed_s (r0).1 (r0).2) fun r1 =>
 (brE r1
 (some ((r0).1, (r0).2))
 (brE (decide ((((List.length (EC.encL ec_9 tokens)) : Nat) : Int) > (1000 : Int)))
 (Option.bind (basic_Fault_s (2 : Int) (-(3 : Int))) fun r2 =>
 (some ((r2).1, (r2).2)))
 (gdE (EC.isL ec_9 (EC.encL ec_9 tokens)) <|
 (gdE (EC.isL ec_9 (EC.encL ec_9 tokens)) <|
 (Option.bind (classify_common_l7 (EC.decL ec_9 (EC.encL ec_9 tokens)) (EC.decL ec_9 (EC.encL ec_9 tokens)) (((List.length (EC.encL ec_9 tokens)) : Nat) : Int) (0 : Int) (0 : Int) (0 : Int)) fun r2 =>
 (Sum.elim (fun r3 => (some (((r3).2).1, ((r3).2).2)))
 (fun _r3 => (Option.bind basic_None_s fun r4 =>
 (some ((r4).1, (r4).2)))) r2)))))))))
theorem classify_common_eq {w_Good : Int} {w_Junk : Int} {w_Tokens : (List S74)} {tokens : (List ByteArray)} {r : (Int × Int)} (h : classify_common_t w_Good w_Junk w_Tokens tokens = some r) : classify_common_s w_Good w_Junk w_Tokens tokens = some r :=
  fS_tree (es := tab_classify_Validate) (hs := []) [classify_common_l7_e] Tryz.func18 rfl (by kernel_rfl) rfl (by kernel_rfl) (by kernel_rfl) ⟨⟨_, rfl, rfl⟩, trivial⟩ trivial (by kernel_rfl) h
def classify_common_e : Ent Tryz.prog lv X0 := entS Tryz.prog lv X0 18 [] classify_common_ca classify_common_cr (fun x => classify_common_s x.1.1 x.1.2.1 x.1.2.2 x.2) (fun _ _ h => fS_call h)
def tab_classify_common : List (Ent Tryz.prog lv X0) := classify_common_e :: tab_classify_Validate
def classify_find_1_ca : Cod (List V) ((ByteArray × Int × Int) × ByteArray) := (lCons (vAgg (lCons (vC cStr) (lCons (vC (cInt .i64)) (lOne (vC (cInt .i64)))))) (lOne (vC cStr)))
def classify_find_1_cr : Cod (V × List B) Int := (cFstU (cPair (vC (cInt .i64)) lNil))
def classify_find_1_s (t_Text : ByteArray) (t_Good : Int) (t_Junk : Int) (s : ByteArray) : Option Int := fS Tryz.prog lv X0 54 classify_find_1_ca classify_find_1_cr ((t_Text, t_Good, t_Junk), s)
def classify_find_1_t (t_Text : ByteArray) (_t_Good : Int) (_t_Junk : Int) (s : ByteArray) : Option Int :=
 (some (Go.Lib.compareBytes (Array.toList (ByteArray.data t_Text)) (Array.toList (ByteArray.data s))))
theorem classify_find_1_eq {t_Text : ByteArray} {t_Good : Int} {t_Junk : Int} {s : ByteArray} {r : Int} (h : classify_find_1_t t_Text t_Good t_Junk s = some r) : classify_find_1_s t_Text t_Good t_Junk s = some r :=
  fS_tree (es := tab_classify_common) (hs := []) [] Tryz.func54 rfl (by kernel_rfl) rfl (by kernel_rfl) (by kernel_rfl) trivial trivial (by kernel_rfl) h
def classify_find_1_e : Ent Tryz.prog lv X0 := entS Tryz.prog lv X0 54 [] classify_find_1_ca classify_find_1_cr (fun x => classify_find_1_s x.1.1 x.1.2.1 x.1.2.2 x.2) (fun _ _ h => fS_call h)
def tab_classify_find_1 : List (Ent Tryz.prog lv X0) := classify_find_1_e :: tab_classify_common
def bsT_ca : Cod (List V) ((List S74) × ByteArray × Unit) := (lCons (vC (cSl ec_74)) (lCons (vC cStr) (lOne (vFn 54 lNil))))
def bsT_l3_s : SC (((List S74) × ByteArray × Unit × Int × Int × Int) × Unit) := sLS [0, 1, 2, 8, 9, 10] (lCons (vC (cSl ec_74)) (lCons (vC cStr) (lCons (vFn 54 lNil) (lCons (vC (cInt .i64)) (lCons (vC (cInt .i64)) (lOne (vC (cInt .i64)))))))) lNil [] [] (by decide) (fun _ => rfl)
def bsT_l3_o2 : SC (((List S74) × ByteArray × Unit × Int × Int × Int × Bool) × Unit) := sLS [0, 1, 2, 8, 9, 10, 17] (lCons (vC (cSl ec_74)) (lCons (vC cStr) (lCons (vFn 54 lNil) (lCons (vC (cInt .i64)) (lCons (vC (cInt .i64)) (lCons (vC (cInt .i64)) (lOne (vC cBool)))))))) lNil [] [] (by decide) (fun _ => rfl)
def bsT_l3_o : OC (((List S74) × ByteArray × Unit × Int × Int × Int × Bool) × Unit) := oAt 2 bsT_l3_o2
def bsT_l3 (x : (List S74)) (target : ByteArray) (n : Int) (i : Int) (j : Int) : Option (((List S74) × ByteArray × Unit × Int × Int × Int × Bool) × Unit) := lS Tryz.prog lv X0 53 49 (getLoop (cdF Tryz.f53) 3) bsT_l3_s bsT_l3_o ((x, target, (), n, i, j), ())
def bsT_l3_t (x : (List S74)) (target : ByteArray) (n : Int) (i : Int) (j : Int) : Option (((List S74) × ByteArray × Unit × Int × Int × Int × Bool) × Unit) :=
 (brE (decide (i < j))
 (gdE (decide ((0 : Int) ≤ (IntKind.wrap .i64 (Int.fdiv (IntKind.wrap .u64 (IntKind.wrap .i64 (i + j))) ((2 : Int) ^ (Min.min (Int.toNat (1 : Int)) (Go.IntKind.bits Go.IntKind.u64))))))) <|
 (gdE ((decide ((Int.toNat (IntKind.wrap .i64 (Int.fdiv (IntKind.wrap .u64 (IntKind.wrap .i64 (i + j))) ((2 : Int) ^ (Min.min (Int.toNat (1 : Int)) (Go.IntKind.bits Go.IntKind.u64)))))) < (List.length (EC.encL ec_74 x)))) && (isE [K1.str, (K1.int Go.IntKind.i64), (K1.int Go.IntKind.i64)] (0 : Nat) (List.getD (EC.encL ec_74 x) (Int.toNat (IntKind.wrap .i64 (Int.fdiv (IntKind.wrap .u64 (IntKind.wrap .i64 (i + j))) ((2 : Int) ^ (Min.min (Int.toNat (1 : Int)) (Go.IntKind.bits Go.IntKind.u64)))))) []))) <|
 (Option.bind (classify_find_1_s (strOf (List.getD (List.getD (EC.encL ec_74 x) (Int.toNat (IntKind.wrap .i64 (Int.fdiv (IntKind.wrap .u64 (IntKind.wrap .i64 (i + j))) ((2 : Int) ^ (Min.min (Int.toNat (1 : Int)) (Go.IntKind.bits Go.IntKind.u64)))))) []) (0 : Nat) C.ne)) (intOf (List.getD (List.getD (EC.encL ec_74 x) (Int.toNat (IntKind.wrap .i64 (Int.fdiv (IntKind.wrap .u64 (IntKind.wrap .i64 (i + j))) ((2 : Int) ^ (Min.min (Int.toNat (1 : Int)) (Go.IntKind.bits Go.IntKind.u64)))))) []) (1 : Nat) C.ne)) (intOf (List.getD (List.getD (EC.encL ec_74 x) (Int.toNat (IntKind.wrap .i64 (Int.fdiv (IntKind.wrap .u64 (IntKind.wrap .i64 (i + j))) ((2 : Int) ^ (Min.min (Int.toNat (1 : Int)) (Go.IntKind.bits Go.IntKind.u64)))))) []) (2 : Nat) C.ne)) target) fun r0 =>
 (brE (decide (r0 < (0 : Int)))
 (gdE (EC.isL ec_74 (EC.encL ec_74 x)) <|
 (bsT_l3 (EC.decL ec_74 (EC.encL ec_74 x)) target n (IntKind.wrap .i64 ((IntKind.wrap .i64 (Int.fdiv (IntKind.wrap .u64 (IntKind.wrap .i64 (i + j))) ((2 : Int) ^ (Min.min (Int.toNat (1 : Int)) (Go.IntKind.bits Go.IntKind.u64))))) + (1 : Int))) j))
 (gdE (EC.isL ec_74 (EC.encL ec_74 x)) <|
 (bsT_l3 (EC.decL ec_74 (EC.encL ec_74 x)) target n i (IntKind.wrap .i64 (Int.fdiv (IntKind.wrap .u64 (IntKind.wrap .i64 (i + j))) ((2 : Int) ^ (Min.min (Int.toNat (1 : Int)) (Go.IntKind.bits Go.IntKind.u64)))))))))))
 (gdE (EC.isL ec_74 (EC.encL ec_74 x)) <|
 (some (((EC.decL ec_74 (EC.encL ec_74 x)), (target, ((), (n, (i, (j, false)))))), ()))))
theorem bsT_l3_eq {x : (List S74)} {target : ByteArray} {n : Int} {i : Int} {j : Int} {r : (((List S74) × ByteArray × Unit × Int × Int × Int × Bool) × Unit)} (h : bsT_l3_t x target n i j = some r) : bsT_l3 x target n i j = some r :=
  lS_tree (es := tab_classify_find_1) (hs := []) [] (by kernel_rfl) trivial trivial (by kernel_rfl) h
def bsT_l3_e : LEnt Tryz.prog lv X0 53 49 := lentS Tryz.prog lv X0 3 (getLoop (cdF Tryz.f53) 3) bsT_l3_s bsT_l3_o (fun x => bsT_l3 x.1.1 x.1.2.1 x.1.2.2.2.1 x.1.2.2.2.2.1 x.1.2.2.2.2.2) (fun _ _ h => lS_from h)
def bsT_cr : Cod (V × List B) (Int × Bool) := (cFstU (cPair (vTup (lCons (vC (cInt .i64)) (lOne (vC cBool)))) lNil))
def bsT_s (x : (List S74)) (target : ByteArray) : Option (Int × Bool) := fS Tryz.prog lv X0 53 bsT_ca bsT_cr (x, target, ())
def bsT_t (x : (List S74)) (target : ByteArray) : Option (Int × Bool) :=
 (gdE (EC.isL ec_74 (EC.encL ec_74 x)) <|
 (Option.bind (bsT_l3 (EC.decL ec_74 (EC.encL ec_74 x)) target (((List.length (EC.encL ec_74 x)) : Nat) : Int) (0 : Int) (((List.length (EC.encL ec_74 x)) : Nat) : Int)) fun r0 =>
 (brE ((decide (((((((r0).1).2).2).2).2).1 < (((((r0).1).2).2).2).1)) == true)
 (gdE (decide ((0 : Int) ≤ ((((((r0).1).2).2).2).2).1)) <|
 (gdE ((decide ((Int.toNat ((((((r0).1).2).2).2).2).1) < (List.length (EC.encL ec_74 ((r0).1).1)))) && (isE [K1.str, (K1.int Go.IntKind.i64), (K1.int Go.IntKind.i64)] (0 : Nat) (List.getD (EC.encL ec_74 ((r0).1).1) (Int.toNat ((((((r0).1).2).2).2).2).1) []))) <|
 (Option.bind (classify_find_1_s (strOf (List.getD (List.getD (EC.encL ec_74 ((r0).1).1) (Int.toNat ((((((r0).1).2).2).2).2).1) []) (0 : Nat) C.ne)) (intOf (List.getD (List.getD (EC.encL ec_74 ((r0).1).1) (Int.toNat ((((((r0).1).2).2).2).2).1) []) (1 : Nat) C.ne)) (intOf (List.getD (List.getD (EC.encL ec_74 ((r0).1).1) (Int.toNat ((((((r0).1).2).2).2).2).1) []) (2 : Nat) C.ne)) (((r0).1).2).1) fun r1 =>
 (some (((((((r0).1).2).2).2).2).1, (r1 == 0))))))
 (some (((((((r0).1).2).2).2).2).1, false)))))
theorem bsT_eq {x : (List S74)} {target : ByteArray} {r : (Int × Bool)} (h : bsT_t x target = some r) : bsT_s x target = some r :=
  fS_tree (es := tab_classify_find_1) (hs := []) [bsT_l3_e] Tryz.func53 rfl (by kernel_rfl) rfl (by kernel_rfl) (by kernel_rfl) ⟨⟨_, rfl, rfl⟩, trivial⟩ trivial (by kernel_rfl) h
def bsT_e : Ent Tryz.prog lv X0 := entS Tryz.prog lv X0 53 [54] bsT_ca bsT_cr (fun x => bsT_s x.1 x.2.1) (fun _ _ h => fS_call h)
def tab_bsT : List (Ent Tryz.prog lv X0) := bsT_e :: tab_classify_find_1
def classify_find_ca : Cod (List V) ((List S74) × ByteArray) := (lCons (vC (cSl ec_74)) (lOne (vC cStr)))
def classify_find_cr : Cod (V × List B) (Int × Bool) := (cFstU (cPair (vTup (lCons (vC (cInt .i64)) (lOne (vC cBool)))) lNil))
def classify_find_s (l : (List S74)) (s : ByteArray) : Option (Int × Bool) := fS Tryz.prog lv X0 22 classify_find_ca classify_find_cr (l, s)
def classify_find_t (l : (List S74)) (s : ByteArray) : Option (Int × Bool) :=
 (gdE (EC.isL ec_74 (EC.encL ec_74 l)) <|
 (Option.bind (bsT_s (EC.decL ec_74 (EC.encL ec_74 l)) s) fun r0 =>
 (some ((r0).1, (r0).2))))
theorem classify_find_eq {l : (List S74)} {s : ByteArray} {r : (Int × Bool)} (h : classify_find_t l s = some r) : classify_find_s l s = some r :=
  fS_tree (es := tab_bsT) (hs := []) [] Tryz.func22 rfl (by kernel_rfl) rfl (by kernel_rfl) (by kernel_rfl) trivial trivial (by kernel_rfl) h
def classify_find_e : Ent Tryz.prog lv X0 := entS Tryz.prog lv X0 22 [] classify_find_ca classify_find_cr (fun x => classify_find_s x.1 x.2) (fun _ _ h => fS_call h)
def tab_classify_find : List (Ent Tryz.prog lv X0) := classify_find_e :: tab_bsT
def api_Token__ca : Cod (List V) (List S74) := (lOne (vC (cSl ec_74)))
def api_Token__cr : Cod (V × List B) (Nat × (List S74)) := (cPair (vRow 0) (lOne (bRow ec_74)))
def api_Token__s (s : (List S74)) : Option (Nat × (List S74)) := fS Tryz.prog lv X0 21 api_Token__ca api_Token__cr s
def api_Token__t (s : (List S74)) : Option (Nat × (List S74)) :=
 (gdE (!(List.isEmpty (EC.encL ec_74 s))) <|
 (gdE (((List.all (EC.encL ec_74 s) (fun (el : (List C)) => ((List.length el) == (3 : Nat)))) && (decide (((((List.length (EC.encL ec_74 s)) + ((List.length (EC.encL ec_74 s)) / (4 : Nat))) + (192 : Nat)) * (32 : Nat)) ≤ (281474976710656 : Nat)))) && (decide ((List.length (EC.encL ec_74 s)) ≤ (9223372036854775807 : Nat)))) <|
 (gdE (EC.isL ec_74 (EC.encL ec_74 s)) <|
 (some ((List.length (EC.encL ec_74 s)), (EC.decL ec_74 (EC.encL ec_74 s)))))))
theorem api_Token__eq {s : (List S74)} {r : (Nat × (List S74))} (h : api_Token__t s = some r) : api_Token__s s = some r := by
  cases s with
  | nil => exact nomatch (show (none : Option (Nat × (List S74))) = some r from h)
  | cons x xs => exact fS_tree (es := tab_classify_find) (hs := []) [] Tryz.func21 rfl (by kernel_rfl) rfl (by kernel_rfl) (by kernel_rfl) trivial trivial (by kernel_rfl) h
theorem api_Token__nil : api_Token__s [] = some (0, []) := fS_of (r := (0, [])) (by unfold Call callD; rfl)
def api_Token__e : Ent Tryz.prog lv X0 := entS Tryz.prog lv X0 21 [] api_Token__ca api_Token__cr (fun x => api_Token__s x) (fun _ _ h => fS_call h)
def tab_api_Token_ : List (Ent Tryz.prog lv X0) := api_Token__e :: tab_classify_find
def posthouseref5_SameWords_ca : Cod (List V) ((Int × Int × (List S74)) × (Int × Int × (List S74))) := (lCons (vAgg (lCons (vC (cInt .i64)) (lCons (vC (cInt .i64)) (lOne (vC (cSl ec_74)))))) (lOne (vAgg (lCons (vC (cInt .i64)) (lCons (vC (cInt .i64)) (lOne (vC (cSl ec_74))))))))
def posthouseref5_SameWords_l4_s : SC ((Unit × Unit × Int) × ((Int × Int × (List S74)) × (Int × Int × (List S74)))) := sLS [2, 3, 5] (lCons (vPtr 0 0) (lCons (vPtr 1 0) (lOne (vC (cInt .i64))))) (lCons (oSome (bBox (lCons (vC (cInt .i64)) (lCons (vC (cInt .i64)) (lOne (vC (cSl ec_74))))))) (lOne (oSome (bBox (lCons (vC (cInt .i64)) (lCons (vC (cInt .i64)) (lOne (vC (cSl ec_74))))))))) [false, false] [] (by decide) (fun _ => rfl)
def posthouseref5_SameWords_l4_o2 : SC ((Unit × Unit × Int × Bool) × ((Int × Int × (List S74)) × (Int × Int × (List S74)))) := sLS [2, 3, 5, 31] (lCons (vPtr 0 0) (lCons (vPtr 1 0) (lCons (vC (cInt .i64)) (lOne (vC cBool))))) (lCons (oSome (bBox (lCons (vC (cInt .i64)) (lCons (vC (cInt .i64)) (lOne (vC (cSl ec_74))))))) (lOne (oSome (bBox (lCons (vC (cInt .i64)) (lCons (vC (cInt .i64)) (lOne (vC (cSl ec_74))))))))) [false, false] [] (by decide) (fun _ => rfl)
def posthouseref5_SameWords_l4_o1 : SC (Bool × Unit) := sLS [4] (lOne (vC cBool)) lNil [] [] (by decide) (fun _ => rfl)
def posthouseref5_SameWords_l4_o : OC ((Bool × Unit) ⊕ ((Unit × Unit × Int × Bool) × ((Int × Int × (List S74)) × (Int × Int × (List S74))))) := oOr 1 posthouseref5_SameWords_l4_o1 (oAt 2 posthouseref5_SameWords_l4_o2) (fun x => (by decide : (2 : Nat) ≠ 1))
def posthouseref5_SameWords_l4 (i : Int) (b0 : Int) (b0_1 : Int) (b0_2 : (List S74)) (b1 : Int) (b1_1 : Int) (b1_2 : (List S74)) : Option ((Bool × Unit) ⊕ ((Unit × Unit × Int × Bool) × ((Int × Int × (List S74)) × (Int × Int × (List S74))))) := lS Tryz.prog lv X0 9 45 (getLoop (cdF Tryz.f9) 4) posthouseref5_SameWords_l4_s posthouseref5_SameWords_l4_o (((), (), i), ((b0, b0_1, b0_2), (b1, b1_1, b1_2)))
def posthouseref5_SameWords_l4_t (i : Int) (b0 : Int) (b0_1 : Int) (b0_2 : (List S74)) (b1 : Int) (b1_1 : Int) (b1_2 : (List S74)) : Option ((Bool × Unit) ⊕ ((Unit × Unit × Int × Bool) × ((Int × Int × (List S74)) × (Int × Int × (List S74))))) :=
 (brE (decide (i < (((List.length (EC.encL ec_74 b0_2)) : Nat) : Int)))
 (gdE (decide ((0 : Int) ≤ i)) <|
 (gdE ((decide ((Int.toNat i) < (List.length (EC.encL ec_74 b0_2)))) && (isE [K1.str, (K1.int Go.IntKind.i64), (K1.int Go.IntKind.i64)] (0 : Nat) (List.getD (EC.encL ec_74 b0_2) (Int.toNat i) []))) <|
 (gdE (decide ((0 : Int) ≤ i)) <|
 (gdE ((decide ((Int.toNat i) < (List.length (EC.encL ec_74 b1_2)))) && (isE [K1.str, (K1.int Go.IntKind.i64), (K1.int Go.IntKind.i64)] (0 : Nat) (List.getD (EC.encL ec_74 b1_2) (Int.toNat i) []))) <|
 (brE (!(((strOf (List.getD (List.getD (EC.encL ec_74 b0_2) (Int.toNat i) []) (0 : Nat) C.ne)) == (strOf (List.getD (List.getD (EC.encL ec_74 b1_2) (Int.toNat i) []) (0 : Nat) C.ne))) && (((intOf (List.getD (List.getD (EC.encL ec_74 b0_2) (Int.toNat i) []) (1 : Nat) C.ne)) == (intOf (List.getD (List.getD (EC.encL ec_74 b1_2) (Int.toNat i) []) (1 : Nat) C.ne))) && (((intOf (List.getD (List.getD (EC.encL ec_74 b0_2) (Int.toNat i) []) (2 : Nat) C.ne)) == (intOf (List.getD (List.getD (EC.encL ec_74 b1_2) (Int.toNat i) []) (2 : Nat) C.ne))) && true))))
 (some (.inl (false, ())))
 (gdE (EC.isL ec_74 (EC.encL ec_74 b0_2)) <|
 (gdE (EC.isL ec_74 (EC.encL ec_74 b1_2)) <|
 (posthouseref5_SameWords_l4 (IntKind.wrap .i64 (i + (1 : Int))) b0 b0_1 (EC.decL ec_74 (EC.encL ec_74 b0_2)) b1 b1_1 (EC.decL ec_74 (EC.encL ec_74 b1_2))))))))))
 (gdE (EC.isL ec_74 (EC.encL ec_74 b0_2)) <|
 (gdE (EC.isL ec_74 (EC.encL ec_74 b1_2)) <|
 (some (.inr (((), ((), (i, false))), ((b0, (b0_1, (EC.decL ec_74 (EC.encL ec_74 b0_2)))), (b1, (b1_1, (EC.decL ec_74 (EC.encL ec_74 b1_2)))))))))))
theorem posthouseref5_SameWords_l4_eq {i : Int} {b0 : Int} {b0_1 : Int} {b0_2 : (List S74)} {b1 : Int} {b1_1 : Int} {b1_2 : (List S74)} {r : ((Bool × Unit) ⊕ ((Unit × Unit × Int × Bool) × ((Int × Int × (List S74)) × (Int × Int × (List S74)))))} (h : posthouseref5_SameWords_l4_t i b0 b0_1 b0_2 b1 b1_1 b1_2 = some r) : posthouseref5_SameWords_l4 i b0 b0_1 b0_2 b1 b1_1 b1_2 = some r :=
  lS_tree (es := tab_api_Token_) (hs := []) [] (by kernel_rfl) trivial trivial (by kernel_rfl) h
def posthouseref5_SameWords_l4_e : LEnt Tryz.prog lv X0 9 45 := lentS Tryz.prog lv X0 4 (getLoop (cdF Tryz.f9) 4) posthouseref5_SameWords_l4_s posthouseref5_SameWords_l4_o (fun x => posthouseref5_SameWords_l4 x.1.2.2 x.2.1.1 x.2.1.2.1 x.2.1.2.2 x.2.2.1 x.2.2.2.1 x.2.2.2.2) (fun _ _ h => lS_from h)
def posthouseref5_SameWords_cr : Cod (V × List B) Bool := (cFstU (cPair (vC cBool) lNil))
def posthouseref5_SameWords_s (a_Good : Int) (a_Junk : Int) (a_Tokens : (List S74)) (b_Good : Int) (b_Junk : Int) (b_Tokens : (List S74)) : Option Bool := fS Tryz.prog lv X0 9 posthouseref5_SameWords_ca posthouseref5_SameWords_cr ((a_Good, a_Junk, a_Tokens), (b_Good, b_Junk, b_Tokens))
def posthouseref5_SameWords_t (a_Good : Int) (a_Junk : Int) (a_Tokens : (List S74)) (b_Good : Int) (b_Junk : Int) (b_Tokens : (List S74)) : Option Bool :=
 (brE ((a_Good != b_Good) == false)
 (brE ((a_Junk != b_Junk) == false)
 (brE ((((List.length (EC.encL ec_74 a_Tokens)) : Nat) : Int) != (((List.length (EC.encL ec_74 b_Tokens)) : Nat) : Int))
 (some false)
 (gdE (EC.isL ec_74 (EC.encL ec_74 a_Tokens)) <|
 (gdE (EC.isL ec_74 (EC.encL ec_74 b_Tokens)) <|
 (Option.bind (posthouseref5_SameWords_l4 (0 : Int) a_Good a_Junk (EC.decL ec_74 (EC.encL ec_74 a_Tokens)) b_Good b_Junk (EC.decL ec_74 (EC.encL ec_74 b_Tokens))) fun r0 =>
 (Sum.elim (fun r1 => (some (r1).1))
 (fun _r1 => (some true)) r0)))))
 (some false))
 (some false))
theorem posthouseref5_SameWords_eq {a_Good : Int} {a_Junk : Int} {a_Tokens : (List S74)} {b_Good : Int} {b_Junk : Int} {b_Tokens : (List S74)} {r : Bool} (h : posthouseref5_SameWords_t a_Good a_Junk a_Tokens b_Good b_Junk b_Tokens = some r) : posthouseref5_SameWords_s a_Good a_Junk a_Tokens b_Good b_Junk b_Tokens = some r :=
  fS_tree (es := tab_api_Token_) (hs := []) [posthouseref5_SameWords_l4_e] Tryz.func9 rfl (by kernel_rfl) rfl (by kernel_rfl) (by kernel_rfl) ⟨⟨_, rfl, rfl⟩, trivial⟩ trivial (by kernel_rfl) h
def posthouseref5_SameWords_e : Ent Tryz.prog lv X0 := entS Tryz.prog lv X0 9 [] posthouseref5_SameWords_ca posthouseref5_SameWords_cr (fun x => posthouseref5_SameWords_s x.1.1 x.1.2.1 x.1.2.2 x.2.1 x.2.2.1 x.2.2.2) (fun _ _ h => fS_call h)
def tab_posthouseref5_SameWords : List (Ent Tryz.prog lv X0) := posthouseref5_SameWords_e :: tab_api_Token_
end
end Go.Proofs.YtomnbknaanlmaaaGreatDoor
namespace Go.Proofs.YtomnbknaanlmaaaGreatDoor
open Go.RowKit
theorem brE_if {β : Type} (q : Bool) (a b : Option β) : brE q a b = if q = true then a else b := by cases q <;> rfl
theorem gdE_if {β : Type} (q : Bool) (a : Option β) : gdE q a = if q = true then a else none := by cases q <;> rfl
theorem beq_t (q : Bool) : (q == true) = q := by cases q <;> rfl
theorem getD_in {α : Type} {l : List α} {k : Nat} {d : α} (h : k < l.length) : l.getD k d = l[k] := by simp [List.getD_eq_getElem?_getD, h]
theorem drop_at {α : Type} {l : List α} {k : Nat} (h : k < l.length) : l.drop k = l[k] :: l.drop (k + 1) := List.drop_eq_getElem_cons h
theorem fault_s (a b : Int) : basic_Fault_s a b = some (a, b) := basic_Fault_eq rfl
theorem none_s : basic_None_s = some (0, 0) := basic_None_eq rfl
def L (s : ByteArray) : List UInt8 := s.data.toList
theorem BA_ext {a b : ByteArray} (h : L a = L b) : a = b := by
  cases a with | mk x =>
  cases b with | mk y =>
  have : x = y := by simpa [L] using h
  rw [this]
theorem toList_L (s : ByteArray) : s.toList = L s := ByteArray.toList_eq s
theorem wr_in {n : Int} (h : -9223372036854775808 ≤ n ∧ n ≤ 9223372036854775807) : IntKind.i64.wrap n = n := IntWalk.i64_in n h
theorem wr_nat {k n : Nat} (h : k < n) (hn : n ≤ 9223372036854775807) : IntKind.i64.wrap ((k : Int) + 1) = ((k + 1 : Nat) : Int) := by rw [wr_in (by omega)]; rfl
theorem failed_s (a b : Int) : basic_Failed_s a b = some (a != 0) := by
  refine basic_Failed_eq ?_
  simp [basic_Failed_t]
def Ok {α : Type} (o : Option α) (Q : α → Prop) : Prop := ∃ r, o = some r ∧ Q r
theorem ok_some {α : Type} {x : α} {Q : α → Prop} (h : Q x) : Ok (some x) Q := ⟨x, rfl, h⟩
theorem Ok.via {α : Type} {t s : Option α} {Q : α → Prop} (e : ∀ {r}, t = some r → s = some r) (h : Ok t Q) : Ok s Q := by obtain ⟨r, e1, q⟩ := h; exact ⟨r, e e1, q⟩
theorem ok_br {α : Type} {q : Bool} {a b : Option α} {Q : α → Prop} (h1 : q = true → Ok a Q) (h2 : q = false → Ok b Q) : Ok (brE q a b) Q := by
  cases q with
  | true => exact h1 rfl
  | false => exact h2 rfl
theorem ok_gd {α : Type} {q : Bool} {a : Option α} {Q : α → Prop} (hq : q = true) (h : Ok a Q) : Ok (gdE q a) Q := by subst hq; exact h
theorem ok_bind {α β : Type} {o : Option α} {f : α → Option β} {P : α → Prop} {Q : β → Prop} (h : Ok o P) (k : ∀ r, P r → Ok (f r) Q) : Ok (o.bind f) Q := by
  obtain ⟨r, rfl, p⟩ := h
  exact k r p
theorem ok_eq {α : Type} {o : Option α} {x : α} (h : o = some x) : Ok o fun r => r = x := ⟨x, h, rfl⟩
theorem ok_at {α β : Type} {o : Option α} {x : α} {f : α → Option β} {Q : β → Prop} (h : o = some x) (k : Ok (f x) Q) : Ok (o.bind f) Q := by subst h; exact k
end Go.Proofs.YtomnbknaanlmaaaGreatDoor
namespace Go.Proofs.YtomnbknaanlmaaaGreatDoor
open Go.RowKit
theorem lt_irr : ∀ a : List UInt8, Go.Op.bytesLess a a = false
  | [] => rfl
  | x :: a => by
    have h : ¬ x < x := UInt8.lt_irrefl x
    simp [Go.Op.bytesLess, lt_irr a, h]
theorem lt_cons {x y : UInt8} {a b : List UInt8} : Go.Op.bytesLess (x :: a) (y :: b) = true ↔ x < y ∨ (x = y ∧ Go.Op.bytesLess a b = true) := by
  simp [Go.Op.bytesLess]
theorem lt_trans : ∀ {a b c : List UInt8}, Go.Op.bytesLess a b = true → Go.Op.bytesLess b c = true → Go.Op.bytesLess a c = true
  | _, [], _, h, _ => by
    rename_i a c
    cases a <;> simp [Go.Op.bytesLess] at h
  | _, _ :: _, [], _, h => by simp [Go.Op.bytesLess] at h
  | [], _ :: _, _ :: _, _, _ => rfl
  | x :: a, y :: b, z :: c, h1, h2 => by
    rw [lt_cons] at *
    rcases h1 with h1 | ⟨rfl, h1⟩
    · rcases h2 with h2 | ⟨rfl, h2⟩
      · exact .inl (UInt8.lt_trans h1 h2)
      · exact .inl h1
    · rcases h2 with h2 | ⟨rfl, h2⟩
      · exact .inl h2
      · exact .inr ⟨rfl, lt_trans h1 h2⟩
theorem lt_asy {a b : List UInt8} (h : Go.Op.bytesLess a b = true) : Go.Op.bytesLess b a = false := by
  cases h1 : Go.Op.bytesLess b a with
  | false => rfl
  | true => have := lt_trans h h1; rw [lt_irr] at this; cases this
theorem lt_tri : ∀ (a b : List UInt8), Go.Op.bytesLess a b = true ∨ a = b ∨ Go.Op.bytesLess b a = true
  | [], [] => .inr (.inl rfl)
  | [], _ :: _ => .inl rfl
  | _ :: _, [] => .inr (.inr rfl)
  | x :: a, y :: b => by
    simp only [lt_cons]
    by_cases h : x = y
    · subst h
      rcases lt_tri a b with h | h | h
      · exact .inl (.inr ⟨rfl, h⟩)
      · exact .inr (.inl (by rw [h]))
      · exact .inr (.inr (.inr ⟨rfl, h⟩))
    · by_cases h1 : x < y
      · exact .inl (.inl h1)
      · exact .inr (.inr (.inl (UInt8.lt_of_le_of_ne (UInt8.not_lt.1 h1) (Ne.symm h))))
/-- one text comes before another -/
def ltK (a b : List UInt8) : Bool := Go.Op.bytesLess a b
abbrev ky (e : S74) : List UInt8 := L e.Text
def srt (l : List S74) : Prop := l.Pairwise fun a b => ltK (ky a) (ky b) = true
theorem ltK_irr (a : List UInt8) : ltK a a = false := lt_irr a
theorem ltK_ne {a b : List UInt8} (h : ltK a b = true) : a ≠ b := by
  rintro rfl
  rw [ltK_irr] at h; cases h
theorem ltK_of {a b : List UInt8} (h1 : ¬ ltK a b = true) (h2 : a ≠ b) : ltK b a = true := by
  rcases lt_tri a b with h | h | h
  · exact absurd h h1
  · exact absurd h h2
  · exact h
theorem ltK_trans {a b c : List UInt8} (h1 : ltK a b = true) (h2 : ltK b c = true) : ltK a c = true := lt_trans h1 h2
/-- one more: of junk, or of good -/
def ex (x : Bool) : Int × Int := if x then (0, 1) else (1, 0)
def bmp (x : Bool) (e : S74) : S74 := if x then { e with Junk := e.Junk + 1 } else { e with Good := e.Good + 1 }
def dmp (x : Bool) (e : S74) : S74 := if x then { e with Junk := e.Junk - 1 } else { e with Good := e.Good - 1 }
def cn (x : Bool) (e : S74) : Int := if x then e.Junk else e.Good
def gt : List S74 → List UInt8 → Int × Int
  | [], _ => (0, 0)
  | e :: l, s => if ky e = s then (e.Good, e.Junk) else gt l s
def pl (a b : Int × Int) : Int × Int := (a.1 + b.1, a.2 + b.2)
theorem gt_bmp (x : Bool) (e : S74) : ((bmp x e).Good, (bmp x e).Junk) = pl (e.Good, e.Junk) (ex x) := by cases x <;> simp [bmp, pl, ex]
theorem ky_bmp (x : Bool) (e : S74) : ky (bmp x e) = ky e := by cases x <;> rfl
theorem gt_dmp (x : Bool) (e : S74) : pl ((dmp x e).Good, (dmp x e).Junk) (ex x) = (e.Good, e.Junk) := by cases x <;> simp [dmp, pl, ex]
theorem ky_dmp (x : Bool) (e : S74) : ky (dmp x e) = ky e := by cases x <;> rfl
def addT (x : Bool) : List S74 → ByteArray → List S74
  | [], t => [bmp x ⟨t, 0, 0⟩]
  | e :: l, t => if ltK (ky e) (L t) = true then e :: addT x l t else if ky e = L t then bmp x e :: l else bmp x ⟨t, 0, 0⟩ :: e :: l
def subT (x : Bool) : List S74 → ByteArray → Option (List S74)
  | [], _ => none
  | e :: l, t => if ltK (ky e) (L t) = true then (subT x l t).map (e :: ·) else if ky e = L t ∧ cn x e ≠ 0 then some (dmp x e :: l) else none
theorem add_mem (x : Bool) (t : ByteArray) : ∀ {l : List S74} {u : S74}, u ∈ addT x l t → ky u = L t ∨ ∃ v ∈ l, ky u = ky v
  | [], u, h => by
    simp only [addT, List.mem_singleton] at h
    subst h
    exact .inl (by rw [ky_bmp])
  | e :: l, u, h => by
    unfold addT at h
    split at h
    · rcases List.mem_cons.1 h with rfl | h
      · exact .inr ⟨u, by simp, rfl⟩
      · rcases add_mem x t h with h | ⟨v, hv, h⟩
        · exact .inl h
        · exact .inr ⟨v, by simp [hv], h⟩
    · split at h
      · rename_i he
        rcases List.mem_cons.1 h with rfl | h
        · exact .inl (by rw [ky_bmp, he])
        · exact .inr ⟨u, by simp [h], rfl⟩
      · rcases List.mem_cons.1 h with rfl | h
        · exact .inl (by rw [ky_bmp])
        · exact .inr ⟨u, h, rfl⟩
theorem srt_add (x : Bool) (t : ByteArray) : ∀ {l : List S74}, srt l → srt (addT x l t)
  | [], _ => List.pairwise_singleton _ _
  | e :: l, h => by
    obtain ⟨h1, h2⟩ := List.pairwise_cons.1 h
    unfold addT
    split
    · rename_i hlt
      refine List.pairwise_cons.2 ⟨fun u hu => ?_, srt_add x t h2⟩
      rcases add_mem x t hu with hu | ⟨v, hv, hu⟩
      · rw [hu]; exact hlt
      · rw [hu]; exact h1 v hv
    · rename_i hlt
      split
      · refine List.pairwise_cons.2 ⟨fun u hu => ?_, h2⟩
        rw [ky_bmp]; exact h1 u hu
      · rename_i hne
        have ht := ltK_of hlt hne
        refine List.pairwise_cons.2 ⟨fun u hu => ?_, h⟩
        rw [ky_bmp]
        rcases List.mem_cons.1 hu with rfl | hu
        · exact ht
        · exact ltK_trans ht (h1 u hu)
theorem gt_lt {s : List UInt8} : ∀ {l : List S74}, (∀ e ∈ l, ltK s (ky e) = true) → gt l s = (0, 0)
  | [], _ => rfl
  | e :: l, h => by
    unfold gt
    rw [if_neg (fun he => ltK_ne (h e (by simp)) he.symm)]
    exact gt_lt fun u hu => h u (by simp [hu])
theorem gt_add (x : Bool) (t : ByteArray) (s : List UInt8) : ∀ {l : List S74}, srt l → gt (addT x l t) s = if s = L t then pl (gt l s) (ex x) else gt l s
  | [], _ => by
    simp only [addT, gt, ky_bmp]
    by_cases h : s = L t
    · subst h
      rw [if_pos rfl, if_pos rfl, gt_bmp]
    · rw [if_neg (fun he : L t = s => h he.symm), if_neg h]
  | e :: l, h => by
    obtain ⟨h1, h2⟩ := List.pairwise_cons.1 h
    unfold addT
    split
    · rename_i hlt
      simp only [gt]
      by_cases he : ky e = s
      · rw [if_pos he, if_pos he, if_neg]
        rintro rfl
        exact ltK_ne hlt he
      · rw [if_neg he, if_neg he]
        exact gt_add x t s h2
    · rename_i hlt
      split
      · rename_i hq
        simp only [gt, ky_bmp]
        by_cases he : ky e = s
        · rw [if_pos he, if_pos he, if_pos (he.symm.trans hq), gt_bmp]
        · rw [if_neg he, if_neg he, if_neg (fun hs => he (hq.trans hs.symm))]
      · rename_i hne
        have ht := ltK_of hlt hne
        have hz : gt (e :: l) (L t) = (0, 0) := gt_lt fun u hu => by
          rcases List.mem_cons.1 hu with rfl | hu
          · exact ht
          · exact ltK_trans ht (h1 u hu)
        by_cases hs : s = L t
        · subst hs
          rw [if_pos rfl, hz]
          show (if ky (bmp x ⟨t, 0, 0⟩) = L t then _ else _) = _
          rw [if_pos (ky_bmp x _), gt_bmp]
        · rw [if_neg hs]
          show (if ky (bmp x ⟨t, 0, 0⟩) = s then _ else _) = _
          rw [if_neg (fun h => hs (by rw [← h, ky_bmp]))]
theorem sub_mem (x : Bool) (t : ByteArray) : ∀ {l m : List S74}, subT x l t = some m → m.map ky = l.map ky
  | [], _, h => by cases h
  | e :: l, m, h => by
    unfold subT at h
    split at h
    · cases hm : subT x l t with
      | none => rw [hm] at h; cases h
      | some r =>
        rw [hm] at h
        injection h with h
        subst h
        simp only [List.map_cons, sub_mem x t hm]
    · split at h
      · injection h with h
        subst h
        simp only [List.map_cons, ky_dmp]
      · cases h
theorem srt_ky {l m : List S74} (h : m.map ky = l.map ky) (hl : srt l) : srt m := by
  have : (m.map ky).Pairwise fun a b => ltK a b = true := by rw [h]; exact List.pairwise_map.2 hl
  exact List.pairwise_map.1 this
theorem gt_sub (x : Bool) (t : ByteArray) (s : List UInt8) : ∀ {l m : List S74}, srt l → subT x l t = some m → gt l s = if s = L t then pl (gt m s) (ex x) else gt m s
  | [], _, _, h => by cases h
  | e :: l, m, hs, h => by
    obtain ⟨h1, h2⟩ := List.pairwise_cons.1 hs
    unfold subT at h
    split at h
    · rename_i hlt
      cases hm : subT x l t with
      | none => rw [hm] at h; cases h
      | some r =>
        rw [hm] at h
        injection h with h
        subst h
        simp only [gt]
        by_cases he : ky e = s
        · rw [if_pos he, if_pos he, if_neg]
          rintro rfl
          exact ltK_ne hlt he
        · rw [if_neg he, if_neg he]
          exact gt_sub x t s h2 hm
    · split at h
      · rename_i hlt hq
        injection h with h
        subst h
        simp only [gt, ky_dmp]
        by_cases he : ky e = s
        · rw [if_pos he, if_pos he, if_pos (he.symm.trans hq.1), gt_dmp]
        · rw [if_neg he, if_neg he, if_neg (fun hs => he (hq.1.trans hs.symm))]
      · cases h
/-- a component -/
def cp (x : Bool) (p : Int × Int) : Int := if x then p.2 else p.1
theorem sub_some (x : Bool) (t : ByteArray) : ∀ {l : List S74}, srt l → cp x (gt l (L t)) ≠ 0 → ∃ m, subT x l t = some m
  | [], _, h => by cases x <;> exact absurd rfl h
  | e :: l, hs, h => by
    obtain ⟨h1, h2⟩ := List.pairwise_cons.1 hs
    unfold subT
    by_cases hlt : ltK (ky e) (L t) = true
    · rw [if_pos hlt]
      have : gt (e :: l) (L t) = gt l (L t) := by simp only [gt]; rw [if_neg (ltK_ne hlt)]
      rw [this] at h
      obtain ⟨m, hm⟩ := sub_some x t h2 h
      rw [hm]
      exact ⟨_, rfl⟩
    · rw [if_neg hlt]
      by_cases he : ky e = L t
      · refine ⟨_, if_pos ⟨he, ?_⟩⟩
        simp only [gt, if_pos he] at h
        cases x <;> exact h
      · have ht := ltK_of hlt he
        have : gt (e :: l) (L t) = (0, 0) := gt_lt fun u hu => by
          rcases List.mem_cons.1 hu with rfl | hu
          · exact ht
          · exact ltK_trans ht (h1 u hu)
        rw [this] at h
        cases x <;> exact absurd rfl h
def nz (e : S74) : Prop := (e.Good, e.Junk) ≠ (0, 0)
/-- lists in order with the same numbers are the same -/
theorem gt_ext : ∀ {l m : List S74}, srt l → srt m → (∀ e ∈ l, nz e) → (∀ e ∈ m, nz e) → (∀ s, gt l s = gt m s) → l = m
  | [], [], _, _, _, _, _ => rfl
  | [], b :: m, _, _, _, n2, h => by
    have := h (ky b)
    simp only [gt, if_pos] at this
    exact absurd this.symm (n2 b (by simp))
  | a :: l, [], _, _, n1, _, h => by
    have := h (ky a)
    simp only [gt, if_pos] at this
    exact absurd this (n1 a (by simp))
  | a :: l, b :: m, s1, s2, n1, n2, h => by
    obtain ⟨a1, a2⟩ := List.pairwise_cons.1 s1
    obtain ⟨b1, b2⟩ := List.pairwise_cons.1 s2
    have hk : ky a = ky b := by
      rcases lt_tri (ky a) (ky b) with q | q | q
      · have e1 := h (ky a)
        rw [gt_lt (l := b :: m) (fun u hu => by
          rcases List.mem_cons.1 hu with rfl | hu
          · exact q
          · exact ltK_trans q (b1 u hu))] at e1
        simp only [gt, if_pos] at e1
        exact absurd e1 (n1 a (by simp))
      · exact q
      · have e1 := h (ky b)
        rw [gt_lt (l := a :: l) (fun u hu => by
          rcases List.mem_cons.1 hu with rfl | hu
          · exact q
          · exact ltK_trans q (a1 u hu))] at e1
        simp only [gt, if_pos] at e1
        exact absurd e1.symm (n2 b (by simp))
    have e0 := h (ky a)
    simp only [gt, if_pos, if_pos hk.symm] at e0
    have hab : a = b := by
      obtain ⟨t, g, j⟩ := a
      obtain ⟨t', g', j'⟩ := b
      have := BA_ext hk
      subst this
      injection e0 with e1 e2
      subst e1 e2
      rfl
    subst hab
    rw [gt_ext a2 b2 (fun e he => n1 e (by simp [he])) (fun e he => n2 e (by simp [he])) (fun s => ?_)]
    by_cases hs : ky a = s
    · subst hs
      rw [gt_lt a1, gt_lt b1]
    · have := h s
      simpa only [gt, if_neg hs] using this
def learn (x : Bool) (l : List S74) (k : List ByteArray) : List S74 := k.foldl (addT x) l
def forget (x : Bool) : List S74 → List ByteArray → Option (List S74)
  | l, [] => some l
  | l, t :: k => (subT x l t).bind fun m => forget x m k
/-- how often a text occurs -/
def oc (s : List UInt8) : List ByteArray → Int
  | [] => 0
  | t :: k => (if s = L t then 1 else 0) + oc s k
theorem oc_cons (s : List UInt8) (t : ByteArray) (k : List ByteArray) : oc s (t :: k) = (if s = L t then 1 else 0) + oc s k := rfl
def ml (n : Int) (p : Int × Int) : Int × Int := (n * p.1, n * p.2)
theorem oc_nn (s : List UInt8) : ∀ k, 0 ≤ oc s k
  | [] => by simp [oc]
  | t :: k => by
    have := oc_nn s k
    rw [oc_cons]
    split <;> omega
theorem srt_learn (x : Bool) : ∀ (k : List ByteArray) {l : List S74}, srt l → srt (learn x l k)
  | [], _, h => h
  | t :: k, _, h => srt_learn x k (srt_add x t h)
theorem gt_learn (x : Bool) (s : List UInt8) : ∀ (k : List ByteArray) {l : List S74}, srt l → gt (learn x l k) s = pl (gt l s) (ml (oc s k) (ex x))
  | [], l, _ => by simp [learn, oc, ml, pl]
  | t :: k, l, h => by
    have := gt_learn x s k (srt_add x t h)
    have e : learn x l (t :: k) = learn x (addT x l t) k := rfl
    rw [e, this, gt_add x t s h]
    rw [oc_cons]
    split <;> (simp only [pl, ml, Prod.mk.injEq]; constructor <;> simp [Int.add_mul] <;> omega)
theorem forget_ok (x : Bool) : ∀ (k : List ByteArray) {l : List S74}, srt l → (∀ s, 0 ≤ cp x (gt l s) - oc s k) → ∃ m, forget x l k = some m ∧ m.map ky = l.map ky ∧ ∀ s, gt l s = pl (gt m s) (ml (oc s k) (ex x))
  | [], l, _, _ => ⟨l, rfl, rfl, fun s => by simp [oc, ml, pl]⟩
  | t :: k, l, h, hp => by
    have h0 := hp (L t)
    have h1 := oc_nn (L t) k
    rw [oc_cons, if_pos rfl] at h0
    obtain ⟨m, hm⟩ := sub_some x t h (by omega)
    have hk := sub_mem x t hm
    have hs := srt_ky hk h
    obtain ⟨r, hr, hkr, hg⟩ := forget_ok x k hs (fun s => by
      have q := hp s
      have g := gt_sub x t s h hm
      rw [oc_cons] at q
      by_cases he : s = L t
      · rw [if_pos he] at q g
        rw [g] at q
        cases x <;> simp only [cp, pl, ex, if_true, Bool.false_eq_true, if_false] at q ⊢ <;> omega
      · rw [if_neg he] at q g
        rw [g] at q
        omega)
    refine ⟨r, by unfold forget; rw [hm]; exact hr, hkr.trans hk, fun s => ?_⟩
    have g := gt_sub x t s h hm
    rw [g, hg s]
    rw [oc_cons]
    split <;> (simp only [pl, ml, Prod.mk.injEq]; constructor <;> simp [Int.add_mul] <;> omega)
def nzB (e : S74) : Bool := e.Good + e.Junk != 0
theorem gt_filter (s : List UInt8) : ∀ {l : List S74}, srt l → (∀ e ∈ l, 0 ≤ e.Good ∧ 0 ≤ e.Junk) → gt (l.filter nzB) s = gt l s
  | [], _, _ => rfl
  | e :: l, h, hn => by
    obtain ⟨h1, h2⟩ := List.pairwise_cons.1 h
    have ih := gt_filter s h2 (fun u hu => hn u (by simp [hu]))
    rw [List.filter_cons]
    split
    · simp only [gt, ih]
    · rename_i hz
      have hz : e.Good + e.Junk = 0 := by simpa [nzB] using hz
      have := hn e (by simp)
      rw [ih]
      simp only [gt]
      by_cases he : ky e = s
      · subst he
        rw [if_pos rfl, gt_lt h1]
        exact Prod.ext (by simp only; omega) (by simp only; omega)
      · rw [if_neg he]
theorem gt_mem : ∀ {l : List S74}, srt l → ∀ e ∈ l, gt l (ky e) = (e.Good, e.Junk)
  | a :: l, h, e, he => by
    obtain ⟨h1, h2⟩ := List.pairwise_cons.1 h
    rcases List.mem_cons.1 he with rfl | he
    · simp only [gt, if_true]
    · simp only [gt]
      rw [if_neg (ltK_ne (h1 e he)), gt_mem h2 e he]
/-- numbers within bounds -/
structure Bd (l : List S74) (G J : Int) : Prop where
  g0 : 0 ≤ G
  j0 : 0 ≤ J
  all : ∀ e ∈ l, 0 ≤ e.Good ∧ e.Good ≤ G ∧ 0 ≤ e.Junk ∧ e.Junk ≤ J ∧ e.Good + e.Junk ≠ 0
theorem gt_bd {l : List S74} {G J : Int} (h0 : 0 ≤ G ∧ 0 ≤ J) (h : ∀ e ∈ l, 0 ≤ e.Good ∧ e.Good ≤ G ∧ 0 ≤ e.Junk ∧ e.Junk ≤ J ∧ e.Good + e.Junk ≠ 0) (s : List UInt8) : 0 ≤ (gt l s).1 ∧ (gt l s).1 ≤ G ∧ 0 ≤ (gt l s).2 ∧ (gt l s).2 ≤ J := by
  induction l with
  | nil => exact ⟨by simp [gt], h0.1, by simp [gt], h0.2⟩
  | cons e l ih =>
    unfold gt
    split
    · obtain ⟨a, b, c, d, _⟩ := h e (by simp)
      exact ⟨a, b, c, d⟩
    · exact ih fun u hu => h u (by simp [hu])
def ps (e : S74) : Prop := 0 ≤ e.Good ∧ 0 ≤ e.Junk ∧ e.Good + e.Junk ≠ 0
theorem ps_bmp (x : Bool) {e : S74} (h : 0 ≤ e.Good ∧ 0 ≤ e.Junk) : ps (bmp x e) := by
  obtain ⟨a, b⟩ := h
  cases x <;> simp only [ps, bmp, if_true, Bool.false_eq_true, if_false] <;> refine ⟨?_, ?_, ?_⟩ <;> omega
theorem ps_add (x : Bool) (t : ByteArray) : ∀ {l : List S74}, (∀ e ∈ l, ps e) → ∀ e ∈ addT x l t, ps e
  | [], _, e, he => by
    simp only [addT, List.mem_singleton] at he
    subst he
    exact ps_bmp x ⟨by simp, by simp⟩
  | a :: l, h, e, he => by
    have ha := h a (by simp)
    unfold addT at he
    split at he
    · rcases List.mem_cons.1 he with rfl | he
      · exact ha
      · exact ps_add x t (fun u hu => h u (by simp [hu])) e he
    · split at he
      · rcases List.mem_cons.1 he with rfl | he
        · exact ps_bmp x ⟨ha.1, ha.2.1⟩
        · exact h e (by simp [he])
      · rcases List.mem_cons.1 he with rfl | he
        · exact ps_bmp x ⟨by simp, by simp⟩
        · exact h e he
theorem ps_learn (x : Bool) : ∀ (k : List ByteArray) {l : List S74}, (∀ e ∈ l, ps e) → ∀ e ∈ learn x l k, ps e
  | [], _, h => h
  | t :: k, _, h => ps_learn x k (ps_add x t h)
def srtK (k : List ByteArray) : Prop := k.Pairwise fun a b => ltK (L a) (L b) = true
theorem oc_lt {s : List UInt8} : ∀ {k : List ByteArray}, (∀ t ∈ k, ltK s (L t) = true) → oc s k = 0
  | [], _ => rfl
  | t :: k, h => by
    rw [oc_cons, if_neg (ltK_ne (h t (by simp))), oc_lt fun u hu => h u (by simp [hu])]
    rfl
theorem oc_le (s : List UInt8) : ∀ {k : List ByteArray}, srtK k → oc s k ≤ 1
  | [], _ => by simp [oc]
  | t :: k, h => by
    obtain ⟨h1, h2⟩ := List.pairwise_cons.1 h
    rw [oc_cons]
    split
    · rename_i he
      rw [oc_lt (by rw [he]; exact h1)]
      omega
    · have := oc_le s h2
      omega
/-- one more message -/
def up (x : Bool) (G J : Int) : Int × Int := if x then (G, J + 1) else (G + 1, J)
theorem bd_learn (x : Bool) {k : List ByteArray} {l : List S74} {G J : Int} (hk : srtK k) (hs : srt l) (h : Bd l G J) : Bd (learn x l k) (up x G J).1 (up x G J).2 := by
  obtain ⟨g0, j0, ha⟩ := h
  refine ⟨by cases x <;> simp only [up, if_true, Bool.false_eq_true, if_false] <;> omega, by cases x <;> simp only [up, if_true, Bool.false_eq_true, if_false] <;> omega, fun e he => ?_⟩
  have hp := ps_learn x k (l := l) (fun u hu => ⟨(ha u hu).1, (ha u hu).2.2.1, (ha u hu).2.2.2.2⟩) e he
  have h1 := gt_mem (srt_learn x k hs) e he
  rw [gt_learn x _ k hs] at h1
  obtain ⟨q1, q2, q3, q4⟩ := gt_bd ⟨g0, j0⟩ ha (ky e)
  have o1 := oc_le (ky e) hk
  have o0 := oc_nn (ky e) k
  obtain ⟨p1, p2, p3⟩ := hp
  injection h1 with h1 h2
  refine ⟨p1, ?_, p2, ?_, p3⟩
  · rw [← h1]
    cases x <;> simp only [ml, ex, up, if_true, Bool.false_eq_true, if_false] <;> omega
  · rw [← h2]
    cases x <;> simp only [ml, ex, up, if_true, Bool.false_eq_true, if_false] <;> omega
theorem forget_learn (x y : Bool) {k l : List ByteArray} {w : List S74} (hs : srt w) (hp : ∀ e ∈ w, ps e) :
    ∃ m, forget x (learn y (learn x w k) l) k = some m ∧ m.filter nzB = learn y w l := by
  have s1 := srt_learn x k hs
  have s2 := srt_learn y l s1
  have s3 := srt_learn y l hs
  have p2 := ps_learn y l (ps_learn x k hp)
  have hb : ∀ s, gt (learn y (learn x w k) l) s = pl (pl (gt w s) (ml (oc s k) (ex x))) (ml (oc s l) (ex y)) := fun s => by rw [gt_learn y s l s1, gt_learn x s k hs]
  have hw : ∀ s, 0 ≤ (gt w s).1 ∧ 0 ≤ (gt w s).2 := by
    intro s
    clear hb p2 s3 s2 s1
    induction w with
    | nil => simp [gt]
    | cons e w ih =>
      unfold gt
      split
      · exact ⟨(hp e (by simp)).1, (hp e (by simp)).2.1⟩
      · exact ih (List.pairwise_cons.1 hs).2 fun u hu => hp u (by simp [hu])
  obtain ⟨m, hm, hk, hg⟩ := forget_ok x k s2 (fun s => by
    rw [hb s]
    have a := oc_nn s l
    have b := hw s
    cases x <;> cases y <;> simp only [cp, pl, ml, ex, if_true, Bool.false_eq_true, if_false] <;> omega)
  refine ⟨m, hm, ?_⟩
  have sm := srt_ky hk s2
  have hgm : ∀ s, gt m s = gt (learn y w l) s := fun s => by
    have h1 := hg s
    rw [hb s] at h1
    rw [gt_learn y s l hs]
    injection h1 with h1 h2
    simp only [pl] at h1 h2
    exact Prod.ext (by simp only [pl]; omega) (by simp only [pl]; omega)
  have nnm : ∀ e ∈ m, 0 ≤ e.Good ∧ 0 ≤ e.Junk := fun e he => by
    have h1 := gt_mem sm e he
    rw [hgm, gt_learn y _ l hs] at h1
    have a := oc_nn (ky e) l
    have b := hw (ky e)
    injection h1 with h1 h2
    rw [← h1, ← h2]
    cases y <;> simp only [ml, ex, if_true, Bool.false_eq_true, if_false] <;> omega
  refine gt_ext (List.Pairwise.filter _ sm) s3 (fun e he h => ?_) (fun e he h => ?_) (fun s => by rw [gt_filter s sm nnm, hgm])
  · have := (List.mem_filter.1 he).2
    injection h with h1 h2
    simp only [nzB, h1, h2] at this
    cases this
  · have := (ps_learn y l hp e he).2.2
    injection h with h1 h2
    omega
end Go.Proofs.YtomnbknaanlmaaaGreatDoor
namespace Go.Proofs.YtomnbknaanlmaaaGreatDoor
open Go.RowKit
def namB (s : ByteArray) : Bool := decide (1 ≤ s.size) && decide (s.size ≤ 200)
theorem named_s (s : ByteArray) : classify_named_s s = some (namB s) := by
  refine classify_named_eq ?_
  have e1 : decide (((s.size : Nat) : Int) ≥ 1) = decide (1 ≤ s.size) := decide_eq_decide.2 (by omega)
  have e2 : decide (((s.size : Nat) : Int) ≤ 200) = decide (s.size ≤ 200) := decide_eq_decide.2 (by omega)
  simp only [classify_named_t, brE_if, namB, e1, e2]
  cases decide (1 ≤ s.size) <;> simp
def inB (n m : Int) : Bool := decide (0 ≤ n) && decide (n ≤ m)
theorem within_s (n m : Int) : classify_within_s n m = some (inB n m) := by
  refine classify_within_eq ?_
  simp only [classify_within_t, brE_if, inB]
  by_cases h1 : 0 ≤ n <;> by_cases h2 : n ≤ m <;> simp [h1, h2]
/-- what is wrong with a token: 0 if nothing is -/
def badE (G J : Int) (e : S74) : Int := if namB e.Text = true then (if inB e.Good G = true ∧ inB e.Junk J = true ∧ IntKind.i64.wrap (e.Good + e.Junk) ≠ 0 then 0 else 3) else 10
/-- two texts are not in order -/
def notLt (a b : ByteArray) : Bool := !(ltK (L a) (L b))
def vL (G J : Int) (T : List S74) : Nat → Nat → Int × Int
  | 0, _ => (0, 0)
  | m + 1, k => if badE G J (T.getD k ⟨⟨#[]⟩, 0, 0⟩) ≠ 0 then (badE G J (T.getD k ⟨⟨#[]⟩, 0, 0⟩), k)
    else if 0 < k ∧ notLt (T.getD (k - 1) ⟨⟨#[]⟩, 0, 0⟩).Text (T.getD k ⟨⟨#[]⟩, 0, 0⟩).Text = true then (19, k) else vL G J T m (k + 1)
theorem le_lt (a b : ByteArray) : (Go.Op.bytesLess (ByteArray.toList a) (ByteArray.toList b) || (ByteArray.toList a == ByteArray.toList b)) = notLt b a := by
  rw [toList_L, toList_L]
  unfold notLt ltK
  rcases lt_tri (L a) (L b) with h | h | h
  · rw [h, lt_asy h]; rfl
  · rw [h, lt_irr]; simp
  · rw [h, lt_asy h]
    have : L a ≠ L b := fun e => by rw [e, lt_irr] at h; cases h
    simp [this]
theorem val_loop (G J : Int) (T : List S74) (hT : T.length ≤ 2000) : ∀ (m k : Nat), k + m = T.length →
    (vL G J T m k).1 ≠ 0 ∧ classify_Validate_l6 T (T.length : Int) (k : Int) G J T 0 0 = some (.inl ((), vL G J T m k)) ∨
    vL G J T m k = (0, 0) ∧ ∃ r, classify_Validate_l6 T (T.length : Int) (k : Int) G J T 0 0 = some (.inr r) := by
  intro m
  induction m with
  | zero =>
    intro k hk
    have hk : k = T.length := by omega
    subst hk
    have : ∃ r, classify_Validate_l6_t T (T.length : Int) (T.length : Int) G J T 0 0 = some (.inr r) := by
      simp only [classify_Validate_l6_t, brE_if, gdE_if, EC.decL_encL, EC.isL_encL, EC.encL_length, isE_74, at_74_0, at_74_1, at_74_2, Int.lt_irrefl, decide_false, Bool.false_eq_true, if_false, if_true]
      exact ⟨_, rfl⟩
    obtain ⟨r, hr⟩ := this
    exact .inr ⟨rfl, r, classify_Validate_l6_eq hr⟩
  | succ m ih =>
    intro k hk
    have hlt : k < T.length := by omega
    have e1 : decide ((k : Int) < (T.length : Int)) = true := by simp; omega
    have e0 : decide ((0 : Int) ≤ (k : Int)) = true := by simp
    have e2 : IntKind.i64.wrap ((k : Int) + 1) = ((k + 1 : Nat) : Int) := wr_nat hlt (by omega)
    have hd2 : decide (k < T.length) = true := by simp [hlt]
    have hg : ∀ d, T.getD k d = T[k] := fun d => getD_in hlt
    have key : ∀ x, classify_Validate_l6_t T (T.length : Int) (k : Int) G J T 0 0 = some x → classify_Validate_l6 T (T.length : Int) (k : Int) G J T 0 0 = some x := fun x h => classify_Validate_l6_eq h
    simp only [classify_Validate_l6_t, brE_if, gdE_if, EC.decL_encL, EC.isL_encL, EC.encL_length, isE_74, at_74_0, at_74_1, at_74_2, e1, e0, if_true, Int.toNat_natCast, hd2, hg, named_s, within_s, fault_s, Option.bind_some, Bool.and_true] at key
    simp only [vL, hg, badE]
    have ih := ih (k + 1) (by omega)
    rw [← e2] at ih
    generalize T[k] = e at *
    cases h1 : namB e.Text with
    | false =>
      left
      rw [h1] at key
      refine ⟨by simp, key _ (by simp)⟩
    | true =>
      rw [h1] at key
      cases h2 : inB e.Good G with
      | false =>
        left
        rw [h2] at key
        refine ⟨by simp, key _ (by simp)⟩
      | true =>
        rw [h2] at key
        cases h3 : inB e.Junk J with
        | false =>
          left
          rw [h3] at key
          refine ⟨by simp, key _ (by simp)⟩
        | true =>
          rw [h3] at key
          by_cases h4 : IntKind.i64.wrap (e.Good + e.Junk) = 0
          · left
            refine ⟨by simp [h4], key _ (by simp [h4])⟩
          · rcases Nat.eq_zero_or_pos k with hk0 | hk0
            · subst hk0
              have hq := fun x h => key x h
              rcases ih with ⟨i1, i2⟩ | ⟨i1, r, i2⟩
              · left
                refine ⟨by simpa [h4] using i1, hq _ ?_⟩
                simp [h4]
                simpa using i2
              · right
                refine ⟨by simpa [h4] using i1, r, hq _ ?_⟩
                simp [h4]
                simpa using i2
            · have e3 : IntKind.i64.wrap ((k : Int) - 1) = ((k - 1 : Nat) : Int) := by rw [wr_in (by omega)]; omega
              have e4 : decide ((k : Int) > 0) = true := by simp; omega
              have e5 : decide ((0 : Int) ≤ ((k - 1 : Nat) : Int)) = true := by simp
              have hl2 : k - 1 < T.length := by omega
              have hd3 : decide (k - 1 < T.length) = true := by simp [hl2]
              have hg1 : ∀ d, T.getD (k - 1) d = T[k - 1] := fun d => getD_in hl2
              simp only [e3, e4, e5, hd3, hg1, Int.toNat_natCast, le_lt, if_true] at key
              simp only [hg1]
              generalize T[k - 1] = e' at *
              have key2 := key
              cases ho : notLt e'.Text e.Text with
              | true =>
                left
                refine ⟨by simp [h4, hk0], key2 _ (by simp [h4, ho, hk0])⟩
              | false =>
                rcases ih with ⟨i1, i2⟩ | ⟨i1, r, i2⟩
                · left
                  refine ⟨by simpa [h4, hk0] using i1, key2 _ ?_⟩
                  simp [h4, ho, hk0]
                  simpa using i2
                · right
                  refine ⟨by simpa [h4, hk0] using i1, r, key2 _ ?_⟩
                  simp [h4, ho]
                  simpa using i2
/-- what Validate answers -/
def valF (G J : Int) (T : List S74) : Int × Int := if inB G 1000000 = true ∧ inB J 1000000 = true then (if T.length ≤ 2000 then vL G J T T.length 0 else (2, -1)) else (3, -2)
theorem validate_s (G J : Int) (T : List S74) : classify_Validate_s G J T = some (valF G J T) := by
  refine classify_Validate_eq ?_
  unfold valF
  simp only [classify_Validate_t, brE_if, gdE_if, EC.decL_encL, EC.isL_encL, EC.encL_length, within_s, fault_s, none_s, Option.bind_some, if_true]
  cases hG : inB G 1000000 with
  | false => simp
  | true =>
    cases hJ : inB J 1000000 with
    | false => simp
    | true =>
      by_cases hT : T.length ≤ 2000
      · have e1 : decide ((T.length : Int) > 2000) = false := by simp; omega
        have h := val_loop G J T hT T.length 0 (by omega)
        rw [Int.natCast_zero] at h
        simp only [e1, hT]
        rcases h with ⟨h1, h2⟩ | ⟨h1, r, h2⟩
        · rw [h2]; simp
        · rw [h2, h1]; simp
      · have e1 : decide ((T.length : Int) > 2000) = true := by simp; omega
        simp [e1, hT]
end Go.Proofs.YtomnbknaanlmaaaGreatDoor
namespace Go.Proofs.YtomnbknaanlmaaaGreatDoor
open Go.RowKit
theorem cmp_neg : ∀ (a b : List UInt8), (Go.Lib.compareBytes a b < 0 ↔ Go.Op.bytesLess a b = true) ∧ (Go.Lib.compareBytes a b = 0 ↔ a = b)
  | [], [] => by simp [Go.Lib.compareBytes, Go.Op.bytesLess]
  | [], _ :: _ => by simp [Go.Lib.compareBytes, Go.Op.bytesLess]
  | _ :: _, [] => by simp [Go.Lib.compareBytes, Go.Op.bytesLess]
  | x :: a, y :: b => by
    rw [lt_cons]
    unfold Go.Lib.compareBytes
    by_cases h1 : x < y
    · have : x ≠ y := UInt8.ne_of_lt h1
      simp [h1, this]
    · by_cases h2 : y < x
      · have : x ≠ y := Ne.symm (UInt8.ne_of_lt h2)
        simp [h1, h2, this]
      · have : x = y := UInt8.le_antisymm (UInt8.not_lt.1 h2) (UInt8.not_lt.1 h1)
        subst this
        have ih := cmp_neg a b
        simp [h1, ih.1, ih.2]
theorem mid_s {i j : Nat} (h : i + j ≤ 9223372036854775807) : IntKind.i64.wrap (Int.fdiv (IntKind.u64.wrap (IntKind.i64.wrap ((i : Int) + (j : Int)))) ((2 : Int) ^ (Min.min (Int.toNat (1 : Int)) (IntKind.bits IntKind.u64)))) = (((i + j) / 2 : Nat) : Int) := by
  have e1 : ((2 : Int) ^ (Min.min (Int.toNat (1 : Int)) (IntKind.bits IntKind.u64))) = 2 := rfl
  rw [e1, IntWalk.i64_in ((i : Int) + (j : Int)) (by omega), IntWalk.u64_in _ (by omega), Int.fdiv_eq_ediv_of_nonneg _ (by omega), IntWalk.i64_in _ (by omega)]
  omega
/-- how many come before -/
def lb (l : List S74) (t : ByteArray) : Nat := (l.takeWhile fun x => ltK (ky x) (L t)).length
theorem lb_le (l : List S74) (t : ByteArray) : lb l t ≤ l.length := (List.takeWhile_sublist _).length_le
theorem lb_spec : ∀ {l : List S74} (_ : srt l) (t : ByteArray) (k : Nat) (h : k < l.length), (k < lb l t ↔ ltK (ky l[k]) (L t) = true)
  | x :: l, hs, t, k, h => by
    obtain ⟨h1, h2⟩ := List.pairwise_cons.1 hs
    unfold lb
    rw [List.takeWhile_cons]
    cases hx : ltK (ky x) (L t) with
    | true =>
      rw [if_pos rfl, List.length_cons]
      cases k with
      | zero => simp [hx]
      | succ k =>
        have h : k < l.length := by simpa using h
        have := lb_spec h2 t k h
        simp only [List.getElem_cons_succ]
        rw [← this]
        unfold lb
        omega
    | false =>
      rw [if_neg (by decide), List.length_nil]
      constructor
      · intro h; omega
      · intro h3
        exfalso
        cases k with
        | zero => simp [hx] at h3
        | succ k =>
          have h : k < l.length := by simpa using h
          simp only [List.getElem_cons_succ] at h3
          have := lt_trans (h1 _ (List.getElem_mem h)) h3
          unfold ltK at hx
          rw [hx] at this; cases this
theorem cmp1_s (x : S74) (t : ByteArray) : classify_find_1_s x.Text x.Good x.Junk t = some (Go.Lib.compareBytes (L x.Text) (L t)) := classify_find_1_eq rfl
theorem bs_loop {l : List S74} (hs : srt l) (hl : l.length ≤ 2000000) (t : ByteArray) : ∀ (m i j : Nat), j - i ≤ m → i ≤ lb l t → lb l t ≤ j → j ≤ l.length → Ok (bsT_l3 l t l.length i j) fun r => r.1.1 = l ∧ r.1.2.1 = t ∧ r.1.2.2.2.1 = (l.length : Int) ∧ r.1.2.2.2.2.1 = (lb l t : Int) := by
  intro m
  induction m with
  | zero =>
    intro i j hm h1 h2 h3
    refine .via bsT_l3_eq ?_
    unfold bsT_l3_t
    simp only [EC.decL_encL, EC.isL_encL, EC.encL_length, isE_74, at_74_0, at_74_1, at_74_2]
    refine ok_br (fun h => absurd (of_decide_eq_true h) (by omega)) (fun _ => ok_gd rfl (ok_some ⟨rfl, rfl, rfl, ?_⟩))
    show (i : Int) = _
    omega
  | succ m ih =>
    intro i j hm h1 h2 h3
    refine .via bsT_l3_eq ?_
    unfold bsT_l3_t
    simp only [EC.decL_encL, EC.isL_encL, EC.encL_length, isE_74, at_74_0, at_74_1, at_74_2]
    refine ok_br (fun h => ?_) (fun h => ok_gd rfl (ok_some ⟨rfl, rfl, rfl, ?_⟩))
    · have hij : i < j := by have := of_decide_eq_true h; omega
      have hk : (i + j) / 2 < l.length := by omega
      have e2 : IntKind.i64.wrap ((((i + j) / 2 : Nat) : Int) + 1) = (((i + j) / 2 + 1 : Nat) : Int) := by rw [wr_in (by omega)]; rfl
      simp only [mid_s (i := i) (j := j) (by omega), Int.toNat_natCast, e2]
      refine ok_gd (decide_eq_true (by omega)) (ok_gd (by simp [hk]) ?_)
      rw [getD_in hk]
      refine ok_bind (ok_eq (cmp1_s _ _)) fun r0 hr0 => ?_
      subst hr0
      have hc := (cmp_neg (L l[(i + j) / 2].Text) (L t)).1
      have hsp := lb_spec hs t _ hk
      refine ok_br (fun h => ok_gd rfl ?_) (fun h => ok_gd rfl ?_)
      · have := hsp.2 (hc.1 (of_decide_eq_true h))
        exact ih _ _ (by omega) (by omega) h2 h3
      · have : ¬ (i + j) / 2 < lb l t := fun h9 => (of_decide_eq_false h) (hc.2 (hsp.1 h9))
        exact ih _ _ (by omega) h1 (by omega) (by omega)
    · have := of_decide_eq_false h
      show (i : Int) = _
      omega
/-- is the sender at this place? -/
def atB (l : List S74) (t : ByteArray) : Bool := match l[lb l t]? with | none => false | some x => L x.Text == L t
theorem find_s {l : List S74} (hs : srt l) (hl : l.length ≤ 2000000) (t : ByteArray) : classify_find_s l t = some ((lb l t : Int), atB l t) := classify_find_eq (by
  unfold classify_find_t
  have hb : bsT_s l t = some ((lb l t : Int), atB l t) := bsT_eq (by
    unfold bsT_t
    simp only [EC.decL_encL, EC.isL_encL, EC.encL_length, isE_74, at_74_0, at_74_1, at_74_2]
    obtain ⟨r, h, h1, h2, h3, h4⟩ := bs_loop hs hl t l.length 0 l.length (by omega) (by omega) (lb_le l t) (Nat.le_refl _)
    have h : bsT_l3 l t l.length 0 l.length = some r := h
    rw [h]
    simp only [gdE_if, brE_if, if_true, Option.bind_some, h1, h2, h3, h4, beq_t, Int.toNat_natCast]
    unfold atB
    by_cases hk : lb l t < l.length
    · have e1 : decide ((lb l t : Int) < (l.length : Int)) = true := by simp; omega
      have e2 : decide ((0 : Int) ≤ (lb l t : Int)) = true := by simp
      rw [List.getElem?_eq_getElem hk]
      simp only [e1, e2, if_true, decide_eq_true hk, Bool.true_and, getD_in hk, cmp1_s, Option.bind_some]
      have hc := (cmp_neg (L l[lb l t].Text) (L t)).2
      have : (Go.Lib.compareBytes (L l[lb l t].Text) (L t) == 0) = (L l[lb l t].Text == L t) := by
        rw [Bool.eq_iff_iff, beq_iff_eq, beq_iff_eq, hc]
      rw [this]
    · have e1 : decide ((lb l t : Int) < (l.length : Int)) = false := by simp; omega
      rw [List.getElem?_eq_none (by omega), e1]
      rfl)
  simp only [EC.decL_encL, EC.isL_encL, hb, Option.bind_some, gdE_if, if_true])
theorem atB_get {l : List S74} {t : ByteArray} (h : atB l t = true) : ∃ h : lb l t < l.length, ky l[lb l t] = L t := by
  unfold atB at h
  by_cases hk : lb l t < l.length
  · rw [List.getElem?_eq_getElem hk] at h
    exact ⟨hk, by simpa using h⟩
  · rw [List.getElem?_eq_none (by omega)] at h
    cases h
end Go.Proofs.YtomnbknaanlmaaaGreatDoor
