/- Functions of the program as plain functions: made by program from the machine. -/
import Derived.Test.YtgmjhnijnpfkgaaGB
namespace Go.Proofs.Ytgmjhnijnpfkgaa
open Go.RowKit
set_option maxRecDepth 100000
def basic_Fault_ca : Cod (List V) (Int × Int) := (lCons (vC (cInt .i64)) (lOne (vC (cInt .i64))))
def basic_Fault_cr : Cod (V × List B) (Int × Int) := (cFstU (cPair (vAgg (lCons (vC (cInt .i64)) (lOne (vC (cInt .i64))))) lNil))
noncomputable def basic_Fault_s (code : Int) (at_ : Int) : Option (Int × Int) := fS Try.prog lv X0 40 basic_Fault_ca basic_Fault_cr (code, at_)
noncomputable def basic_Fault_t (code : Int) (at_ : Int) : Option (Int × Int) :=
  (some (code, at_))
theorem basic_Fault_eq {code : Int} {at_ : Int} {r : (Int × Int)} (h : basic_Fault_t code at_ = some r) : basic_Fault_s code at_ = some r :=
  fS_tree (es := tab0) [] Try.func40 rfl (by kernel_rfl) rfl (by kernel_rfl) (by kernel_rfl) trivial trivial (by kernel_rfl) h
noncomputable def basic_Fault_e : Ent Try.prog lv X0 := entS Try.prog lv X0 40 [] basic_Fault_ca basic_Fault_cr (fun x => basic_Fault_s x.1 x.2) (fun _ _ h => fS_call h)
noncomputable def tab_basic_Fault : List (Ent Try.prog lv X0) := basic_Fault_e :: tab0
def basic_None_ca : Cod (List V) Unit := lNil
def basic_None_cr : Cod (V × List B) (Int × Int) := (cFstU (cPair (vAgg (lCons (vC (cInt .i64)) (lOne (vC (cInt .i64))))) lNil))
noncomputable def basic_None_s  : Option (Int × Int) := fS Try.prog lv X0 42 basic_None_ca basic_None_cr ()
noncomputable def basic_None_t  : Option (Int × Int) :=
  (some ((0 : Int), (0 : Int)))
theorem basic_None_eq {r : (Int × Int)} (h : basic_None_t  = some r) : basic_None_s  = some r :=
  fS_tree (es := tab_basic_Fault) [] Try.func42 rfl (by kernel_rfl) rfl (by kernel_rfl) (by kernel_rfl) trivial trivial (by kernel_rfl) h
noncomputable def basic_None_e : Ent Try.prog lv X0 := entS Try.prog lv X0 42 [] basic_None_ca basic_None_cr (fun x => basic_None_s ) (fun _ _ h => fS_call h)
noncomputable def tab_basic_None : List (Ent Try.prog lv X0) := basic_None_e :: tab_basic_Fault
def basic_Failed_ca : Cod (List V) (Int × Int) := (lOne (vAgg (lCons (vC (cInt .i64)) (lOne (vC (cInt .i64))))))
def basic_Failed_cr : Cod (V × List B) Bool := (cFstU (cPair (vC cBool) lNil))
noncomputable def basic_Failed_s (f_Code : Int) (f_Index : Int) : Option Bool := fS Try.prog lv X0 44 basic_Failed_ca basic_Failed_cr (f_Code, f_Index)
noncomputable def basic_Failed_t (f_Code : Int) (f_Index : Int) : Option Bool :=
  (some (f_Code != (0 : Int)))
theorem basic_Failed_eq {f_Code : Int} {f_Index : Int} {r : Bool} (h : basic_Failed_t f_Code f_Index = some r) : basic_Failed_s f_Code f_Index = some r :=
  fS_tree (es := tab_basic_None) [] Try.func44 rfl (by kernel_rfl) rfl (by kernel_rfl) (by kernel_rfl) trivial trivial (by kernel_rfl) h
noncomputable def basic_Failed_e : Ent Try.prog lv X0 := entS Try.prog lv X0 44 [] basic_Failed_ca basic_Failed_cr (fun x => basic_Failed_s x.1 x.2) (fun _ _ h => fS_call h)
noncomputable def tab_basic_Failed : List (Ent Try.prog lv X0) := basic_Failed_e :: tab_basic_None
def basic_Time_ca : Cod (List V) Int := (lOne (vC (cInt .i64)))
def basic_Time_cr : Cod (V × List B) Bool := (cFstU (cPair (vC cBool) lNil))
noncomputable def basic_Time_s (t : Int) : Option Bool := fS Try.prog lv X0 70 basic_Time_ca basic_Time_cr t
noncomputable def basic_Time_t (t : Int) : Option Bool :=
  (brE ((decide (t ≥ (-(68719476736 : Int)))) == true)
  (some (decide (t ≤ (68719476736 : Int))))
  (some false))
theorem basic_Time_eq {t : Int} {r : Bool} (h : basic_Time_t t = some r) : basic_Time_s t = some r :=
  fS_tree (es := tab_basic_Failed) [] Try.func70 rfl (by kernel_rfl) rfl (by kernel_rfl) (by kernel_rfl) trivial trivial (by kernel_rfl) h
noncomputable def basic_Time_e : Ent Try.prog lv X0 := entS Try.prog lv X0 70 [] basic_Time_ca basic_Time_cr (fun x => basic_Time_s x) (fun _ _ h => fS_call h)
noncomputable def tab_basic_Time : List (Ent Try.prog lv X0) := basic_Time_e :: tab_basic_Failed
def meeting_possible_ca : Cod (List V) (Int × Int) := (lOne (vAgg (lCons (vC (cInt .i64)) (lOne (vC (cInt .i64))))))
def meeting_possible_cr : Cod (V × List B) Bool := (cFstU (cPair (vC cBool) lNil))
noncomputable def meeting_possible_s (p_From : Int) (p_To : Int) : Option Bool := fS Try.prog lv X0 47 meeting_possible_ca meeting_possible_cr (p_From, p_To)
noncomputable def meeting_possible_t (p_From : Int) (p_To : Int) : Option Bool :=
  (brE ((decide (p_From < p_To)) == true)
  (Option.bind (basic_Time_s p_From) fun r0 =>
    (brE (r0 == true)
      (Option.bind (basic_Time_s p_To) fun r1 =>
        (some r1))
      (some false)))
  (some false))
theorem meeting_possible_eq {p_From : Int} {p_To : Int} {r : Bool} (h : meeting_possible_t p_From p_To = some r) : meeting_possible_s p_From p_To = some r :=
  fS_tree (es := tab_basic_Time) [] Try.func47 rfl (by kernel_rfl) rfl (by kernel_rfl) (by kernel_rfl) trivial trivial (by kernel_rfl) h
noncomputable def meeting_possible_e : Ent Try.prog lv X0 := entS Try.prog lv X0 47 [] meeting_possible_ca meeting_possible_cr (fun x => meeting_possible_s x.1 x.2) (fun _ _ h => fS_call h)
noncomputable def tab_meeting_possible : List (Ent Try.prog lv X0) := meeting_possible_e :: tab_basic_Time
def meeting_named_ca : Cod (List V) ByteArray := (lOne (vC cStr))
def meeting_named_cr : Cod (V × List B) Bool := (cFstU (cPair (vC cBool) lNil))
noncomputable def meeting_named_s (s : ByteArray) : Option Bool := fS Try.prog lv X0 56 meeting_named_ca meeting_named_cr s
noncomputable def meeting_named_t (s : ByteArray) : Option Bool :=
  (brE ((decide ((((ByteArray.size s) : Nat) : Int) ≥ (1 : Int))) == true)
  (some (decide ((((ByteArray.size s) : Nat) : Int) ≤ (4000 : Int))))
  (some false))
theorem meeting_named_eq {s : ByteArray} {r : Bool} (h : meeting_named_t s = some r) : meeting_named_s s = some r :=
  fS_tree (es := tab_meeting_possible) [] Try.func56 rfl (by kernel_rfl) rfl (by kernel_rfl) (by kernel_rfl) trivial trivial (by kernel_rfl) h
noncomputable def meeting_named_e : Ent Try.prog lv X0 := entS Try.prog lv X0 56 [] meeting_named_ca meeting_named_cr (fun x => meeting_named_s x) (fun _ _ h => fS_call h)
noncomputable def tab_meeting_named : List (Ent Try.prog lv X0) := meeting_named_e :: tab_meeting_possible
def guest1_ca : Cod (List V) ((ByteArray × Int × Int × Int) × (ByteArray × Int × Int × Int)) := (lCons (vAgg (lCons (vC cStr) (lCons (vC (cInt .i64)) (lCons (vC (cInt .i64)) (lOne (vC (cInt .i64))))))) (lOne (vEptr (lCons cStr (lCons (cInt .i64) (lCons (cInt .i64) (lOne (cInt .i64))))) 0)))
def guest1_cr : Cod (V × List B) Bool := (cFstU (cPair (vC cBool) lNil))
noncomputable def guest1_s (x_Address : ByteArray) (x_Answer : Int) (x_Offer_From : Int) (x_Offer_To : Int) (c1_0 : ByteArray) (c1_1 : Int) (c1_2 : Int) (c1_3 : Int) : Option Bool := fS Try.prog lv X0 71 guest1_ca guest1_cr ((x_Address, x_Answer, x_Offer_From, x_Offer_To), (c1_0, c1_1, c1_2, c1_3))
noncomputable def guest1_t (x_Address : ByteArray) (x_Answer : Int) (x_Offer_From : Int) (x_Offer_To : Int) (c1_0 : ByteArray) (c1_1 : Int) (c1_2 : Int) (c1_3 : Int) : Option Bool :=
  (some ((ByteArray.toList x_Address) == (ByteArray.toList c1_0)))
theorem guest1_eq {x_Address : ByteArray} {x_Answer : Int} {x_Offer_From : Int} {x_Offer_To : Int} {c1_0 : ByteArray} {c1_1 : Int} {c1_2 : Int} {c1_3 : Int} {r : Bool} (h : guest1_t x_Address x_Answer x_Offer_From x_Offer_To c1_0 c1_1 c1_2 c1_3 = some r) : guest1_s x_Address x_Answer x_Offer_From x_Offer_To c1_0 c1_1 c1_2 c1_3 = some r :=
  fS_tree (es := tab_meeting_named) [] Try.func71 rfl (by kernel_rfl) rfl (by kernel_rfl) (by kernel_rfl) trivial trivial (by kernel_rfl) h
noncomputable def guest1_e : Ent Try.prog lv X0 := entS Try.prog lv X0 71 [] guest1_ca guest1_cr (fun x => guest1_s x.1.1 x.1.2.1 x.1.2.2.1 x.1.2.2.2 x.2.1 x.2.2.1 x.2.2.2.1 x.2.2.2.2) (fun _ _ h => fS_call h)
noncomputable def tab_guest1 : List (Ent Try.prog lv X0) := guest1_e :: tab_meeting_named
structure S48 where
  Address : ByteArray
  Answer : Int
  Offer_From : Int
  Offer_To : Int
def ec_48 : EC S48 where
  enc x := [.str x.Address, .int .i64 x.Answer, .int .i64 x.Offer_From, .int .i64 x.Offer_To]
  dec c := ⟨strOf (c.getD 0 .ne), intOf (c.getD 1 .ne), intOf (c.getD 2 .ne), intOf (c.getD 3 .ne)⟩
  is c := isE [.str, .int .i64, .int .i64, .int .i64] 0 c
  enc_dec h := decE_eq h
  dec_enc x := by rfl
  is_enc x := by simp [isE, isK]
theorem enc_48 (x : S48) : ec_48.enc x = [.str x.Address, .int .i64 x.Answer, .int .i64 x.Offer_From, .int .i64 x.Offer_To] := rfl
theorem isE_48 (xs : List S48) (n : Nat) : isE [.str, .int .i64, .int .i64, .int .i64] 0 ((ec_48.encL xs).getD n []) = decide (n < xs.length) := by
  by_cases h : n < xs.length
  · simp only [EC.getD_lt _ _ h]; simp [enc_48, isE, isK, h]
  · simp only [EC.getD_ge _ _ (Nat.not_lt.1 h)]; simp [isE, isK, h]
theorem at_48_0 (xs : List S48) (n : Nat) : strOf (((ec_48.encL xs).getD n []).getD 0 .ne) = (xs.getD n (ec_48.dec [])).Address := by
  by_cases h : n < xs.length
  · simp only [EC.getD_lt _ _ h]; simp [enc_48, h, strOf, List.getD_eq_getElem?_getD]
  · simp only [EC.getD_ge _ _ (Nat.not_lt.1 h)]; simp [Nat.not_lt.1 h, ec_48, strOf, intOf, List.getD_eq_getElem?_getD]
theorem at_48_1 (xs : List S48) (n : Nat) : intOf (((ec_48.encL xs).getD n []).getD 1 .ne) = (xs.getD n (ec_48.dec [])).Answer := by
  by_cases h : n < xs.length
  · simp only [EC.getD_lt _ _ h]; simp [enc_48, h, intOf, List.getD_eq_getElem?_getD]
  · simp only [EC.getD_ge _ _ (Nat.not_lt.1 h)]; simp [Nat.not_lt.1 h, ec_48, strOf, intOf, List.getD_eq_getElem?_getD]
theorem at_48_2 (xs : List S48) (n : Nat) : intOf (((ec_48.encL xs).getD n []).getD 2 .ne) = (xs.getD n (ec_48.dec [])).Offer_From := by
  by_cases h : n < xs.length
  · simp only [EC.getD_lt _ _ h]; simp [enc_48, h, intOf, List.getD_eq_getElem?_getD]
  · simp only [EC.getD_ge _ _ (Nat.not_lt.1 h)]; simp [Nat.not_lt.1 h, ec_48, strOf, intOf, List.getD_eq_getElem?_getD]
theorem at_48_3 (xs : List S48) (n : Nat) : intOf (((ec_48.encL xs).getD n []).getD 3 .ne) = (xs.getD n (ec_48.dec [])).Offer_To := by
  by_cases h : n < xs.length
  · simp only [EC.getD_lt _ _ h]; simp [enc_48, h, intOf, List.getD_eq_getElem?_getD]
  · simp only [EC.getD_ge _ _ (Nat.not_lt.1 h)]; simp [Nat.not_lt.1 h, ec_48, strOf, intOf, List.getD_eq_getElem?_getD]
theorem lit_48 (a0 : ByteArray) (a1 : Int) (a2 : Int) (a3 : Int) : ([.str a0, .int .i64 a1, .int .i64 a2, .int .i64 a3] : List C) = ec_48.enc (⟨a0, a1, a2, a3⟩ : S48) := rfl
theorem apd_48 (xs : List S48) (a0 : ByteArray) (a1 : Int) (a2 : Int) (a3 : Int) : ec_48.encL xs ++ [[.str a0, .int .i64 a1, .int .i64 a2, .int .i64 a3]] = ec_48.encL (xs ++ [(⟨a0, a1, a2, a3⟩ : S48)]) := by rw [lit_48]; simp [EC.encL]
theorem len_48 (xs : List S48) (n : Nat) (h : n < xs.length) : ((ec_48.encL xs).getD n []).length = 4 := by rw [EC.getD_lt _ _ h]; rfl
theorem all_48 (xs : List S48) : (ec_48.encL xs).all (fun (el : List C) => el.length == 4) = true := by induction xs with | nil => rfl | cons x xs ih => first | (simp [EC.encL, enc_48]; done) | simpa [EC.encL, enc_48] using ih
theorem set_48_0_4 (xs : List S48) (n : Nat) (a0 : ByteArray) (a1 : Int) (a2 : Int) (a3 : Int) : (ec_48.encL xs).set n (splice ((ec_48.encL xs).getD n []) 0 [.str a0, .int .i64 a1, .int .i64 a2, .int .i64 a3]) = ec_48.encL (xs.set n ({ xs.getD n (ec_48.dec []) with Address := a0, Answer := a1, Offer_From := a2, Offer_To := a3 })) := by
  by_cases h : n < xs.length
  · rw [EC.getD_lt _ _ h]; simp [EC.encL, List.map_set, enc_48, splice]
  · simp [EC.encL, List.set_eq_of_length_le, Nat.not_lt.1 h]
theorem set_48_0_1 (xs : List S48) (n : Nat) (a0 : ByteArray) : (ec_48.encL xs).set n (splice ((ec_48.encL xs).getD n []) 0 [.str a0]) = ec_48.encL (xs.set n ({ xs.getD n (ec_48.dec []) with Address := a0 })) := by
  by_cases h : n < xs.length
  · rw [EC.getD_lt _ _ h]; simp [EC.encL, List.map_set, enc_48, splice, List.getD_eq_getElem?_getD, h]
  · simp [EC.encL, List.set_eq_of_length_le, Nat.not_lt.1 h]
theorem set_48_1_1 (xs : List S48) (n : Nat) (a1 : Int) : (ec_48.encL xs).set n (splice ((ec_48.encL xs).getD n []) 1 [.int .i64 a1]) = ec_48.encL (xs.set n ({ xs.getD n (ec_48.dec []) with Answer := a1 })) := by
  by_cases h : n < xs.length
  · rw [EC.getD_lt _ _ h]; simp [EC.encL, List.map_set, enc_48, splice, List.getD_eq_getElem?_getD, h]
  · simp [EC.encL, List.set_eq_of_length_le, Nat.not_lt.1 h]
theorem set_48_2_2 (xs : List S48) (n : Nat) (a2 : Int) (a3 : Int) : (ec_48.encL xs).set n (splice ((ec_48.encL xs).getD n []) 2 [.int .i64 a2, .int .i64 a3]) = ec_48.encL (xs.set n ({ xs.getD n (ec_48.dec []) with Offer_From := a2, Offer_To := a3 })) := by
  by_cases h : n < xs.length
  · rw [EC.getD_lt _ _ h]; simp [EC.encL, List.map_set, enc_48, splice, List.getD_eq_getElem?_getD, h]
  · simp [EC.encL, List.set_eq_of_length_le, Nat.not_lt.1 h]
theorem set_48_2_1 (xs : List S48) (n : Nat) (a2 : Int) : (ec_48.encL xs).set n (splice ((ec_48.encL xs).getD n []) 2 [.int .i64 a2]) = ec_48.encL (xs.set n ({ xs.getD n (ec_48.dec []) with Offer_From := a2 })) := by
  by_cases h : n < xs.length
  · rw [EC.getD_lt _ _ h]; simp [EC.encL, List.map_set, enc_48, splice, List.getD_eq_getElem?_getD, h]
  · simp [EC.encL, List.set_eq_of_length_le, Nat.not_lt.1 h]
theorem set_48_3_1 (xs : List S48) (n : Nat) (a3 : Int) : (ec_48.encL xs).set n (splice ((ec_48.encL xs).getD n []) 3 [.int .i64 a3]) = ec_48.encL (xs.set n ({ xs.getD n (ec_48.dec []) with Offer_To := a3 })) := by
  by_cases h : n < xs.length
  · rw [EC.getD_lt _ _ h]; simp [EC.encL, List.map_set, enc_48, splice, List.getD_eq_getElem?_getD, h]
  · simp [EC.encL, List.set_eq_of_length_le, Nat.not_lt.1 h]
def idxGuest_ca : Cod (List V) ((List S48) × (ByteArray × Int × Int × Int)) := (lCons (vC (cSl ec_48)) (lOne (vFn 71 (lOne (vEptr (lCons cStr (lCons (cInt .i64) (lCons (cInt .i64) (lOne (cInt .i64))))) 0)))))
def idxGuest_l2_s : SC (((List S48) × (ByteArray × Int × Int × Int) × Int × Int) × Unit) := sLS [0, 1, 7, 8] (lCons (vC (cSl ec_48)) (lCons (vFn 71 (lOne (vEptr (lCons cStr (lCons (cInt .i64) (lCons (cInt .i64) (lOne (cInt .i64))))) 0))) (lCons (vC (cInt .i64)) (lOne (vC (cInt .i64)))))) lNil [] (by decide) (fun _ => rfl)
def idxGuest_l2_o2 : SC (((List S48) × (ByteArray × Int × Int × Int) × Int × Int × Bool) × Unit) := sLS [0, 1, 7, 8, 9] (lCons (vC (cSl ec_48)) (lCons (vFn 71 (lOne (vEptr (lCons cStr (lCons (cInt .i64) (lCons (cInt .i64) (lOne (cInt .i64))))) 0))) (lCons (vC (cInt .i64)) (lCons (vC (cInt .i64)) (lOne (vC cBool)))))) lNil [] (by decide) (fun _ => rfl)
def idxGuest_l2_o1 : SC (Int × Unit) := sLS [4] (lOne (vC (cInt .i64))) lNil [] (by decide) (fun _ => rfl)
def idxGuest_l2_o : OC ((Int × Unit) ⊕ (((List S48) × (ByteArray × Int × Int × Int) × Int × Int × Bool) × Unit)) := oOr 1 idxGuest_l2_o1 (oAt 2 idxGuest_l2_o2) (fun x => (by decide : (2 : Nat) ≠ 1))
noncomputable def idxGuest_l2 (s : (List S48)) (f : ByteArray) (f_1 : Int) (f_2 : Int) (f_3 : Int) (t7 : Int) (t8 : Int) : Option ((Int × Unit) ⊕ (((List S48) × (ByteArray × Int × Int × Int) × Int × Int × Bool) × Unit)) := lS Try.prog lv X0 45 19 (getLoop (cdF Try.f45) 2) idxGuest_l2_s idxGuest_l2_o ((s, (f, f_1, f_2, f_3), t7, t8), ())
noncomputable def idxGuest_l2_t (s : (List S48)) (f : ByteArray) (f_1 : Int) (f_2 : Int) (f_3 : Int) (t7 : Int) (t8 : Int) : Option ((Int × Unit) ⊕ (((List S48) × (ByteArray × Int × Int × Int) × Int × Int × Bool) × Unit)) :=
  (brE (decide (t8 < t7))
  (gdE (decide ((0 : Int) ≤ t8)) <|
    (gdE ((decide ((Int.toNat t8) < (List.length (EC.encL ec_48 s)))) && (isE [K1.str, (K1.int Go.IntKind.i64), (K1.int Go.IntKind.i64), (K1.int Go.IntKind.i64)] (0 : Nat) (List.getD (EC.encL ec_48 s) (Int.toNat t8) []))) <|
      (Option.bind (guest1_s (strOf (List.getD (List.getD (EC.encL ec_48 s) (Int.toNat t8) []) (0 : Nat) C.ne)) (intOf (List.getD (List.getD (EC.encL ec_48 s) (Int.toNat t8) []) (1 : Nat) C.ne)) (intOf (List.getD (List.getD (EC.encL ec_48 s) (Int.toNat t8) []) (2 : Nat) C.ne)) (intOf (List.getD (List.getD (EC.encL ec_48 s) (Int.toNat t8) []) (3 : Nat) C.ne)) f f_1 f_2 f_3) fun r0 =>
        (brE r0
          (some (.inl (t8, ())))
          (gdE (EC.isL ec_48 (EC.encL ec_48 s)) <|
            (idxGuest_l2 (EC.decL ec_48 (EC.encL ec_48 s)) f f_1 f_2 f_3 t7 (Go.IntKind.wrap Go.IntKind.i64 (t8 + (1 : Int)))))))))
  (gdE (EC.isL ec_48 (EC.encL ec_48 s)) <|
    (some (.inr (((EC.decL ec_48 (EC.encL ec_48 s)), ((f, (f_1, (f_2, f_3))), (t7, (t8, false)))), ())))))
theorem idxGuest_l2_eq {s : (List S48)} {f : ByteArray} {f_1 : Int} {f_2 : Int} {f_3 : Int} {t7 : Int} {t8 : Int} {r : ((Int × Unit) ⊕ (((List S48) × (ByteArray × Int × Int × Int) × Int × Int × Bool) × Unit))} (h : idxGuest_l2_t s f f_1 f_2 f_3 t7 t8 = some r) : idxGuest_l2 s f f_1 f_2 f_3 t7 t8 = some r :=
  lS_tree (es := tab_guest1) [] (by kernel_rfl) trivial trivial (by kernel_rfl) h
noncomputable def idxGuest_l2_e : LEnt Try.prog lv X0 45 19 := lentS Try.prog lv X0 2 (getLoop (cdF Try.f45) 2) idxGuest_l2_s idxGuest_l2_o (fun x => idxGuest_l2 x.1.1 x.1.2.1.1 x.1.2.1.2.1 x.1.2.1.2.2.1 x.1.2.1.2.2.2 x.1.2.2.1 x.1.2.2.2) (fun _ _ h => lS_from h)
def idxGuest_cr : Cod (V × List B) Int := (cFstU (cPair (vC (cInt .i64)) lNil))
noncomputable def idxGuest_s (s : (List S48)) (f_0 : ByteArray) (f_1 : Int) (f_2 : Int) (f_3 : Int) : Option Int := fS Try.prog lv X0 45 idxGuest_ca idxGuest_cr (s, (f_0, f_1, f_2, f_3))
noncomputable def idxGuest_t (s : (List S48)) (f_0 : ByteArray) (f_1 : Int) (f_2 : Int) (f_3 : Int) : Option Int :=
  (gdE (EC.isL ec_48 (EC.encL ec_48 s)) <|
  (Option.bind (idxGuest_l2 (EC.decL ec_48 (EC.encL ec_48 s)) f_0 f_1 f_2 f_3 (((List.length (EC.encL ec_48 s)) : Nat) : Int) (0 : Int)) fun r0 =>
    (Sum.elim (fun r1 => (some (r1).1))
      (fun r1 => (some (-1 : Int))) r0)))
theorem idxGuest_eq {s : (List S48)} {f_0 : ByteArray} {f_1 : Int} {f_2 : Int} {f_3 : Int} {r : Int} (h : idxGuest_t s f_0 f_1 f_2 f_3 = some r) : idxGuest_s s f_0 f_1 f_2 f_3 = some r :=
  fS_tree (es := tab_guest1) [idxGuest_l2_e] Try.func45 rfl (by kernel_rfl) rfl (by kernel_rfl) (by kernel_rfl) ⟨⟨_, rfl, rfl⟩, trivial⟩ trivial (by kernel_rfl) h
noncomputable def idxGuest_e : Ent Try.prog lv X0 := entS Try.prog lv X0 45 [71] idxGuest_ca idxGuest_cr (fun x => idxGuest_s x.1 x.2.1 x.2.2.1 x.2.2.2.1 x.2.2.2.2) (fun _ _ h => fS_call h)
noncomputable def tab_idxGuest : List (Ent Try.prog lv X0) := idxGuest_e :: tab_guest1
def hasGuest_ca : Cod (List V) ((List S48) × (ByteArray × Int × Int × Int)) := (lCons (vC (cSl ec_48)) (lOne (vFn 71 (lOne (vEptr (lCons cStr (lCons (cInt .i64) (lCons (cInt .i64) (lOne (cInt .i64))))) 0)))))
def hasGuest_cr : Cod (V × List B) Bool := (cFstU (cPair (vC cBool) lNil))
noncomputable def hasGuest_s (s : (List S48)) (f_0 : ByteArray) (f_1 : Int) (f_2 : Int) (f_3 : Int) : Option Bool := fS Try.prog lv X0 50 hasGuest_ca hasGuest_cr (s, (f_0, f_1, f_2, f_3))
noncomputable def hasGuest_t (s : (List S48)) (f_0 : ByteArray) (f_1 : Int) (f_2 : Int) (f_3 : Int) : Option Bool :=
  (gdE (EC.isL ec_48 (EC.encL ec_48 s)) <|
  (Option.bind (idxGuest_s (EC.decL ec_48 (EC.encL ec_48 s)) f_0 f_1 f_2 f_3) fun r0 =>
    (some (decide (r0 ≥ (0 : Int))))))
theorem hasGuest_eq {s : (List S48)} {f_0 : ByteArray} {f_1 : Int} {f_2 : Int} {f_3 : Int} {r : Bool} (h : hasGuest_t s f_0 f_1 f_2 f_3 = some r) : hasGuest_s s f_0 f_1 f_2 f_3 = some r :=
  fS_tree (es := tab_idxGuest) [] Try.func50 rfl (by kernel_rfl) rfl (by kernel_rfl) (by kernel_rfl) trivial trivial (by kernel_rfl) h
noncomputable def hasGuest_e : Ent Try.prog lv X0 := entS Try.prog lv X0 50 [71] hasGuest_ca hasGuest_cr (fun x => hasGuest_s x.1 x.2.1 x.2.2.1 x.2.2.2.1 x.2.2.2.2) (fun _ _ h => fS_call h)
noncomputable def tab_hasGuest : List (Ent Try.prog lv X0) := hasGuest_e :: tab_idxGuest
def meeting_guest_ca : Cod (List V) ((ByteArray × (List S48) × Int × Int × Int × Bool) × Int) := (lCons (vAgg (lCons (vC cStr) (lCons (vC (cSl ec_48)) (lCons (vC (cInt .i64)) (lCons (vC (cInt .i64)) (lCons (vC (cInt .i64)) (lOne (vC cBool)))))))) (lOne (vC (cInt .i64))))
def meeting_guest_cr : Cod (V × List B) Int := (cFstU (cPair (vC (cInt .i64)) lNil))
noncomputable def meeting_guest_s (m_Organizer : ByteArray) (m_Guests : (List S48)) (m_Round : Int) (m_Proposed_From : Int) (m_Proposed_To : Int) (m_Cancelled : Bool) (i : Int) : Option Int := fS Try.prog lv X0 57 meeting_guest_ca meeting_guest_cr ((m_Organizer, m_Guests, m_Round, m_Proposed_From, m_Proposed_To, m_Cancelled), i)
noncomputable def meeting_guest_t (m_Organizer : ByteArray) (m_Guests : (List S48)) (m_Round : Int) (m_Proposed_From : Int) (m_Proposed_To : Int) (m_Cancelled : Bool) (i : Int) : Option Int :=
  (gdE (decide ((0 : Int) ≤ i)) <|
  (gdE ((decide ((Int.toNat i) < (List.length (EC.encL ec_48 m_Guests)))) && (isE [K1.str, (K1.int Go.IntKind.i64), (K1.int Go.IntKind.i64), (K1.int Go.IntKind.i64)] (0 : Nat) (List.getD (EC.encL ec_48 m_Guests) (Int.toNat i) []))) <|
    (Option.bind (meeting_named_s (strOf (List.getD (List.getD (EC.encL ec_48 m_Guests) (Int.toNat i) []) (0 : Nat) C.ne))) fun r0 =>
      (brE (!r0)
        (some (10 : Int))
        (brE ((decide ((intOf (List.getD (List.getD (EC.encL ec_48 m_Guests) (Int.toNat i) []) (1 : Nat) C.ne)) < (0 : Int))) == false)
          (brE (decide ((intOf (List.getD (List.getD (EC.encL ec_48 m_Guests) (Int.toNat i) []) (1 : Nat) C.ne)) > (3 : Int)))
            (some (3 : Int))
            (brE ((m_Round == (0 : Int)) == true)
              (brE (((intOf (List.getD (List.getD (EC.encL ec_48 m_Guests) (Int.toNat i) []) (1 : Nat) C.ne)) != (0 : Int)) == false)
                (brE (((intOf (List.getD (List.getD (EC.encL ec_48 m_Guests) (Int.toNat i) []) (1 : Nat) C.ne)) == (3 : Int)) == true)
                  (Option.bind (meeting_possible_s (intOf (List.getD (List.getD (EC.encL ec_48 m_Guests) (Int.toNat i) []) (2 : Nat) C.ne)) (intOf (List.getD (List.getD (EC.encL ec_48 m_Guests) (Int.toNat i) []) (3 : Nat) C.ne))) fun r1 =>
                    (brE ((!r1) == false)
                      (brE ((!((intOf (List.getD (List.getD (EC.encL ec_48 m_Guests) (Int.toNat i) []) (1 : Nat) C.ne)) == (3 : Int))) == true)
                        (brE (!(((intOf (List.getD (List.getD (EC.encL ec_48 m_Guests) (Int.toNat i) []) (2 : Nat) C.ne)) == (0 : Int)) && (((intOf (List.getD (List.getD (EC.encL ec_48 m_Guests) (Int.toNat i) []) (3 : Nat) C.ne)) == (0 : Int)) && true)))
                          (some (5 : Int))
                          (brE (((ByteArray.toList (strOf (List.getD (List.getD (EC.encL ec_48 m_Guests) (Int.toNat i) []) (0 : Nat) C.ne))) == (ByteArray.toList m_Organizer)) == false)
                            (gdE ((decide ((0 : Int) ≤ i)) && (decide (i ≤ (((List.length (EC.encL ec_48 m_Guests)) : Nat) : Int)))) <|
                              (gdE (List.all (EC.encL ec_48 m_Guests) (fun (el : (List C)) => ((List.length el) == (4 : Nat)))) <|
                                (gdE (EC.isL ec_48 (List.take ((Int.toNat i) - (0 : Nat)) (List.drop (0 : Nat) (EC.encL ec_48 m_Guests)))) <|
                                  (Option.bind (hasGuest_s (EC.decL ec_48 (List.take ((Int.toNat i) - (0 : Nat)) (List.drop (0 : Nat) (EC.encL ec_48 m_Guests)))) (strOf (List.getD (List.getD (EC.encL ec_48 m_Guests) (Int.toNat i) []) (0 : Nat) C.ne)) (intOf (List.getD (List.getD (EC.encL ec_48 m_Guests) (Int.toNat i) []) (1 : Nat) C.ne)) (intOf (List.getD (List.getD (EC.encL ec_48 m_Guests) (Int.toNat i) []) (2 : Nat) C.ne)) (intOf (List.getD (List.getD (EC.encL ec_48 m_Guests) (Int.toNat i) []) (3 : Nat) C.ne))) fun r2 =>
                                    (brE r2
                                      (some (7 : Int))
                                      (some (0 : Int)))))))
                            (some (7 : Int))))
                        (brE (((ByteArray.toList (strOf (List.getD (List.getD (EC.encL ec_48 m_Guests) (Int.toNat i) []) (0 : Nat) C.ne))) == (ByteArray.toList m_Organizer)) == false)
                          (gdE ((decide ((0 : Int) ≤ i)) && (decide (i ≤ (((List.length (EC.encL ec_48 m_Guests)) : Nat) : Int)))) <|
                            (gdE (List.all (EC.encL ec_48 m_Guests) (fun (el : (List C)) => ((List.length el) == (4 : Nat)))) <|
                              (gdE (EC.isL ec_48 (List.take ((Int.toNat i) - (0 : Nat)) (List.drop (0 : Nat) (EC.encL ec_48 m_Guests)))) <|
                                (Option.bind (hasGuest_s (EC.decL ec_48 (List.take ((Int.toNat i) - (0 : Nat)) (List.drop (0 : Nat) (EC.encL ec_48 m_Guests)))) (strOf (List.getD (List.getD (EC.encL ec_48 m_Guests) (Int.toNat i) []) (0 : Nat) C.ne)) (intOf (List.getD (List.getD (EC.encL ec_48 m_Guests) (Int.toNat i) []) (1 : Nat) C.ne)) (intOf (List.getD (List.getD (EC.encL ec_48 m_Guests) (Int.toNat i) []) (2 : Nat) C.ne)) (intOf (List.getD (List.getD (EC.encL ec_48 m_Guests) (Int.toNat i) []) (3 : Nat) C.ne))) fun r2 =>
                                  (brE r2
                                    (some (7 : Int))
                                    (some (0 : Int)))))))
                          (some (7 : Int))))
                      (some (5 : Int))))
                  (brE ((!((intOf (List.getD (List.getD (EC.encL ec_48 m_Guests) (Int.toNat i) []) (1 : Nat) C.ne)) == (3 : Int))) == true)
                    (brE (!(((intOf (List.getD (List.getD (EC.encL ec_48 m_Guests) (Int.toNat i) []) (2 : Nat) C.ne)) == (0 : Int)) && (((intOf (List.getD (List.getD (EC.encL ec_48 m_Guests) (Int.toNat i) []) (3 : Nat) C.ne)) == (0 : Int)) && true)))
                      (some (5 : Int))
                      (brE (((ByteArray.toList (strOf (List.getD (List.getD (EC.encL ec_48 m_Guests) (Int.toNat i) []) (0 : Nat) C.ne))) == (ByteArray.toList m_Organizer)) == false)
                        (gdE ((decide ((0 : Int) ≤ i)) && (decide (i ≤ (((List.length (EC.encL ec_48 m_Guests)) : Nat) : Int)))) <|
                          (gdE (List.all (EC.encL ec_48 m_Guests) (fun (el : (List C)) => ((List.length el) == (4 : Nat)))) <|
                            (gdE (EC.isL ec_48 (List.take ((Int.toNat i) - (0 : Nat)) (List.drop (0 : Nat) (EC.encL ec_48 m_Guests)))) <|
                              (Option.bind (hasGuest_s (EC.decL ec_48 (List.take ((Int.toNat i) - (0 : Nat)) (List.drop (0 : Nat) (EC.encL ec_48 m_Guests)))) (strOf (List.getD (List.getD (EC.encL ec_48 m_Guests) (Int.toNat i) []) (0 : Nat) C.ne)) (intOf (List.getD (List.getD (EC.encL ec_48 m_Guests) (Int.toNat i) []) (1 : Nat) C.ne)) (intOf (List.getD (List.getD (EC.encL ec_48 m_Guests) (Int.toNat i) []) (2 : Nat) C.ne)) (intOf (List.getD (List.getD (EC.encL ec_48 m_Guests) (Int.toNat i) []) (3 : Nat) C.ne))) fun r1 =>
                                (brE r1
                                  (some (7 : Int))
                                  (some (0 : Int)))))))
                        (some (7 : Int))))
                    (brE (((ByteArray.toList (strOf (List.getD (List.getD (EC.encL ec_48 m_Guests) (Int.toNat i) []) (0 : Nat) C.ne))) == (ByteArray.toList m_Organizer)) == false)
                      (gdE ((decide ((0 : Int) ≤ i)) && (decide (i ≤ (((List.length (EC.encL ec_48 m_Guests)) : Nat) : Int)))) <|
                        (gdE (List.all (EC.encL ec_48 m_Guests) (fun (el : (List C)) => ((List.length el) == (4 : Nat)))) <|
                          (gdE (EC.isL ec_48 (List.take ((Int.toNat i) - (0 : Nat)) (List.drop (0 : Nat) (EC.encL ec_48 m_Guests)))) <|
                            (Option.bind (hasGuest_s (EC.decL ec_48 (List.take ((Int.toNat i) - (0 : Nat)) (List.drop (0 : Nat) (EC.encL ec_48 m_Guests)))) (strOf (List.getD (List.getD (EC.encL ec_48 m_Guests) (Int.toNat i) []) (0 : Nat) C.ne)) (intOf (List.getD (List.getD (EC.encL ec_48 m_Guests) (Int.toNat i) []) (1 : Nat) C.ne)) (intOf (List.getD (List.getD (EC.encL ec_48 m_Guests) (Int.toNat i) []) (2 : Nat) C.ne)) (intOf (List.getD (List.getD (EC.encL ec_48 m_Guests) (Int.toNat i) []) (3 : Nat) C.ne))) fun r1 =>
                              (brE r1
                                (some (7 : Int))
                                (some (0 : Int)))))))
                      (some (7 : Int)))))
                (some (5 : Int)))
              (brE (((intOf (List.getD (List.getD (EC.encL ec_48 m_Guests) (Int.toNat i) []) (1 : Nat) C.ne)) == (3 : Int)) == true)
                (Option.bind (meeting_possible_s (intOf (List.getD (List.getD (EC.encL ec_48 m_Guests) (Int.toNat i) []) (2 : Nat) C.ne)) (intOf (List.getD (List.getD (EC.encL ec_48 m_Guests) (Int.toNat i) []) (3 : Nat) C.ne))) fun r1 =>
                  (brE ((!r1) == false)
                    (brE ((!((intOf (List.getD (List.getD (EC.encL ec_48 m_Guests) (Int.toNat i) []) (1 : Nat) C.ne)) == (3 : Int))) == true)
                      (brE (!(((intOf (List.getD (List.getD (EC.encL ec_48 m_Guests) (Int.toNat i) []) (2 : Nat) C.ne)) == (0 : Int)) && (((intOf (List.getD (List.getD (EC.encL ec_48 m_Guests) (Int.toNat i) []) (3 : Nat) C.ne)) == (0 : Int)) && true)))
                        (some (5 : Int))
                        (brE (((ByteArray.toList (strOf (List.getD (List.getD (EC.encL ec_48 m_Guests) (Int.toNat i) []) (0 : Nat) C.ne))) == (ByteArray.toList m_Organizer)) == false)
                          (gdE ((decide ((0 : Int) ≤ i)) && (decide (i ≤ (((List.length (EC.encL ec_48 m_Guests)) : Nat) : Int)))) <|
                            (gdE (List.all (EC.encL ec_48 m_Guests) (fun (el : (List C)) => ((List.length el) == (4 : Nat)))) <|
                              (gdE (EC.isL ec_48 (List.take ((Int.toNat i) - (0 : Nat)) (List.drop (0 : Nat) (EC.encL ec_48 m_Guests)))) <|
                                (Option.bind (hasGuest_s (EC.decL ec_48 (List.take ((Int.toNat i) - (0 : Nat)) (List.drop (0 : Nat) (EC.encL ec_48 m_Guests)))) (strOf (List.getD (List.getD (EC.encL ec_48 m_Guests) (Int.toNat i) []) (0 : Nat) C.ne)) (intOf (List.getD (List.getD (EC.encL ec_48 m_Guests) (Int.toNat i) []) (1 : Nat) C.ne)) (intOf (List.getD (List.getD (EC.encL ec_48 m_Guests) (Int.toNat i) []) (2 : Nat) C.ne)) (intOf (List.getD (List.getD (EC.encL ec_48 m_Guests) (Int.toNat i) []) (3 : Nat) C.ne))) fun r2 =>
                                  (brE r2
                                    (some (7 : Int))
                                    (some (0 : Int)))))))
                          (some (7 : Int))))
                      (brE (((ByteArray.toList (strOf (List.getD (List.getD (EC.encL ec_48 m_Guests) (Int.toNat i) []) (0 : Nat) C.ne))) == (ByteArray.toList m_Organizer)) == false)
                        (gdE ((decide ((0 : Int) ≤ i)) && (decide (i ≤ (((List.length (EC.encL ec_48 m_Guests)) : Nat) : Int)))) <|
                          (gdE (List.all (EC.encL ec_48 m_Guests) (fun (el : (List C)) => ((List.length el) == (4 : Nat)))) <|
                            (gdE (EC.isL ec_48 (List.take ((Int.toNat i) - (0 : Nat)) (List.drop (0 : Nat) (EC.encL ec_48 m_Guests)))) <|
                              (Option.bind (hasGuest_s (EC.decL ec_48 (List.take ((Int.toNat i) - (0 : Nat)) (List.drop (0 : Nat) (EC.encL ec_48 m_Guests)))) (strOf (List.getD (List.getD (EC.encL ec_48 m_Guests) (Int.toNat i) []) (0 : Nat) C.ne)) (intOf (List.getD (List.getD (EC.encL ec_48 m_Guests) (Int.toNat i) []) (1 : Nat) C.ne)) (intOf (List.getD (List.getD (EC.encL ec_48 m_Guests) (Int.toNat i) []) (2 : Nat) C.ne)) (intOf (List.getD (List.getD (EC.encL ec_48 m_Guests) (Int.toNat i) []) (3 : Nat) C.ne))) fun r2 =>
                                (brE r2
                                  (some (7 : Int))
                                  (some (0 : Int)))))))
                        (some (7 : Int))))
                    (some (5 : Int))))
                (brE ((!((intOf (List.getD (List.getD (EC.encL ec_48 m_Guests) (Int.toNat i) []) (1 : Nat) C.ne)) == (3 : Int))) == true)
                  (brE (!(((intOf (List.getD (List.getD (EC.encL ec_48 m_Guests) (Int.toNat i) []) (2 : Nat) C.ne)) == (0 : Int)) && (((intOf (List.getD (List.getD (EC.encL ec_48 m_Guests) (Int.toNat i) []) (3 : Nat) C.ne)) == (0 : Int)) && true)))
                    (some (5 : Int))
                    (brE (((ByteArray.toList (strOf (List.getD (List.getD (EC.encL ec_48 m_Guests) (Int.toNat i) []) (0 : Nat) C.ne))) == (ByteArray.toList m_Organizer)) == false)
                      (gdE ((decide ((0 : Int) ≤ i)) && (decide (i ≤ (((List.length (EC.encL ec_48 m_Guests)) : Nat) : Int)))) <|
                        (gdE (List.all (EC.encL ec_48 m_Guests) (fun (el : (List C)) => ((List.length el) == (4 : Nat)))) <|
                          (gdE (EC.isL ec_48 (List.take ((Int.toNat i) - (0 : Nat)) (List.drop (0 : Nat) (EC.encL ec_48 m_Guests)))) <|
                            (Option.bind (hasGuest_s (EC.decL ec_48 (List.take ((Int.toNat i) - (0 : Nat)) (List.drop (0 : Nat) (EC.encL ec_48 m_Guests)))) (strOf (List.getD (List.getD (EC.encL ec_48 m_Guests) (Int.toNat i) []) (0 : Nat) C.ne)) (intOf (List.getD (List.getD (EC.encL ec_48 m_Guests) (Int.toNat i) []) (1 : Nat) C.ne)) (intOf (List.getD (List.getD (EC.encL ec_48 m_Guests) (Int.toNat i) []) (2 : Nat) C.ne)) (intOf (List.getD (List.getD (EC.encL ec_48 m_Guests) (Int.toNat i) []) (3 : Nat) C.ne))) fun r1 =>
                              (brE r1
                                (some (7 : Int))
                                (some (0 : Int)))))))
                      (some (7 : Int))))
                  (brE (((ByteArray.toList (strOf (List.getD (List.getD (EC.encL ec_48 m_Guests) (Int.toNat i) []) (0 : Nat) C.ne))) == (ByteArray.toList m_Organizer)) == false)
                    (gdE ((decide ((0 : Int) ≤ i)) && (decide (i ≤ (((List.length (EC.encL ec_48 m_Guests)) : Nat) : Int)))) <|
                      (gdE (List.all (EC.encL ec_48 m_Guests) (fun (el : (List C)) => ((List.length el) == (4 : Nat)))) <|
                        (gdE (EC.isL ec_48 (List.take ((Int.toNat i) - (0 : Nat)) (List.drop (0 : Nat) (EC.encL ec_48 m_Guests)))) <|
                          (Option.bind (hasGuest_s (EC.decL ec_48 (List.take ((Int.toNat i) - (0 : Nat)) (List.drop (0 : Nat) (EC.encL ec_48 m_Guests)))) (strOf (List.getD (List.getD (EC.encL ec_48 m_Guests) (Int.toNat i) []) (0 : Nat) C.ne)) (intOf (List.getD (List.getD (EC.encL ec_48 m_Guests) (Int.toNat i) []) (1 : Nat) C.ne)) (intOf (List.getD (List.getD (EC.encL ec_48 m_Guests) (Int.toNat i) []) (2 : Nat) C.ne)) (intOf (List.getD (List.getD (EC.encL ec_48 m_Guests) (Int.toNat i) []) (3 : Nat) C.ne))) fun r1 =>
                            (brE r1
                              (some (7 : Int))
                              (some (0 : Int)))))))
                    (some (7 : Int)))))))
          (some (3 : Int)))))))
theorem meeting_guest_eq {m_Organizer : ByteArray} {m_Guests : (List S48)} {m_Round : Int} {m_Proposed_From : Int} {m_Proposed_To : Int} {m_Cancelled : Bool} {i : Int} {r : Int} (h : meeting_guest_t m_Organizer m_Guests m_Round m_Proposed_From m_Proposed_To m_Cancelled i = some r) : meeting_guest_s m_Organizer m_Guests m_Round m_Proposed_From m_Proposed_To m_Cancelled i = some r :=
  fS_tree (es := tab_hasGuest) [] Try.func57 rfl (by kernel_rfl) rfl (by kernel_rfl) (by kernel_rfl) trivial trivial (by kernel_rfl) h
noncomputable def meeting_guest_e : Ent Try.prog lv X0 := entS Try.prog lv X0 57 [] meeting_guest_ca meeting_guest_cr (fun x => meeting_guest_s x.1.1 x.1.2.1 x.1.2.2.1 x.1.2.2.2.1 x.1.2.2.2.2.1 x.1.2.2.2.2.2 x.2) (fun _ _ h => fS_call h)
noncomputable def tab_meeting_guest : List (Ent Try.prog lv X0) := meeting_guest_e :: tab_hasGuest
def meeting_Validate_ca : Cod (List V) (ByteArray × (List S48) × Int × Int × Int × Bool) := (lOne (vAgg (lCons (vC cStr) (lCons (vC (cSl ec_48)) (lCons (vC (cInt .i64)) (lCons (vC (cInt .i64)) (lCons (vC (cInt .i64)) (lOne (vC cBool)))))))))
def meeting_Validate_l10_s : SC ((Unit × Unit × Int × Int) × ((ByteArray × (List S48) × Int × Int × Int × Bool) × (Int × Int))) := sLS [1, 2, 57, 58] (lCons (vPtr 0 0) (lCons (vPtr 1 0) (lCons (vC (cInt .i64)) (lOne (vC (cInt .i64)))))) (lCons (oSome (bBox (lCons (vC cStr) (lCons (vC (cSl ec_48)) (lCons (vC (cInt .i64)) (lCons (vC (cInt .i64)) (lCons (vC (cInt .i64)) (lOne (vC cBool))))))))) (lOne (oSome (bBox (lCons (vC (cInt .i64)) (lOne (vC (cInt .i64)))))))) [false, false] (by decide) (fun _ => rfl)
def meeting_Validate_l10_o3 : SC ((Unit × Unit × Int × Int × Bool) × ((ByteArray × (List S48) × Int × Int × Int × Bool) × (Int × Int))) := sLS [1, 2, 57, 58, 59] (lCons (vPtr 0 0) (lCons (vPtr 1 0) (lCons (vC (cInt .i64)) (lCons (vC (cInt .i64)) (lOne (vC cBool)))))) (lCons (oSome (bBox (lCons (vC cStr) (lCons (vC (cSl ec_48)) (lCons (vC (cInt .i64)) (lCons (vC (cInt .i64)) (lCons (vC (cInt .i64)) (lOne (vC cBool))))))))) (lOne (oSome (bBox (lCons (vC (cInt .i64)) (lOne (vC (cInt .i64)))))))) [false, false] (by decide) (fun _ => rfl)
def meeting_Validate_l10_o1 : SC (Unit × (Int × Int)) := sLS [2] (lOne (vPtr 0 0)) (lOne (oSome (bBox (lCons (vC (cInt .i64)) (lOne (vC (cInt .i64))))))) [false] (by decide) (fun _ => rfl)
def meeting_Validate_l10_o : OC ((Unit × (Int × Int)) ⊕ ((Unit × Unit × Int × Int × Bool) × ((ByteArray × (List S48) × Int × Int × Int × Bool) × (Int × Int)))) := oOr 1 meeting_Validate_l10_o1 (oAt 3 meeting_Validate_l10_o3) (fun x => (by decide : (3 : Nat) ≠ 1))
noncomputable def meeting_Validate_l10 (t57 : Int) (t58 : Int) (b0 : ByteArray) (b0_1 : (List S48)) (b0_2 : Int) (b0_3 : Int) (b0_4 : Int) (b0_5 : Bool) (b1 : Int) (b1_1 : Int) : Option ((Unit × (Int × Int)) ⊕ ((Unit × Unit × Int × Int × Bool) × ((ByteArray × (List S48) × Int × Int × Int × Bool) × (Int × Int)))) := lS Try.prog lv X0 30 71 (getLoop (cdF Try.f30) 10) meeting_Validate_l10_s meeting_Validate_l10_o (((), (), t57, t58), ((b0, b0_1, b0_2, b0_3, b0_4, b0_5), (b1, b1_1)))
noncomputable def meeting_Validate_l10_t (t57 : Int) (t58 : Int) (b0 : ByteArray) (b0_1 : (List S48)) (b0_2 : Int) (b0_3 : Int) (b0_4 : Int) (b0_5 : Bool) (b1 : Int) (b1_1 : Int) : Option ((Unit × (Int × Int)) ⊕ ((Unit × Unit × Int × Int × Bool) × ((ByteArray × (List S48) × Int × Int × Int × Bool) × (Int × Int)))) :=
  (brE (decide (t58 < t57))
  (gdE (EC.isL ec_48 (EC.encL ec_48 b0_1)) <|
    (Option.bind (meeting_guest_s b0 (EC.decL ec_48 (EC.encL ec_48 b0_1)) b0_2 b0_3 b0_4 b0_5 t58) fun r0 =>
      (brE (r0 != (0 : Int))
        (Option.bind (basic_Fault_s r0 t58) fun r1 =>
          (some (.inl ((), ((r1).1, (r1).2)))))
        (gdE (EC.isL ec_48 (EC.encL ec_48 b0_1)) <|
          (meeting_Validate_l10 t57 (Go.IntKind.wrap Go.IntKind.i64 (t58 + (1 : Int))) b0 (EC.decL ec_48 (EC.encL ec_48 b0_1)) b0_2 b0_3 b0_4 b0_5 b1 b1_1)))))
  (gdE (EC.isL ec_48 (EC.encL ec_48 b0_1)) <|
    (some (.inr (((), ((), (t57, (t58, false)))), ((b0, ((EC.decL ec_48 (EC.encL ec_48 b0_1)), (b0_2, (b0_3, (b0_4, b0_5))))), (b1, b1_1)))))))
theorem meeting_Validate_l10_eq {t57 : Int} {t58 : Int} {b0 : ByteArray} {b0_1 : (List S48)} {b0_2 : Int} {b0_3 : Int} {b0_4 : Int} {b0_5 : Bool} {b1 : Int} {b1_1 : Int} {r : ((Unit × (Int × Int)) ⊕ ((Unit × Unit × Int × Int × Bool) × ((ByteArray × (List S48) × Int × Int × Int × Bool) × (Int × Int))))} (h : meeting_Validate_l10_t t57 t58 b0 b0_1 b0_2 b0_3 b0_4 b0_5 b1 b1_1 = some r) : meeting_Validate_l10 t57 t58 b0 b0_1 b0_2 b0_3 b0_4 b0_5 b1 b1_1 = some r :=
  lS_tree (es := tab_meeting_guest) [] (by kernel_rfl) trivial trivial (by kernel_rfl) h
noncomputable def meeting_Validate_l10_e : LEnt Try.prog lv X0 30 71 := lentS Try.prog lv X0 10 (getLoop (cdF Try.f30) 10) meeting_Validate_l10_s meeting_Validate_l10_o (fun x => meeting_Validate_l10 x.1.2.2.1 x.1.2.2.2 x.2.1.1 x.2.1.2.1 x.2.1.2.2.1 x.2.1.2.2.2.1 x.2.1.2.2.2.2.1 x.2.1.2.2.2.2.2 x.2.2.1 x.2.2.2) (fun _ _ h => lS_from h)
def meeting_Validate_cr : Cod (V × List B) (Int × Int) := (cFstU (cPair (vAgg (lCons (vC (cInt .i64)) (lOne (vC (cInt .i64))))) lNil))
noncomputable def meeting_Validate_s (m_Organizer : ByteArray) (m_Guests : (List S48)) (m_Round : Int) (m_Proposed_From : Int) (m_Proposed_To : Int) (m_Cancelled : Bool) : Option (Int × Int) := fS Try.prog lv X0 30 meeting_Validate_ca meeting_Validate_cr (m_Organizer, m_Guests, m_Round, m_Proposed_From, m_Proposed_To, m_Cancelled)
noncomputable def meeting_Validate_t (m_Organizer : ByteArray) (m_Guests : (List S48)) (m_Round : Int) (m_Proposed_From : Int) (m_Proposed_To : Int) (m_Cancelled : Bool) : Option (Int × Int) :=
  (Option.bind (meeting_named_s m_Organizer) fun r0 =>
  (brE (!r0)
    (Option.bind (basic_Fault_s (10 : Int) (-(2 : Int))) fun r1 =>
      (some ((r1).1, (r1).2)))
    (brE ((decide ((((List.length (EC.encL ec_48 m_Guests)) : Nat) : Int) < (1 : Int))) == false)
      (brE (decide ((((List.length (EC.encL ec_48 m_Guests)) : Nat) : Int) > (30 : Int)))
        (Option.bind (basic_Fault_s (2 : Int) (-(1 : Int))) fun r1 =>
          (some ((r1).1, (r1).2)))
        (brE ((decide (m_Round < (0 : Int))) == false)
          (brE (decide (m_Round > (1000000 : Int)))
            (Option.bind (basic_Fault_s (3 : Int) (-(3 : Int))) fun r1 =>
              (some ((r1).1, (r1).2)))
            (brE ((decide (m_Round > (0 : Int))) == true)
              (Option.bind (meeting_possible_s m_Proposed_From m_Proposed_To) fun r1 =>
                (brE ((!r1) == false)
                  (brE ((m_Round == (0 : Int)) == true)
                    (brE (!((m_Proposed_From == (0 : Int)) && ((m_Proposed_To == (0 : Int)) && true)))
                      (Option.bind (basic_Fault_s (5 : Int) (-(3 : Int))) fun r2 =>
                        (some ((r2).1, (r2).2)))
                      (gdE (EC.isL ec_48 (EC.encL ec_48 m_Guests)) <|
                        (Option.bind (meeting_Validate_l10 (((List.length (EC.encL ec_48 m_Guests)) : Nat) : Int) (0 : Int) m_Organizer (EC.decL ec_48 (EC.encL ec_48 m_Guests)) m_Round m_Proposed_From m_Proposed_To m_Cancelled (0 : Int) (0 : Int)) fun r2 =>
                          (Sum.elim (fun r3 => (some (((r3).2).1, ((r3).2).2)))
                            (fun r3 => (Option.bind basic_None_s fun r4 =>
                              (some ((r4).1, (r4).2)))) r2))))
                    (gdE (EC.isL ec_48 (EC.encL ec_48 m_Guests)) <|
                      (Option.bind (meeting_Validate_l10 (((List.length (EC.encL ec_48 m_Guests)) : Nat) : Int) (0 : Int) m_Organizer (EC.decL ec_48 (EC.encL ec_48 m_Guests)) m_Round m_Proposed_From m_Proposed_To m_Cancelled (0 : Int) (0 : Int)) fun r2 =>
                        (Sum.elim (fun r3 => (some (((r3).2).1, ((r3).2).2)))
                          (fun r3 => (Option.bind basic_None_s fun r4 =>
                            (some ((r4).1, (r4).2)))) r2))))
                  (Option.bind (basic_Fault_s (5 : Int) (-(3 : Int))) fun r2 =>
                    (some ((r2).1, (r2).2)))))
              (brE ((m_Round == (0 : Int)) == true)
                (brE (!((m_Proposed_From == (0 : Int)) && ((m_Proposed_To == (0 : Int)) && true)))
                  (Option.bind (basic_Fault_s (5 : Int) (-(3 : Int))) fun r1 =>
                    (some ((r1).1, (r1).2)))
                  (gdE (EC.isL ec_48 (EC.encL ec_48 m_Guests)) <|
                    (Option.bind (meeting_Validate_l10 (((List.length (EC.encL ec_48 m_Guests)) : Nat) : Int) (0 : Int) m_Organizer (EC.decL ec_48 (EC.encL ec_48 m_Guests)) m_Round m_Proposed_From m_Proposed_To m_Cancelled (0 : Int) (0 : Int)) fun r1 =>
                      (Sum.elim (fun r2 => (some (((r2).2).1, ((r2).2).2)))
                        (fun r2 => (Option.bind basic_None_s fun r3 =>
                          (some ((r3).1, (r3).2)))) r1))))
                (gdE (EC.isL ec_48 (EC.encL ec_48 m_Guests)) <|
                  (Option.bind (meeting_Validate_l10 (((List.length (EC.encL ec_48 m_Guests)) : Nat) : Int) (0 : Int) m_Organizer (EC.decL ec_48 (EC.encL ec_48 m_Guests)) m_Round m_Proposed_From m_Proposed_To m_Cancelled (0 : Int) (0 : Int)) fun r1 =>
                    (Sum.elim (fun r2 => (some (((r2).2).1, ((r2).2).2)))
                      (fun r2 => (Option.bind basic_None_s fun r3 =>
                        (some ((r3).1, (r3).2)))) r1))))))
          (Option.bind (basic_Fault_s (3 : Int) (-(3 : Int))) fun r1 =>
            (some ((r1).1, (r1).2)))))
      (Option.bind (basic_Fault_s (2 : Int) (-(1 : Int))) fun r1 =>
        (some ((r1).1, (r1).2))))))
theorem meeting_Validate_eq {m_Organizer : ByteArray} {m_Guests : (List S48)} {m_Round : Int} {m_Proposed_From : Int} {m_Proposed_To : Int} {m_Cancelled : Bool} {r : (Int × Int)} (h : meeting_Validate_t m_Organizer m_Guests m_Round m_Proposed_From m_Proposed_To m_Cancelled = some r) : meeting_Validate_s m_Organizer m_Guests m_Round m_Proposed_From m_Proposed_To m_Cancelled = some r :=
  fS_tree (es := tab_meeting_guest) [meeting_Validate_l10_e] Try.func30 rfl (by kernel_rfl) rfl (by kernel_rfl) (by kernel_rfl) ⟨⟨_, rfl, rfl⟩, trivial⟩ trivial (by kernel_rfl) h
noncomputable def meeting_Validate_e : Ent Try.prog lv X0 := entS Try.prog lv X0 30 [] meeting_Validate_ca meeting_Validate_cr (fun x => meeting_Validate_s x.1 x.2.1 x.2.2.1 x.2.2.2.1 x.2.2.2.2.1 x.2.2.2.2.2) (fun _ _ h => fS_call h)
noncomputable def tab_meeting_Validate : List (Ent Try.prog lv X0) := meeting_Validate_e :: tab_meeting_guest
def cloneG_ca : Cod (List V) (List S48) := (lOne (vC (cSl ec_48)))
def cloneG_cr : Cod (V × List B) (Nat × (List S48)) := (cPair (vRow 0) (lOne (bRow ec_48)))
noncomputable def cloneG_s (s : (List S48)) : Option (Nat × (List S48)) := fS Try.prog lv X0 48 cloneG_ca cloneG_cr s
noncomputable def cloneG_t (s : (List S48)) : Option (Nat × (List S48)) :=
  (gdE (!(List.isEmpty (EC.encL ec_48 s))) <|
  (gdE ((((List.all (EC.encL ec_48 s) (fun (el : (List C)) => ((List.length el) == (4 : Nat)))) && (List.all [] (fun (el : (List C)) => ((List.length el) == (4 : Nat))))) && (decide ((((0 : Nat) + (List.length (EC.encL ec_48 s))) * (40 : Nat)) ≤ (140737488355328 : Nat)))) && (decide (((0 : Nat) + (List.length (EC.encL ec_48 s))) ≤ (9223372036854775807 : Nat)))) <|
    (gdE (EC.isL ec_48 ([] ++ (EC.encL ec_48 s))) <|
      (some (((0 : Nat) + (List.length (EC.encL ec_48 s))), (EC.decL ec_48 ([] ++ (EC.encL ec_48 s))))))))
theorem cloneG_eq {s : (List S48)} {r : (Nat × (List S48))} (h : cloneG_t s = some r) : cloneG_s s = some r := by
  cases s with
  | nil => exact nomatch (show (none : Option (Nat × (List S48))) = some r from h)
  | cons x xs => exact fS_tree (es := tab_meeting_Validate) [] Try.func48 rfl (by kernel_rfl) rfl (by kernel_rfl) (by kernel_rfl) trivial trivial (by kernel_rfl) h
theorem cloneG_nil : cloneG_s [] = some (0, []) := fS_of (r := (0, [])) (by unfold Call callD; rfl)
noncomputable def cloneG_e : Ent Try.prog lv X0 := entS Try.prog lv X0 48 [] cloneG_ca cloneG_cr (fun x => cloneG_s x) (fun _ _ h => fS_call h)
noncomputable def tab_cloneG : List (Ent Try.prog lv X0) := cloneG_e :: tab_meeting_Validate
def meeting_propose_ca : Cod (List V) ((ByteArray × (List S48) × Int × Int × Int × Bool) × (Int × Int)) := (lCons (vAgg (lCons (vC cStr) (lCons (vC (cSl ec_48)) (lCons (vC (cInt .i64)) (lCons (vC (cInt .i64)) (lCons (vC (cInt .i64)) (lOne (vC cBool)))))))) (lOne (vAgg (lCons (vC (cInt .i64)) (lOne (vC (cInt .i64)))))))
def meeting_propose_l3_s : SC ((Unit × Unit × Unit × Int × Int) × ((ByteArray × Nat × Int × Int × Int × Bool) × (Int × Int) × (ByteArray × Nat × Int × Int × Int × Bool) × (List S48) × (List S48))) := sLS [2, 3, 4, 12, 13] (lCons (vPtr 0 0) (lCons (vPtr 1 0) (lCons (vPtr 2 0) (lCons (vC (cInt .i64)) (lOne (vC (cInt .i64))))))) (lCons (oSome (bBox (lCons (vC cStr) (lCons (vRow 3) (lCons (vC (cInt .i64)) (lCons (vC (cInt .i64)) (lCons (vC (cInt .i64)) (lOne (vC cBool))))))))) (lCons (oSome (bBox (lCons (vC (cInt .i64)) (lOne (vC (cInt .i64)))))) (lCons (oSome (bBox (lCons (vC cStr) (lCons (vRow 4) (lCons (vC (cInt .i64)) (lCons (vC (cInt .i64)) (lCons (vC (cInt .i64)) (lOne (vC cBool))))))))) (lCons (oSome (bRow ec_48)) (lOne (oSome (bRow ec_48))))))) [false, false, false, false, false] (by decide) (fun _ => rfl)
def meeting_propose_l3_o2 : SC ((Unit × Unit × Unit × Int × Int × Bool) × ((ByteArray × Nat × Int × Int × Int × Bool) × (Int × Int) × (ByteArray × Nat × Int × Int × Int × Bool) × (List S48) × (List S48))) := sLS [2, 3, 4, 12, 13, 14] (lCons (vPtr 0 0) (lCons (vPtr 1 0) (lCons (vPtr 2 0) (lCons (vC (cInt .i64)) (lCons (vC (cInt .i64)) (lOne (vC cBool))))))) (lCons (oSome (bBox (lCons (vC cStr) (lCons (vRow 3) (lCons (vC (cInt .i64)) (lCons (vC (cInt .i64)) (lCons (vC (cInt .i64)) (lOne (vC cBool))))))))) (lCons (oSome (bBox (lCons (vC (cInt .i64)) (lOne (vC (cInt .i64)))))) (lCons (oSome (bBox (lCons (vC cStr) (lCons (vRow 4) (lCons (vC (cInt .i64)) (lCons (vC (cInt .i64)) (lCons (vC (cInt .i64)) (lOne (vC cBool))))))))) (lCons (oSome (bRow ec_48)) (lOne (oSome (bRow ec_48))))))) [false, false, false, false, false] (by decide) (fun _ => rfl)
def meeting_propose_l3_o : OC ((Unit × Unit × Unit × Int × Int × Bool) × ((ByteArray × Nat × Int × Int × Int × Bool) × (Int × Int) × (ByteArray × Nat × Int × Int × Int × Bool) × (List S48) × (List S48))) := oAt 2 meeting_propose_l3_o2
noncomputable def meeting_propose_l3 (t12 : Int) (t13 : Int) (b0 : ByteArray) (b0_1 : Nat) (b0_2 : Int) (b0_3 : Int) (b0_4 : Int) (b0_5 : Bool) (b1 : Int) (b1_1 : Int) (b2 : ByteArray) (b2_1 : Nat) (b2_2 : Int) (b2_3 : Int) (b2_4 : Int) (b2_5 : Bool) (b3 : (List S48)) (b4 : (List S48)) : Option ((Unit × Unit × Unit × Int × Int × Bool) × ((ByteArray × Nat × Int × Int × Int × Bool) × (Int × Int) × (ByteArray × Nat × Int × Int × Int × Bool) × (List S48) × (List S48))) := lS Try.prog lv X0 55 35 (getLoop (cdF Try.f55) 3) meeting_propose_l3_s meeting_propose_l3_o (((), (), (), t12, t13), ((b0, b0_1, b0_2, b0_3, b0_4, b0_5), (b1, b1_1), (b2, b2_1, b2_2, b2_3, b2_4, b2_5), b3, b4))
noncomputable def meeting_propose_l3_t (t12 : Int) (t13 : Int) (b0 : ByteArray) (b0_1 : Nat) (b0_2 : Int) (b0_3 : Int) (b0_4 : Int) (b0_5 : Bool) (b1 : Int) (b1_1 : Int) (b2 : ByteArray) (b2_1 : Nat) (b2_2 : Int) (b2_3 : Int) (b2_4 : Int) (b2_5 : Bool) (b3 : (List S48)) (b4 : (List S48)) : Option ((Unit × Unit × Unit × Int × Int × Bool) × ((ByteArray × Nat × Int × Int × Int × Bool) × (Int × Int) × (ByteArray × Nat × Int × Int × Int × Bool) × (List S48) × (List S48))) :=
  (brE (decide (t13 < t12))
  (gdE ((decide ((0 : Int) ≤ t13)) && (decide (t13 < ((b0_1 : Nat) : Int)))) <|
    (gdE ((decide ((Int.toNat t13) < (List.length (EC.encL ec_48 b3)))) && ((List.length (List.getD (EC.encL ec_48 b3) (Int.toNat t13) [])) == (4 : Nat))) <|
      (gdE ((decide ((0 : Int) ≤ t13)) && (decide (t13 < ((b0_1 : Nat) : Int)))) <|
        (gdE ((decide ((Int.toNat t13) < (List.length (List.set (EC.encL ec_48 b3) (Int.toNat t13) (splice (List.getD (EC.encL ec_48 b3) (Int.toNat t13) []) (1 : Nat) [(C.int Go.IntKind.i64 (0 : Int))]))))) && ((List.length (List.getD (List.set (EC.encL ec_48 b3) (Int.toNat t13) (splice (List.getD (EC.encL ec_48 b3) (Int.toNat t13) []) (1 : Nat) [(C.int Go.IntKind.i64 (0 : Int))])) (Int.toNat t13) [])) == (4 : Nat))) <|
          (gdE (EC.isL ec_48 (List.set (List.set (EC.encL ec_48 b3) (Int.toNat t13) (splice (List.getD (EC.encL ec_48 b3) (Int.toNat t13) []) (1 : Nat) [(C.int Go.IntKind.i64 (0 : Int))])) (Int.toNat t13) (splice (List.getD (List.set (EC.encL ec_48 b3) (Int.toNat t13) (splice (List.getD (EC.encL ec_48 b3) (Int.toNat t13) []) (1 : Nat) [(C.int Go.IntKind.i64 (0 : Int))])) (Int.toNat t13) []) (2 : Nat) [(C.int Go.IntKind.i64 (0 : Int)), (C.int Go.IntKind.i64 (0 : Int))]))) <|
            (gdE (EC.isL ec_48 (EC.encL ec_48 b4)) <|
              (meeting_propose_l3 t12 (Go.IntKind.wrap Go.IntKind.i64 (t13 + (1 : Int))) b0 b0_1 b0_2 b0_3 b0_4 b0_5 b1 b1_1 b2 b2_1 b2_2 b2_3 b2_4 b2_5 (EC.decL ec_48 (List.set (List.set (EC.encL ec_48 b3) (Int.toNat t13) (splice (List.getD (EC.encL ec_48 b3) (Int.toNat t13) []) (1 : Nat) [(C.int Go.IntKind.i64 (0 : Int))])) (Int.toNat t13) (splice (List.getD (List.set (EC.encL ec_48 b3) (Int.toNat t13) (splice (List.getD (EC.encL ec_48 b3) (Int.toNat t13) []) (1 : Nat) [(C.int Go.IntKind.i64 (0 : Int))])) (Int.toNat t13) []) (2 : Nat) [(C.int Go.IntKind.i64 (0 : Int)), (C.int Go.IntKind.i64 (0 : Int))]))) (EC.decL ec_48 (EC.encL ec_48 b4)))))))))
  (gdE (EC.isL ec_48 (EC.encL ec_48 b3)) <|
    (gdE (EC.isL ec_48 (EC.encL ec_48 b4)) <|
      (some (((), ((), ((), (t12, (t13, false))))), ((b0, (b0_1, (b0_2, (b0_3, (b0_4, b0_5))))), ((b1, b1_1), ((b2, (b2_1, (b2_2, (b2_3, (b2_4, b2_5))))), ((EC.decL ec_48 (EC.encL ec_48 b3)), (EC.decL ec_48 (EC.encL ec_48 b4)))))))))))
theorem meeting_propose_l3_eq {t12 : Int} {t13 : Int} {b0 : ByteArray} {b0_1 : Nat} {b0_2 : Int} {b0_3 : Int} {b0_4 : Int} {b0_5 : Bool} {b1 : Int} {b1_1 : Int} {b2 : ByteArray} {b2_1 : Nat} {b2_2 : Int} {b2_3 : Int} {b2_4 : Int} {b2_5 : Bool} {b3 : (List S48)} {b4 : (List S48)} {r : ((Unit × Unit × Unit × Int × Int × Bool) × ((ByteArray × Nat × Int × Int × Int × Bool) × (Int × Int) × (ByteArray × Nat × Int × Int × Int × Bool) × (List S48) × (List S48)))} (h : meeting_propose_l3_t t12 t13 b0 b0_1 b0_2 b0_3 b0_4 b0_5 b1 b1_1 b2 b2_1 b2_2 b2_3 b2_4 b2_5 b3 b4 = some r) : meeting_propose_l3 t12 t13 b0 b0_1 b0_2 b0_3 b0_4 b0_5 b1 b1_1 b2 b2_1 b2_2 b2_3 b2_4 b2_5 b3 b4 = some r :=
  lS_tree (es := tab_cloneG) [] (by kernel_rfl) trivial trivial (by kernel_rfl) h
noncomputable def meeting_propose_l3_e : LEnt Try.prog lv X0 55 35 := lentS Try.prog lv X0 3 (getLoop (cdF Try.f55) 3) meeting_propose_l3_s meeting_propose_l3_o (fun x => meeting_propose_l3 x.1.2.2.2.1 x.1.2.2.2.2 x.2.1.1 x.2.1.2.1 x.2.1.2.2.1 x.2.1.2.2.2.1 x.2.1.2.2.2.2.1 x.2.1.2.2.2.2.2 x.2.2.1.1 x.2.2.1.2 x.2.2.2.1.1 x.2.2.2.1.2.1 x.2.2.2.1.2.2.1 x.2.2.2.1.2.2.2.1 x.2.2.2.1.2.2.2.2.1 x.2.2.2.1.2.2.2.2.2 x.2.2.2.2.1 x.2.2.2.2.2) (fun _ _ h => lS_from h)
def meeting_propose_cr : Cod (V × List B) ((ByteArray × Nat × Int × Int × Int × Bool) × (List S48)) := (cPair (vAgg (lCons (vC cStr) (lCons (vRow 0) (lCons (vC (cInt .i64)) (lCons (vC (cInt .i64)) (lCons (vC (cInt .i64)) (lOne (vC cBool)))))))) (lOne (bRow ec_48)))
noncomputable def meeting_propose_s (m_Organizer : ByteArray) (m_Guests : (List S48)) (m_Round : Int) (m_Proposed_From : Int) (m_Proposed_To : Int) (m_Cancelled : Bool) (p_From : Int) (p_To : Int) : Option ((ByteArray × Nat × Int × Int × Int × Bool) × (List S48)) := fS Try.prog lv X0 55 meeting_propose_ca meeting_propose_cr ((m_Organizer, m_Guests, m_Round, m_Proposed_From, m_Proposed_To, m_Cancelled), (p_From, p_To))
noncomputable def meeting_propose_t (m_Organizer : ByteArray) (m_Guests : (List S48)) (m_Round : Int) (m_Proposed_From : Int) (m_Proposed_To : Int) (m_Cancelled : Bool) (p_From : Int) (p_To : Int) : Option ((ByteArray × Nat × Int × Int × Int × Bool) × (List S48)) :=
  (gdE (EC.isL ec_48 (EC.encL ec_48 m_Guests)) <|
  (Option.bind (cloneG_s (EC.decL ec_48 (EC.encL ec_48 m_Guests))) fun r0 =>
    (gdE (EC.isL ec_48 (EC.encL ec_48 (r0).2)) <|
      (Option.bind (meeting_propose_l3 (((r0).1 : Nat) : Int) (0 : Int) m_Organizer (r0).1 m_Round m_Proposed_From m_Proposed_To m_Cancelled p_From p_To (ByteArray.mk (List.toArray [])) (0 : Nat) (0 : Int) (0 : Int) (0 : Int) false (EC.decL ec_48 (EC.encL ec_48 (r0).2)) (EC.decL ec_48 [])) fun r1 =>
        (gdE (EC.isL ec_48 (EC.encL ec_48 (((((r1).2).2).2).2).1)) <|
          (some (((((r1).2).1).1, (((((r1).2).1).2).1, ((Go.IntKind.wrap Go.IntKind.i64 ((((((r1).2).1).2).2).1 + (1 : Int))), (((((r1).2).2).1).1, (((((r1).2).2).1).2, (((((((r1).2).1).2).2).2).2).2))))), (EC.decL ec_48 (EC.encL ec_48 (((((r1).2).2).2).2).1)))))))))
theorem meeting_propose_eq {m_Organizer : ByteArray} {m_Guests : (List S48)} {m_Round : Int} {m_Proposed_From : Int} {m_Proposed_To : Int} {m_Cancelled : Bool} {p_From : Int} {p_To : Int} {r : ((ByteArray × Nat × Int × Int × Int × Bool) × (List S48))} (h : meeting_propose_t m_Organizer m_Guests m_Round m_Proposed_From m_Proposed_To m_Cancelled p_From p_To = some r) : meeting_propose_s m_Organizer m_Guests m_Round m_Proposed_From m_Proposed_To m_Cancelled p_From p_To = some r :=
  fS_tree (es := tab_cloneG) [meeting_propose_l3_e] Try.func55 rfl (by kernel_rfl) rfl (by kernel_rfl) (by kernel_rfl) ⟨⟨_, rfl, rfl⟩, trivial⟩ trivial (by kernel_rfl) h
noncomputable def meeting_propose_e : Ent Try.prog lv X0 := entS Try.prog lv X0 55 [] meeting_propose_ca meeting_propose_cr (fun x => meeting_propose_s x.1.1 x.1.2.1 x.1.2.2.1 x.1.2.2.2.1 x.1.2.2.2.2.1 x.1.2.2.2.2.2 x.2.1 x.2.2) (fun _ _ h => fS_call h)
noncomputable def tab_meeting_propose : List (Ent Try.prog lv X0) := meeting_propose_e :: tab_cloneG
def meeting_running_ca : Cod (List V) (ByteArray × (List S48) × Int × Int × Int × Bool) := (lOne (vAgg (lCons (vC cStr) (lCons (vC (cSl ec_48)) (lCons (vC (cInt .i64)) (lCons (vC (cInt .i64)) (lCons (vC (cInt .i64)) (lOne (vC cBool)))))))))
def meeting_running_cr : Cod (V × List B) (Int × Int) := (cFstU (cPair (vAgg (lCons (vC (cInt .i64)) (lOne (vC (cInt .i64))))) lNil))
noncomputable def meeting_running_s (m_Organizer : ByteArray) (m_Guests : (List S48)) (m_Round : Int) (m_Proposed_From : Int) (m_Proposed_To : Int) (m_Cancelled : Bool) : Option (Int × Int) := fS Try.prog lv X0 54 meeting_running_ca meeting_running_cr (m_Organizer, m_Guests, m_Round, m_Proposed_From, m_Proposed_To, m_Cancelled)
noncomputable def meeting_running_t (m_Organizer : ByteArray) (m_Guests : (List S48)) (m_Round : Int) (m_Proposed_From : Int) (m_Proposed_To : Int) (m_Cancelled : Bool) : Option (Int × Int) :=
  (gdE (EC.isL ec_48 (EC.encL ec_48 m_Guests)) <|
  (Option.bind (meeting_Validate_s m_Organizer (EC.decL ec_48 (EC.encL ec_48 m_Guests)) m_Round m_Proposed_From m_Proposed_To m_Cancelled) fun r0 =>
    (Option.bind (basic_Failed_s (r0).1 (r0).2) fun r1 =>
      (brE r1
        (some ((r0).1, (r0).2))
        (brE (m_Cancelled == false)
          (brE (m_Round == (1000000 : Int))
            (Option.bind (basic_Fault_s (8 : Int) (-(4 : Int))) fun r2 =>
              (some ((r2).1, (r2).2)))
            (Option.bind basic_None_s fun r2 =>
              (some ((r2).1, (r2).2))))
          (Option.bind (basic_Fault_s (8 : Int) (-(4 : Int))) fun r2 =>
            (some ((r2).1, (r2).2))))))))
theorem meeting_running_eq {m_Organizer : ByteArray} {m_Guests : (List S48)} {m_Round : Int} {m_Proposed_From : Int} {m_Proposed_To : Int} {m_Cancelled : Bool} {r : (Int × Int)} (h : meeting_running_t m_Organizer m_Guests m_Round m_Proposed_From m_Proposed_To m_Cancelled = some r) : meeting_running_s m_Organizer m_Guests m_Round m_Proposed_From m_Proposed_To m_Cancelled = some r :=
  fS_tree (es := tab_meeting_propose) [] Try.func54 rfl (by kernel_rfl) rfl (by kernel_rfl) (by kernel_rfl) trivial trivial (by kernel_rfl) h
noncomputable def meeting_running_e : Ent Try.prog lv X0 := entS Try.prog lv X0 54 [] meeting_running_ca meeting_running_cr (fun x => meeting_running_s x.1 x.2.1 x.2.2.1 x.2.2.2.1 x.2.2.2.2.1 x.2.2.2.2.2) (fun _ _ h => fS_call h)
noncomputable def tab_meeting_running : List (Ent Try.prog lv X0) := meeting_running_e :: tab_meeting_propose
def meeting_Propose_ca : Cod (List V) ((ByteArray × (List S48) × Int × Int × Int × Bool) × (Int × Int)) := (lCons (vAgg (lCons (vC cStr) (lCons (vC (cSl ec_48)) (lCons (vC (cInt .i64)) (lCons (vC (cInt .i64)) (lCons (vC (cInt .i64)) (lOne (vC cBool)))))))) (lOne (vAgg (lCons (vC (cInt .i64)) (lOne (vC (cInt .i64)))))))
def meeting_Propose_cr : Cod (V × List B) (((ByteArray × Nat × Int × Int × Int × Bool) × (Int × Int)) × (List S48)) := (cPair (vTup (lCons (vAgg (lCons (vC cStr) (lCons (vRow 0) (lCons (vC (cInt .i64)) (lCons (vC (cInt .i64)) (lCons (vC (cInt .i64)) (lOne (vC cBool)))))))) (lOne (vAgg (lCons (vC (cInt .i64)) (lOne (vC (cInt .i64)))))))) (lOne (bRow ec_48)))
noncomputable def meeting_Propose_s (m_Organizer : ByteArray) (m_Guests : (List S48)) (m_Round : Int) (m_Proposed_From : Int) (m_Proposed_To : Int) (m_Cancelled : Bool) (p_From : Int) (p_To : Int) : Option (((ByteArray × Nat × Int × Int × Int × Bool) × (Int × Int)) × (List S48)) := fS Try.prog lv X0 28 meeting_Propose_ca meeting_Propose_cr ((m_Organizer, m_Guests, m_Round, m_Proposed_From, m_Proposed_To, m_Cancelled), (p_From, p_To))
noncomputable def meeting_Propose_t (m_Organizer : ByteArray) (m_Guests : (List S48)) (m_Round : Int) (m_Proposed_From : Int) (m_Proposed_To : Int) (m_Cancelled : Bool) (p_From : Int) (p_To : Int) : Option (((ByteArray × Nat × Int × Int × Int × Bool) × (Int × Int)) × (List S48)) :=
  (gdE (EC.isL ec_48 (EC.encL ec_48 m_Guests)) <|
  (Option.bind (meeting_running_s m_Organizer (EC.decL ec_48 (EC.encL ec_48 m_Guests)) m_Round m_Proposed_From m_Proposed_To m_Cancelled) fun r0 =>
    (Option.bind (basic_Failed_s (r0).1 (r0).2) fun r1 =>
      (brE r1
        (some ((((ByteArray.mk (List.toArray [])), ((0 : Nat), ((0 : Int), ((0 : Int), ((0 : Int), false))))), ((r0).1, (r0).2)), (EC.decL ec_48 [])))
        (Option.bind (meeting_possible_s p_From p_To) fun r2 =>
          (brE (!r2)
            (Option.bind (basic_Fault_s (3 : Int) (-(5 : Int))) fun r3 =>
              (some ((((ByteArray.mk (List.toArray [])), ((0 : Nat), ((0 : Int), ((0 : Int), ((0 : Int), false))))), ((r3).1, (r3).2)), (EC.decL ec_48 []))))
            (gdE (EC.isL ec_48 (EC.encL ec_48 m_Guests)) <|
              (Option.bind (meeting_propose_s m_Organizer (EC.decL ec_48 (EC.encL ec_48 m_Guests)) m_Round m_Proposed_From m_Proposed_To m_Cancelled p_From p_To) fun r3 =>
                (Option.bind basic_None_s fun r4 =>
                  (gdE (EC.isL ec_48 (EC.encL ec_48 (r3).2)) <|
                    (some (((((r3).1).1, ((((r3).1).2).1, (((((r3).1).2).2).1, ((((((r3).1).2).2).2).1, (((((((r3).1).2).2).2).2).1, ((((((r3).1).2).2).2).2).2))))), ((r4).1, (r4).2)), (EC.decL ec_48 (EC.encL ec_48 (r3).2))))))))))))))
theorem meeting_Propose_eq {m_Organizer : ByteArray} {m_Guests : (List S48)} {m_Round : Int} {m_Proposed_From : Int} {m_Proposed_To : Int} {m_Cancelled : Bool} {p_From : Int} {p_To : Int} {r : (((ByteArray × Nat × Int × Int × Int × Bool) × (Int × Int)) × (List S48))} (h : meeting_Propose_t m_Organizer m_Guests m_Round m_Proposed_From m_Proposed_To m_Cancelled p_From p_To = some r) : meeting_Propose_s m_Organizer m_Guests m_Round m_Proposed_From m_Proposed_To m_Cancelled p_From p_To = some r :=
  fS_tree (es := tab_meeting_running) [] Try.func28 rfl (by kernel_rfl) rfl (by kernel_rfl) (by kernel_rfl) trivial trivial (by kernel_rfl) h
noncomputable def meeting_Propose_e : Ent Try.prog lv X0 := entS Try.prog lv X0 28 [] meeting_Propose_ca meeting_Propose_cr (fun x => meeting_Propose_s x.1.1 x.1.2.1 x.1.2.2.1 x.1.2.2.2.1 x.1.2.2.2.2.1 x.1.2.2.2.2.2 x.2.1 x.2.2) (fun _ _ h => fS_call h)
noncomputable def tab_meeting_Propose : List (Ent Try.prog lv X0) := meeting_Propose_e :: tab_meeting_running
def meeting_Cancel_ca : Cod (List V) (ByteArray × (List S48) × Int × Int × Int × Bool) := (lOne (vAgg (lCons (vC cStr) (lCons (vC (cSl ec_48)) (lCons (vC (cInt .i64)) (lCons (vC (cInt .i64)) (lCons (vC (cInt .i64)) (lOne (vC cBool)))))))))
def meeting_Cancel_cr : Cod (V × List B) (((ByteArray × Nat × Int × Int × Int × Bool) × (Int × Int)) × (List S48)) := (cPair (vTup (lCons (vAgg (lCons (vC cStr) (lCons (vRow 0) (lCons (vC (cInt .i64)) (lCons (vC (cInt .i64)) (lCons (vC (cInt .i64)) (lOne (vC cBool)))))))) (lOne (vAgg (lCons (vC (cInt .i64)) (lOne (vC (cInt .i64)))))))) (lOne (bRow ec_48)))
noncomputable def meeting_Cancel_s (m_Organizer : ByteArray) (m_Guests : (List S48)) (m_Round : Int) (m_Proposed_From : Int) (m_Proposed_To : Int) (m_Cancelled : Bool) : Option (((ByteArray × Nat × Int × Int × Int × Bool) × (Int × Int)) × (List S48)) := fS Try.prog lv X0 29 meeting_Cancel_ca meeting_Cancel_cr (m_Organizer, m_Guests, m_Round, m_Proposed_From, m_Proposed_To, m_Cancelled)
noncomputable def meeting_Cancel_t (m_Organizer : ByteArray) (m_Guests : (List S48)) (m_Round : Int) (m_Proposed_From : Int) (m_Proposed_To : Int) (m_Cancelled : Bool) : Option (((ByteArray × Nat × Int × Int × Int × Bool) × (Int × Int)) × (List S48)) :=
  (gdE (EC.isL ec_48 (EC.encL ec_48 m_Guests)) <|
  (Option.bind (meeting_Validate_s m_Organizer (EC.decL ec_48 (EC.encL ec_48 m_Guests)) m_Round m_Proposed_From m_Proposed_To m_Cancelled) fun r0 =>
    (Option.bind (basic_Failed_s (r0).1 (r0).2) fun r1 =>
      (brE r1
        (some ((((ByteArray.mk (List.toArray [])), ((0 : Nat), ((0 : Int), ((0 : Int), ((0 : Int), false))))), ((r0).1, (r0).2)), (EC.decL ec_48 [])))
        (brE m_Cancelled
          (Option.bind (basic_Fault_s (8 : Int) (-(4 : Int))) fun r2 =>
            (some ((((ByteArray.mk (List.toArray [])), ((0 : Nat), ((0 : Int), ((0 : Int), ((0 : Int), false))))), ((r2).1, (r2).2)), (EC.decL ec_48 []))))
          (gdE (EC.isL ec_48 (EC.encL ec_48 m_Guests)) <|
            (Option.bind (cloneG_s (EC.decL ec_48 (EC.encL ec_48 m_Guests))) fun r2 =>
              (Option.bind basic_None_s fun r3 =>
                (gdE (EC.isL ec_48 (EC.encL ec_48 (r2).2)) <|
                  (some (((m_Organizer, ((r2).1, (m_Round, (m_Proposed_From, (m_Proposed_To, true))))), ((r3).1, (r3).2)), (EC.decL ec_48 (EC.encL ec_48 (r2).2)))))))))))))
theorem meeting_Cancel_eq {m_Organizer : ByteArray} {m_Guests : (List S48)} {m_Round : Int} {m_Proposed_From : Int} {m_Proposed_To : Int} {m_Cancelled : Bool} {r : (((ByteArray × Nat × Int × Int × Int × Bool) × (Int × Int)) × (List S48))} (h : meeting_Cancel_t m_Organizer m_Guests m_Round m_Proposed_From m_Proposed_To m_Cancelled = some r) : meeting_Cancel_s m_Organizer m_Guests m_Round m_Proposed_From m_Proposed_To m_Cancelled = some r :=
  fS_tree (es := tab_meeting_Propose) [] Try.func29 rfl (by kernel_rfl) rfl (by kernel_rfl) (by kernel_rfl) trivial trivial (by kernel_rfl) h
noncomputable def meeting_Cancel_e : Ent Try.prog lv X0 := entS Try.prog lv X0 29 [] meeting_Cancel_ca meeting_Cancel_cr (fun x => meeting_Cancel_s x.1 x.2.1 x.2.2.1 x.2.2.2.1 x.2.2.2.2.1 x.2.2.2.2.2) (fun _ _ h => fS_call h)
noncomputable def tab_meeting_Cancel : List (Ent Try.prog lv X0) := meeting_Cancel_e :: tab_meeting_Propose
def answer1_ca : Cod (List V) ((ByteArray × Int × Int × Int) × ByteArray) := (lCons (vAgg (lCons (vC cStr) (lCons (vC (cInt .i64)) (lCons (vC (cInt .i64)) (lOne (vC (cInt .i64))))))) (lOne (vEptr (lOne cStr) 0)))
def answer1_cr : Cod (V × List B) Bool := (cFstU (cPair (vC cBool) lNil))
noncomputable def answer1_s (g_Address : ByteArray) (g_Answer : Int) (g_Offer_From : Int) (g_Offer_To : Int) (c1 : ByteArray) : Option Bool := fS Try.prog lv X0 46 answer1_ca answer1_cr ((g_Address, g_Answer, g_Offer_From, g_Offer_To), c1)
noncomputable def answer1_t (g_Address : ByteArray) (g_Answer : Int) (g_Offer_From : Int) (g_Offer_To : Int) (c1 : ByteArray) : Option Bool :=
  (some ((ByteArray.toList g_Address) == (ByteArray.toList c1)))
theorem answer1_eq {g_Address : ByteArray} {g_Answer : Int} {g_Offer_From : Int} {g_Offer_To : Int} {c1 : ByteArray} {r : Bool} (h : answer1_t g_Address g_Answer g_Offer_From g_Offer_To c1 = some r) : answer1_s g_Address g_Answer g_Offer_From g_Offer_To c1 = some r :=
  fS_tree (es := tab_meeting_Cancel) [] Try.func46 rfl (by kernel_rfl) rfl (by kernel_rfl) (by kernel_rfl) trivial trivial (by kernel_rfl) h
noncomputable def answer1_e : Ent Try.prog lv X0 := entS Try.prog lv X0 46 [] answer1_ca answer1_cr (fun x => answer1_s x.1.1 x.1.2.1 x.1.2.2.1 x.1.2.2.2 x.2) (fun _ _ h => fS_call h)
noncomputable def tab_answer1 : List (Ent Try.prog lv X0) := answer1_e :: tab_meeting_Cancel
def idxWho_ca : Cod (List V) ((List S48) × ByteArray) := (lCons (vC (cSl ec_48)) (lOne (vFn 46 (lOne (vEptr (lOne cStr) 0)))))
def idxWho_l2_s : SC (((List S48) × ByteArray × Int × Int) × Unit) := sLS [0, 1, 7, 8] (lCons (vC (cSl ec_48)) (lCons (vFn 46 (lOne (vEptr (lOne cStr) 0))) (lCons (vC (cInt .i64)) (lOne (vC (cInt .i64)))))) lNil [] (by decide) (fun _ => rfl)
def idxWho_l2_o2 : SC (((List S48) × ByteArray × Int × Int × Bool) × Unit) := sLS [0, 1, 7, 8, 9] (lCons (vC (cSl ec_48)) (lCons (vFn 46 (lOne (vEptr (lOne cStr) 0))) (lCons (vC (cInt .i64)) (lCons (vC (cInt .i64)) (lOne (vC cBool)))))) lNil [] (by decide) (fun _ => rfl)
def idxWho_l2_o1 : SC (Int × Unit) := sLS [4] (lOne (vC (cInt .i64))) lNil [] (by decide) (fun _ => rfl)
def idxWho_l2_o : OC ((Int × Unit) ⊕ (((List S48) × ByteArray × Int × Int × Bool) × Unit)) := oOr 1 idxWho_l2_o1 (oAt 2 idxWho_l2_o2) (fun x => (by decide : (2 : Nat) ≠ 1))
noncomputable def idxWho_l2 (s : (List S48)) (f : ByteArray) (t7 : Int) (t8 : Int) : Option ((Int × Unit) ⊕ (((List S48) × ByteArray × Int × Int × Bool) × Unit)) := lS Try.prog lv X0 45 19 (getLoop (cdF Try.f45) 2) idxWho_l2_s idxWho_l2_o ((s, f, t7, t8), ())
noncomputable def idxWho_l2_t (s : (List S48)) (f : ByteArray) (t7 : Int) (t8 : Int) : Option ((Int × Unit) ⊕ (((List S48) × ByteArray × Int × Int × Bool) × Unit)) :=
  (brE (decide (t8 < t7))
  (gdE (decide ((0 : Int) ≤ t8)) <|
    (gdE ((decide ((Int.toNat t8) < (List.length (EC.encL ec_48 s)))) && (isE [K1.str, (K1.int Go.IntKind.i64), (K1.int Go.IntKind.i64), (K1.int Go.IntKind.i64)] (0 : Nat) (List.getD (EC.encL ec_48 s) (Int.toNat t8) []))) <|
      (Option.bind (answer1_s (strOf (List.getD (List.getD (EC.encL ec_48 s) (Int.toNat t8) []) (0 : Nat) C.ne)) (intOf (List.getD (List.getD (EC.encL ec_48 s) (Int.toNat t8) []) (1 : Nat) C.ne)) (intOf (List.getD (List.getD (EC.encL ec_48 s) (Int.toNat t8) []) (2 : Nat) C.ne)) (intOf (List.getD (List.getD (EC.encL ec_48 s) (Int.toNat t8) []) (3 : Nat) C.ne)) f) fun r0 =>
        (brE r0
          (some (.inl (t8, ())))
          (gdE (EC.isL ec_48 (EC.encL ec_48 s)) <|
            (idxWho_l2 (EC.decL ec_48 (EC.encL ec_48 s)) f t7 (Go.IntKind.wrap Go.IntKind.i64 (t8 + (1 : Int)))))))))
  (gdE (EC.isL ec_48 (EC.encL ec_48 s)) <|
    (some (.inr (((EC.decL ec_48 (EC.encL ec_48 s)), (f, (t7, (t8, false)))), ())))))
theorem idxWho_l2_eq {s : (List S48)} {f : ByteArray} {t7 : Int} {t8 : Int} {r : ((Int × Unit) ⊕ (((List S48) × ByteArray × Int × Int × Bool) × Unit))} (h : idxWho_l2_t s f t7 t8 = some r) : idxWho_l2 s f t7 t8 = some r :=
  lS_tree (es := tab_answer1) [] (by kernel_rfl) trivial trivial (by kernel_rfl) h
noncomputable def idxWho_l2_e : LEnt Try.prog lv X0 45 19 := lentS Try.prog lv X0 2 (getLoop (cdF Try.f45) 2) idxWho_l2_s idxWho_l2_o (fun x => idxWho_l2 x.1.1 x.1.2.1 x.1.2.2.1 x.1.2.2.2) (fun _ _ h => lS_from h)
def idxWho_cr : Cod (V × List B) Int := (cFstU (cPair (vC (cInt .i64)) lNil))
noncomputable def idxWho_s (s : (List S48)) (f : ByteArray) : Option Int := fS Try.prog lv X0 45 idxWho_ca idxWho_cr (s, f)
noncomputable def idxWho_t (s : (List S48)) (f : ByteArray) : Option Int :=
  (gdE (EC.isL ec_48 (EC.encL ec_48 s)) <|
  (Option.bind (idxWho_l2 (EC.decL ec_48 (EC.encL ec_48 s)) f (((List.length (EC.encL ec_48 s)) : Nat) : Int) (0 : Int)) fun r0 =>
    (Sum.elim (fun r1 => (some (r1).1))
      (fun r1 => (some (-1 : Int))) r0)))
theorem idxWho_eq {s : (List S48)} {f : ByteArray} {r : Int} (h : idxWho_t s f = some r) : idxWho_s s f = some r :=
  fS_tree (es := tab_answer1) [idxWho_l2_e] Try.func45 rfl (by kernel_rfl) rfl (by kernel_rfl) (by kernel_rfl) ⟨⟨_, rfl, rfl⟩, trivial⟩ trivial (by kernel_rfl) h
noncomputable def idxWho_e : Ent Try.prog lv X0 := entS Try.prog lv X0 45 [46] idxWho_ca idxWho_cr (fun x => idxWho_s x.1 x.2) (fun _ _ h => fS_call h)
noncomputable def tab_idxWho : List (Ent Try.prog lv X0) := idxWho_e :: tab_answer1
def meeting_Answer_ca : Cod (List V) ((ByteArray × (List S48) × Int × Int × Int × Bool) × ByteArray × Int × (Int × Int)) := (lCons (vAgg (lCons (vC cStr) (lCons (vC (cSl ec_48)) (lCons (vC (cInt .i64)) (lCons (vC (cInt .i64)) (lCons (vC (cInt .i64)) (lOne (vC cBool)))))))) (lCons (vC cStr) (lCons (vC (cInt .i64)) (lOne (vAgg (lCons (vC (cInt .i64)) (lOne (vC (cInt .i64)))))))))
def meeting_Answer_cr : Cod (V × List B) (((ByteArray × Nat × Int × Int × Int × Bool) × (Int × Int)) × (List S48)) := (cPair (vTup (lCons (vAgg (lCons (vC cStr) (lCons (vRow 0) (lCons (vC (cInt .i64)) (lCons (vC (cInt .i64)) (lCons (vC (cInt .i64)) (lOne (vC cBool)))))))) (lOne (vAgg (lCons (vC (cInt .i64)) (lOne (vC (cInt .i64)))))))) (lOne (bRow ec_48)))
noncomputable def meeting_Answer_s (m_Organizer : ByteArray) (m_Guests : (List S48)) (m_Round : Int) (m_Proposed_From : Int) (m_Proposed_To : Int) (m_Cancelled : Bool) (who : ByteArray) (answer : Int) (offer_From : Int) (offer_To : Int) : Option (((ByteArray × Nat × Int × Int × Int × Bool) × (Int × Int)) × (List S48)) := fS Try.prog lv X0 19 meeting_Answer_ca meeting_Answer_cr ((m_Organizer, m_Guests, m_Round, m_Proposed_From, m_Proposed_To, m_Cancelled), who, answer, (offer_From, offer_To))
noncomputable def meeting_Answer_t (m_Organizer : ByteArray) (m_Guests : (List S48)) (m_Round : Int) (m_Proposed_From : Int) (m_Proposed_To : Int) (m_Cancelled : Bool) (who : ByteArray) (answer : Int) (offer_From : Int) (offer_To : Int) : Option (((ByteArray × Nat × Int × Int × Int × Bool) × (Int × Int)) × (List S48)) :=
  (gdE (EC.isL ec_48 (EC.encL ec_48 m_Guests)) <|
  (Option.bind (meeting_Validate_s m_Organizer (EC.decL ec_48 (EC.encL ec_48 m_Guests)) m_Round m_Proposed_From m_Proposed_To m_Cancelled) fun r0 =>
    (Option.bind (basic_Failed_s (r0).1 (r0).2) fun r1 =>
      (brE r1
        (some ((((ByteArray.mk (List.toArray [])), ((0 : Nat), ((0 : Int), ((0 : Int), ((0 : Int), false))))), ((r0).1, (r0).2)), (EC.decL ec_48 [])))
        (gdE (EC.isL ec_48 (EC.encL ec_48 m_Guests)) <|
          (Option.bind (idxWho_s (EC.decL ec_48 (EC.encL ec_48 m_Guests)) who) fun r2 =>
            (brE (m_Cancelled == false)
              (brE (m_Round == (0 : Int))
                (Option.bind (basic_Fault_s (8 : Int) (-(4 : Int))) fun r3 =>
                  (some ((((ByteArray.mk (List.toArray [])), ((0 : Nat), ((0 : Int), ((0 : Int), ((0 : Int), false))))), ((r3).1, (r3).2)), (EC.decL ec_48 []))))
                (brE (decide (r2 < (0 : Int)))
                  (Option.bind (basic_Fault_s (6 : Int) (-(5 : Int))) fun r3 =>
                    (some ((((ByteArray.mk (List.toArray [])), ((0 : Nat), ((0 : Int), ((0 : Int), ((0 : Int), false))))), ((r3).1, (r3).2)), (EC.decL ec_48 []))))
                  (brE ((decide (answer < (1 : Int))) == false)
                    (brE (decide (answer > (3 : Int)))
                      (Option.bind (basic_Fault_s (3 : Int) (-(6 : Int))) fun r3 =>
                        (some ((((ByteArray.mk (List.toArray [])), ((0 : Nat), ((0 : Int), ((0 : Int), ((0 : Int), false))))), ((r3).1, (r3).2)), (EC.decL ec_48 []))))
                      (brE ((answer == (3 : Int)) == true)
                        (Option.bind (meeting_possible_s offer_From offer_To) fun r3 =>
                          (brE (!r3)
                            (Option.bind (basic_Fault_s (3 : Int) (-(7 : Int))) fun r4 =>
                              (some ((((ByteArray.mk (List.toArray [])), ((0 : Nat), ((0 : Int), ((0 : Int), ((0 : Int), false))))), ((r4).1, (r4).2)), (EC.decL ec_48 []))))
                            (gdE (EC.isL ec_48 (EC.encL ec_48 m_Guests)) <|
                              (Option.bind (cloneG_s (EC.decL ec_48 (EC.encL ec_48 m_Guests))) fun r4 =>
                                (gdE ((decide ((0 : Int) ≤ r2)) && (decide (r2 < (((r4).1 : Nat) : Int)))) <|
                                  (gdE ((decide ((Int.toNat r2) < (List.length (EC.encL ec_48 (r4).2)))) && ((List.length (List.getD (EC.encL ec_48 (r4).2) (Int.toNat r2) [])) == (4 : Nat))) <|
                                    (gdE ((decide ((0 : Int) ≤ r2)) && (decide (r2 < (((r4).1 : Nat) : Int)))) <|
                                      (gdE ((decide ((Int.toNat r2) < (List.length (List.set (EC.encL ec_48 (r4).2) (Int.toNat r2) (splice (List.getD (EC.encL ec_48 (r4).2) (Int.toNat r2) []) (1 : Nat) [(C.int Go.IntKind.i64 answer)]))))) && ((List.length (List.getD (List.set (EC.encL ec_48 (r4).2) (Int.toNat r2) (splice (List.getD (EC.encL ec_48 (r4).2) (Int.toNat r2) []) (1 : Nat) [(C.int Go.IntKind.i64 answer)])) (Int.toNat r2) [])) == (4 : Nat))) <|
                                        (brE (answer == (3 : Int))
                                          (gdE ((decide ((0 : Int) ≤ r2)) && (decide (r2 < (((r4).1 : Nat) : Int)))) <|
                                            (gdE ((decide ((Int.toNat r2) < (List.length (List.set (List.set (EC.encL ec_48 (r4).2) (Int.toNat r2) (splice (List.getD (EC.encL ec_48 (r4).2) (Int.toNat r2) []) (1 : Nat) [(C.int Go.IntKind.i64 answer)])) (Int.toNat r2) (splice (List.getD (List.set (EC.encL ec_48 (r4).2) (Int.toNat r2) (splice (List.getD (EC.encL ec_48 (r4).2) (Int.toNat r2) []) (1 : Nat) [(C.int Go.IntKind.i64 answer)])) (Int.toNat r2) []) (2 : Nat) [(C.int Go.IntKind.i64 (0 : Int)), (C.int Go.IntKind.i64 (0 : Int))]))))) && ((List.length (List.getD (List.set (List.set (EC.encL ec_48 (r4).2) (Int.toNat r2) (splice (List.getD (EC.encL ec_48 (r4).2) (Int.toNat r2) []) (1 : Nat) [(C.int Go.IntKind.i64 answer)])) (Int.toNat r2) (splice (List.getD (List.set (EC.encL ec_48 (r4).2) (Int.toNat r2) (splice (List.getD (EC.encL ec_48 (r4).2) (Int.toNat r2) []) (1 : Nat) [(C.int Go.IntKind.i64 answer)])) (Int.toNat r2) []) (2 : Nat) [(C.int Go.IntKind.i64 (0 : Int)), (C.int Go.IntKind.i64 (0 : Int))])) (Int.toNat r2) [])) == (4 : Nat))) <|
                                              (Option.bind basic_None_s fun r5 =>
                                                (gdE (EC.isL ec_48 (List.set (List.set (List.set (EC.encL ec_48 (r4).2) (Int.toNat r2) (splice (List.getD (EC.encL ec_48 (r4).2) (Int.toNat r2) []) (1 : Nat) [(C.int Go.IntKind.i64 answer)])) (Int.toNat r2) (splice (List.getD (List.set (EC.encL ec_48 (r4).2) (Int.toNat r2) (splice (List.getD (EC.encL ec_48 (r4).2) (Int.toNat r2) []) (1 : Nat) [(C.int Go.IntKind.i64 answer)])) (Int.toNat r2) []) (2 : Nat) [(C.int Go.IntKind.i64 (0 : Int)), (C.int Go.IntKind.i64 (0 : Int))])) (Int.toNat r2) (splice (List.getD (List.set (List.set (EC.encL ec_48 (r4).2) (Int.toNat r2) (splice (List.getD (EC.encL ec_48 (r4).2) (Int.toNat r2) []) (1 : Nat) [(C.int Go.IntKind.i64 answer)])) (Int.toNat r2) (splice (List.getD (List.set (EC.encL ec_48 (r4).2) (Int.toNat r2) (splice (List.getD (EC.encL ec_48 (r4).2) (Int.toNat r2) []) (1 : Nat) [(C.int Go.IntKind.i64 answer)])) (Int.toNat r2) []) (2 : Nat) [(C.int Go.IntKind.i64 (0 : Int)), (C.int Go.IntKind.i64 (0 : Int))])) (Int.toNat r2) []) (2 : Nat) [(C.int Go.IntKind.i64 offer_From), (C.int Go.IntKind.i64 offer_To)]))) <|
                                                  (some (((m_Organizer, ((r4).1, (m_Round, (m_Proposed_From, (m_Proposed_To, m_Cancelled))))), ((r5).1, (r5).2)), (EC.decL ec_48 (List.set (List.set (List.set (EC.encL ec_48 (r4).2) (Int.toNat r2) (splice (List.getD (EC.encL ec_48 (r4).2) (Int.toNat r2) []) (1 : Nat) [(C.int Go.IntKind.i64 answer)])) (Int.toNat r2) (splice (List.getD (List.set (EC.encL ec_48 (r4).2) (Int.toNat r2) (splice (List.getD (EC.encL ec_48 (r4).2) (Int.toNat r2) []) (1 : Nat) [(C.int Go.IntKind.i64 answer)])) (Int.toNat r2) []) (2 : Nat) [(C.int Go.IntKind.i64 (0 : Int)), (C.int Go.IntKind.i64 (0 : Int))])) (Int.toNat r2) (splice (List.getD (List.set (List.set (EC.encL ec_48 (r4).2) (Int.toNat r2) (splice (List.getD (EC.encL ec_48 (r4).2) (Int.toNat r2) []) (1 : Nat) [(C.int Go.IntKind.i64 answer)])) (Int.toNat r2) (splice (List.getD (List.set (EC.encL ec_48 (r4).2) (Int.toNat r2) (splice (List.getD (EC.encL ec_48 (r4).2) (Int.toNat r2) []) (1 : Nat) [(C.int Go.IntKind.i64 answer)])) (Int.toNat r2) []) (2 : Nat) [(C.int Go.IntKind.i64 (0 : Int)), (C.int Go.IntKind.i64 (0 : Int))])) (Int.toNat r2) []) (2 : Nat) [(C.int Go.IntKind.i64 offer_From), (C.int Go.IntKind.i64 offer_To)])))))))))
                                          (Option.bind basic_None_s fun r5 =>
                                            (gdE (EC.isL ec_48 (List.set (List.set (EC.encL ec_48 (r4).2) (Int.toNat r2) (splice (List.getD (EC.encL ec_48 (r4).2) (Int.toNat r2) []) (1 : Nat) [(C.int Go.IntKind.i64 answer)])) (Int.toNat r2) (splice (List.getD (List.set (EC.encL ec_48 (r4).2) (Int.toNat r2) (splice (List.getD (EC.encL ec_48 (r4).2) (Int.toNat r2) []) (1 : Nat) [(C.int Go.IntKind.i64 answer)])) (Int.toNat r2) []) (2 : Nat) [(C.int Go.IntKind.i64 (0 : Int)), (C.int Go.IntKind.i64 (0 : Int))]))) <|
                                              (some (((m_Organizer, ((r4).1, (m_Round, (m_Proposed_From, (m_Proposed_To, m_Cancelled))))), ((r5).1, (r5).2)), (EC.decL ec_48 (List.set (List.set (EC.encL ec_48 (r4).2) (Int.toNat r2) (splice (List.getD (EC.encL ec_48 (r4).2) (Int.toNat r2) []) (1 : Nat) [(C.int Go.IntKind.i64 answer)])) (Int.toNat r2) (splice (List.getD (List.set (EC.encL ec_48 (r4).2) (Int.toNat r2) (splice (List.getD (EC.encL ec_48 (r4).2) (Int.toNat r2) []) (1 : Nat) [(C.int Go.IntKind.i64 answer)])) (Int.toNat r2) []) (2 : Nat) [(C.int Go.IntKind.i64 (0 : Int)), (C.int Go.IntKind.i64 (0 : Int))]))))))))))))))))
                        (gdE (EC.isL ec_48 (EC.encL ec_48 m_Guests)) <|
                          (Option.bind (cloneG_s (EC.decL ec_48 (EC.encL ec_48 m_Guests))) fun r3 =>
                            (gdE ((decide ((0 : Int) ≤ r2)) && (decide (r2 < (((r3).1 : Nat) : Int)))) <|
                              (gdE ((decide ((Int.toNat r2) < (List.length (EC.encL ec_48 (r3).2)))) && ((List.length (List.getD (EC.encL ec_48 (r3).2) (Int.toNat r2) [])) == (4 : Nat))) <|
                                (gdE ((decide ((0 : Int) ≤ r2)) && (decide (r2 < (((r3).1 : Nat) : Int)))) <|
                                  (gdE ((decide ((Int.toNat r2) < (List.length (List.set (EC.encL ec_48 (r3).2) (Int.toNat r2) (splice (List.getD (EC.encL ec_48 (r3).2) (Int.toNat r2) []) (1 : Nat) [(C.int Go.IntKind.i64 answer)]))))) && ((List.length (List.getD (List.set (EC.encL ec_48 (r3).2) (Int.toNat r2) (splice (List.getD (EC.encL ec_48 (r3).2) (Int.toNat r2) []) (1 : Nat) [(C.int Go.IntKind.i64 answer)])) (Int.toNat r2) [])) == (4 : Nat))) <|
                                    (brE (answer == (3 : Int))
                                      (gdE ((decide ((0 : Int) ≤ r2)) && (decide (r2 < (((r3).1 : Nat) : Int)))) <|
                                        (gdE ((decide ((Int.toNat r2) < (List.length (List.set (List.set (EC.encL ec_48 (r3).2) (Int.toNat r2) (splice (List.getD (EC.encL ec_48 (r3).2) (Int.toNat r2) []) (1 : Nat) [(C.int Go.IntKind.i64 answer)])) (Int.toNat r2) (splice (List.getD (List.set (EC.encL ec_48 (r3).2) (Int.toNat r2) (splice (List.getD (EC.encL ec_48 (r3).2) (Int.toNat r2) []) (1 : Nat) [(C.int Go.IntKind.i64 answer)])) (Int.toNat r2) []) (2 : Nat) [(C.int Go.IntKind.i64 (0 : Int)), (C.int Go.IntKind.i64 (0 : Int))]))))) && ((List.length (List.getD (List.set (List.set (EC.encL ec_48 (r3).2) (Int.toNat r2) (splice (List.getD (EC.encL ec_48 (r3).2) (Int.toNat r2) []) (1 : Nat) [(C.int Go.IntKind.i64 answer)])) (Int.toNat r2) (splice (List.getD (List.set (EC.encL ec_48 (r3).2) (Int.toNat r2) (splice (List.getD (EC.encL ec_48 (r3).2) (Int.toNat r2) []) (1 : Nat) [(C.int Go.IntKind.i64 answer)])) (Int.toNat r2) []) (2 : Nat) [(C.int Go.IntKind.i64 (0 : Int)), (C.int Go.IntKind.i64 (0 : Int))])) (Int.toNat r2) [])) == (4 : Nat))) <|
                                          (Option.bind basic_None_s fun r4 =>
                                            (gdE (EC.isL ec_48 (List.set (List.set (List.set (EC.encL ec_48 (r3).2) (Int.toNat r2) (splice (List.getD (EC.encL ec_48 (r3).2) (Int.toNat r2) []) (1 : Nat) [(C.int Go.IntKind.i64 answer)])) (Int.toNat r2) (splice (List.getD (List.set (EC.encL ec_48 (r3).2) (Int.toNat r2) (splice (List.getD (EC.encL ec_48 (r3).2) (Int.toNat r2) []) (1 : Nat) [(C.int Go.IntKind.i64 answer)])) (Int.toNat r2) []) (2 : Nat) [(C.int Go.IntKind.i64 (0 : Int)), (C.int Go.IntKind.i64 (0 : Int))])) (Int.toNat r2) (splice (List.getD (List.set (List.set (EC.encL ec_48 (r3).2) (Int.toNat r2) (splice (List.getD (EC.encL ec_48 (r3).2) (Int.toNat r2) []) (1 : Nat) [(C.int Go.IntKind.i64 answer)])) (Int.toNat r2) (splice (List.getD (List.set (EC.encL ec_48 (r3).2) (Int.toNat r2) (splice (List.getD (EC.encL ec_48 (r3).2) (Int.toNat r2) []) (1 : Nat) [(C.int Go.IntKind.i64 answer)])) (Int.toNat r2) []) (2 : Nat) [(C.int Go.IntKind.i64 (0 : Int)), (C.int Go.IntKind.i64 (0 : Int))])) (Int.toNat r2) []) (2 : Nat) [(C.int Go.IntKind.i64 offer_From), (C.int Go.IntKind.i64 offer_To)]))) <|
                                              (some (((m_Organizer, ((r3).1, (m_Round, (m_Proposed_From, (m_Proposed_To, m_Cancelled))))), ((r4).1, (r4).2)), (EC.decL ec_48 (List.set (List.set (List.set (EC.encL ec_48 (r3).2) (Int.toNat r2) (splice (List.getD (EC.encL ec_48 (r3).2) (Int.toNat r2) []) (1 : Nat) [(C.int Go.IntKind.i64 answer)])) (Int.toNat r2) (splice (List.getD (List.set (EC.encL ec_48 (r3).2) (Int.toNat r2) (splice (List.getD (EC.encL ec_48 (r3).2) (Int.toNat r2) []) (1 : Nat) [(C.int Go.IntKind.i64 answer)])) (Int.toNat r2) []) (2 : Nat) [(C.int Go.IntKind.i64 (0 : Int)), (C.int Go.IntKind.i64 (0 : Int))])) (Int.toNat r2) (splice (List.getD (List.set (List.set (EC.encL ec_48 (r3).2) (Int.toNat r2) (splice (List.getD (EC.encL ec_48 (r3).2) (Int.toNat r2) []) (1 : Nat) [(C.int Go.IntKind.i64 answer)])) (Int.toNat r2) (splice (List.getD (List.set (EC.encL ec_48 (r3).2) (Int.toNat r2) (splice (List.getD (EC.encL ec_48 (r3).2) (Int.toNat r2) []) (1 : Nat) [(C.int Go.IntKind.i64 answer)])) (Int.toNat r2) []) (2 : Nat) [(C.int Go.IntKind.i64 (0 : Int)), (C.int Go.IntKind.i64 (0 : Int))])) (Int.toNat r2) []) (2 : Nat) [(C.int Go.IntKind.i64 offer_From), (C.int Go.IntKind.i64 offer_To)])))))))))
                                      (Option.bind basic_None_s fun r4 =>
                                        (gdE (EC.isL ec_48 (List.set (List.set (EC.encL ec_48 (r3).2) (Int.toNat r2) (splice (List.getD (EC.encL ec_48 (r3).2) (Int.toNat r2) []) (1 : Nat) [(C.int Go.IntKind.i64 answer)])) (Int.toNat r2) (splice (List.getD (List.set (EC.encL ec_48 (r3).2) (Int.toNat r2) (splice (List.getD (EC.encL ec_48 (r3).2) (Int.toNat r2) []) (1 : Nat) [(C.int Go.IntKind.i64 answer)])) (Int.toNat r2) []) (2 : Nat) [(C.int Go.IntKind.i64 (0 : Int)), (C.int Go.IntKind.i64 (0 : Int))]))) <|
                                          (some (((m_Organizer, ((r3).1, (m_Round, (m_Proposed_From, (m_Proposed_To, m_Cancelled))))), ((r4).1, (r4).2)), (EC.decL ec_48 (List.set (List.set (EC.encL ec_48 (r3).2) (Int.toNat r2) (splice (List.getD (EC.encL ec_48 (r3).2) (Int.toNat r2) []) (1 : Nat) [(C.int Go.IntKind.i64 answer)])) (Int.toNat r2) (splice (List.getD (List.set (EC.encL ec_48 (r3).2) (Int.toNat r2) (splice (List.getD (EC.encL ec_48 (r3).2) (Int.toNat r2) []) (1 : Nat) [(C.int Go.IntKind.i64 answer)])) (Int.toNat r2) []) (2 : Nat) [(C.int Go.IntKind.i64 (0 : Int)), (C.int Go.IntKind.i64 (0 : Int))]))))))))))))))))
                    (Option.bind (basic_Fault_s (3 : Int) (-(6 : Int))) fun r3 =>
                      (some ((((ByteArray.mk (List.toArray [])), ((0 : Nat), ((0 : Int), ((0 : Int), ((0 : Int), false))))), ((r3).1, (r3).2)), (EC.decL ec_48 [])))))))
              (Option.bind (basic_Fault_s (8 : Int) (-(4 : Int))) fun r3 =>
                (some ((((ByteArray.mk (List.toArray [])), ((0 : Nat), ((0 : Int), ((0 : Int), ((0 : Int), false))))), ((r3).1, (r3).2)), (EC.decL ec_48 [])))))))))))
theorem meeting_Answer_eq {m_Organizer : ByteArray} {m_Guests : (List S48)} {m_Round : Int} {m_Proposed_From : Int} {m_Proposed_To : Int} {m_Cancelled : Bool} {who : ByteArray} {answer : Int} {offer_From : Int} {offer_To : Int} {r : (((ByteArray × Nat × Int × Int × Int × Bool) × (Int × Int)) × (List S48))} (h : meeting_Answer_t m_Organizer m_Guests m_Round m_Proposed_From m_Proposed_To m_Cancelled who answer offer_From offer_To = some r) : meeting_Answer_s m_Organizer m_Guests m_Round m_Proposed_From m_Proposed_To m_Cancelled who answer offer_From offer_To = some r :=
  fS_tree (es := tab_idxWho) [] Try.func19 rfl (by kernel_rfl) rfl (by kernel_rfl) (by kernel_rfl) trivial trivial (by kernel_rfl) h
noncomputable def meeting_Answer_e : Ent Try.prog lv X0 := entS Try.prog lv X0 19 [] meeting_Answer_ca meeting_Answer_cr (fun x => meeting_Answer_s x.1.1 x.1.2.1 x.1.2.2.1 x.1.2.2.2.1 x.1.2.2.2.2.1 x.1.2.2.2.2.2 x.2.1 x.2.2.1 x.2.2.2.1 x.2.2.2.2) (fun _ _ h => fS_call h)
noncomputable def tab_meeting_Answer : List (Ent Try.prog lv X0) := meeting_Answer_e :: tab_idxWho
def agreed1_ca : Cod (List V) (ByteArray × Int × Int × Int) := (lOne (vAgg (lCons (vC cStr) (lCons (vC (cInt .i64)) (lCons (vC (cInt .i64)) (lOne (vC (cInt .i64))))))))
def agreed1_cr : Cod (V × List B) Bool := (cFstU (cPair (vC cBool) lNil))
noncomputable def agreed1_s (g_Address : ByteArray) (g_Answer : Int) (g_Offer_From : Int) (g_Offer_To : Int) : Option Bool := fS Try.prog lv X0 49 agreed1_ca agreed1_cr (g_Address, g_Answer, g_Offer_From, g_Offer_To)
noncomputable def agreed1_t (g_Address : ByteArray) (g_Answer : Int) (g_Offer_From : Int) (g_Offer_To : Int) : Option Bool :=
  (some (g_Answer != (1 : Int)))
theorem agreed1_eq {g_Address : ByteArray} {g_Answer : Int} {g_Offer_From : Int} {g_Offer_To : Int} {r : Bool} (h : agreed1_t g_Address g_Answer g_Offer_From g_Offer_To = some r) : agreed1_s g_Address g_Answer g_Offer_From g_Offer_To = some r :=
  fS_tree (es := tab_meeting_Answer) [] Try.func49 rfl (by kernel_rfl) rfl (by kernel_rfl) (by kernel_rfl) trivial trivial (by kernel_rfl) h
noncomputable def agreed1_e : Ent Try.prog lv X0 := entS Try.prog lv X0 49 [] agreed1_ca agreed1_cr (fun x => agreed1_s x.1 x.2.1 x.2.2.1 x.2.2.2) (fun _ _ h => fS_call h)
noncomputable def tab_agreed1 : List (Ent Try.prog lv X0) := agreed1_e :: tab_meeting_Answer
def idxNot_ca : Cod (List V) ((List S48) × Unit) := (lCons (vC (cSl ec_48)) (lOne (vFn 49 lNil)))
def idxNot_l2_s : SC (((List S48) × Unit × Int × Int) × Unit) := sLS [0, 1, 7, 8] (lCons (vC (cSl ec_48)) (lCons (vFn 49 lNil) (lCons (vC (cInt .i64)) (lOne (vC (cInt .i64)))))) lNil [] (by decide) (fun _ => rfl)
def idxNot_l2_o2 : SC (((List S48) × Unit × Int × Int × Bool) × Unit) := sLS [0, 1, 7, 8, 9] (lCons (vC (cSl ec_48)) (lCons (vFn 49 lNil) (lCons (vC (cInt .i64)) (lCons (vC (cInt .i64)) (lOne (vC cBool)))))) lNil [] (by decide) (fun _ => rfl)
def idxNot_l2_o1 : SC (Int × Unit) := sLS [4] (lOne (vC (cInt .i64))) lNil [] (by decide) (fun _ => rfl)
def idxNot_l2_o : OC ((Int × Unit) ⊕ (((List S48) × Unit × Int × Int × Bool) × Unit)) := oOr 1 idxNot_l2_o1 (oAt 2 idxNot_l2_o2) (fun x => (by decide : (2 : Nat) ≠ 1))
noncomputable def idxNot_l2 (s : (List S48)) (t7 : Int) (t8 : Int) : Option ((Int × Unit) ⊕ (((List S48) × Unit × Int × Int × Bool) × Unit)) := lS Try.prog lv X0 45 19 (getLoop (cdF Try.f45) 2) idxNot_l2_s idxNot_l2_o ((s, (), t7, t8), ())
noncomputable def idxNot_l2_t (s : (List S48)) (t7 : Int) (t8 : Int) : Option ((Int × Unit) ⊕ (((List S48) × Unit × Int × Int × Bool) × Unit)) :=
  (brE (decide (t8 < t7))
  (gdE (decide ((0 : Int) ≤ t8)) <|
    (gdE ((decide ((Int.toNat t8) < (List.length (EC.encL ec_48 s)))) && (isE [K1.str, (K1.int Go.IntKind.i64), (K1.int Go.IntKind.i64), (K1.int Go.IntKind.i64)] (0 : Nat) (List.getD (EC.encL ec_48 s) (Int.toNat t8) []))) <|
      (Option.bind (agreed1_s (strOf (List.getD (List.getD (EC.encL ec_48 s) (Int.toNat t8) []) (0 : Nat) C.ne)) (intOf (List.getD (List.getD (EC.encL ec_48 s) (Int.toNat t8) []) (1 : Nat) C.ne)) (intOf (List.getD (List.getD (EC.encL ec_48 s) (Int.toNat t8) []) (2 : Nat) C.ne)) (intOf (List.getD (List.getD (EC.encL ec_48 s) (Int.toNat t8) []) (3 : Nat) C.ne))) fun r0 =>
        (brE r0
          (some (.inl (t8, ())))
          (gdE (EC.isL ec_48 (EC.encL ec_48 s)) <|
            (idxNot_l2 (EC.decL ec_48 (EC.encL ec_48 s)) t7 (Go.IntKind.wrap Go.IntKind.i64 (t8 + (1 : Int)))))))))
  (gdE (EC.isL ec_48 (EC.encL ec_48 s)) <|
    (some (.inr (((EC.decL ec_48 (EC.encL ec_48 s)), ((), (t7, (t8, false)))), ())))))
theorem idxNot_l2_eq {s : (List S48)} {t7 : Int} {t8 : Int} {r : ((Int × Unit) ⊕ (((List S48) × Unit × Int × Int × Bool) × Unit))} (h : idxNot_l2_t s t7 t8 = some r) : idxNot_l2 s t7 t8 = some r :=
  lS_tree (es := tab_agreed1) [] (by kernel_rfl) trivial trivial (by kernel_rfl) h
noncomputable def idxNot_l2_e : LEnt Try.prog lv X0 45 19 := lentS Try.prog lv X0 2 (getLoop (cdF Try.f45) 2) idxNot_l2_s idxNot_l2_o (fun x => idxNot_l2 x.1.1 x.1.2.2.1 x.1.2.2.2) (fun _ _ h => lS_from h)
def idxNot_cr : Cod (V × List B) Int := (cFstU (cPair (vC (cInt .i64)) lNil))
noncomputable def idxNot_s (s : (List S48)) : Option Int := fS Try.prog lv X0 45 idxNot_ca idxNot_cr (s, ())
noncomputable def idxNot_t (s : (List S48)) : Option Int :=
  (gdE (EC.isL ec_48 (EC.encL ec_48 s)) <|
  (Option.bind (idxNot_l2 (EC.decL ec_48 (EC.encL ec_48 s)) (((List.length (EC.encL ec_48 s)) : Nat) : Int) (0 : Int)) fun r0 =>
    (Sum.elim (fun r1 => (some (r1).1))
      (fun r1 => (some (-1 : Int))) r0)))
theorem idxNot_eq {s : (List S48)} {r : Int} (h : idxNot_t s = some r) : idxNot_s s = some r :=
  fS_tree (es := tab_agreed1) [idxNot_l2_e] Try.func45 rfl (by kernel_rfl) rfl (by kernel_rfl) (by kernel_rfl) ⟨⟨_, rfl, rfl⟩, trivial⟩ trivial (by kernel_rfl) h
noncomputable def idxNot_e : Ent Try.prog lv X0 := entS Try.prog lv X0 45 [49] idxNot_ca idxNot_cr (fun x => idxNot_s x.1) (fun _ _ h => fS_call h)
noncomputable def tab_idxNot : List (Ent Try.prog lv X0) := idxNot_e :: tab_agreed1
def hasNot_ca : Cod (List V) ((List S48) × Unit) := (lCons (vC (cSl ec_48)) (lOne (vFn 49 lNil)))
def hasNot_cr : Cod (V × List B) Bool := (cFstU (cPair (vC cBool) lNil))
noncomputable def hasNot_s (s : (List S48)) : Option Bool := fS Try.prog lv X0 50 hasNot_ca hasNot_cr (s, ())
noncomputable def hasNot_t (s : (List S48)) : Option Bool :=
  (gdE (EC.isL ec_48 (EC.encL ec_48 s)) <|
  (Option.bind (idxNot_s (EC.decL ec_48 (EC.encL ec_48 s))) fun r0 =>
    (some (decide (r0 ≥ (0 : Int))))))
theorem hasNot_eq {s : (List S48)} {r : Bool} (h : hasNot_t s = some r) : hasNot_s s = some r :=
  fS_tree (es := tab_idxNot) [] Try.func50 rfl (by kernel_rfl) rfl (by kernel_rfl) (by kernel_rfl) trivial trivial (by kernel_rfl) h
noncomputable def hasNot_e : Ent Try.prog lv X0 := entS Try.prog lv X0 50 [49] hasNot_ca hasNot_cr (fun x => hasNot_s x.1) (fun _ _ h => fS_call h)
noncomputable def tab_hasNot : List (Ent Try.prog lv X0) := hasNot_e :: tab_idxNot
def meeting_Agreed_ca : Cod (List V) (ByteArray × (List S48) × Int × Int × Int × Bool) := (lOne (vAgg (lCons (vC cStr) (lCons (vC (cSl ec_48)) (lCons (vC (cInt .i64)) (lCons (vC (cInt .i64)) (lCons (vC (cInt .i64)) (lOne (vC cBool)))))))))
def meeting_Agreed_cr : Cod (V × List B) (Bool × (Int × Int)) := (cFstU (cPair (vTup (lCons (vC cBool) (lOne (vAgg (lCons (vC (cInt .i64)) (lOne (vC (cInt .i64)))))))) lNil))
noncomputable def meeting_Agreed_s (m_Organizer : ByteArray) (m_Guests : (List S48)) (m_Round : Int) (m_Proposed_From : Int) (m_Proposed_To : Int) (m_Cancelled : Bool) : Option (Bool × (Int × Int)) := fS Try.prog lv X0 20 meeting_Agreed_ca meeting_Agreed_cr (m_Organizer, m_Guests, m_Round, m_Proposed_From, m_Proposed_To, m_Cancelled)
noncomputable def meeting_Agreed_t (m_Organizer : ByteArray) (m_Guests : (List S48)) (m_Round : Int) (m_Proposed_From : Int) (m_Proposed_To : Int) (m_Cancelled : Bool) : Option (Bool × (Int × Int)) :=
  (gdE (EC.isL ec_48 (EC.encL ec_48 m_Guests)) <|
  (Option.bind (meeting_Validate_s m_Organizer (EC.decL ec_48 (EC.encL ec_48 m_Guests)) m_Round m_Proposed_From m_Proposed_To m_Cancelled) fun r0 =>
    (Option.bind (basic_Failed_s (r0).1 (r0).2) fun r1 =>
      (brE r1
        (some (false, ((r0).1, (r0).2)))
        (brE ((!m_Cancelled) == true)
          (brE ((decide (m_Round > (0 : Int))) == true)
            (gdE (EC.isL ec_48 (EC.encL ec_48 m_Guests)) <|
              (Option.bind (hasNot_s (EC.decL ec_48 (EC.encL ec_48 m_Guests))) fun r2 =>
                (Option.bind basic_None_s fun r3 =>
                  (some ((!r2), ((r3).1, (r3).2))))))
            (Option.bind basic_None_s fun r2 =>
              (some (false, ((r2).1, (r2).2)))))
          (Option.bind basic_None_s fun r2 =>
            (some (false, ((r2).1, (r2).2)))))))))
theorem meeting_Agreed_eq {m_Organizer : ByteArray} {m_Guests : (List S48)} {m_Round : Int} {m_Proposed_From : Int} {m_Proposed_To : Int} {m_Cancelled : Bool} {r : (Bool × (Int × Int))} (h : meeting_Agreed_t m_Organizer m_Guests m_Round m_Proposed_From m_Proposed_To m_Cancelled = some r) : meeting_Agreed_s m_Organizer m_Guests m_Round m_Proposed_From m_Proposed_To m_Cancelled = some r :=
  fS_tree (es := tab_hasNot) [] Try.func20 rfl (by kernel_rfl) rfl (by kernel_rfl) (by kernel_rfl) trivial trivial (by kernel_rfl) h
noncomputable def meeting_Agreed_e : Ent Try.prog lv X0 := entS Try.prog lv X0 20 [] meeting_Agreed_ca meeting_Agreed_cr (fun x => meeting_Agreed_s x.1 x.2.1 x.2.2.1 x.2.2.2.1 x.2.2.2.2.1 x.2.2.2.2.2) (fun _ _ h => fS_call h)
noncomputable def tab_meeting_Agreed : List (Ent Try.prog lv X0) := meeting_Agreed_e :: tab_hasNot
def posthouseref5_At_ca : Cod (List V) (Int × Int) := (lCons (vC (cInt .i64)) (lOne (vC (cInt .i64))))
def posthouseref5_At_cr : Cod (V × List B) (Int × Int) := (cFstU (cPair (vAgg (lCons (vC (cInt .i64)) (lOne (vC (cInt .i64))))) lNil))
noncomputable def posthouseref5_At_s (code : Int) (index : Int) : Option (Int × Int) := fS Try.prog lv X0 25 posthouseref5_At_ca posthouseref5_At_cr (code, index)
noncomputable def posthouseref5_At_t (code : Int) (index : Int) : Option (Int × Int) :=
  (some (code, index))
theorem posthouseref5_At_eq {code : Int} {index : Int} {r : (Int × Int)} (h : posthouseref5_At_t code index = some r) : posthouseref5_At_s code index = some r :=
  fS_tree (es := tab_meeting_Agreed) [] Try.func25 rfl (by kernel_rfl) rfl (by kernel_rfl) (by kernel_rfl) trivial trivial (by kernel_rfl) h
noncomputable def posthouseref5_At_e : Ent Try.prog lv X0 := entS Try.prog lv X0 25 [] posthouseref5_At_ca posthouseref5_At_cr (fun x => posthouseref5_At_s x.1 x.2) (fun _ _ h => fS_call h)
noncomputable def tab_posthouseref5_At : List (Ent Try.prog lv X0) := posthouseref5_At_e :: tab_meeting_Agreed
def posthouseref5_In_ca : Cod (List V) (Int × Int × Int) := (lCons (vC (cInt .i64)) (lCons (vC (cInt .i64)) (lOne (vC (cInt .i64)))))
def posthouseref5_In_cr : Cod (V × List B) Bool := (cFstU (cPair (vC cBool) lNil))
noncomputable def posthouseref5_In_s (n : Int) (low : Int) (high : Int) : Option Bool := fS Try.prog lv X0 26 posthouseref5_In_ca posthouseref5_In_cr (n, low, high)
noncomputable def posthouseref5_In_t (n : Int) (low : Int) (high : Int) : Option Bool :=
  (brE ((decide (low ≤ n)) == true)
  (some (decide (n ≤ high)))
  (some false))
theorem posthouseref5_In_eq {n : Int} {low : Int} {high : Int} {r : Bool} (h : posthouseref5_In_t n low high = some r) : posthouseref5_In_s n low high = some r :=
  fS_tree (es := tab_posthouseref5_At) [] Try.func26 rfl (by kernel_rfl) rfl (by kernel_rfl) (by kernel_rfl) trivial trivial (by kernel_rfl) h
noncomputable def posthouseref5_In_e : Ent Try.prog lv X0 := entS Try.prog lv X0 26 [] posthouseref5_In_ca posthouseref5_In_cr (fun x => posthouseref5_In_s x.1 x.2.1 x.2.2) (fun _ _ h => fS_call h)
noncomputable def tab_posthouseref5_In : List (Ent Try.prog lv X0) := posthouseref5_In_e :: tab_posthouseref5_At
def posthouseref5_Instant_ca : Cod (List V) Int := (lOne (vC (cInt .i64)))
def posthouseref5_Instant_cr : Cod (V × List B) Bool := (cFstU (cPair (vC cBool) lNil))
noncomputable def posthouseref5_Instant_s (n : Int) : Option Bool := fS Try.prog lv X0 53 posthouseref5_Instant_ca posthouseref5_Instant_cr n
noncomputable def posthouseref5_Instant_t (n : Int) : Option Bool :=
  (Option.bind (posthouseref5_In_s n (-(68719476736 : Int)) (68719476736 : Int)) fun r0 =>
  (some r0))
theorem posthouseref5_Instant_eq {n : Int} {r : Bool} (h : posthouseref5_Instant_t n = some r) : posthouseref5_Instant_s n = some r :=
  fS_tree (es := tab_posthouseref5_In) [] Try.func53 rfl (by kernel_rfl) rfl (by kernel_rfl) (by kernel_rfl) trivial trivial (by kernel_rfl) h
noncomputable def posthouseref5_Instant_e : Ent Try.prog lv X0 := entS Try.prog lv X0 53 [] posthouseref5_Instant_ca posthouseref5_Instant_cr (fun x => posthouseref5_Instant_s x) (fun _ _ h => fS_call h)
noncomputable def tab_posthouseref5_Instant : List (Ent Try.prog lv X0) := posthouseref5_Instant_e :: tab_posthouseref5_In
def posthouseref6_Proposable_ca : Cod (List V) (Int × Int) := (lOne (vAgg (lCons (vC (cInt .i64)) (lOne (vC (cInt .i64))))))
def posthouseref6_Proposable_cr : Cod (V × List B) Bool := (cFstU (cPair (vC cBool) lNil))
noncomputable def posthouseref6_Proposable_s (p_From : Int) (p_To : Int) : Option Bool := fS Try.prog lv X0 27 posthouseref6_Proposable_ca posthouseref6_Proposable_cr (p_From, p_To)
noncomputable def posthouseref6_Proposable_t (p_From : Int) (p_To : Int) : Option Bool :=
  (Option.bind (posthouseref5_Instant_s p_From) fun r0 =>
  (brE (r0 == true)
    (Option.bind (posthouseref5_Instant_s p_To) fun r1 =>
      (brE (r1 == true)
        (some (decide (p_From < p_To)))
        (some false)))
    (some false)))
theorem posthouseref6_Proposable_eq {p_From : Int} {p_To : Int} {r : Bool} (h : posthouseref6_Proposable_t p_From p_To = some r) : posthouseref6_Proposable_s p_From p_To = some r :=
  fS_tree (es := tab_posthouseref5_Instant) [] Try.func27 rfl (by kernel_rfl) rfl (by kernel_rfl) (by kernel_rfl) trivial trivial (by kernel_rfl) h
noncomputable def posthouseref6_Proposable_e : Ent Try.prog lv X0 := entS Try.prog lv X0 27 [] posthouseref6_Proposable_ca posthouseref6_Proposable_cr (fun x => posthouseref6_Proposable_s x.1 x.2) (fun _ _ h => fS_call h)
noncomputable def tab_posthouseref6_Proposable : List (Ent Try.prog lv X0) := posthouseref6_Proposable_e :: tab_posthouseref5_Instant
def posthouseref6_GuestAt_ca : Cod (List V) ((List S48) × ByteArray) := (lCons (vC (cSl ec_48)) (lOne (vC cStr)))
def posthouseref6_GuestAt_l2_s : SC (((List S48) × ByteArray × Int) × Unit) := sLS [0, 1, 5] (lCons (vC (cSl ec_48)) (lCons (vC cStr) (lOne (vC (cInt .i64))))) lNil [] (by decide) (fun _ => rfl)
def posthouseref6_GuestAt_l2_o2 : SC (((List S48) × ByteArray × Int × Bool) × Unit) := sLS [0, 1, 5, 9] (lCons (vC (cSl ec_48)) (lCons (vC cStr) (lCons (vC (cInt .i64)) (lOne (vC cBool))))) lNil [] (by decide) (fun _ => rfl)
def posthouseref6_GuestAt_l2_o1 : SC (Int × Unit) := sLS [4] (lOne (vC (cInt .i64))) lNil [] (by decide) (fun _ => rfl)
def posthouseref6_GuestAt_l2_o : OC ((Int × Unit) ⊕ (((List S48) × ByteArray × Int × Bool) × Unit)) := oOr 1 posthouseref6_GuestAt_l2_o1 (oAt 2 posthouseref6_GuestAt_l2_o2) (fun x => (by decide : (2 : Nat) ≠ 1))
noncomputable def posthouseref6_GuestAt_l2 (l : (List S48)) (address : ByteArray) (i : Int) : Option ((Int × Unit) ⊕ (((List S48) × ByteArray × Int × Bool) × Unit)) := lS Try.prog lv X0 24 20 (getLoop (cdF Try.f24) 2) posthouseref6_GuestAt_l2_s posthouseref6_GuestAt_l2_o ((l, address, i), ())
noncomputable def posthouseref6_GuestAt_l2_t (l : (List S48)) (address : ByteArray) (i : Int) : Option ((Int × Unit) ⊕ (((List S48) × ByteArray × Int × Bool) × Unit)) :=
  (brE (decide (i < (((List.length (EC.encL ec_48 l)) : Nat) : Int)))
  (gdE (decide ((0 : Int) ≤ i)) <|
    (gdE ((decide ((Int.toNat i) < (List.length (EC.encL ec_48 l)))) && (isE [K1.str, (K1.int Go.IntKind.i64), (K1.int Go.IntKind.i64), (K1.int Go.IntKind.i64)] (0 : Nat) (List.getD (EC.encL ec_48 l) (Int.toNat i) []))) <|
      (brE ((ByteArray.toList (strOf (List.getD (List.getD (EC.encL ec_48 l) (Int.toNat i) []) (0 : Nat) C.ne))) == (ByteArray.toList address))
        (some (.inl (i, ())))
        (gdE (EC.isL ec_48 (EC.encL ec_48 l)) <|
          (posthouseref6_GuestAt_l2 (EC.decL ec_48 (EC.encL ec_48 l)) address (Go.IntKind.wrap Go.IntKind.i64 (i + (1 : Int))))))))
  (gdE (EC.isL ec_48 (EC.encL ec_48 l)) <|
    (some (.inr (((EC.decL ec_48 (EC.encL ec_48 l)), (address, (i, false))), ())))))
theorem posthouseref6_GuestAt_l2_eq {l : (List S48)} {address : ByteArray} {i : Int} {r : ((Int × Unit) ⊕ (((List S48) × ByteArray × Int × Bool) × Unit))} (h : posthouseref6_GuestAt_l2_t l address i = some r) : posthouseref6_GuestAt_l2 l address i = some r :=
  lS_tree (es := tab_posthouseref6_Proposable) [] (by kernel_rfl) trivial trivial (by kernel_rfl) h
noncomputable def posthouseref6_GuestAt_l2_e : LEnt Try.prog lv X0 24 20 := lentS Try.prog lv X0 2 (getLoop (cdF Try.f24) 2) posthouseref6_GuestAt_l2_s posthouseref6_GuestAt_l2_o (fun x => posthouseref6_GuestAt_l2 x.1.1 x.1.2.1 x.1.2.2) (fun _ _ h => lS_from h)
def posthouseref6_GuestAt_cr : Cod (V × List B) Int := (cFstU (cPair (vC (cInt .i64)) lNil))
noncomputable def posthouseref6_GuestAt_s (l : (List S48)) (address : ByteArray) : Option Int := fS Try.prog lv X0 24 posthouseref6_GuestAt_ca posthouseref6_GuestAt_cr (l, address)
noncomputable def posthouseref6_GuestAt_t (l : (List S48)) (address : ByteArray) : Option Int :=
  (gdE (EC.isL ec_48 (EC.encL ec_48 l)) <|
  (Option.bind (posthouseref6_GuestAt_l2 (EC.decL ec_48 (EC.encL ec_48 l)) address (0 : Int)) fun r0 =>
    (Sum.elim (fun r1 => (some (r1).1))
      (fun r1 => (some (-1 : Int))) r0)))
theorem posthouseref6_GuestAt_eq {l : (List S48)} {address : ByteArray} {r : Int} (h : posthouseref6_GuestAt_t l address = some r) : posthouseref6_GuestAt_s l address = some r :=
  fS_tree (es := tab_posthouseref6_Proposable) [posthouseref6_GuestAt_l2_e] Try.func24 rfl (by kernel_rfl) rfl (by kernel_rfl) (by kernel_rfl) ⟨⟨_, rfl, rfl⟩, trivial⟩ trivial (by kernel_rfl) h
noncomputable def posthouseref6_GuestAt_e : Ent Try.prog lv X0 := entS Try.prog lv X0 24 [] posthouseref6_GuestAt_ca posthouseref6_GuestAt_cr (fun x => posthouseref6_GuestAt_s x.1 x.2) (fun _ _ h => fS_call h)
noncomputable def tab_posthouseref6_GuestAt : List (Ent Try.prog lv X0) := posthouseref6_GuestAt_e :: tab_posthouseref6_Proposable
def posthouseref6_GuestFault_ca : Cod (List V) ((ByteArray × Int × Int × Int) × Int) := (lCons (vAgg (lCons (vC cStr) (lCons (vC (cInt .i64)) (lCons (vC (cInt .i64)) (lOne (vC (cInt .i64))))))) (lOne (vC (cInt .i64))))
def posthouseref6_GuestFault_cr : Cod (V × List B) Int := (cFstU (cPair (vC (cInt .i64)) lNil))
noncomputable def posthouseref6_GuestFault_s (g_Address : ByteArray) (g_Answer : Int) (g_Offer_From : Int) (g_Offer_To : Int) (round : Int) : Option Int := fS Try.prog lv X0 51 posthouseref6_GuestFault_ca posthouseref6_GuestFault_cr ((g_Address, g_Answer, g_Offer_From, g_Offer_To), round)
noncomputable def posthouseref6_GuestFault_t (g_Address : ByteArray) (g_Answer : Int) (g_Offer_From : Int) (g_Offer_To : Int) (round : Int) : Option Int :=
  (Option.bind (posthouseref5_In_s (((ByteArray.size g_Address) : Nat) : Int) (1 : Int) (4000 : Int)) fun r0 =>
  (brE (!r0)
    (some (10 : Int))
    (Option.bind (posthouseref5_In_s g_Answer (0 : Int) (3 : Int)) fun r1 =>
      (brE (!r1)
        (some (3 : Int))
        (brE ((round == (0 : Int)) == true)
          (brE ((g_Answer != (0 : Int)) == false)
            (brE ((g_Answer == (3 : Int)) == true)
              (Option.bind (posthouseref6_Proposable_s g_Offer_From g_Offer_To) fun r2 =>
                (brE ((!r2) == false)
                  (brE ((g_Answer != (3 : Int)) == true)
                    (brE ((g_Offer_From != (0 : Int)) == false)
                      (brE (g_Offer_To != (0 : Int))
                        (some (5 : Int))
                        (some (0 : Int)))
                      (some (5 : Int)))
                    (some (0 : Int)))
                  (some (5 : Int))))
              (brE ((g_Answer != (3 : Int)) == true)
                (brE ((g_Offer_From != (0 : Int)) == false)
                  (brE (g_Offer_To != (0 : Int))
                    (some (5 : Int))
                    (some (0 : Int)))
                  (some (5 : Int)))
                (some (0 : Int))))
            (some (5 : Int)))
          (brE ((g_Answer == (3 : Int)) == true)
            (Option.bind (posthouseref6_Proposable_s g_Offer_From g_Offer_To) fun r2 =>
              (brE ((!r2) == false)
                (brE ((g_Answer != (3 : Int)) == true)
                  (brE ((g_Offer_From != (0 : Int)) == false)
                    (brE (g_Offer_To != (0 : Int))
                      (some (5 : Int))
                      (some (0 : Int)))
                    (some (5 : Int)))
                  (some (0 : Int)))
                (some (5 : Int))))
            (brE ((g_Answer != (3 : Int)) == true)
              (brE ((g_Offer_From != (0 : Int)) == false)
                (brE (g_Offer_To != (0 : Int))
                  (some (5 : Int))
                  (some (0 : Int)))
                (some (5 : Int)))
              (some (0 : Int)))))))))
theorem posthouseref6_GuestFault_eq {g_Address : ByteArray} {g_Answer : Int} {g_Offer_From : Int} {g_Offer_To : Int} {round : Int} {r : Int} (h : posthouseref6_GuestFault_t g_Address g_Answer g_Offer_From g_Offer_To round = some r) : posthouseref6_GuestFault_s g_Address g_Answer g_Offer_From g_Offer_To round = some r :=
  fS_tree (es := tab_posthouseref6_GuestAt) [] Try.func51 rfl (by kernel_rfl) rfl (by kernel_rfl) (by kernel_rfl) trivial trivial (by kernel_rfl) h
noncomputable def posthouseref6_GuestFault_e : Ent Try.prog lv X0 := entS Try.prog lv X0 51 [] posthouseref6_GuestFault_ca posthouseref6_GuestFault_cr (fun x => posthouseref6_GuestFault_s x.1.1 x.1.2.1 x.1.2.2.1 x.1.2.2.2 x.2) (fun _ _ h => fS_call h)
noncomputable def tab_posthouseref6_GuestFault : List (Ent Try.prog lv X0) := posthouseref6_GuestFault_e :: tab_posthouseref6_GuestAt
def posthouseref6_MeetingFault_ca : Cod (List V) (ByteArray × (List S48) × Int × Int × Int × Bool) := (lOne (vAgg (lCons (vC cStr) (lCons (vC (cSl ec_48)) (lCons (vC (cInt .i64)) (lCons (vC (cInt .i64)) (lCons (vC (cInt .i64)) (lOne (vC cBool)))))))))
def posthouseref6_MeetingFault_l10_s : SC ((Unit × Unit × Int) × ((ByteArray × (List S48) × Int × Int × Int × Bool) × (Int × Int))) := sLS [1, 2, 3] (lCons (vPtr 0 0) (lCons (vPtr 1 0) (lOne (vC (cInt .i64))))) (lCons (oSome (bBox (lCons (vC cStr) (lCons (vC (cSl ec_48)) (lCons (vC (cInt .i64)) (lCons (vC (cInt .i64)) (lCons (vC (cInt .i64)) (lOne (vC cBool))))))))) (lOne (oSome (bBox (lCons (vC (cInt .i64)) (lOne (vC (cInt .i64)))))))) [false, false] (by decide) (fun _ => rfl)
def posthouseref6_MeetingFault_l10_o2 : SC ((Unit × Unit × Int × Bool) × ((ByteArray × (List S48) × Int × Int × Int × Bool) × (Int × Int))) := sLS [1, 2, 3, 53] (lCons (vPtr 0 0) (lCons (vPtr 1 0) (lCons (vC (cInt .i64)) (lOne (vC cBool))))) (lCons (oSome (bBox (lCons (vC cStr) (lCons (vC (cSl ec_48)) (lCons (vC (cInt .i64)) (lCons (vC (cInt .i64)) (lCons (vC (cInt .i64)) (lOne (vC cBool))))))))) (lOne (oSome (bBox (lCons (vC (cInt .i64)) (lOne (vC (cInt .i64)))))))) [false, false] (by decide) (fun _ => rfl)
def posthouseref6_MeetingFault_l10_o1 : SC (Unit × (Int × Int)) := sLS [2] (lOne (vPtr 0 0)) (lOne (oSome (bBox (lCons (vC (cInt .i64)) (lOne (vC (cInt .i64))))))) [false] (by decide) (fun _ => rfl)
def posthouseref6_MeetingFault_l10_o : OC ((Unit × (Int × Int)) ⊕ ((Unit × Unit × Int × Bool) × ((ByteArray × (List S48) × Int × Int × Int × Bool) × (Int × Int)))) := oOr 1 posthouseref6_MeetingFault_l10_o1 (oAt 2 posthouseref6_MeetingFault_l10_o2) (fun x => (by decide : (2 : Nat) ≠ 1))
noncomputable def posthouseref6_MeetingFault_l10 (i : Int) (b0 : ByteArray) (b0_1 : (List S48)) (b0_2 : Int) (b0_3 : Int) (b0_4 : Int) (b0_5 : Bool) (b1 : Int) (b1_1 : Int) : Option ((Unit × (Int × Int)) ⊕ ((Unit × Unit × Int × Bool) × ((ByteArray × (List S48) × Int × Int × Int × Bool) × (Int × Int)))) := lS Try.prog lv X0 21 95 (getLoop (cdF Try.f21) 10) posthouseref6_MeetingFault_l10_s posthouseref6_MeetingFault_l10_o (((), (), i), ((b0, b0_1, b0_2, b0_3, b0_4, b0_5), (b1, b1_1)))
noncomputable def posthouseref6_MeetingFault_l10_t (i : Int) (b0 : ByteArray) (b0_1 : (List S48)) (b0_2 : Int) (b0_3 : Int) (b0_4 : Int) (b0_5 : Bool) (b1 : Int) (b1_1 : Int) : Option ((Unit × (Int × Int)) ⊕ ((Unit × Unit × Int × Bool) × ((ByteArray × (List S48) × Int × Int × Int × Bool) × (Int × Int)))) :=
  (brE (decide (i < (((List.length (EC.encL ec_48 b0_1)) : Nat) : Int)))
  (gdE (decide ((0 : Int) ≤ i)) <|
    (gdE ((decide ((Int.toNat i) < (List.length (EC.encL ec_48 b0_1)))) && (isE [K1.str, (K1.int Go.IntKind.i64), (K1.int Go.IntKind.i64), (K1.int Go.IntKind.i64)] (0 : Nat) (List.getD (EC.encL ec_48 b0_1) (Int.toNat i) []))) <|
      (Option.bind (posthouseref6_GuestFault_s (strOf (List.getD (List.getD (EC.encL ec_48 b0_1) (Int.toNat i) []) (0 : Nat) C.ne)) (intOf (List.getD (List.getD (EC.encL ec_48 b0_1) (Int.toNat i) []) (1 : Nat) C.ne)) (intOf (List.getD (List.getD (EC.encL ec_48 b0_1) (Int.toNat i) []) (2 : Nat) C.ne)) (intOf (List.getD (List.getD (EC.encL ec_48 b0_1) (Int.toNat i) []) (3 : Nat) C.ne)) b0_2) fun r0 =>
        (brE (r0 != (0 : Int))
          (Option.bind (posthouseref5_At_s r0 i) fun r1 =>
            (some (.inl ((), ((r1).1, (r1).2)))))
          (gdE (decide ((0 : Int) ≤ i)) <|
            (gdE ((decide ((Int.toNat i) < (List.length (EC.encL ec_48 b0_1)))) && (isE [K1.str, (K1.int Go.IntKind.i64), (K1.int Go.IntKind.i64), (K1.int Go.IntKind.i64)] (0 : Nat) (List.getD (EC.encL ec_48 b0_1) (Int.toNat i) []))) <|
              (brE (((ByteArray.toList (strOf (List.getD (List.getD (EC.encL ec_48 b0_1) (Int.toNat i) []) (0 : Nat) C.ne))) == (ByteArray.toList b0)) == false)
                (gdE ((decide ((0 : Int) ≤ i)) && (decide (i ≤ (((List.length (EC.encL ec_48 b0_1)) : Nat) : Int)))) <|
                  (gdE (List.all (EC.encL ec_48 b0_1) (fun (el : (List C)) => ((List.length el) == (4 : Nat)))) <|
                    (gdE (decide ((0 : Int) ≤ i)) <|
                      (gdE ((decide ((Int.toNat i) < (List.length (EC.encL ec_48 b0_1)))) && (isE [K1.str, (K1.int Go.IntKind.i64), (K1.int Go.IntKind.i64), (K1.int Go.IntKind.i64)] (0 : Nat) (List.getD (EC.encL ec_48 b0_1) (Int.toNat i) []))) <|
                        (gdE (EC.isL ec_48 (List.take ((Int.toNat i) - (0 : Nat)) (List.drop (0 : Nat) (EC.encL ec_48 b0_1)))) <|
                          (Option.bind (posthouseref6_GuestAt_s (EC.decL ec_48 (List.take ((Int.toNat i) - (0 : Nat)) (List.drop (0 : Nat) (EC.encL ec_48 b0_1)))) (strOf (List.getD (List.getD (EC.encL ec_48 b0_1) (Int.toNat i) []) (0 : Nat) C.ne))) fun r1 =>
                            (brE (decide (r1 ≥ (0 : Int)))
                              (Option.bind (posthouseref5_At_s (7 : Int) i) fun r2 =>
                                (some (.inl ((), ((r2).1, (r2).2)))))
                              (gdE (EC.isL ec_48 (EC.encL ec_48 b0_1)) <|
                                (posthouseref6_MeetingFault_l10 (Go.IntKind.wrap Go.IntKind.i64 (i + (1 : Int))) b0 (EC.decL ec_48 (EC.encL ec_48 b0_1)) b0_2 b0_3 b0_4 b0_5 b1 b1_1)))))))))
                (Option.bind (posthouseref5_At_s (7 : Int) i) fun r1 =>
                  (some (.inl ((), ((r1).1, (r1).2))))))))))))
  (gdE (EC.isL ec_48 (EC.encL ec_48 b0_1)) <|
    (some (.inr (((), ((), (i, false))), ((b0, ((EC.decL ec_48 (EC.encL ec_48 b0_1)), (b0_2, (b0_3, (b0_4, b0_5))))), (b1, b1_1)))))))
theorem posthouseref6_MeetingFault_l10_eq {i : Int} {b0 : ByteArray} {b0_1 : (List S48)} {b0_2 : Int} {b0_3 : Int} {b0_4 : Int} {b0_5 : Bool} {b1 : Int} {b1_1 : Int} {r : ((Unit × (Int × Int)) ⊕ ((Unit × Unit × Int × Bool) × ((ByteArray × (List S48) × Int × Int × Int × Bool) × (Int × Int))))} (h : posthouseref6_MeetingFault_l10_t i b0 b0_1 b0_2 b0_3 b0_4 b0_5 b1 b1_1 = some r) : posthouseref6_MeetingFault_l10 i b0 b0_1 b0_2 b0_3 b0_4 b0_5 b1 b1_1 = some r :=
  lS_tree (es := tab_posthouseref6_GuestFault) [] (by kernel_rfl) trivial trivial (by kernel_rfl) h
noncomputable def posthouseref6_MeetingFault_l10_e : LEnt Try.prog lv X0 21 95 := lentS Try.prog lv X0 10 (getLoop (cdF Try.f21) 10) posthouseref6_MeetingFault_l10_s posthouseref6_MeetingFault_l10_o (fun x => posthouseref6_MeetingFault_l10 x.1.2.2 x.2.1.1 x.2.1.2.1 x.2.1.2.2.1 x.2.1.2.2.2.1 x.2.1.2.2.2.2.1 x.2.1.2.2.2.2.2 x.2.2.1 x.2.2.2) (fun _ _ h => lS_from h)
def posthouseref6_MeetingFault_cr : Cod (V × List B) (Int × Int) := (cFstU (cPair (vAgg (lCons (vC (cInt .i64)) (lOne (vC (cInt .i64))))) lNil))
noncomputable def posthouseref6_MeetingFault_s (m_Organizer : ByteArray) (m_Guests : (List S48)) (m_Round : Int) (m_Proposed_From : Int) (m_Proposed_To : Int) (m_Cancelled : Bool) : Option (Int × Int) := fS Try.prog lv X0 21 posthouseref6_MeetingFault_ca posthouseref6_MeetingFault_cr (m_Organizer, m_Guests, m_Round, m_Proposed_From, m_Proposed_To, m_Cancelled)
noncomputable def posthouseref6_MeetingFault_t (m_Organizer : ByteArray) (m_Guests : (List S48)) (m_Round : Int) (m_Proposed_From : Int) (m_Proposed_To : Int) (m_Cancelled : Bool) : Option (Int × Int) :=
  (Option.bind (posthouseref5_In_s (((ByteArray.size m_Organizer) : Nat) : Int) (1 : Int) (4000 : Int)) fun r0 =>
  (brE (!r0)
    (Option.bind (posthouseref5_At_s (10 : Int) (-(2 : Int))) fun r1 =>
      (some ((r1).1, (r1).2)))
    (Option.bind (posthouseref5_In_s (((List.length (EC.encL ec_48 m_Guests)) : Nat) : Int) (1 : Int) (30 : Int)) fun r1 =>
      (brE (!r1)
        (Option.bind (posthouseref5_At_s (2 : Int) (-(1 : Int))) fun r2 =>
          (some ((r2).1, (r2).2)))
        (Option.bind (posthouseref5_In_s m_Round (0 : Int) (1000000 : Int)) fun r2 =>
          (brE (!r2)
            (Option.bind (posthouseref5_At_s (3 : Int) (-(3 : Int))) fun r3 =>
              (some ((r3).1, (r3).2)))
            (brE ((decide (m_Round > (0 : Int))) == true)
              (Option.bind (posthouseref6_Proposable_s m_Proposed_From m_Proposed_To) fun r3 =>
                (brE ((!r3) == false)
                  (brE ((m_Round == (0 : Int)) == true)
                    (brE ((m_Proposed_From != (0 : Int)) == false)
                      (brE (m_Proposed_To != (0 : Int))
                        (Option.bind (posthouseref5_At_s (5 : Int) (-(3 : Int))) fun r4 =>
                          (some ((r4).1, (r4).2)))
                        (gdE (EC.isL ec_48 (EC.encL ec_48 m_Guests)) <|
                          (Option.bind (posthouseref6_MeetingFault_l10 (0 : Int) m_Organizer (EC.decL ec_48 (EC.encL ec_48 m_Guests)) m_Round m_Proposed_From m_Proposed_To m_Cancelled (0 : Int) (0 : Int)) fun r4 =>
                            (Sum.elim (fun r5 => (some (((r5).2).1, ((r5).2).2)))
                              (fun r5 => (some ((0 : Int), (0 : Int)))) r4))))
                      (Option.bind (posthouseref5_At_s (5 : Int) (-(3 : Int))) fun r4 =>
                        (some ((r4).1, (r4).2))))
                    (gdE (EC.isL ec_48 (EC.encL ec_48 m_Guests)) <|
                      (Option.bind (posthouseref6_MeetingFault_l10 (0 : Int) m_Organizer (EC.decL ec_48 (EC.encL ec_48 m_Guests)) m_Round m_Proposed_From m_Proposed_To m_Cancelled (0 : Int) (0 : Int)) fun r4 =>
                        (Sum.elim (fun r5 => (some (((r5).2).1, ((r5).2).2)))
                          (fun r5 => (some ((0 : Int), (0 : Int)))) r4))))
                  (Option.bind (posthouseref5_At_s (5 : Int) (-(3 : Int))) fun r4 =>
                    (some ((r4).1, (r4).2)))))
              (brE ((m_Round == (0 : Int)) == true)
                (brE ((m_Proposed_From != (0 : Int)) == false)
                  (brE (m_Proposed_To != (0 : Int))
                    (Option.bind (posthouseref5_At_s (5 : Int) (-(3 : Int))) fun r3 =>
                      (some ((r3).1, (r3).2)))
                    (gdE (EC.isL ec_48 (EC.encL ec_48 m_Guests)) <|
                      (Option.bind (posthouseref6_MeetingFault_l10 (0 : Int) m_Organizer (EC.decL ec_48 (EC.encL ec_48 m_Guests)) m_Round m_Proposed_From m_Proposed_To m_Cancelled (0 : Int) (0 : Int)) fun r3 =>
                        (Sum.elim (fun r4 => (some (((r4).2).1, ((r4).2).2)))
                          (fun r4 => (some ((0 : Int), (0 : Int)))) r3))))
                  (Option.bind (posthouseref5_At_s (5 : Int) (-(3 : Int))) fun r3 =>
                    (some ((r3).1, (r3).2))))
                (gdE (EC.isL ec_48 (EC.encL ec_48 m_Guests)) <|
                  (Option.bind (posthouseref6_MeetingFault_l10 (0 : Int) m_Organizer (EC.decL ec_48 (EC.encL ec_48 m_Guests)) m_Round m_Proposed_From m_Proposed_To m_Cancelled (0 : Int) (0 : Int)) fun r3 =>
                    (Sum.elim (fun r4 => (some (((r4).2).1, ((r4).2).2)))
                      (fun r4 => (some ((0 : Int), (0 : Int)))) r3)))))))))))
theorem posthouseref6_MeetingFault_eq {m_Organizer : ByteArray} {m_Guests : (List S48)} {m_Round : Int} {m_Proposed_From : Int} {m_Proposed_To : Int} {m_Cancelled : Bool} {r : (Int × Int)} (h : posthouseref6_MeetingFault_t m_Organizer m_Guests m_Round m_Proposed_From m_Proposed_To m_Cancelled = some r) : posthouseref6_MeetingFault_s m_Organizer m_Guests m_Round m_Proposed_From m_Proposed_To m_Cancelled = some r :=
  fS_tree (es := tab_posthouseref6_GuestFault) [posthouseref6_MeetingFault_l10_e] Try.func21 rfl (by kernel_rfl) rfl (by kernel_rfl) (by kernel_rfl) ⟨⟨_, rfl, rfl⟩, trivial⟩ trivial (by kernel_rfl) h
noncomputable def posthouseref6_MeetingFault_e : Ent Try.prog lv X0 := entS Try.prog lv X0 21 [] posthouseref6_MeetingFault_ca posthouseref6_MeetingFault_cr (fun x => posthouseref6_MeetingFault_s x.1 x.2.1 x.2.2.1 x.2.2.2.1 x.2.2.2.2.1 x.2.2.2.2.2) (fun _ _ h => fS_call h)
noncomputable def tab_posthouseref6_MeetingFault : List (Ent Try.prog lv X0) := posthouseref6_MeetingFault_e :: tab_posthouseref6_GuestFault
def posthouseref6_SameMeeting_ca : Cod (List V) ((ByteArray × (List S48) × Int × Int × Int × Bool) × (ByteArray × (List S48) × Int × Int × Int × Bool)) := (lCons (vAgg (lCons (vC cStr) (lCons (vC (cSl ec_48)) (lCons (vC (cInt .i64)) (lCons (vC (cInt .i64)) (lCons (vC (cInt .i64)) (lOne (vC cBool)))))))) (lOne (vAgg (lCons (vC cStr) (lCons (vC (cSl ec_48)) (lCons (vC (cInt .i64)) (lCons (vC (cInt .i64)) (lCons (vC (cInt .i64)) (lOne (vC cBool))))))))))
def posthouseref6_SameMeeting_l4_s : SC ((Unit × Unit × Int) × ((ByteArray × (List S48) × Int × Int × Int × Bool) × (ByteArray × (List S48) × Int × Int × Int × Bool))) := sLS [2, 3, 5] (lCons (vPtr 0 0) (lCons (vPtr 1 0) (lOne (vC (cInt .i64))))) (lCons (oSome (bBox (lCons (vC cStr) (lCons (vC (cSl ec_48)) (lCons (vC (cInt .i64)) (lCons (vC (cInt .i64)) (lCons (vC (cInt .i64)) (lOne (vC cBool))))))))) (lOne (oSome (bBox (lCons (vC cStr) (lCons (vC (cSl ec_48)) (lCons (vC (cInt .i64)) (lCons (vC (cInt .i64)) (lCons (vC (cInt .i64)) (lOne (vC cBool))))))))))) [false, false] (by decide) (fun _ => rfl)
def posthouseref6_SameMeeting_l4_o2 : SC ((Unit × Unit × Int × Bool) × ((ByteArray × (List S48) × Int × Int × Int × Bool) × (ByteArray × (List S48) × Int × Int × Int × Bool))) := sLS [2, 3, 5, 45] (lCons (vPtr 0 0) (lCons (vPtr 1 0) (lCons (vC (cInt .i64)) (lOne (vC cBool))))) (lCons (oSome (bBox (lCons (vC cStr) (lCons (vC (cSl ec_48)) (lCons (vC (cInt .i64)) (lCons (vC (cInt .i64)) (lCons (vC (cInt .i64)) (lOne (vC cBool))))))))) (lOne (oSome (bBox (lCons (vC cStr) (lCons (vC (cSl ec_48)) (lCons (vC (cInt .i64)) (lCons (vC (cInt .i64)) (lCons (vC (cInt .i64)) (lOne (vC cBool))))))))))) [false, false] (by decide) (fun _ => rfl)
def posthouseref6_SameMeeting_l4_o1 : SC (Bool × Unit) := sLS [4] (lOne (vC cBool)) lNil [] (by decide) (fun _ => rfl)
def posthouseref6_SameMeeting_l4_o : OC ((Bool × Unit) ⊕ ((Unit × Unit × Int × Bool) × ((ByteArray × (List S48) × Int × Int × Int × Bool) × (ByteArray × (List S48) × Int × Int × Int × Bool)))) := oOr 1 posthouseref6_SameMeeting_l4_o1 (oAt 2 posthouseref6_SameMeeting_l4_o2) (fun x => (by decide : (2 : Nat) ≠ 1))
noncomputable def posthouseref6_SameMeeting_l4 (i : Int) (b0 : ByteArray) (b0_1 : (List S48)) (b0_2 : Int) (b0_3 : Int) (b0_4 : Int) (b0_5 : Bool) (b1 : ByteArray) (b1_1 : (List S48)) (b1_2 : Int) (b1_3 : Int) (b1_4 : Int) (b1_5 : Bool) : Option ((Bool × Unit) ⊕ ((Unit × Unit × Int × Bool) × ((ByteArray × (List S48) × Int × Int × Int × Bool) × (ByteArray × (List S48) × Int × Int × Int × Bool)))) := lS Try.prog lv X0 22 59 (getLoop (cdF Try.f22) 4) posthouseref6_SameMeeting_l4_s posthouseref6_SameMeeting_l4_o (((), (), i), ((b0, b0_1, b0_2, b0_3, b0_4, b0_5), (b1, b1_1, b1_2, b1_3, b1_4, b1_5)))
noncomputable def posthouseref6_SameMeeting_l4_t (i : Int) (b0 : ByteArray) (b0_1 : (List S48)) (b0_2 : Int) (b0_3 : Int) (b0_4 : Int) (b0_5 : Bool) (b1 : ByteArray) (b1_1 : (List S48)) (b1_2 : Int) (b1_3 : Int) (b1_4 : Int) (b1_5 : Bool) : Option ((Bool × Unit) ⊕ ((Unit × Unit × Int × Bool) × ((ByteArray × (List S48) × Int × Int × Int × Bool) × (ByteArray × (List S48) × Int × Int × Int × Bool)))) :=
  (brE (decide (i < (((List.length (EC.encL ec_48 b0_1)) : Nat) : Int)))
  (gdE (decide ((0 : Int) ≤ i)) <|
    (gdE ((decide ((Int.toNat i) < (List.length (EC.encL ec_48 b0_1)))) && (isE [K1.str, (K1.int Go.IntKind.i64), (K1.int Go.IntKind.i64), (K1.int Go.IntKind.i64)] (0 : Nat) (List.getD (EC.encL ec_48 b0_1) (Int.toNat i) []))) <|
      (gdE (decide ((0 : Int) ≤ i)) <|
        (gdE ((decide ((Int.toNat i) < (List.length (EC.encL ec_48 b1_1)))) && (isE [K1.str, (K1.int Go.IntKind.i64), (K1.int Go.IntKind.i64), (K1.int Go.IntKind.i64)] (0 : Nat) (List.getD (EC.encL ec_48 b1_1) (Int.toNat i) []))) <|
          (brE (!(((strOf (List.getD (List.getD (EC.encL ec_48 b0_1) (Int.toNat i) []) (0 : Nat) C.ne)) == (strOf (List.getD (List.getD (EC.encL ec_48 b1_1) (Int.toNat i) []) (0 : Nat) C.ne))) && (((intOf (List.getD (List.getD (EC.encL ec_48 b0_1) (Int.toNat i) []) (1 : Nat) C.ne)) == (intOf (List.getD (List.getD (EC.encL ec_48 b1_1) (Int.toNat i) []) (1 : Nat) C.ne))) && ((((intOf (List.getD (List.getD (EC.encL ec_48 b0_1) (Int.toNat i) []) (2 : Nat) C.ne)) == (intOf (List.getD (List.getD (EC.encL ec_48 b1_1) (Int.toNat i) []) (2 : Nat) C.ne))) && (((intOf (List.getD (List.getD (EC.encL ec_48 b0_1) (Int.toNat i) []) (3 : Nat) C.ne)) == (intOf (List.getD (List.getD (EC.encL ec_48 b1_1) (Int.toNat i) []) (3 : Nat) C.ne))) && true)) && true))))
            (some (.inl (false, ())))
            (gdE (EC.isL ec_48 (EC.encL ec_48 b0_1)) <|
              (gdE (EC.isL ec_48 (EC.encL ec_48 b1_1)) <|
                (posthouseref6_SameMeeting_l4 (Go.IntKind.wrap Go.IntKind.i64 (i + (1 : Int))) b0 (EC.decL ec_48 (EC.encL ec_48 b0_1)) b0_2 b0_3 b0_4 b0_5 b1 (EC.decL ec_48 (EC.encL ec_48 b1_1)) b1_2 b1_3 b1_4 b1_5))))))))
  (gdE (EC.isL ec_48 (EC.encL ec_48 b0_1)) <|
    (gdE (EC.isL ec_48 (EC.encL ec_48 b1_1)) <|
      (some (.inr (((), ((), (i, false))), ((b0, ((EC.decL ec_48 (EC.encL ec_48 b0_1)), (b0_2, (b0_3, (b0_4, b0_5))))), (b1, ((EC.decL ec_48 (EC.encL ec_48 b1_1)), (b1_2, (b1_3, (b1_4, b1_5))))))))))))
theorem posthouseref6_SameMeeting_l4_eq {i : Int} {b0 : ByteArray} {b0_1 : (List S48)} {b0_2 : Int} {b0_3 : Int} {b0_4 : Int} {b0_5 : Bool} {b1 : ByteArray} {b1_1 : (List S48)} {b1_2 : Int} {b1_3 : Int} {b1_4 : Int} {b1_5 : Bool} {r : ((Bool × Unit) ⊕ ((Unit × Unit × Int × Bool) × ((ByteArray × (List S48) × Int × Int × Int × Bool) × (ByteArray × (List S48) × Int × Int × Int × Bool))))} (h : posthouseref6_SameMeeting_l4_t i b0 b0_1 b0_2 b0_3 b0_4 b0_5 b1 b1_1 b1_2 b1_3 b1_4 b1_5 = some r) : posthouseref6_SameMeeting_l4 i b0 b0_1 b0_2 b0_3 b0_4 b0_5 b1 b1_1 b1_2 b1_3 b1_4 b1_5 = some r :=
  lS_tree (es := tab_posthouseref6_MeetingFault) [] (by kernel_rfl) trivial trivial (by kernel_rfl) h
noncomputable def posthouseref6_SameMeeting_l4_e : LEnt Try.prog lv X0 22 59 := lentS Try.prog lv X0 4 (getLoop (cdF Try.f22) 4) posthouseref6_SameMeeting_l4_s posthouseref6_SameMeeting_l4_o (fun x => posthouseref6_SameMeeting_l4 x.1.2.2 x.2.1.1 x.2.1.2.1 x.2.1.2.2.1 x.2.1.2.2.2.1 x.2.1.2.2.2.2.1 x.2.1.2.2.2.2.2 x.2.2.1 x.2.2.2.1 x.2.2.2.2.1 x.2.2.2.2.2.1 x.2.2.2.2.2.2.1 x.2.2.2.2.2.2.2) (fun _ _ h => lS_from h)
def posthouseref6_SameMeeting_cr : Cod (V × List B) Bool := (cFstU (cPair (vC cBool) lNil))
noncomputable def posthouseref6_SameMeeting_s (a_Organizer : ByteArray) (a_Guests : (List S48)) (a_Round : Int) (a_Proposed_From : Int) (a_Proposed_To : Int) (a_Cancelled : Bool) (b_Organizer : ByteArray) (b_Guests : (List S48)) (b_Round : Int) (b_Proposed_From : Int) (b_Proposed_To : Int) (b_Cancelled : Bool) : Option Bool := fS Try.prog lv X0 22 posthouseref6_SameMeeting_ca posthouseref6_SameMeeting_cr ((a_Organizer, a_Guests, a_Round, a_Proposed_From, a_Proposed_To, a_Cancelled), (b_Organizer, b_Guests, b_Round, b_Proposed_From, b_Proposed_To, b_Cancelled))
noncomputable def posthouseref6_SameMeeting_t (a_Organizer : ByteArray) (a_Guests : (List S48)) (a_Round : Int) (a_Proposed_From : Int) (a_Proposed_To : Int) (a_Cancelled : Bool) (b_Organizer : ByteArray) (b_Guests : (List S48)) (b_Round : Int) (b_Proposed_From : Int) (b_Proposed_To : Int) (b_Cancelled : Bool) : Option Bool :=
  (brE ((!((ByteArray.toList a_Organizer) == (ByteArray.toList b_Organizer))) == false)
  (brE ((a_Round != b_Round) == false)
    (brE ((!((a_Proposed_From == b_Proposed_From) && ((a_Proposed_To == b_Proposed_To) && true))) == false)
      (brE ((!(a_Cancelled == b_Cancelled)) == false)
        (brE ((((List.length (EC.encL ec_48 a_Guests)) : Nat) : Int) != (((List.length (EC.encL ec_48 b_Guests)) : Nat) : Int))
          (some false)
          (gdE (EC.isL ec_48 (EC.encL ec_48 a_Guests)) <|
            (gdE (EC.isL ec_48 (EC.encL ec_48 b_Guests)) <|
              (Option.bind (posthouseref6_SameMeeting_l4 (0 : Int) a_Organizer (EC.decL ec_48 (EC.encL ec_48 a_Guests)) a_Round a_Proposed_From a_Proposed_To a_Cancelled b_Organizer (EC.decL ec_48 (EC.encL ec_48 b_Guests)) b_Round b_Proposed_From b_Proposed_To b_Cancelled) fun r0 =>
                (Sum.elim (fun r1 => (some (r1).1))
                  (fun r1 => (some true)) r0)))))
        (some false))
      (some false))
    (some false))
  (some false))
theorem posthouseref6_SameMeeting_eq {a_Organizer : ByteArray} {a_Guests : (List S48)} {a_Round : Int} {a_Proposed_From : Int} {a_Proposed_To : Int} {a_Cancelled : Bool} {b_Organizer : ByteArray} {b_Guests : (List S48)} {b_Round : Int} {b_Proposed_From : Int} {b_Proposed_To : Int} {b_Cancelled : Bool} {r : Bool} (h : posthouseref6_SameMeeting_t a_Organizer a_Guests a_Round a_Proposed_From a_Proposed_To a_Cancelled b_Organizer b_Guests b_Round b_Proposed_From b_Proposed_To b_Cancelled = some r) : posthouseref6_SameMeeting_s a_Organizer a_Guests a_Round a_Proposed_From a_Proposed_To a_Cancelled b_Organizer b_Guests b_Round b_Proposed_From b_Proposed_To b_Cancelled = some r :=
  fS_tree (es := tab_posthouseref6_MeetingFault) [posthouseref6_SameMeeting_l4_e] Try.func22 rfl (by kernel_rfl) rfl (by kernel_rfl) (by kernel_rfl) ⟨⟨_, rfl, rfl⟩, trivial⟩ trivial (by kernel_rfl) h
noncomputable def posthouseref6_SameMeeting_e : Ent Try.prog lv X0 := entS Try.prog lv X0 22 [] posthouseref6_SameMeeting_ca posthouseref6_SameMeeting_cr (fun x => posthouseref6_SameMeeting_s x.1.1 x.1.2.1 x.1.2.2.1 x.1.2.2.2.1 x.1.2.2.2.2.1 x.1.2.2.2.2.2 x.2.1 x.2.2.1 x.2.2.2.1 x.2.2.2.2.1 x.2.2.2.2.2.1 x.2.2.2.2.2.2) (fun _ _ h => fS_call h)
noncomputable def tab_posthouseref6_SameMeeting : List (Ent Try.prog lv X0) := posthouseref6_SameMeeting_e :: tab_posthouseref6_MeetingFault
def posthouseref6_Proposed_ca : Cod (List V) ((ByteArray × (List S48) × Int × Int × Int × Bool) × (Int × Int)) := (lCons (vAgg (lCons (vC cStr) (lCons (vC (cSl ec_48)) (lCons (vC (cInt .i64)) (lCons (vC (cInt .i64)) (lCons (vC (cInt .i64)) (lOne (vC cBool)))))))) (lOne (vAgg (lCons (vC (cInt .i64)) (lOne (vC (cInt .i64)))))))
def posthouseref6_Proposed_l3_s : SC ((Unit × Unit × Unit × Nat × Int) × ((ByteArray × (List S48) × Int × Int × Int × Bool) × (Int × Int) × (ByteArray × Nat × Int × Int × Int × Bool) × (List S48) × (List S48))) := sLS [2, 3, 4, 5, 6] (lCons (vPtr 0 0) (lCons (vPtr 1 0) (lCons (vPtr 2 0) (lCons (vRow 3) (lOne (vC (cInt .i64))))))) (lCons (oSome (bBox (lCons (vC cStr) (lCons (vC (cSl ec_48)) (lCons (vC (cInt .i64)) (lCons (vC (cInt .i64)) (lCons (vC (cInt .i64)) (lOne (vC cBool))))))))) (lCons (oSome (bBox (lCons (vC (cInt .i64)) (lOne (vC (cInt .i64)))))) (lCons (oSome (bBox (lCons (vC cStr) (lCons (vRow 4) (lCons (vC (cInt .i64)) (lCons (vC (cInt .i64)) (lCons (vC (cInt .i64)) (lOne (vC cBool))))))))) (lCons (oSome (bRow ec_48)) (lOne (oSome (bRow ec_48))))))) [false, false, false, false, false] (by decide) (fun _ => rfl)
def posthouseref6_Proposed_l3_o2 : SC ((Unit × Unit × Unit × Nat × Int × Bool) × ((ByteArray × (List S48) × Int × Int × Int × Bool) × (Int × Int) × (ByteArray × Nat × Int × Int × Int × Bool) × (List S48) × (List S48))) := sLS [2, 3, 4, 5, 6, 11] (lCons (vPtr 0 0) (lCons (vPtr 1 0) (lCons (vPtr 2 0) (lCons (vRow 3) (lCons (vC (cInt .i64)) (lOne (vC cBool))))))) (lCons (oSome (bBox (lCons (vC cStr) (lCons (vC (cSl ec_48)) (lCons (vC (cInt .i64)) (lCons (vC (cInt .i64)) (lCons (vC (cInt .i64)) (lOne (vC cBool))))))))) (lCons (oSome (bBox (lCons (vC (cInt .i64)) (lOne (vC (cInt .i64)))))) (lCons (oSome (bBox (lCons (vC cStr) (lCons (vRow 4) (lCons (vC (cInt .i64)) (lCons (vC (cInt .i64)) (lCons (vC (cInt .i64)) (lOne (vC cBool))))))))) (lCons (oSome (bRow ec_48)) (lOne (oSome (bRow ec_48))))))) [false, false, false, false, false] (by decide) (fun _ => rfl)
def posthouseref6_Proposed_l3_o : OC ((Unit × Unit × Unit × Nat × Int × Bool) × ((ByteArray × (List S48) × Int × Int × Int × Bool) × (Int × Int) × (ByteArray × Nat × Int × Int × Int × Bool) × (List S48) × (List S48))) := oAt 2 posthouseref6_Proposed_l3_o2
noncomputable def posthouseref6_Proposed_l3 (l : Nat) (i : Int) (b0 : ByteArray) (b0_1 : (List S48)) (b0_2 : Int) (b0_3 : Int) (b0_4 : Int) (b0_5 : Bool) (b1 : Int) (b1_1 : Int) (b2 : ByteArray) (b2_1 : Nat) (b2_2 : Int) (b2_3 : Int) (b2_4 : Int) (b2_5 : Bool) (b3 : (List S48)) (b4 : (List S48)) : Option ((Unit × Unit × Unit × Nat × Int × Bool) × ((ByteArray × (List S48) × Int × Int × Int × Bool) × (Int × Int) × (ByteArray × Nat × Int × Int × Int × Bool) × (List S48) × (List S48))) := lS Try.prog lv X0 31 33 (getLoop (cdF Try.f31) 3) posthouseref6_Proposed_l3_s posthouseref6_Proposed_l3_o (((), (), (), l, i), ((b0, b0_1, b0_2, b0_3, b0_4, b0_5), (b1, b1_1), (b2, b2_1, b2_2, b2_3, b2_4, b2_5), b3, b4))
noncomputable def posthouseref6_Proposed_l3_t (l : Nat) (i : Int) (b0 : ByteArray) (b0_1 : (List S48)) (b0_2 : Int) (b0_3 : Int) (b0_4 : Int) (b0_5 : Bool) (b1 : Int) (b1_1 : Int) (b2 : ByteArray) (b2_1 : Nat) (b2_2 : Int) (b2_3 : Int) (b2_4 : Int) (b2_5 : Bool) (b3 : (List S48)) (b4 : (List S48)) : Option ((Unit × Unit × Unit × Nat × Int × Bool) × ((ByteArray × (List S48) × Int × Int × Int × Bool) × (Int × Int) × (ByteArray × Nat × Int × Int × Int × Bool) × (List S48) × (List S48))) :=
  (brE (decide (i < (((List.length (EC.encL ec_48 b0_1)) : Nat) : Int)))
  (gdE (decide ((0 : Int) ≤ i)) <|
    (gdE ((decide ((Int.toNat i) < (List.length (EC.encL ec_48 b0_1)))) && (isE [K1.str, (K1.int Go.IntKind.i64), (K1.int Go.IntKind.i64), (K1.int Go.IntKind.i64)] (0 : Nat) (List.getD (EC.encL ec_48 b0_1) (Int.toNat i) []))) <|
      (gdE ((((List.all [[(C.str (strOf (List.getD (List.getD (EC.encL ec_48 b0_1) (Int.toNat i) []) (0 : Nat) C.ne))), (C.int Go.IntKind.i64 (0 : Int)), (C.int Go.IntKind.i64 (0 : Int)), (C.int Go.IntKind.i64 (0 : Int))]] (fun (el : (List C)) => ((List.length el) == (4 : Nat)))) && (List.all (EC.encL ec_48 b3) (fun (el : (List C)) => ((List.length el) == (4 : Nat))))) && (decide (((l + (List.length [[(C.str (strOf (List.getD (List.getD (EC.encL ec_48 b0_1) (Int.toNat i) []) (0 : Nat) C.ne))), (C.int Go.IntKind.i64 (0 : Int)), (C.int Go.IntKind.i64 (0 : Int)), (C.int Go.IntKind.i64 (0 : Int))]])) * (40 : Nat)) ≤ (140737488355328 : Nat)))) && (decide ((l + (List.length [[(C.str (strOf (List.getD (List.getD (EC.encL ec_48 b0_1) (Int.toNat i) []) (0 : Nat) C.ne))), (C.int Go.IntKind.i64 (0 : Int)), (C.int Go.IntKind.i64 (0 : Int)), (C.int Go.IntKind.i64 (0 : Int))]])) ≤ (9223372036854775807 : Nat)))) <|
        (gdE (EC.isL ec_48 (EC.encL ec_48 b0_1)) <|
          (gdE (EC.isL ec_48 ((EC.encL ec_48 b3) ++ [[(C.str (strOf (List.getD (List.getD (EC.encL ec_48 b0_1) (Int.toNat i) []) (0 : Nat) C.ne))), (C.int Go.IntKind.i64 (0 : Int)), (C.int Go.IntKind.i64 (0 : Int)), (C.int Go.IntKind.i64 (0 : Int))]])) <|
            (gdE (EC.isL ec_48 (EC.encL ec_48 b4)) <|
              (posthouseref6_Proposed_l3 (l + (List.length [[(C.str (strOf (List.getD (List.getD (EC.encL ec_48 b0_1) (Int.toNat i) []) (0 : Nat) C.ne))), (C.int Go.IntKind.i64 (0 : Int)), (C.int Go.IntKind.i64 (0 : Int)), (C.int Go.IntKind.i64 (0 : Int))]])) (Go.IntKind.wrap Go.IntKind.i64 (i + (1 : Int))) b0 (EC.decL ec_48 (EC.encL ec_48 b0_1)) b0_2 b0_3 b0_4 b0_5 b1 b1_1 b2 b2_1 b2_2 b2_3 b2_4 b2_5 (EC.decL ec_48 ((EC.encL ec_48 b3) ++ [[(C.str (strOf (List.getD (List.getD (EC.encL ec_48 b0_1) (Int.toNat i) []) (0 : Nat) C.ne))), (C.int Go.IntKind.i64 (0 : Int)), (C.int Go.IntKind.i64 (0 : Int)), (C.int Go.IntKind.i64 (0 : Int))]])) (EC.decL ec_48 (EC.encL ec_48 b4)))))))))
  (gdE (EC.isL ec_48 (EC.encL ec_48 b0_1)) <|
    (gdE (EC.isL ec_48 (EC.encL ec_48 b3)) <|
      (gdE (EC.isL ec_48 (EC.encL ec_48 b4)) <|
        (some (((), ((), ((), (l, (i, false))))), ((b0, ((EC.decL ec_48 (EC.encL ec_48 b0_1)), (b0_2, (b0_3, (b0_4, b0_5))))), ((b1, b1_1), ((b2, (b2_1, (b2_2, (b2_3, (b2_4, b2_5))))), ((EC.decL ec_48 (EC.encL ec_48 b3)), (EC.decL ec_48 (EC.encL ec_48 b4))))))))))))
theorem posthouseref6_Proposed_l3_eq {l : Nat} {i : Int} {b0 : ByteArray} {b0_1 : (List S48)} {b0_2 : Int} {b0_3 : Int} {b0_4 : Int} {b0_5 : Bool} {b1 : Int} {b1_1 : Int} {b2 : ByteArray} {b2_1 : Nat} {b2_2 : Int} {b2_3 : Int} {b2_4 : Int} {b2_5 : Bool} {b3 : (List S48)} {b4 : (List S48)} {r : ((Unit × Unit × Unit × Nat × Int × Bool) × ((ByteArray × (List S48) × Int × Int × Int × Bool) × (Int × Int) × (ByteArray × Nat × Int × Int × Int × Bool) × (List S48) × (List S48)))} (h : posthouseref6_Proposed_l3_t l i b0 b0_1 b0_2 b0_3 b0_4 b0_5 b1 b1_1 b2 b2_1 b2_2 b2_3 b2_4 b2_5 b3 b4 = some r) : posthouseref6_Proposed_l3 l i b0 b0_1 b0_2 b0_3 b0_4 b0_5 b1 b1_1 b2 b2_1 b2_2 b2_3 b2_4 b2_5 b3 b4 = some r :=
  lS_tree (es := tab_posthouseref6_SameMeeting) [] (by kernel_rfl) trivial trivial (by kernel_rfl) h
noncomputable def posthouseref6_Proposed_l3_e : LEnt Try.prog lv X0 31 33 := lentS Try.prog lv X0 3 (getLoop (cdF Try.f31) 3) posthouseref6_Proposed_l3_s posthouseref6_Proposed_l3_o (fun x => posthouseref6_Proposed_l3 x.1.2.2.2.1 x.1.2.2.2.2 x.2.1.1 x.2.1.2.1 x.2.1.2.2.1 x.2.1.2.2.2.1 x.2.1.2.2.2.2.1 x.2.1.2.2.2.2.2 x.2.2.1.1 x.2.2.1.2 x.2.2.2.1.1 x.2.2.2.1.2.1 x.2.2.2.1.2.2.1 x.2.2.2.1.2.2.2.1 x.2.2.2.1.2.2.2.2.1 x.2.2.2.1.2.2.2.2.2 x.2.2.2.2.1 x.2.2.2.2.2) (fun _ _ h => lS_from h)
def posthouseref6_Proposed_cr : Cod (V × List B) ((ByteArray × Nat × Int × Int × Int × Bool) × (List S48)) := (cPair (vAgg (lCons (vC cStr) (lCons (vRow 0) (lCons (vC (cInt .i64)) (lCons (vC (cInt .i64)) (lCons (vC (cInt .i64)) (lOne (vC cBool)))))))) (lOne (bRow ec_48)))
noncomputable def posthouseref6_Proposed_s (m_Organizer : ByteArray) (m_Guests : (List S48)) (m_Round : Int) (m_Proposed_From : Int) (m_Proposed_To : Int) (m_Cancelled : Bool) (p_From : Int) (p_To : Int) : Option ((ByteArray × Nat × Int × Int × Int × Bool) × (List S48)) := fS Try.prog lv X0 31 posthouseref6_Proposed_ca posthouseref6_Proposed_cr ((m_Organizer, m_Guests, m_Round, m_Proposed_From, m_Proposed_To, m_Cancelled), (p_From, p_To))
noncomputable def posthouseref6_Proposed_t (m_Organizer : ByteArray) (m_Guests : (List S48)) (m_Round : Int) (m_Proposed_From : Int) (m_Proposed_To : Int) (m_Cancelled : Bool) (p_From : Int) (p_To : Int) : Option ((ByteArray × Nat × Int × Int × Int × Bool) × (List S48)) :=
  (gdE (EC.isL ec_48 (EC.encL ec_48 m_Guests)) <|
  (Option.bind (posthouseref6_Proposed_l3 (0 : Nat) (0 : Int) m_Organizer (EC.decL ec_48 (EC.encL ec_48 m_Guests)) m_Round m_Proposed_From m_Proposed_To m_Cancelled p_From p_To (ByteArray.mk (List.toArray [])) (0 : Nat) (0 : Int) (0 : Int) (0 : Int) false (EC.decL ec_48 []) (EC.decL ec_48 [])) fun r0 =>
    (gdE (EC.isL ec_48 (EC.encL ec_48 (((((r0).2).2).2).2).1)) <|
      (some (((((r0).2).1).1, ((((((r0).1).2).2).2).1, ((Go.IntKind.wrap Go.IntKind.i64 ((((((r0).2).1).2).2).1 + (1 : Int))), (((((r0).2).2).1).1, (((((r0).2).2).1).2, (((((((r0).2).1).2).2).2).2).2))))), (EC.decL ec_48 (EC.encL ec_48 (((((r0).2).2).2).2).1)))))))
theorem posthouseref6_Proposed_eq {m_Organizer : ByteArray} {m_Guests : (List S48)} {m_Round : Int} {m_Proposed_From : Int} {m_Proposed_To : Int} {m_Cancelled : Bool} {p_From : Int} {p_To : Int} {r : ((ByteArray × Nat × Int × Int × Int × Bool) × (List S48))} (h : posthouseref6_Proposed_t m_Organizer m_Guests m_Round m_Proposed_From m_Proposed_To m_Cancelled p_From p_To = some r) : posthouseref6_Proposed_s m_Organizer m_Guests m_Round m_Proposed_From m_Proposed_To m_Cancelled p_From p_To = some r :=
  fS_tree (es := tab_posthouseref6_SameMeeting) [posthouseref6_Proposed_l3_e] Try.func31 rfl (by kernel_rfl) rfl (by kernel_rfl) (by kernel_rfl) ⟨⟨_, rfl, rfl⟩, trivial⟩ trivial (by kernel_rfl) h
noncomputable def posthouseref6_Proposed_e : Ent Try.prog lv X0 := entS Try.prog lv X0 31 [] posthouseref6_Proposed_ca posthouseref6_Proposed_cr (fun x => posthouseref6_Proposed_s x.1.1 x.1.2.1 x.1.2.2.1 x.1.2.2.2.1 x.1.2.2.2.2.1 x.1.2.2.2.2.2 x.2.1 x.2.2) (fun _ _ h => fS_call h)
noncomputable def tab_posthouseref6_Proposed : List (Ent Try.prog lv X0) := posthouseref6_Proposed_e :: tab_posthouseref6_SameMeeting
def posthouselaw6_table_ca : Cod (List V) Unit := lNil
def posthouselaw6_table_cr : Cod (V × List B) ((ByteArray × Nat × Int × Int × Int × Bool) × (List S48)) := (cPair (vAgg (lCons (vC cStr) (lCons (vRow 0) (lCons (vC (cInt .i64)) (lCons (vC (cInt .i64)) (lCons (vC (cInt .i64)) (lOne (vC cBool)))))))) (lOne (bRow ec_48)))
noncomputable def posthouselaw6_table_s  : Option ((ByteArray × Nat × Int × Int × Int × Bool) × (List S48)) := fS Try.prog lv X0 52 posthouselaw6_table_ca posthouselaw6_table_cr ()
noncomputable def posthouselaw6_table_t  : Option ((ByteArray × Nat × Int × Int × Int × Bool) × (List S48)) :=
  (some (((ByteArray.mk (List.toArray [(111 : UInt8)])), ((1 : Nat), ((0 : Int), ((0 : Int), ((0 : Int), false))))), (EC.decL ec_48 [[(C.str (ByteArray.mk (List.toArray [(103 : UInt8)]))), (C.int Go.IntKind.i64 (0 : Int)), (C.int Go.IntKind.i64 (0 : Int)), (C.int Go.IntKind.i64 (0 : Int))]])))
theorem posthouselaw6_table_eq {r : ((ByteArray × Nat × Int × Int × Int × Bool) × (List S48))} (h : posthouselaw6_table_t  = some r) : posthouselaw6_table_s  = some r :=
  fS_tree (es := tab_posthouseref6_Proposed) [] Try.func52 rfl (by kernel_rfl) rfl (by kernel_rfl) (by kernel_rfl) trivial trivial (by kernel_rfl) h
noncomputable def posthouselaw6_table_e : Ent Try.prog lv X0 := entS Try.prog lv X0 52 [] posthouselaw6_table_ca posthouselaw6_table_cr (fun x => posthouselaw6_table_s ) (fun _ _ h => fS_call h)
noncomputable def tab_posthouselaw6_table : List (Ent Try.prog lv X0) := posthouselaw6_table_e :: tab_posthouseref6_Proposed
def posthouselaw6_agreed_ca : Cod (List V) Unit := lNil
def posthouselaw6_agreed_cr : Cod (V × List B) Bool := (cFstU (cPair (vC cBool) lNil))
noncomputable def posthouselaw6_agreed_s  : Option Bool := fS Try.prog lv X0 23 posthouselaw6_agreed_ca posthouselaw6_agreed_cr ()
noncomputable def posthouselaw6_agreed_t  : Option Bool :=
  (Option.bind posthouselaw6_table_s fun r0 =>
  (gdE (EC.isL ec_48 (EC.encL ec_48 (r0).2)) <|
    (Option.bind (meeting_Propose_s ((r0).1).1 (EC.decL ec_48 (EC.encL ec_48 (r0).2)) ((((r0).1).2).2).1 (((((r0).1).2).2).2).1 ((((((r0).1).2).2).2).2).1 ((((((r0).1).2).2).2).2).2 (1 : Int) (2 : Int)) fun r1 =>
      (gdE (EC.isL ec_48 (EC.encL ec_48 (r1).2)) <|
        (Option.bind (meeting_Answer_s (((r1).1).1).1 (EC.decL ec_48 (EC.encL ec_48 (r1).2)) (((((r1).1).1).2).2).1 ((((((r1).1).1).2).2).2).1 (((((((r1).1).1).2).2).2).2).1 (((((((r1).1).1).2).2).2).2).2 (ByteArray.mk (List.toArray [(103 : UInt8)])) (1 : Int) (0 : Int) (0 : Int)) fun r2 =>
          (gdE (EC.isL ec_48 (EC.encL ec_48 (r2).2)) <|
            (Option.bind (meeting_Agreed_s (((r2).1).1).1 (EC.decL ec_48 (EC.encL ec_48 (r2).2)) (((((r2).1).1).2).2).1 ((((((r2).1).1).2).2).2).1 (((((((r2).1).1).2).2).2).2).1 (((((((r2).1).1).2).2).2).2).2) fun r3 =>
              (gdE (EC.isL ec_48 (EC.encL ec_48 (r1).2)) <|
                (Option.bind (meeting_Agreed_s (((r1).1).1).1 (EC.decL ec_48 (EC.encL ec_48 (r1).2)) (((((r1).1).1).2).2).1 ((((((r1).1).1).2).2).2).1 (((((((r1).1).1).2).2).2).2).1 (((((((r1).1).1).2).2).2).2).2) fun r4 =>
                  (brE (((((r1).1).2).1 == (0 : Int)) == true)
                    (brE (((((r2).1).2).1 == (0 : Int)) == true)
                      (brE ((((r3).2).1 == (0 : Int)) == true)
                        (brE ((((r4).2).1 == (0 : Int)) == true)
                          (brE ((r3).1 == true)
                            (brE ((!(r4).1) == true)
                              (some ((((((r1).1).1).2).2).1 == (1 : Int)))
                              (some false))
                            (some false))
                          (some false))
                        (some false))
                      (some false))
                    (some false)))))))))))
theorem posthouselaw6_agreed_eq {r : Bool} (h : posthouselaw6_agreed_t  = some r) : posthouselaw6_agreed_s  = some r :=
  fS_tree (es := tab_posthouselaw6_table) [] Try.func23 rfl (by kernel_rfl) rfl (by kernel_rfl) (by kernel_rfl) trivial trivial (by kernel_rfl) h
noncomputable def posthouselaw6_agreed_e : Ent Try.prog lv X0 := entS Try.prog lv X0 23 [] posthouselaw6_agreed_ca posthouselaw6_agreed_cr (fun x => posthouselaw6_agreed_s ) (fun _ _ h => fS_call h)
noncomputable def tab_posthouselaw6_agreed : List (Ent Try.prog lv X0) := posthouselaw6_agreed_e :: tab_posthouselaw6_table
def cmp_isNaN_ca : Cod (List V) Int := (lOne (vC (cInt .i64)))
def cmp_isNaN_cr : Cod (V × List B) Bool := (cFstU (cPair (vC cBool) lNil))
noncomputable def cmp_isNaN_s (x : Int) : Option Bool := fS Try.prog lv X0 72 cmp_isNaN_ca cmp_isNaN_cr x
noncomputable def cmp_isNaN_t (x : Int) : Option Bool :=
  (some (x != x))
theorem cmp_isNaN_eq {x : Int} {r : Bool} (h : cmp_isNaN_t x = some r) : cmp_isNaN_s x = some r :=
  fS_tree (es := tab_posthouselaw6_agreed) [] Try.func72 rfl (by kernel_rfl) rfl (by kernel_rfl) (by kernel_rfl) trivial trivial (by kernel_rfl) h
noncomputable def cmp_isNaN_e : Ent Try.prog lv X0 := entS Try.prog lv X0 72 [] cmp_isNaN_ca cmp_isNaN_cr (fun x => cmp_isNaN_s x) (fun _ _ h => fS_call h)
noncomputable def tab_cmp_isNaN : List (Ent Try.prog lv X0) := cmp_isNaN_e :: tab_posthouselaw6_agreed
def cmp_Compare_ca : Cod (List V) (Int × Int) := (lCons (vC (cInt .i64)) (lOne (vC (cInt .i64))))
def cmp_Compare_cr : Cod (V × List B) Int := (cFstU (cPair (vC (cInt .i64)) lNil))
noncomputable def cmp_Compare_s (x : Int) (y : Int) : Option Int := fS Try.prog lv X0 61 cmp_Compare_ca cmp_Compare_cr (x, y)
noncomputable def cmp_Compare_t (x : Int) (y : Int) : Option Int :=
  (Option.bind (cmp_isNaN_s x) fun r0 =>
  (Option.bind (cmp_isNaN_s y) fun r1 =>
    (brE r0
      (brE r1
        (some (0 : Int))
        (some (-1 : Int)))
      (brE r1
        (some (1 : Int))
        (brE (decide (x < y))
          (some (-1 : Int))
          (brE (decide (x > y))
            (some (1 : Int))
            (some (0 : Int))))))))
theorem cmp_Compare_eq {x : Int} {y : Int} {r : Int} (h : cmp_Compare_t x y = some r) : cmp_Compare_s x y = some r :=
  fS_tree (es := tab_cmp_isNaN) [] Try.func61 rfl (by kernel_rfl) rfl (by kernel_rfl) (by kernel_rfl) trivial trivial (by kernel_rfl) h
noncomputable def cmp_Compare_e : Ent Try.prog lv X0 := entS Try.prog lv X0 61 [] cmp_Compare_ca cmp_Compare_cr (fun x => cmp_Compare_s x.1 x.2) (fun _ _ h => fS_call h)
noncomputable def tab_cmp_Compare : List (Ent Try.prog lv X0) := cmp_Compare_e :: tab_cmp_isNaN
def ec_3 : EC Int where
  enc x := [.int .i64 x]
  dec c := intOf (c.getD 0 .ne)
  is c := isE [.int .i64] 0 c
  enc_dec h := decE_eq h
  dec_enc x := by rfl
  is_enc x := by simp [isE, isK]
theorem enc_3 (x : Int) : ec_3.enc x = [.int .i64 x] := rfl
theorem isE_3 (xs : List Int) (n : Nat) : isE [.int .i64] 0 ((ec_3.encL xs).getD n []) = decide (n < xs.length) := by
  by_cases h : n < xs.length
  · simp only [EC.getD_lt _ _ h]; simp [enc_3, isE, isK, h]
  · simp only [EC.getD_ge _ _ (Nat.not_lt.1 h)]; simp [isE, isK, h]
theorem at_3_0 (xs : List Int) (n : Nat) : intOf (((ec_3.encL xs).getD n []).getD 0 .ne) = (xs.getD n (ec_3.dec [])) := by
  by_cases h : n < xs.length
  · simp only [EC.getD_lt _ _ h]; simp [enc_3, h, intOf, List.getD_eq_getElem?_getD]
  · simp only [EC.getD_ge _ _ (Nat.not_lt.1 h)]; simp [Nat.not_lt.1 h, ec_3, intOf, List.getD_eq_getElem?_getD]
theorem lit_3 (a0 : Int) : ([.int .i64 a0] : List C) = ec_3.enc a0 := rfl
theorem apd_3 (xs : List Int) (a0 : Int) : ec_3.encL xs ++ [[.int .i64 a0]] = ec_3.encL (xs ++ [a0]) := by rw [lit_3]; simp [EC.encL]
theorem len_3 (xs : List Int) (n : Nat) (h : n < xs.length) : ((ec_3.encL xs).getD n []).length = 1 := by rw [EC.getD_lt _ _ h]; rfl
theorem all_3 (xs : List Int) : (ec_3.encL xs).all (fun (el : List C) => el.length == 1) = true := by induction xs with | nil => rfl | cons x xs ih => first | (simp [EC.encL, enc_3]; done) | simpa [EC.encL, enc_3] using ih
theorem set_3_0_1 (xs : List Int) (n : Nat) (a0 : Int) : (ec_3.encL xs).set n (splice ((ec_3.encL xs).getD n []) 0 [.int .i64 a0]) = ec_3.encL (xs.set n (a0)) := by
  by_cases h : n < xs.length
  · rw [EC.getD_lt _ _ h]; simp [EC.encL, List.map_set, enc_3, splice]
  · simp [EC.encL, List.set_eq_of_length_le, Nat.not_lt.1 h]
def cmp_Or_ca : Cod (List V) (List Int) := (lOne (vC (cSl ec_3)))
def cmp_Or_l3_s : SC ((Int × (List Int) × Int × Int) × Unit) := sLS [3, 6, 7, 8] (lCons (vC (cInt .i64)) (lCons (vC (cSl ec_3)) (lCons (vC (cInt .i64)) (lOne (vC (cInt .i64)))))) lNil [] (by decide) (fun _ => rfl)
def cmp_Or_l3_o2 : SC ((Int × (List Int) × Int × Int × Bool) × Unit) := sLS [3, 6, 7, 8, 9] (lCons (vC (cInt .i64)) (lCons (vC (cSl ec_3)) (lCons (vC (cInt .i64)) (lCons (vC (cInt .i64)) (lOne (vC cBool)))))) lNil [] (by decide) (fun _ => rfl)
def cmp_Or_l3_o1 : SC (Int × Unit) := sLS [2] (lOne (vC (cInt .i64))) lNil [] (by decide) (fun _ => rfl)
def cmp_Or_l3_o : OC ((Int × Unit) ⊕ ((Int × (List Int) × Int × Int × Bool) × Unit)) := oOr 1 cmp_Or_l3_o1 (oAt 2 cmp_Or_l3_o2) (fun x => (by decide : (2 : Nat) ≠ 1))
noncomputable def cmp_Or_l3 (zero : Int) (t6 : (List Int)) (t7 : Int) (t8 : Int) : Option ((Int × Unit) ⊕ ((Int × (List Int) × Int × Int × Bool) × Unit)) := lS Try.prog lv X0 60 18 (getLoop (cdF Try.f60) 3) cmp_Or_l3_s cmp_Or_l3_o ((zero, t6, t7, t8), ())
noncomputable def cmp_Or_l3_t (zero : Int) (t6 : (List Int)) (t7 : Int) (t8 : Int) : Option ((Int × Unit) ⊕ ((Int × (List Int) × Int × Int × Bool) × Unit)) :=
  (brE (decide (t8 < t7))
  (gdE (decide ((0 : Int) ≤ t8)) <|
    (gdE ((decide ((Int.toNat t8) < (List.length (EC.encL ec_3 t6)))) && (isE [(K1.int Go.IntKind.i64)] (0 : Nat) (List.getD (EC.encL ec_3 t6) (Int.toNat t8) []))) <|
      (brE ((intOf (List.getD (List.getD (EC.encL ec_3 t6) (Int.toNat t8) []) (0 : Nat) C.ne)) != zero)
        (some (.inl ((intOf (List.getD (List.getD (EC.encL ec_3 t6) (Int.toNat t8) []) (0 : Nat) C.ne)), ())))
        (gdE (EC.isL ec_3 (EC.encL ec_3 t6)) <|
          (cmp_Or_l3 zero (EC.decL ec_3 (EC.encL ec_3 t6)) t7 (Go.IntKind.wrap Go.IntKind.i64 (t8 + (1 : Int))))))))
  (gdE (EC.isL ec_3 (EC.encL ec_3 t6)) <|
    (some (.inr ((zero, ((EC.decL ec_3 (EC.encL ec_3 t6)), (t7, (t8, false)))), ())))))
theorem cmp_Or_l3_eq {zero : Int} {t6 : (List Int)} {t7 : Int} {t8 : Int} {r : ((Int × Unit) ⊕ ((Int × (List Int) × Int × Int × Bool) × Unit))} (h : cmp_Or_l3_t zero t6 t7 t8 = some r) : cmp_Or_l3 zero t6 t7 t8 = some r :=
  lS_tree (es := tab_cmp_Compare) [] (by kernel_rfl) trivial trivial (by kernel_rfl) h
noncomputable def cmp_Or_l3_e : LEnt Try.prog lv X0 60 18 := lentS Try.prog lv X0 3 (getLoop (cdF Try.f60) 3) cmp_Or_l3_s cmp_Or_l3_o (fun x => cmp_Or_l3 x.1.1 x.1.2.1 x.1.2.2.1 x.1.2.2.2) (fun _ _ h => lS_from h)
def cmp_Or_cr : Cod (V × List B) Int := (cFstU (cPair (vC (cInt .i64)) lNil))
noncomputable def cmp_Or_s (vals : (List Int)) : Option Int := fS Try.prog lv X0 60 cmp_Or_ca cmp_Or_cr vals
noncomputable def cmp_Or_t (vals : (List Int)) : Option Int :=
  (gdE (EC.isL ec_3 (EC.encL ec_3 vals)) <|
  (Option.bind (cmp_Or_l3 (0 : Int) (EC.decL ec_3 (EC.encL ec_3 vals)) (((List.length (EC.encL ec_3 vals)) : Nat) : Int) (0 : Int)) fun r0 =>
    (Sum.elim (fun r1 => (some (r1).1))
      (fun r1 => (some ((r1).1).1)) r0)))
theorem cmp_Or_eq {vals : (List Int)} {r : Int} (h : cmp_Or_t vals = some r) : cmp_Or_s vals = some r :=
  fS_tree (es := tab_cmp_Compare) [cmp_Or_l3_e] Try.func60 rfl (by kernel_rfl) rfl (by kernel_rfl) (by kernel_rfl) ⟨⟨_, rfl, rfl⟩, trivial⟩ trivial (by kernel_rfl) h
noncomputable def cmp_Or_e : Ent Try.prog lv X0 := entS Try.prog lv X0 60 [] cmp_Or_ca cmp_Or_cr (fun x => cmp_Or_s x) (fun _ _ h => fS_call h)
noncomputable def tab_cmp_Or : List (Ent Try.prog lv X0) := cmp_Or_e :: tab_cmp_Compare
def revise1_ca : Cod (List V) ((Int × Int) × (Int × Int)) := (lCons (vAgg (lCons (vC (cInt .i64)) (lOne (vC (cInt .i64))))) (lOne (vAgg (lCons (vC (cInt .i64)) (lOne (vC (cInt .i64)))))))
def revise1_cr : Cod (V × List B) Int := (cFstU (cPair (vC (cInt .i64)) lNil))
noncomputable def revise1_s (a_From : Int) (a_To : Int) (b_From : Int) (b_To : Int) : Option Int := fS Try.prog lv X0 59 revise1_ca revise1_cr ((a_From, a_To), (b_From, b_To))
noncomputable def revise1_t (a_From : Int) (a_To : Int) (b_From : Int) (b_To : Int) : Option Int :=
  (Option.bind (cmp_Compare_s a_From b_From) fun r0 =>
  (Option.bind (cmp_Compare_s a_To b_To) fun r1 =>
    (Option.bind (cmp_Or_s (EC.decL ec_3 [[(C.int Go.IntKind.i64 r0)], [(C.int Go.IntKind.i64 r1)]])) fun r2 =>
      (some r2))))
theorem revise1_eq {a_From : Int} {a_To : Int} {b_From : Int} {b_To : Int} {r : Int} (h : revise1_t a_From a_To b_From b_To = some r) : revise1_s a_From a_To b_From b_To = some r :=
  fS_tree (es := tab_cmp_Or) [] Try.func59 rfl (by kernel_rfl) rfl (by kernel_rfl) (by kernel_rfl) trivial trivial (by kernel_rfl) h
noncomputable def revise1_e : Ent Try.prog lv X0 := entS Try.prog lv X0 59 [] revise1_ca revise1_cr (fun x => revise1_s x.1.1 x.1.2 x.2.1 x.2.2) (fun _ _ h => fS_call h)
noncomputable def tab_revise1 : List (Ent Try.prog lv X0) := revise1_e :: tab_cmp_Or
structure S38 where
  From : Int
  To : Int
def ec_38 : EC S38 where
  enc x := [.int .i64 x.From, .int .i64 x.To]
  dec c := ⟨intOf (c.getD 0 .ne), intOf (c.getD 1 .ne)⟩
  is c := isE [.int .i64, .int .i64] 0 c
  enc_dec h := decE_eq h
  dec_enc x := by rfl
  is_enc x := by simp [isE, isK]
theorem enc_38 (x : S38) : ec_38.enc x = [.int .i64 x.From, .int .i64 x.To] := rfl
theorem isE_38 (xs : List S38) (n : Nat) : isE [.int .i64, .int .i64] 0 ((ec_38.encL xs).getD n []) = decide (n < xs.length) := by
  by_cases h : n < xs.length
  · simp only [EC.getD_lt _ _ h]; simp [enc_38, isE, isK, h]
  · simp only [EC.getD_ge _ _ (Nat.not_lt.1 h)]; simp [isE, isK, h]
theorem at_38_0 (xs : List S38) (n : Nat) : intOf (((ec_38.encL xs).getD n []).getD 0 .ne) = (xs.getD n (ec_38.dec [])).From := by
  by_cases h : n < xs.length
  · simp only [EC.getD_lt _ _ h]; simp [enc_38, h, intOf, List.getD_eq_getElem?_getD]
  · simp only [EC.getD_ge _ _ (Nat.not_lt.1 h)]; simp [Nat.not_lt.1 h, ec_38, intOf, List.getD_eq_getElem?_getD]
theorem at_38_1 (xs : List S38) (n : Nat) : intOf (((ec_38.encL xs).getD n []).getD 1 .ne) = (xs.getD n (ec_38.dec [])).To := by
  by_cases h : n < xs.length
  · simp only [EC.getD_lt _ _ h]; simp [enc_38, h, intOf, List.getD_eq_getElem?_getD]
  · simp only [EC.getD_ge _ _ (Nat.not_lt.1 h)]; simp [Nat.not_lt.1 h, ec_38, intOf, List.getD_eq_getElem?_getD]
theorem lit_38 (a0 : Int) (a1 : Int) : ([.int .i64 a0, .int .i64 a1] : List C) = ec_38.enc (⟨a0, a1⟩ : S38) := rfl
theorem apd_38 (xs : List S38) (a0 : Int) (a1 : Int) : ec_38.encL xs ++ [[.int .i64 a0, .int .i64 a1]] = ec_38.encL (xs ++ [(⟨a0, a1⟩ : S38)]) := by rw [lit_38]; simp [EC.encL]
theorem len_38 (xs : List S38) (n : Nat) (h : n < xs.length) : ((ec_38.encL xs).getD n []).length = 2 := by rw [EC.getD_lt _ _ h]; rfl
theorem all_38 (xs : List S38) : (ec_38.encL xs).all (fun (el : List C) => el.length == 2) = true := by induction xs with | nil => rfl | cons x xs ih => first | (simp [EC.encL, enc_38]; done) | simpa [EC.encL, enc_38] using ih
theorem set_38_0_2 (xs : List S38) (n : Nat) (a0 : Int) (a1 : Int) : (ec_38.encL xs).set n (splice ((ec_38.encL xs).getD n []) 0 [.int .i64 a0, .int .i64 a1]) = ec_38.encL (xs.set n ({ xs.getD n (ec_38.dec []) with From := a0, To := a1 })) := by
  by_cases h : n < xs.length
  · rw [EC.getD_lt _ _ h]; simp [EC.encL, List.map_set, enc_38, splice]
  · simp [EC.encL, List.set_eq_of_length_le, Nat.not_lt.1 h]
theorem set_38_0_1 (xs : List S38) (n : Nat) (a0 : Int) : (ec_38.encL xs).set n (splice ((ec_38.encL xs).getD n []) 0 [.int .i64 a0]) = ec_38.encL (xs.set n ({ xs.getD n (ec_38.dec []) with From := a0 })) := by
  by_cases h : n < xs.length
  · rw [EC.getD_lt _ _ h]; simp [EC.encL, List.map_set, enc_38, splice, List.getD_eq_getElem?_getD, h]
  · simp [EC.encL, List.set_eq_of_length_le, Nat.not_lt.1 h]
theorem set_38_1_1 (xs : List S38) (n : Nat) (a1 : Int) : (ec_38.encL xs).set n (splice ((ec_38.encL xs).getD n []) 1 [.int .i64 a1]) = ec_38.encL (xs.set n ({ xs.getD n (ec_38.dec []) with To := a1 })) := by
  by_cases h : n < xs.length
  · rw [EC.getD_lt _ _ h]; simp [EC.encL, List.map_set, enc_38, splice, List.getD_eq_getElem?_getD, h]
  · simp [EC.encL, List.set_eq_of_length_le, Nat.not_lt.1 h]
def minPer_ca : Cod (List V) ((List S38) × Unit) := (lCons (vC (cSl ec_38)) (lOne (vFn 59 lNil)))
def minPer_l5_s : SC (((List S38) × Unit × Unit × Unit × Int) × ((Int × Int) × (Int × Int))) := sLS [0, 1, 4, 5, 6] (lCons (vC (cSl ec_38)) (lCons (vFn 59 lNil) (lCons (vPtr 0 0) (lCons (vPtr 1 0) (lOne (vC (cInt .i64))))))) (lCons (oSome (bBox (lCons (vC (cInt .i64)) (lOne (vC (cInt .i64)))))) (lOne (oSome (bBox (lCons (vC (cInt .i64)) (lOne (vC (cInt .i64)))))))) [false, false] (by decide) (fun _ => rfl)
def minPer_l5_o2 : SC (((List S38) × Unit × Unit × Unit × Int × Bool) × ((Int × Int) × (Int × Int))) := sLS [0, 1, 4, 5, 6, 17] (lCons (vC (cSl ec_38)) (lCons (vFn 59 lNil) (lCons (vPtr 0 0) (lCons (vPtr 1 0) (lCons (vC (cInt .i64)) (lOne (vC cBool))))))) (lCons (oSome (bBox (lCons (vC (cInt .i64)) (lOne (vC (cInt .i64)))))) (lOne (oSome (bBox (lCons (vC (cInt .i64)) (lOne (vC (cInt .i64)))))))) [false, false] (by decide) (fun _ => rfl)
def minPer_l5_o : OC (((List S38) × Unit × Unit × Unit × Int × Bool) × ((Int × Int) × (Int × Int))) := oAt 2 minPer_l5_o2
noncomputable def minPer_l5 (x : (List S38)) (i : Int) (b0 : Int) (b0_1 : Int) (b1 : Int) (b1_1 : Int) : Option (((List S38) × Unit × Unit × Unit × Int × Bool) × ((Int × Int) × (Int × Int))) := lS Try.prog lv X0 58 33 (getLoop (cdF Try.f58) 5) minPer_l5_s minPer_l5_o ((x, (), (), (), i), ((b0, b0_1), (b1, b1_1)))
noncomputable def minPer_l5_t (x : (List S38)) (i : Int) (b0 : Int) (b0_1 : Int) (b1 : Int) (b1_1 : Int) : Option (((List S38) × Unit × Unit × Unit × Int × Bool) × ((Int × Int) × (Int × Int))) :=
  (brE (decide (i < (((List.length (EC.encL ec_38 x)) : Nat) : Int)))
  (gdE (decide ((0 : Int) ≤ i)) <|
    (gdE ((decide ((Int.toNat i) < (List.length (EC.encL ec_38 x)))) && (isE [(K1.int Go.IntKind.i64), (K1.int Go.IntKind.i64)] (0 : Nat) (List.getD (EC.encL ec_38 x) (Int.toNat i) []))) <|
      (Option.bind (revise1_s (intOf (List.getD (List.getD (EC.encL ec_38 x) (Int.toNat i) []) (0 : Nat) C.ne)) (intOf (List.getD (List.getD (EC.encL ec_38 x) (Int.toNat i) []) (1 : Nat) C.ne)) b1 b1_1) fun r0 =>
        (brE (decide (r0 < (0 : Int)))
          (gdE (decide ((0 : Int) ≤ i)) <|
            (gdE ((decide ((Int.toNat i) < (List.length (EC.encL ec_38 x)))) && (isE [(K1.int Go.IntKind.i64), (K1.int Go.IntKind.i64)] (0 : Nat) (List.getD (EC.encL ec_38 x) (Int.toNat i) []))) <|
              (gdE (EC.isL ec_38 (EC.encL ec_38 x)) <|
                (minPer_l5 (EC.decL ec_38 (EC.encL ec_38 x)) (Go.IntKind.wrap Go.IntKind.i64 (i + (1 : Int))) b0 b0_1 (intOf (List.getD (List.getD (EC.encL ec_38 x) (Int.toNat i) []) (0 : Nat) C.ne)) (intOf (List.getD (List.getD (EC.encL ec_38 x) (Int.toNat i) []) (1 : Nat) C.ne))))))
          (gdE (EC.isL ec_38 (EC.encL ec_38 x)) <|
            (minPer_l5 (EC.decL ec_38 (EC.encL ec_38 x)) (Go.IntKind.wrap Go.IntKind.i64 (i + (1 : Int))) b0 b0_1 b1 b1_1))))))
  (gdE (EC.isL ec_38 (EC.encL ec_38 x)) <|
    (some (((EC.decL ec_38 (EC.encL ec_38 x)), ((), ((), ((), (i, false))))), ((b0, b0_1), (b1, b1_1))))))
theorem minPer_l5_eq {x : (List S38)} {i : Int} {b0 : Int} {b0_1 : Int} {b1 : Int} {b1_1 : Int} {r : (((List S38) × Unit × Unit × Unit × Int × Bool) × ((Int × Int) × (Int × Int)))} (h : minPer_l5_t x i b0 b0_1 b1 b1_1 = some r) : minPer_l5 x i b0 b0_1 b1 b1_1 = some r :=
  lS_tree (es := tab_revise1) [] (by kernel_rfl) trivial trivial (by kernel_rfl) h
noncomputable def minPer_l5_e : LEnt Try.prog lv X0 58 33 := lentS Try.prog lv X0 5 (getLoop (cdF Try.f58) 5) minPer_l5_s minPer_l5_o (fun x => minPer_l5 x.1.1 x.1.2.2.2.2 x.2.1.1 x.2.1.2 x.2.2.1 x.2.2.2) (fun _ _ h => lS_from h)
def minPer_cr : Cod (V × List B) (Int × Int) := (cFstU (cPair (vAgg (lCons (vC (cInt .i64)) (lOne (vC (cInt .i64))))) lNil))
noncomputable def minPer_s (x : (List S38)) : Option (Int × Int) := fS Try.prog lv X0 58 minPer_ca minPer_cr (x, ())
noncomputable def minPer_t (x : (List S38)) : Option (Int × Int) :=
  (brE (decide ((((List.length (EC.encL ec_38 x)) : Nat) : Int) < (1 : Int)))
  none
  (gdE ((decide ((Int.toNat (0 : Int)) < (List.length (EC.encL ec_38 x)))) && (isE [(K1.int Go.IntKind.i64), (K1.int Go.IntKind.i64)] (0 : Nat) (List.getD (EC.encL ec_38 x) (Int.toNat (0 : Int)) []))) <|
    (gdE (EC.isL ec_38 (EC.encL ec_38 x)) <|
      (Option.bind (minPer_l5 (EC.decL ec_38 (EC.encL ec_38 x)) (1 : Int) (0 : Int) (0 : Int) (intOf (List.getD (List.getD (EC.encL ec_38 x) (Int.toNat (0 : Int)) []) (0 : Nat) C.ne)) (intOf (List.getD (List.getD (EC.encL ec_38 x) (Int.toNat (0 : Int)) []) (1 : Nat) C.ne))) fun r0 =>
        (some ((((r0).2).2).1, (((r0).2).2).2))))))
theorem minPer_eq {x : (List S38)} {r : (Int × Int)} (h : minPer_t x = some r) : minPer_s x = some r :=
  fS_tree (es := tab_revise1) [minPer_l5_e] Try.func58 rfl (by kernel_rfl) rfl (by kernel_rfl) (by kernel_rfl) ⟨⟨_, rfl, rfl⟩, trivial⟩ trivial (by kernel_rfl) h
noncomputable def minPer_e : Ent Try.prog lv X0 := entS Try.prog lv X0 58 [59] minPer_ca minPer_cr (fun x => minPer_s x.1) (fun _ _ h => fS_call h)
noncomputable def tab_minPer : List (Ent Try.prog lv X0) := minPer_e :: tab_revise1
def meeting_Revise_ca : Cod (List V) (ByteArray × (List S48) × Int × Int × Int × Bool) := (lOne (vAgg (lCons (vC cStr) (lCons (vC (cSl ec_48)) (lCons (vC (cInt .i64)) (lCons (vC (cInt .i64)) (lCons (vC (cInt .i64)) (lOne (vC cBool)))))))))
def meeting_Revise_l6_s : SC ((Unit × Unit × Unit × Nat × (List S48) × Int × Int) × ((ByteArray × (List S48) × Int × Int × Int × Bool) × (ByteArray × Nat × Int × Int × Int × Bool) × (Int × Int) × (List S38) × (List S48))) := sLS [1, 2, 4, 6, 17, 18, 19] (lCons (vPtr 0 0) (lCons (vPtr 1 0) (lCons (vPtr 2 0) (lCons (vRow 3) (lCons (vC (cSl ec_48)) (lCons (vC (cInt .i64)) (lOne (vC (cInt .i64))))))))) (lCons (oSome (bBox (lCons (vC cStr) (lCons (vC (cSl ec_48)) (lCons (vC (cInt .i64)) (lCons (vC (cInt .i64)) (lCons (vC (cInt .i64)) (lOne (vC cBool))))))))) (lCons (oSome (bBox (lCons (vC cStr) (lCons (vRow 4) (lCons (vC (cInt .i64)) (lCons (vC (cInt .i64)) (lCons (vC (cInt .i64)) (lOne (vC cBool))))))))) (lCons (oSome (bBox (lCons (vC (cInt .i64)) (lOne (vC (cInt .i64)))))) (lCons (oSome (bRow ec_38)) (lOne (oSome (bRow ec_48))))))) [false, false, false, false, false] (by decide) (fun _ => rfl)
def meeting_Revise_l6_o2 : SC ((Unit × Unit × Unit × Nat × (List S48) × Int × Int × Bool) × ((ByteArray × (List S48) × Int × Int × Int × Bool) × (ByteArray × Nat × Int × Int × Int × Bool) × (Int × Int) × (List S38) × (List S48))) := sLS [1, 2, 4, 6, 17, 18, 19, 20] (lCons (vPtr 0 0) (lCons (vPtr 1 0) (lCons (vPtr 2 0) (lCons (vRow 3) (lCons (vC (cSl ec_48)) (lCons (vC (cInt .i64)) (lCons (vC (cInt .i64)) (lOne (vC cBool))))))))) (lCons (oSome (bBox (lCons (vC cStr) (lCons (vC (cSl ec_48)) (lCons (vC (cInt .i64)) (lCons (vC (cInt .i64)) (lCons (vC (cInt .i64)) (lOne (vC cBool))))))))) (lCons (oSome (bBox (lCons (vC cStr) (lCons (vRow 4) (lCons (vC (cInt .i64)) (lCons (vC (cInt .i64)) (lCons (vC (cInt .i64)) (lOne (vC cBool))))))))) (lCons (oSome (bBox (lCons (vC (cInt .i64)) (lOne (vC (cInt .i64)))))) (lCons (oSome (bRow ec_38)) (lOne (oSome (bRow ec_48))))))) [false, false, false, false, false] (by decide) (fun _ => rfl)
def meeting_Revise_l6_o : OC ((Unit × Unit × Unit × Nat × (List S48) × Int × Int × Bool) × ((ByteArray × (List S48) × Int × Int × Int × Bool) × (ByteArray × Nat × Int × Int × Int × Bool) × (Int × Int) × (List S38) × (List S48))) := oAt 2 meeting_Revise_l6_o2
noncomputable def meeting_Revise_l6 (offers : Nat) (t17 : (List S48)) (t18 : Int) (t19 : Int) (b0 : ByteArray) (b0_1 : (List S48)) (b0_2 : Int) (b0_3 : Int) (b0_4 : Int) (b0_5 : Bool) (b1 : ByteArray) (b1_1 : Nat) (b1_2 : Int) (b1_3 : Int) (b1_4 : Int) (b1_5 : Bool) (b2 : Int) (b2_1 : Int) (b3 : (List S38)) (b4 : (List S48)) : Option ((Unit × Unit × Unit × Nat × (List S48) × Int × Int × Bool) × ((ByteArray × (List S48) × Int × Int × Int × Bool) × (ByteArray × Nat × Int × Int × Int × Bool) × (Int × Int) × (List S38) × (List S48))) := lS Try.prog lv X0 32 47 (getLoop (cdF Try.f32) 6) meeting_Revise_l6_s meeting_Revise_l6_o (((), (), (), offers, t17, t18, t19), ((b0, b0_1, b0_2, b0_3, b0_4, b0_5), (b1, b1_1, b1_2, b1_3, b1_4, b1_5), (b2, b2_1), b3, b4))
noncomputable def meeting_Revise_l6_t (offers : Nat) (t17 : (List S48)) (t18 : Int) (t19 : Int) (b0 : ByteArray) (b0_1 : (List S48)) (b0_2 : Int) (b0_3 : Int) (b0_4 : Int) (b0_5 : Bool) (b1 : ByteArray) (b1_1 : Nat) (b1_2 : Int) (b1_3 : Int) (b1_4 : Int) (b1_5 : Bool) (b2 : Int) (b2_1 : Int) (b3 : (List S38)) (b4 : (List S48)) : Option ((Unit × Unit × Unit × Nat × (List S48) × Int × Int × Bool) × ((ByteArray × (List S48) × Int × Int × Int × Bool) × (ByteArray × Nat × Int × Int × Int × Bool) × (Int × Int) × (List S38) × (List S48))) :=
  (brE (decide (t19 < t18))
  (gdE (decide ((0 : Int) ≤ t19)) <|
    (gdE ((decide ((Int.toNat t19) < (List.length (EC.encL ec_48 t17)))) && (isE [K1.str, (K1.int Go.IntKind.i64), (K1.int Go.IntKind.i64), (K1.int Go.IntKind.i64)] (0 : Nat) (List.getD (EC.encL ec_48 t17) (Int.toNat t19) []))) <|
      (brE ((intOf (List.getD (List.getD (EC.encL ec_48 t17) (Int.toNat t19) []) (1 : Nat) C.ne)) == (3 : Int))
        (gdE ((((List.all [[(C.int Go.IntKind.i64 (intOf (List.getD (List.getD (EC.encL ec_48 t17) (Int.toNat t19) []) (2 : Nat) C.ne))), (C.int Go.IntKind.i64 (intOf (List.getD (List.getD (EC.encL ec_48 t17) (Int.toNat t19) []) (3 : Nat) C.ne)))]] (fun (el : (List C)) => ((List.length el) == (2 : Nat)))) && (List.all (EC.encL ec_38 b3) (fun (el : (List C)) => ((List.length el) == (2 : Nat))))) && (decide (((offers + (List.length [[(C.int Go.IntKind.i64 (intOf (List.getD (List.getD (EC.encL ec_48 t17) (Int.toNat t19) []) (2 : Nat) C.ne))), (C.int Go.IntKind.i64 (intOf (List.getD (List.getD (EC.encL ec_48 t17) (Int.toNat t19) []) (3 : Nat) C.ne)))]])) * (16 : Nat)) ≤ (140737488355328 : Nat)))) && (decide ((offers + (List.length [[(C.int Go.IntKind.i64 (intOf (List.getD (List.getD (EC.encL ec_48 t17) (Int.toNat t19) []) (2 : Nat) C.ne))), (C.int Go.IntKind.i64 (intOf (List.getD (List.getD (EC.encL ec_48 t17) (Int.toNat t19) []) (3 : Nat) C.ne)))]])) ≤ (9223372036854775807 : Nat)))) <|
          (gdE (EC.isL ec_48 (EC.encL ec_48 t17)) <|
            (gdE (EC.isL ec_48 (EC.encL ec_48 b0_1)) <|
              (gdE (EC.isL ec_38 ((EC.encL ec_38 b3) ++ [[(C.int Go.IntKind.i64 (intOf (List.getD (List.getD (EC.encL ec_48 t17) (Int.toNat t19) []) (2 : Nat) C.ne))), (C.int Go.IntKind.i64 (intOf (List.getD (List.getD (EC.encL ec_48 t17) (Int.toNat t19) []) (3 : Nat) C.ne)))]])) <|
                (gdE (EC.isL ec_48 (EC.encL ec_48 b4)) <|
                  (meeting_Revise_l6 (offers + (List.length [[(C.int Go.IntKind.i64 (intOf (List.getD (List.getD (EC.encL ec_48 t17) (Int.toNat t19) []) (2 : Nat) C.ne))), (C.int Go.IntKind.i64 (intOf (List.getD (List.getD (EC.encL ec_48 t17) (Int.toNat t19) []) (3 : Nat) C.ne)))]])) (EC.decL ec_48 (EC.encL ec_48 t17)) t18 (Go.IntKind.wrap Go.IntKind.i64 (t19 + (1 : Int))) b0 (EC.decL ec_48 (EC.encL ec_48 b0_1)) b0_2 b0_3 b0_4 b0_5 b1 b1_1 b1_2 b1_3 b1_4 b1_5 b2 b2_1 (EC.decL ec_38 ((EC.encL ec_38 b3) ++ [[(C.int Go.IntKind.i64 (intOf (List.getD (List.getD (EC.encL ec_48 t17) (Int.toNat t19) []) (2 : Nat) C.ne))), (C.int Go.IntKind.i64 (intOf (List.getD (List.getD (EC.encL ec_48 t17) (Int.toNat t19) []) (3 : Nat) C.ne)))]])) (EC.decL ec_48 (EC.encL ec_48 b4))))))))
        (gdE (EC.isL ec_48 (EC.encL ec_48 t17)) <|
          (gdE (EC.isL ec_48 (EC.encL ec_48 b0_1)) <|
            (gdE (EC.isL ec_38 (EC.encL ec_38 b3)) <|
              (gdE (EC.isL ec_48 (EC.encL ec_48 b4)) <|
                (meeting_Revise_l6 offers (EC.decL ec_48 (EC.encL ec_48 t17)) t18 (Go.IntKind.wrap Go.IntKind.i64 (t19 + (1 : Int))) b0 (EC.decL ec_48 (EC.encL ec_48 b0_1)) b0_2 b0_3 b0_4 b0_5 b1 b1_1 b1_2 b1_3 b1_4 b1_5 b2 b2_1 (EC.decL ec_38 (EC.encL ec_38 b3)) (EC.decL ec_48 (EC.encL ec_48 b4))))))))))
  (gdE (EC.isL ec_48 (EC.encL ec_48 t17)) <|
    (gdE (EC.isL ec_48 (EC.encL ec_48 b0_1)) <|
      (gdE (EC.isL ec_38 (EC.encL ec_38 b3)) <|
        (gdE (EC.isL ec_48 (EC.encL ec_48 b4)) <|
          (some (((), ((), ((), (offers, ((EC.decL ec_48 (EC.encL ec_48 t17)), (t18, (t19, false))))))), ((b0, ((EC.decL ec_48 (EC.encL ec_48 b0_1)), (b0_2, (b0_3, (b0_4, b0_5))))), ((b1, (b1_1, (b1_2, (b1_3, (b1_4, b1_5))))), ((b2, b2_1), ((EC.decL ec_38 (EC.encL ec_38 b3)), (EC.decL ec_48 (EC.encL ec_48 b4)))))))))))))
theorem meeting_Revise_l6_eq {offers : Nat} {t17 : (List S48)} {t18 : Int} {t19 : Int} {b0 : ByteArray} {b0_1 : (List S48)} {b0_2 : Int} {b0_3 : Int} {b0_4 : Int} {b0_5 : Bool} {b1 : ByteArray} {b1_1 : Nat} {b1_2 : Int} {b1_3 : Int} {b1_4 : Int} {b1_5 : Bool} {b2 : Int} {b2_1 : Int} {b3 : (List S38)} {b4 : (List S48)} {r : ((Unit × Unit × Unit × Nat × (List S48) × Int × Int × Bool) × ((ByteArray × (List S48) × Int × Int × Int × Bool) × (ByteArray × Nat × Int × Int × Int × Bool) × (Int × Int) × (List S38) × (List S48)))} (h : meeting_Revise_l6_t offers t17 t18 t19 b0 b0_1 b0_2 b0_3 b0_4 b0_5 b1 b1_1 b1_2 b1_3 b1_4 b1_5 b2 b2_1 b3 b4 = some r) : meeting_Revise_l6 offers t17 t18 t19 b0 b0_1 b0_2 b0_3 b0_4 b0_5 b1 b1_1 b1_2 b1_3 b1_4 b1_5 b2 b2_1 b3 b4 = some r :=
  lS_tree (es := tab_minPer) [] (by kernel_rfl) trivial trivial (by kernel_rfl) h
noncomputable def meeting_Revise_l6_e : LEnt Try.prog lv X0 32 47 := lentS Try.prog lv X0 6 (getLoop (cdF Try.f32) 6) meeting_Revise_l6_s meeting_Revise_l6_o (fun x => meeting_Revise_l6 x.1.2.2.2.1 x.1.2.2.2.2.1 x.1.2.2.2.2.2.1 x.1.2.2.2.2.2.2 x.2.1.1 x.2.1.2.1 x.2.1.2.2.1 x.2.1.2.2.2.1 x.2.1.2.2.2.2.1 x.2.1.2.2.2.2.2 x.2.2.1.1 x.2.2.1.2.1 x.2.2.1.2.2.1 x.2.2.1.2.2.2.1 x.2.2.1.2.2.2.2.1 x.2.2.1.2.2.2.2.2 x.2.2.2.1.1 x.2.2.2.1.2 x.2.2.2.2.1 x.2.2.2.2.2) (fun _ _ h => lS_from h)
def meeting_Revise_cr : Cod (V × List B) (((ByteArray × Nat × Int × Int × Int × Bool) × Bool × (Int × Int)) × (List S48)) := (cPair (vTup (lCons (vAgg (lCons (vC cStr) (lCons (vRow 0) (lCons (vC (cInt .i64)) (lCons (vC (cInt .i64)) (lCons (vC (cInt .i64)) (lOne (vC cBool)))))))) (lCons (vC cBool) (lOne (vAgg (lCons (vC (cInt .i64)) (lOne (vC (cInt .i64))))))))) (lOne (bRow ec_48)))
noncomputable def meeting_Revise_s (m_Organizer : ByteArray) (m_Guests : (List S48)) (m_Round : Int) (m_Proposed_From : Int) (m_Proposed_To : Int) (m_Cancelled : Bool) : Option (((ByteArray × Nat × Int × Int × Int × Bool) × Bool × (Int × Int)) × (List S48)) := fS Try.prog lv X0 32 meeting_Revise_ca meeting_Revise_cr (m_Organizer, m_Guests, m_Round, m_Proposed_From, m_Proposed_To, m_Cancelled)
noncomputable def meeting_Revise_t (m_Organizer : ByteArray) (m_Guests : (List S48)) (m_Round : Int) (m_Proposed_From : Int) (m_Proposed_To : Int) (m_Cancelled : Bool) : Option (((ByteArray × Nat × Int × Int × Int × Bool) × Bool × (Int × Int)) × (List S48)) :=
  (gdE (EC.isL ec_48 (EC.encL ec_48 m_Guests)) <|
  (Option.bind (meeting_running_s m_Organizer (EC.decL ec_48 (EC.encL ec_48 m_Guests)) m_Round m_Proposed_From m_Proposed_To m_Cancelled) fun r0 =>
    (Option.bind (basic_Failed_s (r0).1 (r0).2) fun r1 =>
      (brE r1
        (some ((((ByteArray.mk (List.toArray [])), ((0 : Nat), ((0 : Int), ((0 : Int), ((0 : Int), false))))), (false, ((r0).1, (r0).2))), (EC.decL ec_48 [])))
        (gdE (EC.isL ec_48 (EC.encL ec_48 m_Guests)) <|
          (gdE (EC.isL ec_48 (EC.encL ec_48 m_Guests)) <|
            (Option.bind (meeting_Revise_l6 (0 : Nat) (EC.decL ec_48 (EC.encL ec_48 m_Guests)) (((List.length (EC.encL ec_48 m_Guests)) : Nat) : Int) (0 : Int) m_Organizer (EC.decL ec_48 (EC.encL ec_48 m_Guests)) m_Round m_Proposed_From m_Proposed_To m_Cancelled (ByteArray.mk (List.toArray [])) (0 : Nat) (0 : Int) (0 : Int) (0 : Int) false (0 : Int) (0 : Int) (EC.decL ec_38 []) (EC.decL ec_48 [])) fun r2 =>
              (brE ((((((((r2).1).2).2).2).1 : Nat) : Int) == (0 : Int))
                (gdE (EC.isL ec_48 (EC.encL ec_48 ((((r2).2).1).2).1)) <|
                  (Option.bind (cloneG_s (EC.decL ec_48 (EC.encL ec_48 ((((r2).2).1).2).1))) fun r3 =>
                    (Option.bind basic_None_s fun r4 =>
                      (gdE (EC.isL ec_48 (EC.encL ec_48 (r3).2)) <|
                        (some ((((((r2).2).1).1, ((r3).1, ((((((r2).2).1).2).2).1, (((((((r2).2).1).2).2).2).1, ((((((((r2).2).1).2).2).2).2).1, (((((((r2).2).1).2).2).2).2).2))))), (false, ((r4).1, (r4).2))), (EC.decL ec_48 (EC.encL ec_48 (r3).2))))))))
                (gdE (EC.isL ec_38 (EC.encL ec_38 (((((r2).2).2).2).2).1)) <|
                  (Option.bind (minPer_s (EC.decL ec_38 (EC.encL ec_38 (((((r2).2).2).2).2).1))) fun r3 =>
                    (gdE (EC.isL ec_48 (EC.encL ec_48 ((((r2).2).1).2).1)) <|
                      (Option.bind (meeting_propose_s (((r2).2).1).1 (EC.decL ec_48 (EC.encL ec_48 ((((r2).2).1).2).1)) (((((r2).2).1).2).2).1 ((((((r2).2).1).2).2).2).1 (((((((r2).2).1).2).2).2).2).1 (((((((r2).2).1).2).2).2).2).2 (r3).1 (r3).2) fun r4 =>
                        (Option.bind basic_None_s fun r5 =>
                          (gdE (EC.isL ec_48 (EC.encL ec_48 (r4).2)) <|
                            (some (((((r4).1).1, ((((r4).1).2).1, (((((r4).1).2).2).1, ((((((r4).1).2).2).2).1, (((((((r4).1).2).2).2).2).1, ((((((r4).1).2).2).2).2).2))))), (true, ((r5).1, (r5).2))), (EC.decL ec_48 (EC.encL ec_48 (r4).2))))))))))))))))))
theorem meeting_Revise_eq {m_Organizer : ByteArray} {m_Guests : (List S48)} {m_Round : Int} {m_Proposed_From : Int} {m_Proposed_To : Int} {m_Cancelled : Bool} {r : (((ByteArray × Nat × Int × Int × Int × Bool) × Bool × (Int × Int)) × (List S48))} (h : meeting_Revise_t m_Organizer m_Guests m_Round m_Proposed_From m_Proposed_To m_Cancelled = some r) : meeting_Revise_s m_Organizer m_Guests m_Round m_Proposed_From m_Proposed_To m_Cancelled = some r :=
  fS_tree (es := tab_minPer) [meeting_Revise_l6_e] Try.func32 rfl (by kernel_rfl) rfl (by kernel_rfl) (by kernel_rfl) ⟨⟨_, rfl, rfl⟩, trivial⟩ trivial (by kernel_rfl) h
noncomputable def meeting_Revise_e : Ent Try.prog lv X0 := entS Try.prog lv X0 32 [] meeting_Revise_ca meeting_Revise_cr (fun x => meeting_Revise_s x.1 x.2.1 x.2.2.1 x.2.2.2.1 x.2.2.2.2.1 x.2.2.2.2.2) (fun _ _ h => fS_call h)
noncomputable def tab_meeting_Revise : List (Ent Try.prog lv X0) := meeting_Revise_e :: tab_minPer
def posthouselaw6_MeetingProposeMatchesSpec_ca : Cod (List V) ((ByteArray × (List S48) × Int × Int × Int × Bool) × (Int × Int)) := (lCons (vAgg (lCons (vC cStr) (lCons (vC (cSl ec_48)) (lCons (vC (cInt .i64)) (lCons (vC (cInt .i64)) (lCons (vC (cInt .i64)) (lOne (vC cBool)))))))) (lOne (vAgg (lCons (vC (cInt .i64)) (lOne (vC (cInt .i64)))))))
def posthouselaw6_MeetingProposeMatchesSpec_g12_s : SC ((Unit × Unit × Unit × Unit × Bool) × ((ByteArray × (List S48) × Int × Int × Int × Bool) × (ByteArray × Nat × Int × Int × Int × Bool) × (Int × Int) × (Int × Int) × (List S48))) := sLS [2, 7, 8, 9, 82] (lCons (vPtr 0 0) (lCons (vPtr 1 0) (lCons (vPtr 2 0) (lCons (vPtr 3 0) (lOne (vC cBool)))))) (lCons (oSome (bBox (lCons (vC cStr) (lCons (vC (cSl ec_48)) (lCons (vC (cInt .i64)) (lCons (vC (cInt .i64)) (lCons (vC (cInt .i64)) (lOne (vC cBool))))))))) (lCons (oSome (bBox (lCons (vC cStr) (lCons (vRow 4) (lCons (vC (cInt .i64)) (lCons (vC (cInt .i64)) (lCons (vC (cInt .i64)) (lOne (vC cBool))))))))) (lCons (oSome (bBox (lCons (vC (cInt .i64)) (lOne (vC (cInt .i64)))))) (lCons (oSome (bBox (lCons (vC (cInt .i64)) (lOne (vC (cInt .i64)))))) (lOne (oSome (bRow ec_48))))))) [false, false, false, false, false] (by decide) (fun _ => rfl)
def posthouselaw6_MeetingProposeMatchesSpec_g12_o1 : SC (Bool × Unit) := sLS [4] (lOne (vC cBool)) lNil [] (by decide) (fun _ => rfl)
def posthouselaw6_MeetingProposeMatchesSpec_g12_o0 : SC ((Unit × Unit × Unit × Unit × Bool) × ((ByteArray × (List S48) × Int × Int × Int × Bool) × (ByteArray × Nat × Int × Int × Int × Bool) × (Int × Int) × (Int × Int) × (List S48))) := sLS [2, 7, 8, 9, 82] (lCons (vPtr 0 0) (lCons (vPtr 1 0) (lCons (vPtr 2 0) (lCons (vPtr 3 0) (lOne (vC cBool)))))) (lCons (oSome (bBox (lCons (vC cStr) (lCons (vC (cSl ec_48)) (lCons (vC (cInt .i64)) (lCons (vC (cInt .i64)) (lCons (vC (cInt .i64)) (lOne (vC cBool))))))))) (lCons (oSome (bBox (lCons (vC cStr) (lCons (vRow 4) (lCons (vC (cInt .i64)) (lCons (vC (cInt .i64)) (lCons (vC (cInt .i64)) (lOne (vC cBool))))))))) (lCons (oSome (bBox (lCons (vC (cInt .i64)) (lOne (vC (cInt .i64)))))) (lCons (oSome (bBox (lCons (vC (cInt .i64)) (lOne (vC (cInt .i64)))))) (lOne (oSome (bRow ec_48))))))) [false, false, false, false, false] (by decide) (fun _ => rfl)
def posthouselaw6_MeetingProposeMatchesSpec_g12_o : OC (((Unit × Unit × Unit × Unit × Bool) × ((ByteArray × (List S48) × Int × Int × Int × Bool) × (ByteArray × Nat × Int × Int × Int × Bool) × (Int × Int) × (Int × Int) × (List S48))) ⊕ (Bool × Unit)) := oOr 0 posthouselaw6_MeetingProposeMatchesSpec_g12_o0 (oAt 1 posthouselaw6_MeetingProposeMatchesSpec_g12_o1) (fun x => (by decide : (1 : Nat) ≠ 0))
noncomputable def posthouselaw6_MeetingProposeMatchesSpec_g12 (t82 : Bool) (b0 : ByteArray) (b0_1 : (List S48)) (b0_2 : Int) (b0_3 : Int) (b0_4 : Int) (b0_5 : Bool) (b1 : ByteArray) (b1_1 : Nat) (b1_2 : Int) (b1_3 : Int) (b1_4 : Int) (b1_5 : Bool) (b2 : Int) (b2_1 : Int) (b3 : Int) (b3_1 : Int) (b4 : (List S48)) : Option (((Unit × Unit × Unit × Unit × Bool) × ((ByteArray × (List S48) × Int × Int × Int × Bool) × (ByteArray × Nat × Int × Int × Int × Bool) × (Int × Int) × (Int × Int) × (List S48))) ⊕ (Bool × Unit)) := gS Try.prog lv X0 8 117 (getSeg (cdF Try.f8) 12) posthouselaw6_MeetingProposeMatchesSpec_g12_s posthouselaw6_MeetingProposeMatchesSpec_g12_o (((), (), (), (), t82), ((b0, b0_1, b0_2, b0_3, b0_4, b0_5), (b1, b1_1, b1_2, b1_3, b1_4, b1_5), (b2, b2_1), (b3, b3_1), b4))
noncomputable def posthouselaw6_MeetingProposeMatchesSpec_g12_t (t82 : Bool) (b0 : ByteArray) (b0_1 : (List S48)) (b0_2 : Int) (b0_3 : Int) (b0_4 : Int) (b0_5 : Bool) (b1 : ByteArray) (b1_1 : Nat) (b1_2 : Int) (b1_3 : Int) (b1_4 : Int) (b1_5 : Bool) (b2 : Int) (b2_1 : Int) (b3 : Int) (b3_1 : Int) (b4 : (List S48)) : Option (((Unit × Unit × Unit × Unit × Bool) × ((ByteArray × (List S48) × Int × Int × Int × Bool) × (ByteArray × Nat × Int × Int × Int × Bool) × (Int × Int) × (Int × Int) × (List S48))) ⊕ (Bool × Unit)) :=
  (brE t82
  (some (.inr (false, ())))
  (gdE (EC.isL ec_48 (EC.encL ec_48 b0_1)) <|
    (gdE (EC.isL ec_48 (EC.encL ec_48 b4)) <|
      (some (.inl (((), ((), ((), ((), false)))), ((b0, ((EC.decL ec_48 (EC.encL ec_48 b0_1)), (b0_2, (b0_3, (b0_4, b0_5))))), ((b1, (b1_1, (b1_2, (b1_3, (b1_4, b1_5))))), ((b2, b2_1), ((b3, b3_1), (EC.decL ec_48 (EC.encL ec_48 b4))))))))))))
theorem posthouselaw6_MeetingProposeMatchesSpec_g12_eq {t82 : Bool} {b0 : ByteArray} {b0_1 : (List S48)} {b0_2 : Int} {b0_3 : Int} {b0_4 : Int} {b0_5 : Bool} {b1 : ByteArray} {b1_1 : Nat} {b1_2 : Int} {b1_3 : Int} {b1_4 : Int} {b1_5 : Bool} {b2 : Int} {b2_1 : Int} {b3 : Int} {b3_1 : Int} {b4 : (List S48)} {r : (((Unit × Unit × Unit × Unit × Bool) × ((ByteArray × (List S48) × Int × Int × Int × Bool) × (ByteArray × Nat × Int × Int × Int × Bool) × (Int × Int) × (Int × Int) × (List S48))) ⊕ (Bool × Unit))} (h : posthouselaw6_MeetingProposeMatchesSpec_g12_t t82 b0 b0_1 b0_2 b0_3 b0_4 b0_5 b1 b1_1 b1_2 b1_3 b1_4 b1_5 b2 b2_1 b3 b3_1 b4 = some r) : posthouselaw6_MeetingProposeMatchesSpec_g12 t82 b0 b0_1 b0_2 b0_3 b0_4 b0_5 b1 b1_1 b1_2 b1_3 b1_4 b1_5 b2 b2_1 b3 b3_1 b4 = some r :=
  gS_tree (es := tab_meeting_Revise) [] (by kernel_rfl) trivial trivial (by kernel_rfl) h
noncomputable def posthouselaw6_MeetingProposeMatchesSpec_g12_e : LEnt Try.prog lv X0 8 117 := gentS Try.prog lv X0 12 (getSeg (cdF Try.f8) 12) (by kernel_rfl) posthouselaw6_MeetingProposeMatchesSpec_g12_s posthouselaw6_MeetingProposeMatchesSpec_g12_o (fun x => posthouselaw6_MeetingProposeMatchesSpec_g12 x.1.2.2.2.2 x.2.1.1 x.2.1.2.1 x.2.1.2.2.1 x.2.1.2.2.2.1 x.2.1.2.2.2.2.1 x.2.1.2.2.2.2.2 x.2.2.1.1 x.2.2.1.2.1 x.2.2.1.2.2.1 x.2.2.1.2.2.2.1 x.2.2.1.2.2.2.2.1 x.2.2.1.2.2.2.2.2 x.2.2.2.1.1 x.2.2.2.1.2 x.2.2.2.2.1.1 x.2.2.2.2.1.2 x.2.2.2.2.2) (fun _ _ h => gS_from h)
def posthouselaw6_MeetingProposeMatchesSpec_g15_s : SC ((Unit × Unit × Unit × Unit) × ((ByteArray × (List S48) × Int × Int × Int × Bool) × (ByteArray × Nat × Int × Int × Int × Bool) × (Int × Int) × (Int × Int) × (List S48))) := sLS [2, 7, 8, 9] (lCons (vPtr 0 0) (lCons (vPtr 1 0) (lCons (vPtr 2 0) (lOne (vPtr 3 0))))) (lCons (oSome (bBox (lCons (vC cStr) (lCons (vC (cSl ec_48)) (lCons (vC (cInt .i64)) (lCons (vC (cInt .i64)) (lCons (vC (cInt .i64)) (lOne (vC cBool))))))))) (lCons (oSome (bBox (lCons (vC cStr) (lCons (vRow 4) (lCons (vC (cInt .i64)) (lCons (vC (cInt .i64)) (lCons (vC (cInt .i64)) (lOne (vC cBool))))))))) (lCons (oSome (bBox (lCons (vC (cInt .i64)) (lOne (vC (cInt .i64)))))) (lCons (oSome (bBox (lCons (vC (cInt .i64)) (lOne (vC (cInt .i64)))))) (lOne (oSome (bRow ec_48))))))) [false, false, false, false, false] (by decide) (fun _ => rfl)
def posthouselaw6_MeetingProposeMatchesSpec_g15_o1 : SC (Bool × Unit) := sLS [4] (lOne (vC cBool)) lNil [] (by decide) (fun _ => rfl)
def posthouselaw6_MeetingProposeMatchesSpec_g15_o : OC (Bool × Unit) := oAt 1 posthouselaw6_MeetingProposeMatchesSpec_g15_o1
noncomputable def posthouselaw6_MeetingProposeMatchesSpec_g15 (b0 : ByteArray) (b0_1 : (List S48)) (b0_2 : Int) (b0_3 : Int) (b0_4 : Int) (b0_5 : Bool) (b1 : ByteArray) (b1_1 : Nat) (b1_2 : Int) (b1_3 : Int) (b1_4 : Int) (b1_5 : Bool) (b2 : Int) (b2_1 : Int) (b3 : Int) (b3_1 : Int) (b4 : (List S48)) : Option (Bool × Unit) := gS Try.prog lv X0 8 117 (getSeg (cdF Try.f8) 15) posthouselaw6_MeetingProposeMatchesSpec_g15_s posthouselaw6_MeetingProposeMatchesSpec_g15_o (((), (), (), ()), ((b0, b0_1, b0_2, b0_3, b0_4, b0_5), (b1, b1_1, b1_2, b1_3, b1_4, b1_5), (b2, b2_1), (b3, b3_1), b4))
noncomputable def posthouselaw6_MeetingProposeMatchesSpec_g15_t (b0 : ByteArray) (b0_1 : (List S48)) (b0_2 : Int) (b0_3 : Int) (b0_4 : Int) (b0_5 : Bool) (b1 : ByteArray) (b1_1 : Nat) (b1_2 : Int) (b1_3 : Int) (b1_4 : Int) (b1_5 : Bool) (b2 : Int) (b2_1 : Int) (b3 : Int) (b3_1 : Int) (b4 : (List S48)) : Option (Bool × Unit) :=
  (brE (b3 != (0 : Int))
  (brE (((b2 == b3) && ((b2_1 == b3_1) && true)) == true)
    (gdE (EC.isL ec_48 (EC.encL ec_48 b4)) <|
      (Option.bind (posthouseref6_SameMeeting_s b1 (EC.decL ec_48 (EC.encL ec_48 b4)) b1_2 b1_3 b1_4 b1_5 (ByteArray.mk (List.toArray [])) (EC.decL ec_48 []) (0 : Int) (0 : Int) (0 : Int) false) fun r0 =>
        (brE (r0 == true)
          (Option.bind posthouselaw6_agreed_s fun r1 =>
            (some (r1, ())))
          (some (false, ())))))
    (some (false, ())))
  (brE ((b2 == (0 : Int)) == true)
    (gdE (EC.isL ec_48 (EC.encL ec_48 b4)) <|
      (gdE (EC.isL ec_48 (EC.encL ec_48 b0_1)) <|
        (Option.bind (posthouseref6_SameMeeting_s b1 (EC.decL ec_48 (EC.encL ec_48 b4)) b1_2 b1_3 b1_4 b1_5 b0 (EC.decL ec_48 (EC.encL ec_48 b0_1)) b0_2 b0_3 b0_4 true) fun r0 =>
          (brE (r0 == true)
            (Option.bind posthouselaw6_agreed_s fun r1 =>
              (some (r1, ())))
            (some (false, ()))))))
    (some (false, ()))))
theorem posthouselaw6_MeetingProposeMatchesSpec_g15_eq {b0 : ByteArray} {b0_1 : (List S48)} {b0_2 : Int} {b0_3 : Int} {b0_4 : Int} {b0_5 : Bool} {b1 : ByteArray} {b1_1 : Nat} {b1_2 : Int} {b1_3 : Int} {b1_4 : Int} {b1_5 : Bool} {b2 : Int} {b2_1 : Int} {b3 : Int} {b3_1 : Int} {b4 : (List S48)} {r : (Bool × Unit)} (h : posthouselaw6_MeetingProposeMatchesSpec_g15_t b0 b0_1 b0_2 b0_3 b0_4 b0_5 b1 b1_1 b1_2 b1_3 b1_4 b1_5 b2 b2_1 b3 b3_1 b4 = some r) : posthouselaw6_MeetingProposeMatchesSpec_g15 b0 b0_1 b0_2 b0_3 b0_4 b0_5 b1 b1_1 b1_2 b1_3 b1_4 b1_5 b2 b2_1 b3 b3_1 b4 = some r :=
  gS_tree (es := tab_meeting_Revise) [] (by kernel_rfl) trivial trivial (by kernel_rfl) h
noncomputable def posthouselaw6_MeetingProposeMatchesSpec_g15_e : LEnt Try.prog lv X0 8 117 := gentS Try.prog lv X0 15 (getSeg (cdF Try.f8) 15) (by kernel_rfl) posthouselaw6_MeetingProposeMatchesSpec_g15_s posthouselaw6_MeetingProposeMatchesSpec_g15_o (fun x => posthouselaw6_MeetingProposeMatchesSpec_g15 x.2.1.1 x.2.1.2.1 x.2.1.2.2.1 x.2.1.2.2.2.1 x.2.1.2.2.2.2.1 x.2.1.2.2.2.2.2 x.2.2.1.1 x.2.2.1.2.1 x.2.2.1.2.2.1 x.2.2.1.2.2.2.1 x.2.2.1.2.2.2.2.1 x.2.2.1.2.2.2.2.2 x.2.2.2.1.1 x.2.2.2.1.2 x.2.2.2.2.1.1 x.2.2.2.2.1.2 x.2.2.2.2.2) (fun _ _ h => gS_from h)
def posthouselaw6_MeetingProposeMatchesSpec_g11_s : SC ((Unit × Unit × Unit × Unit × Unit × Unit × Unit × Unit) × ((ByteArray × (List S48) × Int × Int × Int × Bool) × (Int × Int) × (ByteArray × Nat × Int × Int × Int × Bool) × (Int × Int) × (ByteArray × Nat × Int × Int × Int × Bool) × (Int × Int) × (Int × Int) × (Int × Int) × (List S48) × (List S48))) := sLS [2, 3, 5, 6, 7, 8, 9, 10] (lCons (vPtr 0 0) (lCons (vPtr 1 0) (lCons (vPtr 2 0) (lCons (vPtr 3 0) (lCons (vPtr 4 0) (lCons (vPtr 5 0) (lCons (vPtr 6 0) (lOne (vPtr 7 0))))))))) (lCons (oSome (bBox (lCons (vC cStr) (lCons (vC (cSl ec_48)) (lCons (vC (cInt .i64)) (lCons (vC (cInt .i64)) (lCons (vC (cInt .i64)) (lOne (vC cBool))))))))) (lCons (oSome (bBox (lCons (vC (cInt .i64)) (lOne (vC (cInt .i64)))))) (lCons (oSome (bBox (lCons (vC cStr) (lCons (vRow 8) (lCons (vC (cInt .i64)) (lCons (vC (cInt .i64)) (lCons (vC (cInt .i64)) (lOne (vC cBool))))))))) (lCons (oSome (bBox (lCons (vC (cInt .i64)) (lOne (vC (cInt .i64)))))) (lCons (oSome (bBox (lCons (vC cStr) (lCons (vRow 9) (lCons (vC (cInt .i64)) (lCons (vC (cInt .i64)) (lCons (vC (cInt .i64)) (lOne (vC cBool))))))))) (lCons (oSome (bBox (lCons (vC (cInt .i64)) (lOne (vC (cInt .i64)))))) (lCons (oSome (bBox (lCons (vC (cInt .i64)) (lOne (vC (cInt .i64)))))) (lCons (oSome (bBox (lCons (vC (cInt .i64)) (lOne (vC (cInt .i64)))))) (lCons (oSome (bRow ec_48)) (lOne (oSome (bRow ec_48)))))))))))) [false, false, false, false, false, false, false, false, false, false] (by decide) (fun _ => rfl)
def posthouselaw6_MeetingProposeMatchesSpec_g11_o1 : SC (Bool × Unit) := sLS [4] (lOne (vC cBool)) lNil [] (by decide) (fun _ => rfl)
def posthouselaw6_MeetingProposeMatchesSpec_g11_o : OC (Bool × Unit) := oAt 1 posthouselaw6_MeetingProposeMatchesSpec_g11_o1
noncomputable def posthouselaw6_MeetingProposeMatchesSpec_g11 (b0 : ByteArray) (b0_1 : (List S48)) (b0_2 : Int) (b0_3 : Int) (b0_4 : Int) (b0_5 : Bool) (b1 : Int) (b1_1 : Int) (b2 : ByteArray) (b2_1 : Nat) (b2_2 : Int) (b2_3 : Int) (b2_4 : Int) (b2_5 : Bool) (b3 : Int) (b3_1 : Int) (b4 : ByteArray) (b4_1 : Nat) (b4_2 : Int) (b4_3 : Int) (b4_4 : Int) (b4_5 : Bool) (b5 : Int) (b5_1 : Int) (b6 : Int) (b6_1 : Int) (b7 : Int) (b7_1 : Int) (b8 : (List S48)) (b9 : (List S48)) : Option (Bool × Unit) := gS Try.prog lv X0 8 117 (getSeg (cdF Try.f8) 11) posthouselaw6_MeetingProposeMatchesSpec_g11_s posthouselaw6_MeetingProposeMatchesSpec_g11_o (((), (), (), (), (), (), (), ()), ((b0, b0_1, b0_2, b0_3, b0_4, b0_5), (b1, b1_1), (b2, b2_1, b2_2, b2_3, b2_4, b2_5), (b3, b3_1), (b4, b4_1, b4_2, b4_3, b4_4, b4_5), (b5, b5_1), (b6, b6_1), (b7, b7_1), b8, b9))
noncomputable def posthouselaw6_MeetingProposeMatchesSpec_g11_t (b0 : ByteArray) (b0_1 : (List S48)) (b0_2 : Int) (b0_3 : Int) (b0_4 : Int) (b0_5 : Bool) (b1 : Int) (b1_1 : Int) (b2 : ByteArray) (b2_1 : Nat) (b2_2 : Int) (b2_3 : Int) (b2_4 : Int) (b2_5 : Bool) (b3 : Int) (b3_1 : Int) (b4 : ByteArray) (b4_1 : Nat) (b4_2 : Int) (b4_3 : Int) (b4_4 : Int) (b4_5 : Bool) (b5 : Int) (b5_1 : Int) (b6 : Int) (b6_1 : Int) (b7 : Int) (b7_1 : Int) (b8 : (List S48)) (b9 : (List S48)) : Option (Bool × Unit) :=
  (brE ((b7 != (0 : Int)) == true)
  (brE ((!((b3 == b7) && ((b3_1 == b7_1) && true))) == false)
    (gdE (EC.isL ec_48 (EC.encL ec_48 b8)) <|
      (Option.bind (posthouseref6_SameMeeting_s b2 (EC.decL ec_48 (EC.encL ec_48 b8)) b2_2 b2_3 b2_4 b2_5 (ByteArray.mk (List.toArray [])) (EC.decL ec_48 []) (0 : Int) (0 : Int) (0 : Int) false) fun r0 =>
        (brE ((!r0) == false)
          (brE ((b7 == (0 : Int)) == true)
            (brE ((b3 != (0 : Int)) == false)
              (gdE (EC.isL ec_48 (EC.encL ec_48 b0_1)) <|
                (Option.bind (posthouseref6_Proposed_s b0 (EC.decL ec_48 (EC.encL ec_48 b0_1)) b0_2 b0_3 b0_4 b0_5 b1 b1_1) fun r1 =>
                  (gdE (EC.isL ec_48 (EC.encL ec_48 b8)) <|
                    (gdE (EC.isL ec_48 (EC.encL ec_48 (r1).2)) <|
                      (Option.bind (posthouseref6_SameMeeting_s b2 (EC.decL ec_48 (EC.encL ec_48 b8)) b2_2 b2_3 b2_4 b2_5 ((r1).1).1 (EC.decL ec_48 (EC.encL ec_48 (r1).2)) ((((r1).1).2).2).1 (((((r1).1).2).2).2).1 ((((((r1).1).2).2).2).2).1 ((((((r1).1).2).2).2).2).2) fun r2 =>
                        (gdE (EC.isL ec_48 (EC.encL ec_48 b0_1)) <|
                          (gdE (EC.isL ec_48 (EC.encL ec_48 b9)) <|
                            (Option.bind (posthouselaw6_MeetingProposeMatchesSpec_g12 (!r2) b0 (EC.decL ec_48 (EC.encL ec_48 b0_1)) b0_2 b0_3 b0_4 b0_5 b4 b4_1 b4_2 b4_3 b4_4 b4_5 b5 b5_1 b6 b6_1 (EC.decL ec_48 (EC.encL ec_48 b9))) fun r3 =>
                              (Sum.elim (fun r4 => (brE ((((((((r4).2).2).2).2).1).1 == (0 : Int)) == true)
                                  (brE (((((((r4).2).1).2).2).2).2).2
                                    (Option.bind (posthouseref5_At_s (8 : Int) (-(4 : Int))) fun r5 =>
                                      (gdE (EC.isL ec_48 (EC.encL ec_48 ((((r4).2).1).2).1)) <|
                                        (gdE (EC.isL ec_48 (EC.encL ec_48 (((((r4).2).2).2).2).2)) <|
                                          (Option.bind (posthouselaw6_MeetingProposeMatchesSpec_g15 (((r4).2).1).1 (EC.decL ec_48 (EC.encL ec_48 ((((r4).2).1).2).1)) (((((r4).2).1).2).2).1 ((((((r4).2).1).2).2).2).1 (((((((r4).2).1).2).2).2).2).1 (((((((r4).2).1).2).2).2).2).2 ((((r4).2).2).1).1 (((((r4).2).2).1).2).1 ((((((r4).2).2).1).2).2).1 (((((((r4).2).2).1).2).2).2).1 ((((((((r4).2).2).1).2).2).2).2).1 ((((((((r4).2).2).1).2).2).2).2).2 (((((r4).2).2).2).1).1 (((((r4).2).2).2).1).2 (r5).1 (r5).2 (EC.decL ec_48 (EC.encL ec_48 (((((r4).2).2).2).2).2))) fun r6 =>
                                            (some ((r6).1, ()))))))
                                    (gdE (EC.isL ec_48 (EC.encL ec_48 ((((r4).2).1).2).1)) <|
                                      (gdE (EC.isL ec_48 (EC.encL ec_48 (((((r4).2).2).2).2).2)) <|
                                        (Option.bind (posthouselaw6_MeetingProposeMatchesSpec_g15 (((r4).2).1).1 (EC.decL ec_48 (EC.encL ec_48 ((((r4).2).1).2).1)) (((((r4).2).1).2).2).1 ((((((r4).2).1).2).2).2).1 (((((((r4).2).1).2).2).2).2).1 (((((((r4).2).1).2).2).2).2).2 ((((r4).2).2).1).1 (((((r4).2).2).1).2).1 ((((((r4).2).2).1).2).2).1 (((((((r4).2).2).1).2).2).2).1 ((((((((r4).2).2).1).2).2).2).2).1 ((((((((r4).2).2).1).2).2).2).2).2 (((((r4).2).2).2).1).1 (((((r4).2).2).2).1).2 ((((((r4).2).2).2).2).1).1 ((((((r4).2).2).2).2).1).2 (EC.decL ec_48 (EC.encL ec_48 (((((r4).2).2).2).2).2))) fun r5 =>
                                          (some ((r5).1, ()))))))
                                  (gdE (EC.isL ec_48 (EC.encL ec_48 ((((r4).2).1).2).1)) <|
                                    (gdE (EC.isL ec_48 (EC.encL ec_48 (((((r4).2).2).2).2).2)) <|
                                      (Option.bind (posthouselaw6_MeetingProposeMatchesSpec_g15 (((r4).2).1).1 (EC.decL ec_48 (EC.encL ec_48 ((((r4).2).1).2).1)) (((((r4).2).1).2).2).1 ((((((r4).2).1).2).2).2).1 (((((((r4).2).1).2).2).2).2).1 (((((((r4).2).1).2).2).2).2).2 ((((r4).2).2).1).1 (((((r4).2).2).1).2).1 ((((((r4).2).2).1).2).2).1 (((((((r4).2).2).1).2).2).2).1 ((((((((r4).2).2).1).2).2).2).2).1 ((((((((r4).2).2).1).2).2).2).2).2 (((((r4).2).2).2).1).1 (((((r4).2).2).2).1).2 ((((((r4).2).2).2).2).1).1 ((((((r4).2).2).2).2).1).2 (EC.decL ec_48 (EC.encL ec_48 (((((r4).2).2).2).2).2))) fun r5 =>
                                        (some ((r5).1, ())))))))
                                (fun r4 => (some ((r4).1, ()))) r3)))))))))
              (gdE (EC.isL ec_48 (EC.encL ec_48 b0_1)) <|
                (gdE (EC.isL ec_48 (EC.encL ec_48 b9)) <|
                  (Option.bind (posthouselaw6_MeetingProposeMatchesSpec_g12 true b0 (EC.decL ec_48 (EC.encL ec_48 b0_1)) b0_2 b0_3 b0_4 b0_5 b4 b4_1 b4_2 b4_3 b4_4 b4_5 b5 b5_1 b6 b6_1 (EC.decL ec_48 (EC.encL ec_48 b9))) fun r1 =>
                    (Sum.elim (fun r2 => (brE ((((((((r2).2).2).2).2).1).1 == (0 : Int)) == true)
                        (brE (((((((r2).2).1).2).2).2).2).2
                          (Option.bind (posthouseref5_At_s (8 : Int) (-(4 : Int))) fun r3 =>
                            (gdE (EC.isL ec_48 (EC.encL ec_48 ((((r2).2).1).2).1)) <|
                              (gdE (EC.isL ec_48 (EC.encL ec_48 (((((r2).2).2).2).2).2)) <|
                                (Option.bind (posthouselaw6_MeetingProposeMatchesSpec_g15 (((r2).2).1).1 (EC.decL ec_48 (EC.encL ec_48 ((((r2).2).1).2).1)) (((((r2).2).1).2).2).1 ((((((r2).2).1).2).2).2).1 (((((((r2).2).1).2).2).2).2).1 (((((((r2).2).1).2).2).2).2).2 ((((r2).2).2).1).1 (((((r2).2).2).1).2).1 ((((((r2).2).2).1).2).2).1 (((((((r2).2).2).1).2).2).2).1 ((((((((r2).2).2).1).2).2).2).2).1 ((((((((r2).2).2).1).2).2).2).2).2 (((((r2).2).2).2).1).1 (((((r2).2).2).2).1).2 (r3).1 (r3).2 (EC.decL ec_48 (EC.encL ec_48 (((((r2).2).2).2).2).2))) fun r4 =>
                                  (some ((r4).1, ()))))))
                          (gdE (EC.isL ec_48 (EC.encL ec_48 ((((r2).2).1).2).1)) <|
                            (gdE (EC.isL ec_48 (EC.encL ec_48 (((((r2).2).2).2).2).2)) <|
                              (Option.bind (posthouselaw6_MeetingProposeMatchesSpec_g15 (((r2).2).1).1 (EC.decL ec_48 (EC.encL ec_48 ((((r2).2).1).2).1)) (((((r2).2).1).2).2).1 ((((((r2).2).1).2).2).2).1 (((((((r2).2).1).2).2).2).2).1 (((((((r2).2).1).2).2).2).2).2 ((((r2).2).2).1).1 (((((r2).2).2).1).2).1 ((((((r2).2).2).1).2).2).1 (((((((r2).2).2).1).2).2).2).1 ((((((((r2).2).2).1).2).2).2).2).1 ((((((((r2).2).2).1).2).2).2).2).2 (((((r2).2).2).2).1).1 (((((r2).2).2).2).1).2 ((((((r2).2).2).2).2).1).1 ((((((r2).2).2).2).2).1).2 (EC.decL ec_48 (EC.encL ec_48 (((((r2).2).2).2).2).2))) fun r3 =>
                                (some ((r3).1, ()))))))
                        (gdE (EC.isL ec_48 (EC.encL ec_48 ((((r2).2).1).2).1)) <|
                          (gdE (EC.isL ec_48 (EC.encL ec_48 (((((r2).2).2).2).2).2)) <|
                            (Option.bind (posthouselaw6_MeetingProposeMatchesSpec_g15 (((r2).2).1).1 (EC.decL ec_48 (EC.encL ec_48 ((((r2).2).1).2).1)) (((((r2).2).1).2).2).1 ((((((r2).2).1).2).2).2).1 (((((((r2).2).1).2).2).2).2).1 (((((((r2).2).1).2).2).2).2).2 ((((r2).2).2).1).1 (((((r2).2).2).1).2).1 ((((((r2).2).2).1).2).2).1 (((((((r2).2).2).1).2).2).2).1 ((((((((r2).2).2).1).2).2).2).2).1 ((((((((r2).2).2).1).2).2).2).2).2 (((((r2).2).2).2).1).1 (((((r2).2).2).2).1).2 ((((((r2).2).2).2).2).1).1 ((((((r2).2).2).2).2).1).2 (EC.decL ec_48 (EC.encL ec_48 (((((r2).2).2).2).2).2))) fun r3 =>
                              (some ((r3).1, ())))))))
                      (fun r2 => (some ((r2).1, ()))) r1)))))
            (gdE (EC.isL ec_48 (EC.encL ec_48 b0_1)) <|
              (gdE (EC.isL ec_48 (EC.encL ec_48 b9)) <|
                (Option.bind (posthouselaw6_MeetingProposeMatchesSpec_g12 false b0 (EC.decL ec_48 (EC.encL ec_48 b0_1)) b0_2 b0_3 b0_4 b0_5 b4 b4_1 b4_2 b4_3 b4_4 b4_5 b5 b5_1 b6 b6_1 (EC.decL ec_48 (EC.encL ec_48 b9))) fun r1 =>
                  (Sum.elim (fun r2 => (brE ((((((((r2).2).2).2).2).1).1 == (0 : Int)) == true)
                      (brE (((((((r2).2).1).2).2).2).2).2
                        (Option.bind (posthouseref5_At_s (8 : Int) (-(4 : Int))) fun r3 =>
                          (gdE (EC.isL ec_48 (EC.encL ec_48 ((((r2).2).1).2).1)) <|
                            (gdE (EC.isL ec_48 (EC.encL ec_48 (((((r2).2).2).2).2).2)) <|
                              (Option.bind (posthouselaw6_MeetingProposeMatchesSpec_g15 (((r2).2).1).1 (EC.decL ec_48 (EC.encL ec_48 ((((r2).2).1).2).1)) (((((r2).2).1).2).2).1 ((((((r2).2).1).2).2).2).1 (((((((r2).2).1).2).2).2).2).1 (((((((r2).2).1).2).2).2).2).2 ((((r2).2).2).1).1 (((((r2).2).2).1).2).1 ((((((r2).2).2).1).2).2).1 (((((((r2).2).2).1).2).2).2).1 ((((((((r2).2).2).1).2).2).2).2).1 ((((((((r2).2).2).1).2).2).2).2).2 (((((r2).2).2).2).1).1 (((((r2).2).2).2).1).2 (r3).1 (r3).2 (EC.decL ec_48 (EC.encL ec_48 (((((r2).2).2).2).2).2))) fun r4 =>
                                (some ((r4).1, ()))))))
                        (gdE (EC.isL ec_48 (EC.encL ec_48 ((((r2).2).1).2).1)) <|
                          (gdE (EC.isL ec_48 (EC.encL ec_48 (((((r2).2).2).2).2).2)) <|
                            (Option.bind (posthouselaw6_MeetingProposeMatchesSpec_g15 (((r2).2).1).1 (EC.decL ec_48 (EC.encL ec_48 ((((r2).2).1).2).1)) (((((r2).2).1).2).2).1 ((((((r2).2).1).2).2).2).1 (((((((r2).2).1).2).2).2).2).1 (((((((r2).2).1).2).2).2).2).2 ((((r2).2).2).1).1 (((((r2).2).2).1).2).1 ((((((r2).2).2).1).2).2).1 (((((((r2).2).2).1).2).2).2).1 ((((((((r2).2).2).1).2).2).2).2).1 ((((((((r2).2).2).1).2).2).2).2).2 (((((r2).2).2).2).1).1 (((((r2).2).2).2).1).2 ((((((r2).2).2).2).2).1).1 ((((((r2).2).2).2).2).1).2 (EC.decL ec_48 (EC.encL ec_48 (((((r2).2).2).2).2).2))) fun r3 =>
                              (some ((r3).1, ()))))))
                      (gdE (EC.isL ec_48 (EC.encL ec_48 ((((r2).2).1).2).1)) <|
                        (gdE (EC.isL ec_48 (EC.encL ec_48 (((((r2).2).2).2).2).2)) <|
                          (Option.bind (posthouselaw6_MeetingProposeMatchesSpec_g15 (((r2).2).1).1 (EC.decL ec_48 (EC.encL ec_48 ((((r2).2).1).2).1)) (((((r2).2).1).2).2).1 ((((((r2).2).1).2).2).2).1 (((((((r2).2).1).2).2).2).2).1 (((((((r2).2).1).2).2).2).2).2 ((((r2).2).2).1).1 (((((r2).2).2).1).2).1 ((((((r2).2).2).1).2).2).1 (((((((r2).2).2).1).2).2).2).1 ((((((((r2).2).2).1).2).2).2).2).1 ((((((((r2).2).2).1).2).2).2).2).2 (((((r2).2).2).2).1).1 (((((r2).2).2).2).1).2 ((((((r2).2).2).2).2).1).1 ((((((r2).2).2).2).2).1).2 (EC.decL ec_48 (EC.encL ec_48 (((((r2).2).2).2).2).2))) fun r3 =>
                            (some ((r3).1, ())))))))
                    (fun r2 => (some ((r2).1, ()))) r1)))))
          (gdE (EC.isL ec_48 (EC.encL ec_48 b0_1)) <|
            (gdE (EC.isL ec_48 (EC.encL ec_48 b9)) <|
              (Option.bind (posthouselaw6_MeetingProposeMatchesSpec_g12 true b0 (EC.decL ec_48 (EC.encL ec_48 b0_1)) b0_2 b0_3 b0_4 b0_5 b4 b4_1 b4_2 b4_3 b4_4 b4_5 b5 b5_1 b6 b6_1 (EC.decL ec_48 (EC.encL ec_48 b9))) fun r1 =>
                (Sum.elim (fun r2 => (brE ((((((((r2).2).2).2).2).1).1 == (0 : Int)) == true)
                    (brE (((((((r2).2).1).2).2).2).2).2
                      (Option.bind (posthouseref5_At_s (8 : Int) (-(4 : Int))) fun r3 =>
                        (gdE (EC.isL ec_48 (EC.encL ec_48 ((((r2).2).1).2).1)) <|
                          (gdE (EC.isL ec_48 (EC.encL ec_48 (((((r2).2).2).2).2).2)) <|
                            (Option.bind (posthouselaw6_MeetingProposeMatchesSpec_g15 (((r2).2).1).1 (EC.decL ec_48 (EC.encL ec_48 ((((r2).2).1).2).1)) (((((r2).2).1).2).2).1 ((((((r2).2).1).2).2).2).1 (((((((r2).2).1).2).2).2).2).1 (((((((r2).2).1).2).2).2).2).2 ((((r2).2).2).1).1 (((((r2).2).2).1).2).1 ((((((r2).2).2).1).2).2).1 (((((((r2).2).2).1).2).2).2).1 ((((((((r2).2).2).1).2).2).2).2).1 ((((((((r2).2).2).1).2).2).2).2).2 (((((r2).2).2).2).1).1 (((((r2).2).2).2).1).2 (r3).1 (r3).2 (EC.decL ec_48 (EC.encL ec_48 (((((r2).2).2).2).2).2))) fun r4 =>
                              (some ((r4).1, ()))))))
                      (gdE (EC.isL ec_48 (EC.encL ec_48 ((((r2).2).1).2).1)) <|
                        (gdE (EC.isL ec_48 (EC.encL ec_48 (((((r2).2).2).2).2).2)) <|
                          (Option.bind (posthouselaw6_MeetingProposeMatchesSpec_g15 (((r2).2).1).1 (EC.decL ec_48 (EC.encL ec_48 ((((r2).2).1).2).1)) (((((r2).2).1).2).2).1 ((((((r2).2).1).2).2).2).1 (((((((r2).2).1).2).2).2).2).1 (((((((r2).2).1).2).2).2).2).2 ((((r2).2).2).1).1 (((((r2).2).2).1).2).1 ((((((r2).2).2).1).2).2).1 (((((((r2).2).2).1).2).2).2).1 ((((((((r2).2).2).1).2).2).2).2).1 ((((((((r2).2).2).1).2).2).2).2).2 (((((r2).2).2).2).1).1 (((((r2).2).2).2).1).2 ((((((r2).2).2).2).2).1).1 ((((((r2).2).2).2).2).1).2 (EC.decL ec_48 (EC.encL ec_48 (((((r2).2).2).2).2).2))) fun r3 =>
                            (some ((r3).1, ()))))))
                    (gdE (EC.isL ec_48 (EC.encL ec_48 ((((r2).2).1).2).1)) <|
                      (gdE (EC.isL ec_48 (EC.encL ec_48 (((((r2).2).2).2).2).2)) <|
                        (Option.bind (posthouselaw6_MeetingProposeMatchesSpec_g15 (((r2).2).1).1 (EC.decL ec_48 (EC.encL ec_48 ((((r2).2).1).2).1)) (((((r2).2).1).2).2).1 ((((((r2).2).1).2).2).2).1 (((((((r2).2).1).2).2).2).2).1 (((((((r2).2).1).2).2).2).2).2 ((((r2).2).2).1).1 (((((r2).2).2).1).2).1 ((((((r2).2).2).1).2).2).1 (((((((r2).2).2).1).2).2).2).1 ((((((((r2).2).2).1).2).2).2).2).1 ((((((((r2).2).2).1).2).2).2).2).2 (((((r2).2).2).2).1).1 (((((r2).2).2).2).1).2 ((((((r2).2).2).2).2).1).1 ((((((r2).2).2).2).2).1).2 (EC.decL ec_48 (EC.encL ec_48 (((((r2).2).2).2).2).2))) fun r3 =>
                          (some ((r3).1, ())))))))
                  (fun r2 => (some ((r2).1, ()))) r1)))))))
    (gdE (EC.isL ec_48 (EC.encL ec_48 b0_1)) <|
      (gdE (EC.isL ec_48 (EC.encL ec_48 b9)) <|
        (Option.bind (posthouselaw6_MeetingProposeMatchesSpec_g12 true b0 (EC.decL ec_48 (EC.encL ec_48 b0_1)) b0_2 b0_3 b0_4 b0_5 b4 b4_1 b4_2 b4_3 b4_4 b4_5 b5 b5_1 b6 b6_1 (EC.decL ec_48 (EC.encL ec_48 b9))) fun r0 =>
          (Sum.elim (fun r1 => (brE ((((((((r1).2).2).2).2).1).1 == (0 : Int)) == true)
              (brE (((((((r1).2).1).2).2).2).2).2
                (Option.bind (posthouseref5_At_s (8 : Int) (-(4 : Int))) fun r2 =>
                  (gdE (EC.isL ec_48 (EC.encL ec_48 ((((r1).2).1).2).1)) <|
                    (gdE (EC.isL ec_48 (EC.encL ec_48 (((((r1).2).2).2).2).2)) <|
                      (Option.bind (posthouselaw6_MeetingProposeMatchesSpec_g15 (((r1).2).1).1 (EC.decL ec_48 (EC.encL ec_48 ((((r1).2).1).2).1)) (((((r1).2).1).2).2).1 ((((((r1).2).1).2).2).2).1 (((((((r1).2).1).2).2).2).2).1 (((((((r1).2).1).2).2).2).2).2 ((((r1).2).2).1).1 (((((r1).2).2).1).2).1 ((((((r1).2).2).1).2).2).1 (((((((r1).2).2).1).2).2).2).1 ((((((((r1).2).2).1).2).2).2).2).1 ((((((((r1).2).2).1).2).2).2).2).2 (((((r1).2).2).2).1).1 (((((r1).2).2).2).1).2 (r2).1 (r2).2 (EC.decL ec_48 (EC.encL ec_48 (((((r1).2).2).2).2).2))) fun r3 =>
                        (some ((r3).1, ()))))))
                (gdE (EC.isL ec_48 (EC.encL ec_48 ((((r1).2).1).2).1)) <|
                  (gdE (EC.isL ec_48 (EC.encL ec_48 (((((r1).2).2).2).2).2)) <|
                    (Option.bind (posthouselaw6_MeetingProposeMatchesSpec_g15 (((r1).2).1).1 (EC.decL ec_48 (EC.encL ec_48 ((((r1).2).1).2).1)) (((((r1).2).1).2).2).1 ((((((r1).2).1).2).2).2).1 (((((((r1).2).1).2).2).2).2).1 (((((((r1).2).1).2).2).2).2).2 ((((r1).2).2).1).1 (((((r1).2).2).1).2).1 ((((((r1).2).2).1).2).2).1 (((((((r1).2).2).1).2).2).2).1 ((((((((r1).2).2).1).2).2).2).2).1 ((((((((r1).2).2).1).2).2).2).2).2 (((((r1).2).2).2).1).1 (((((r1).2).2).2).1).2 ((((((r1).2).2).2).2).1).1 ((((((r1).2).2).2).2).1).2 (EC.decL ec_48 (EC.encL ec_48 (((((r1).2).2).2).2).2))) fun r2 =>
                      (some ((r2).1, ()))))))
              (gdE (EC.isL ec_48 (EC.encL ec_48 ((((r1).2).1).2).1)) <|
                (gdE (EC.isL ec_48 (EC.encL ec_48 (((((r1).2).2).2).2).2)) <|
                  (Option.bind (posthouselaw6_MeetingProposeMatchesSpec_g15 (((r1).2).1).1 (EC.decL ec_48 (EC.encL ec_48 ((((r1).2).1).2).1)) (((((r1).2).1).2).2).1 ((((((r1).2).1).2).2).2).1 (((((((r1).2).1).2).2).2).2).1 (((((((r1).2).1).2).2).2).2).2 ((((r1).2).2).1).1 (((((r1).2).2).1).2).1 ((((((r1).2).2).1).2).2).1 (((((((r1).2).2).1).2).2).2).1 ((((((((r1).2).2).1).2).2).2).2).1 ((((((((r1).2).2).1).2).2).2).2).2 (((((r1).2).2).2).1).1 (((((r1).2).2).2).1).2 ((((((r1).2).2).2).2).1).1 ((((((r1).2).2).2).2).1).2 (EC.decL ec_48 (EC.encL ec_48 (((((r1).2).2).2).2).2))) fun r2 =>
                    (some ((r2).1, ())))))))
            (fun r1 => (some ((r1).1, ()))) r0)))))
  (brE ((b7 == (0 : Int)) == true)
    (brE ((b3 != (0 : Int)) == false)
      (gdE (EC.isL ec_48 (EC.encL ec_48 b0_1)) <|
        (Option.bind (posthouseref6_Proposed_s b0 (EC.decL ec_48 (EC.encL ec_48 b0_1)) b0_2 b0_3 b0_4 b0_5 b1 b1_1) fun r0 =>
          (gdE (EC.isL ec_48 (EC.encL ec_48 b8)) <|
            (gdE (EC.isL ec_48 (EC.encL ec_48 (r0).2)) <|
              (Option.bind (posthouseref6_SameMeeting_s b2 (EC.decL ec_48 (EC.encL ec_48 b8)) b2_2 b2_3 b2_4 b2_5 ((r0).1).1 (EC.decL ec_48 (EC.encL ec_48 (r0).2)) ((((r0).1).2).2).1 (((((r0).1).2).2).2).1 ((((((r0).1).2).2).2).2).1 ((((((r0).1).2).2).2).2).2) fun r1 =>
                (gdE (EC.isL ec_48 (EC.encL ec_48 b0_1)) <|
                  (gdE (EC.isL ec_48 (EC.encL ec_48 b9)) <|
                    (Option.bind (posthouselaw6_MeetingProposeMatchesSpec_g12 (!r1) b0 (EC.decL ec_48 (EC.encL ec_48 b0_1)) b0_2 b0_3 b0_4 b0_5 b4 b4_1 b4_2 b4_3 b4_4 b4_5 b5 b5_1 b6 b6_1 (EC.decL ec_48 (EC.encL ec_48 b9))) fun r2 =>
                      (Sum.elim (fun r3 => (brE ((((((((r3).2).2).2).2).1).1 == (0 : Int)) == true)
                          (brE (((((((r3).2).1).2).2).2).2).2
                            (Option.bind (posthouseref5_At_s (8 : Int) (-(4 : Int))) fun r4 =>
                              (gdE (EC.isL ec_48 (EC.encL ec_48 ((((r3).2).1).2).1)) <|
                                (gdE (EC.isL ec_48 (EC.encL ec_48 (((((r3).2).2).2).2).2)) <|
                                  (Option.bind (posthouselaw6_MeetingProposeMatchesSpec_g15 (((r3).2).1).1 (EC.decL ec_48 (EC.encL ec_48 ((((r3).2).1).2).1)) (((((r3).2).1).2).2).1 ((((((r3).2).1).2).2).2).1 (((((((r3).2).1).2).2).2).2).1 (((((((r3).2).1).2).2).2).2).2 ((((r3).2).2).1).1 (((((r3).2).2).1).2).1 ((((((r3).2).2).1).2).2).1 (((((((r3).2).2).1).2).2).2).1 ((((((((r3).2).2).1).2).2).2).2).1 ((((((((r3).2).2).1).2).2).2).2).2 (((((r3).2).2).2).1).1 (((((r3).2).2).2).1).2 (r4).1 (r4).2 (EC.decL ec_48 (EC.encL ec_48 (((((r3).2).2).2).2).2))) fun r5 =>
                                    (some ((r5).1, ()))))))
                            (gdE (EC.isL ec_48 (EC.encL ec_48 ((((r3).2).1).2).1)) <|
                              (gdE (EC.isL ec_48 (EC.encL ec_48 (((((r3).2).2).2).2).2)) <|
                                (Option.bind (posthouselaw6_MeetingProposeMatchesSpec_g15 (((r3).2).1).1 (EC.decL ec_48 (EC.encL ec_48 ((((r3).2).1).2).1)) (((((r3).2).1).2).2).1 ((((((r3).2).1).2).2).2).1 (((((((r3).2).1).2).2).2).2).1 (((((((r3).2).1).2).2).2).2).2 ((((r3).2).2).1).1 (((((r3).2).2).1).2).1 ((((((r3).2).2).1).2).2).1 (((((((r3).2).2).1).2).2).2).1 ((((((((r3).2).2).1).2).2).2).2).1 ((((((((r3).2).2).1).2).2).2).2).2 (((((r3).2).2).2).1).1 (((((r3).2).2).2).1).2 ((((((r3).2).2).2).2).1).1 ((((((r3).2).2).2).2).1).2 (EC.decL ec_48 (EC.encL ec_48 (((((r3).2).2).2).2).2))) fun r4 =>
                                  (some ((r4).1, ()))))))
                          (gdE (EC.isL ec_48 (EC.encL ec_48 ((((r3).2).1).2).1)) <|
                            (gdE (EC.isL ec_48 (EC.encL ec_48 (((((r3).2).2).2).2).2)) <|
                              (Option.bind (posthouselaw6_MeetingProposeMatchesSpec_g15 (((r3).2).1).1 (EC.decL ec_48 (EC.encL ec_48 ((((r3).2).1).2).1)) (((((r3).2).1).2).2).1 ((((((r3).2).1).2).2).2).1 (((((((r3).2).1).2).2).2).2).1 (((((((r3).2).1).2).2).2).2).2 ((((r3).2).2).1).1 (((((r3).2).2).1).2).1 ((((((r3).2).2).1).2).2).1 (((((((r3).2).2).1).2).2).2).1 ((((((((r3).2).2).1).2).2).2).2).1 ((((((((r3).2).2).1).2).2).2).2).2 (((((r3).2).2).2).1).1 (((((r3).2).2).2).1).2 ((((((r3).2).2).2).2).1).1 ((((((r3).2).2).2).2).1).2 (EC.decL ec_48 (EC.encL ec_48 (((((r3).2).2).2).2).2))) fun r4 =>
                                (some ((r4).1, ())))))))
                        (fun r3 => (some ((r3).1, ()))) r2)))))))))
      (gdE (EC.isL ec_48 (EC.encL ec_48 b0_1)) <|
        (gdE (EC.isL ec_48 (EC.encL ec_48 b9)) <|
          (Option.bind (posthouselaw6_MeetingProposeMatchesSpec_g12 true b0 (EC.decL ec_48 (EC.encL ec_48 b0_1)) b0_2 b0_3 b0_4 b0_5 b4 b4_1 b4_2 b4_3 b4_4 b4_5 b5 b5_1 b6 b6_1 (EC.decL ec_48 (EC.encL ec_48 b9))) fun r0 =>
            (Sum.elim (fun r1 => (brE ((((((((r1).2).2).2).2).1).1 == (0 : Int)) == true)
                (brE (((((((r1).2).1).2).2).2).2).2
                  (Option.bind (posthouseref5_At_s (8 : Int) (-(4 : Int))) fun r2 =>
                    (gdE (EC.isL ec_48 (EC.encL ec_48 ((((r1).2).1).2).1)) <|
                      (gdE (EC.isL ec_48 (EC.encL ec_48 (((((r1).2).2).2).2).2)) <|
                        (Option.bind (posthouselaw6_MeetingProposeMatchesSpec_g15 (((r1).2).1).1 (EC.decL ec_48 (EC.encL ec_48 ((((r1).2).1).2).1)) (((((r1).2).1).2).2).1 ((((((r1).2).1).2).2).2).1 (((((((r1).2).1).2).2).2).2).1 (((((((r1).2).1).2).2).2).2).2 ((((r1).2).2).1).1 (((((r1).2).2).1).2).1 ((((((r1).2).2).1).2).2).1 (((((((r1).2).2).1).2).2).2).1 ((((((((r1).2).2).1).2).2).2).2).1 ((((((((r1).2).2).1).2).2).2).2).2 (((((r1).2).2).2).1).1 (((((r1).2).2).2).1).2 (r2).1 (r2).2 (EC.decL ec_48 (EC.encL ec_48 (((((r1).2).2).2).2).2))) fun r3 =>
                          (some ((r3).1, ()))))))
                  (gdE (EC.isL ec_48 (EC.encL ec_48 ((((r1).2).1).2).1)) <|
                    (gdE (EC.isL ec_48 (EC.encL ec_48 (((((r1).2).2).2).2).2)) <|
                      (Option.bind (posthouselaw6_MeetingProposeMatchesSpec_g15 (((r1).2).1).1 (EC.decL ec_48 (EC.encL ec_48 ((((r1).2).1).2).1)) (((((r1).2).1).2).2).1 ((((((r1).2).1).2).2).2).1 (((((((r1).2).1).2).2).2).2).1 (((((((r1).2).1).2).2).2).2).2 ((((r1).2).2).1).1 (((((r1).2).2).1).2).1 ((((((r1).2).2).1).2).2).1 (((((((r1).2).2).1).2).2).2).1 ((((((((r1).2).2).1).2).2).2).2).1 ((((((((r1).2).2).1).2).2).2).2).2 (((((r1).2).2).2).1).1 (((((r1).2).2).2).1).2 ((((((r1).2).2).2).2).1).1 ((((((r1).2).2).2).2).1).2 (EC.decL ec_48 (EC.encL ec_48 (((((r1).2).2).2).2).2))) fun r2 =>
                        (some ((r2).1, ()))))))
                (gdE (EC.isL ec_48 (EC.encL ec_48 ((((r1).2).1).2).1)) <|
                  (gdE (EC.isL ec_48 (EC.encL ec_48 (((((r1).2).2).2).2).2)) <|
                    (Option.bind (posthouselaw6_MeetingProposeMatchesSpec_g15 (((r1).2).1).1 (EC.decL ec_48 (EC.encL ec_48 ((((r1).2).1).2).1)) (((((r1).2).1).2).2).1 ((((((r1).2).1).2).2).2).1 (((((((r1).2).1).2).2).2).2).1 (((((((r1).2).1).2).2).2).2).2 ((((r1).2).2).1).1 (((((r1).2).2).1).2).1 ((((((r1).2).2).1).2).2).1 (((((((r1).2).2).1).2).2).2).1 ((((((((r1).2).2).1).2).2).2).2).1 ((((((((r1).2).2).1).2).2).2).2).2 (((((r1).2).2).2).1).1 (((((r1).2).2).2).1).2 ((((((r1).2).2).2).2).1).1 ((((((r1).2).2).2).2).1).2 (EC.decL ec_48 (EC.encL ec_48 (((((r1).2).2).2).2).2))) fun r2 =>
                      (some ((r2).1, ())))))))
              (fun r1 => (some ((r1).1, ()))) r0)))))
    (gdE (EC.isL ec_48 (EC.encL ec_48 b0_1)) <|
      (gdE (EC.isL ec_48 (EC.encL ec_48 b9)) <|
        (Option.bind (posthouselaw6_MeetingProposeMatchesSpec_g12 false b0 (EC.decL ec_48 (EC.encL ec_48 b0_1)) b0_2 b0_3 b0_4 b0_5 b4 b4_1 b4_2 b4_3 b4_4 b4_5 b5 b5_1 b6 b6_1 (EC.decL ec_48 (EC.encL ec_48 b9))) fun r0 =>
          (Sum.elim (fun r1 => (brE ((((((((r1).2).2).2).2).1).1 == (0 : Int)) == true)
              (brE (((((((r1).2).1).2).2).2).2).2
                (Option.bind (posthouseref5_At_s (8 : Int) (-(4 : Int))) fun r2 =>
                  (gdE (EC.isL ec_48 (EC.encL ec_48 ((((r1).2).1).2).1)) <|
                    (gdE (EC.isL ec_48 (EC.encL ec_48 (((((r1).2).2).2).2).2)) <|
                      (Option.bind (posthouselaw6_MeetingProposeMatchesSpec_g15 (((r1).2).1).1 (EC.decL ec_48 (EC.encL ec_48 ((((r1).2).1).2).1)) (((((r1).2).1).2).2).1 ((((((r1).2).1).2).2).2).1 (((((((r1).2).1).2).2).2).2).1 (((((((r1).2).1).2).2).2).2).2 ((((r1).2).2).1).1 (((((r1).2).2).1).2).1 ((((((r1).2).2).1).2).2).1 (((((((r1).2).2).1).2).2).2).1 ((((((((r1).2).2).1).2).2).2).2).1 ((((((((r1).2).2).1).2).2).2).2).2 (((((r1).2).2).2).1).1 (((((r1).2).2).2).1).2 (r2).1 (r2).2 (EC.decL ec_48 (EC.encL ec_48 (((((r1).2).2).2).2).2))) fun r3 =>
                        (some ((r3).1, ()))))))
                (gdE (EC.isL ec_48 (EC.encL ec_48 ((((r1).2).1).2).1)) <|
                  (gdE (EC.isL ec_48 (EC.encL ec_48 (((((r1).2).2).2).2).2)) <|
                    (Option.bind (posthouselaw6_MeetingProposeMatchesSpec_g15 (((r1).2).1).1 (EC.decL ec_48 (EC.encL ec_48 ((((r1).2).1).2).1)) (((((r1).2).1).2).2).1 ((((((r1).2).1).2).2).2).1 (((((((r1).2).1).2).2).2).2).1 (((((((r1).2).1).2).2).2).2).2 ((((r1).2).2).1).1 (((((r1).2).2).1).2).1 ((((((r1).2).2).1).2).2).1 (((((((r1).2).2).1).2).2).2).1 ((((((((r1).2).2).1).2).2).2).2).1 ((((((((r1).2).2).1).2).2).2).2).2 (((((r1).2).2).2).1).1 (((((r1).2).2).2).1).2 ((((((r1).2).2).2).2).1).1 ((((((r1).2).2).2).2).1).2 (EC.decL ec_48 (EC.encL ec_48 (((((r1).2).2).2).2).2))) fun r2 =>
                      (some ((r2).1, ()))))))
              (gdE (EC.isL ec_48 (EC.encL ec_48 ((((r1).2).1).2).1)) <|
                (gdE (EC.isL ec_48 (EC.encL ec_48 (((((r1).2).2).2).2).2)) <|
                  (Option.bind (posthouselaw6_MeetingProposeMatchesSpec_g15 (((r1).2).1).1 (EC.decL ec_48 (EC.encL ec_48 ((((r1).2).1).2).1)) (((((r1).2).1).2).2).1 ((((((r1).2).1).2).2).2).1 (((((((r1).2).1).2).2).2).2).1 (((((((r1).2).1).2).2).2).2).2 ((((r1).2).2).1).1 (((((r1).2).2).1).2).1 ((((((r1).2).2).1).2).2).1 (((((((r1).2).2).1).2).2).2).1 ((((((((r1).2).2).1).2).2).2).2).1 ((((((((r1).2).2).1).2).2).2).2).2 (((((r1).2).2).2).1).1 (((((r1).2).2).2).1).2 ((((((r1).2).2).2).2).1).1 ((((((r1).2).2).2).2).1).2 (EC.decL ec_48 (EC.encL ec_48 (((((r1).2).2).2).2).2))) fun r2 =>
                    (some ((r2).1, ())))))))
            (fun r1 => (some ((r1).1, ()))) r0))))))
theorem posthouselaw6_MeetingProposeMatchesSpec_g11_eq {b0 : ByteArray} {b0_1 : (List S48)} {b0_2 : Int} {b0_3 : Int} {b0_4 : Int} {b0_5 : Bool} {b1 : Int} {b1_1 : Int} {b2 : ByteArray} {b2_1 : Nat} {b2_2 : Int} {b2_3 : Int} {b2_4 : Int} {b2_5 : Bool} {b3 : Int} {b3_1 : Int} {b4 : ByteArray} {b4_1 : Nat} {b4_2 : Int} {b4_3 : Int} {b4_4 : Int} {b4_5 : Bool} {b5 : Int} {b5_1 : Int} {b6 : Int} {b6_1 : Int} {b7 : Int} {b7_1 : Int} {b8 : (List S48)} {b9 : (List S48)} {r : (Bool × Unit)} (h : posthouselaw6_MeetingProposeMatchesSpec_g11_t b0 b0_1 b0_2 b0_3 b0_4 b0_5 b1 b1_1 b2 b2_1 b2_2 b2_3 b2_4 b2_5 b3 b3_1 b4 b4_1 b4_2 b4_3 b4_4 b4_5 b5 b5_1 b6 b6_1 b7 b7_1 b8 b9 = some r) : posthouselaw6_MeetingProposeMatchesSpec_g11 b0 b0_1 b0_2 b0_3 b0_4 b0_5 b1 b1_1 b2 b2_1 b2_2 b2_3 b2_4 b2_5 b3 b3_1 b4 b4_1 b4_2 b4_3 b4_4 b4_5 b5 b5_1 b6 b6_1 b7 b7_1 b8 b9 = some r :=
  gS_tree (es := tab_meeting_Revise) [posthouselaw6_MeetingProposeMatchesSpec_g12_e, posthouselaw6_MeetingProposeMatchesSpec_g15_e] (by kernel_rfl) trivial ⟨⟨_, rfl, rfl⟩, ⟨_, rfl, rfl⟩, trivial⟩ (by kernel_rfl) h
noncomputable def posthouselaw6_MeetingProposeMatchesSpec_g11_e : LEnt Try.prog lv X0 8 117 := gentS Try.prog lv X0 11 (getSeg (cdF Try.f8) 11) (by kernel_rfl) posthouselaw6_MeetingProposeMatchesSpec_g11_s posthouselaw6_MeetingProposeMatchesSpec_g11_o (fun x => posthouselaw6_MeetingProposeMatchesSpec_g11 x.2.1.1 x.2.1.2.1 x.2.1.2.2.1 x.2.1.2.2.2.1 x.2.1.2.2.2.2.1 x.2.1.2.2.2.2.2 x.2.2.1.1 x.2.2.1.2 x.2.2.2.1.1 x.2.2.2.1.2.1 x.2.2.2.1.2.2.1 x.2.2.2.1.2.2.2.1 x.2.2.2.1.2.2.2.2.1 x.2.2.2.1.2.2.2.2.2 x.2.2.2.2.1.1 x.2.2.2.2.1.2 x.2.2.2.2.2.1.1 x.2.2.2.2.2.1.2.1 x.2.2.2.2.2.1.2.2.1 x.2.2.2.2.2.1.2.2.2.1 x.2.2.2.2.2.1.2.2.2.2.1 x.2.2.2.2.2.1.2.2.2.2.2 x.2.2.2.2.2.2.1.1 x.2.2.2.2.2.2.1.2 x.2.2.2.2.2.2.2.1.1 x.2.2.2.2.2.2.2.1.2 x.2.2.2.2.2.2.2.2.1.1 x.2.2.2.2.2.2.2.2.1.2 x.2.2.2.2.2.2.2.2.2.1 x.2.2.2.2.2.2.2.2.2.2) (fun _ _ h => gS_from h)
def posthouselaw6_MeetingProposeMatchesSpec_g9_s : SC ((Unit × Unit × Unit × Unit × Unit × Unit × Unit × Unit) × ((ByteArray × (List S48) × Int × Int × Int × Bool) × (Int × Int) × (ByteArray × Nat × Int × Int × Int × Bool) × (Int × Int) × (ByteArray × Nat × Int × Int × Int × Bool) × (Int × Int) × (Int × Int) × (Int × Int) × (List S48) × (List S48))) := sLS [2, 3, 5, 6, 7, 8, 9, 10] (lCons (vPtr 0 0) (lCons (vPtr 1 0) (lCons (vPtr 2 0) (lCons (vPtr 3 0) (lCons (vPtr 4 0) (lCons (vPtr 5 0) (lCons (vPtr 6 0) (lOne (vPtr 7 0))))))))) (lCons (oSome (bBox (lCons (vC cStr) (lCons (vC (cSl ec_48)) (lCons (vC (cInt .i64)) (lCons (vC (cInt .i64)) (lCons (vC (cInt .i64)) (lOne (vC cBool))))))))) (lCons (oSome (bBox (lCons (vC (cInt .i64)) (lOne (vC (cInt .i64)))))) (lCons (oSome (bBox (lCons (vC cStr) (lCons (vRow 8) (lCons (vC (cInt .i64)) (lCons (vC (cInt .i64)) (lCons (vC (cInt .i64)) (lOne (vC cBool))))))))) (lCons (oSome (bBox (lCons (vC (cInt .i64)) (lOne (vC (cInt .i64)))))) (lCons (oSome (bBox (lCons (vC cStr) (lCons (vRow 9) (lCons (vC (cInt .i64)) (lCons (vC (cInt .i64)) (lCons (vC (cInt .i64)) (lOne (vC cBool))))))))) (lCons (oSome (bBox (lCons (vC (cInt .i64)) (lOne (vC (cInt .i64)))))) (lCons (oSome (bBox (lCons (vC (cInt .i64)) (lOne (vC (cInt .i64)))))) (lCons (oSome (bBox (lCons (vC (cInt .i64)) (lOne (vC (cInt .i64)))))) (lCons (oSome (bRow ec_48)) (lOne (oSome (bRow ec_48)))))))))))) [false, false, false, false, false, false, false, false, false, false] (by decide) (fun _ => rfl)
def posthouselaw6_MeetingProposeMatchesSpec_g9_o1 : SC (Bool × Unit) := sLS [4] (lOne (vC cBool)) lNil [] (by decide) (fun _ => rfl)
def posthouselaw6_MeetingProposeMatchesSpec_g9_o : OC (Bool × Unit) := oAt 1 posthouselaw6_MeetingProposeMatchesSpec_g9_o1
noncomputable def posthouselaw6_MeetingProposeMatchesSpec_g9 (b0 : ByteArray) (b0_1 : (List S48)) (b0_2 : Int) (b0_3 : Int) (b0_4 : Int) (b0_5 : Bool) (b1 : Int) (b1_1 : Int) (b2 : ByteArray) (b2_1 : Nat) (b2_2 : Int) (b2_3 : Int) (b2_4 : Int) (b2_5 : Bool) (b3 : Int) (b3_1 : Int) (b4 : ByteArray) (b4_1 : Nat) (b4_2 : Int) (b4_3 : Int) (b4_4 : Int) (b4_5 : Bool) (b5 : Int) (b5_1 : Int) (b6 : Int) (b6_1 : Int) (b7 : Int) (b7_1 : Int) (b8 : (List S48)) (b9 : (List S48)) : Option (Bool × Unit) := gS Try.prog lv X0 8 117 (getSeg (cdF Try.f8) 9) posthouselaw6_MeetingProposeMatchesSpec_g9_s posthouselaw6_MeetingProposeMatchesSpec_g9_o (((), (), (), (), (), (), (), ()), ((b0, b0_1, b0_2, b0_3, b0_4, b0_5), (b1, b1_1), (b2, b2_1, b2_2, b2_3, b2_4, b2_5), (b3, b3_1), (b4, b4_1, b4_2, b4_3, b4_4, b4_5), (b5, b5_1), (b6, b6_1), (b7, b7_1), b8, b9))
noncomputable def posthouselaw6_MeetingProposeMatchesSpec_g9_t (b0 : ByteArray) (b0_1 : (List S48)) (b0_2 : Int) (b0_3 : Int) (b0_4 : Int) (b0_5 : Bool) (b1 : Int) (b1_1 : Int) (b2 : ByteArray) (b2_1 : Nat) (b2_2 : Int) (b2_3 : Int) (b2_4 : Int) (b2_5 : Bool) (b3 : Int) (b3_1 : Int) (b4 : ByteArray) (b4_1 : Nat) (b4_2 : Int) (b4_3 : Int) (b4_4 : Int) (b4_5 : Bool) (b5 : Int) (b5_1 : Int) (b6 : Int) (b6_1 : Int) (b7 : Int) (b7_1 : Int) (b8 : (List S48)) (b9 : (List S48)) : Option (Bool × Unit) :=
  (brE ((b7 == (0 : Int)) == true)
  (Option.bind (posthouseref6_Proposable_s b1 b1_1) fun r0 =>
    (brE (!r0)
      (Option.bind (posthouseref5_At_s (3 : Int) (-(5 : Int))) fun r1 =>
        (gdE (EC.isL ec_48 (EC.encL ec_48 b0_1)) <|
          (gdE (EC.isL ec_48 (EC.encL ec_48 b8)) <|
            (gdE (EC.isL ec_48 (EC.encL ec_48 b9)) <|
              (Option.bind (posthouselaw6_MeetingProposeMatchesSpec_g11 b0 (EC.decL ec_48 (EC.encL ec_48 b0_1)) b0_2 b0_3 b0_4 b0_5 b1 b1_1 b2 b2_1 b2_2 b2_3 b2_4 b2_5 b3 b3_1 b4 b4_1 b4_2 b4_3 b4_4 b4_5 b5 b5_1 b6 b6_1 (r1).1 (r1).2 (EC.decL ec_48 (EC.encL ec_48 b8)) (EC.decL ec_48 (EC.encL ec_48 b9))) fun r2 =>
                (some ((r2).1, ())))))))
      (gdE (EC.isL ec_48 (EC.encL ec_48 b0_1)) <|
        (gdE (EC.isL ec_48 (EC.encL ec_48 b8)) <|
          (gdE (EC.isL ec_48 (EC.encL ec_48 b9)) <|
            (Option.bind (posthouselaw6_MeetingProposeMatchesSpec_g11 b0 (EC.decL ec_48 (EC.encL ec_48 b0_1)) b0_2 b0_3 b0_4 b0_5 b1 b1_1 b2 b2_1 b2_2 b2_3 b2_4 b2_5 b3 b3_1 b4 b4_1 b4_2 b4_3 b4_4 b4_5 b5 b5_1 b6 b6_1 b7 b7_1 (EC.decL ec_48 (EC.encL ec_48 b8)) (EC.decL ec_48 (EC.encL ec_48 b9))) fun r1 =>
              (some ((r1).1, ()))))))))
  (gdE (EC.isL ec_48 (EC.encL ec_48 b0_1)) <|
    (gdE (EC.isL ec_48 (EC.encL ec_48 b8)) <|
      (gdE (EC.isL ec_48 (EC.encL ec_48 b9)) <|
        (Option.bind (posthouselaw6_MeetingProposeMatchesSpec_g11 b0 (EC.decL ec_48 (EC.encL ec_48 b0_1)) b0_2 b0_3 b0_4 b0_5 b1 b1_1 b2 b2_1 b2_2 b2_3 b2_4 b2_5 b3 b3_1 b4 b4_1 b4_2 b4_3 b4_4 b4_5 b5 b5_1 b6 b6_1 b7 b7_1 (EC.decL ec_48 (EC.encL ec_48 b8)) (EC.decL ec_48 (EC.encL ec_48 b9))) fun r0 =>
          (some ((r0).1, ())))))))
theorem posthouselaw6_MeetingProposeMatchesSpec_g9_eq {b0 : ByteArray} {b0_1 : (List S48)} {b0_2 : Int} {b0_3 : Int} {b0_4 : Int} {b0_5 : Bool} {b1 : Int} {b1_1 : Int} {b2 : ByteArray} {b2_1 : Nat} {b2_2 : Int} {b2_3 : Int} {b2_4 : Int} {b2_5 : Bool} {b3 : Int} {b3_1 : Int} {b4 : ByteArray} {b4_1 : Nat} {b4_2 : Int} {b4_3 : Int} {b4_4 : Int} {b4_5 : Bool} {b5 : Int} {b5_1 : Int} {b6 : Int} {b6_1 : Int} {b7 : Int} {b7_1 : Int} {b8 : (List S48)} {b9 : (List S48)} {r : (Bool × Unit)} (h : posthouselaw6_MeetingProposeMatchesSpec_g9_t b0 b0_1 b0_2 b0_3 b0_4 b0_5 b1 b1_1 b2 b2_1 b2_2 b2_3 b2_4 b2_5 b3 b3_1 b4 b4_1 b4_2 b4_3 b4_4 b4_5 b5 b5_1 b6 b6_1 b7 b7_1 b8 b9 = some r) : posthouselaw6_MeetingProposeMatchesSpec_g9 b0 b0_1 b0_2 b0_3 b0_4 b0_5 b1 b1_1 b2 b2_1 b2_2 b2_3 b2_4 b2_5 b3 b3_1 b4 b4_1 b4_2 b4_3 b4_4 b4_5 b5 b5_1 b6 b6_1 b7 b7_1 b8 b9 = some r :=
  gS_tree (es := tab_meeting_Revise) [posthouselaw6_MeetingProposeMatchesSpec_g11_e] (by kernel_rfl) trivial ⟨⟨_, rfl, rfl⟩, trivial⟩ (by kernel_rfl) h
noncomputable def posthouselaw6_MeetingProposeMatchesSpec_g9_e : LEnt Try.prog lv X0 8 117 := gentS Try.prog lv X0 9 (getSeg (cdF Try.f8) 9) (by kernel_rfl) posthouselaw6_MeetingProposeMatchesSpec_g9_s posthouselaw6_MeetingProposeMatchesSpec_g9_o (fun x => posthouselaw6_MeetingProposeMatchesSpec_g9 x.2.1.1 x.2.1.2.1 x.2.1.2.2.1 x.2.1.2.2.2.1 x.2.1.2.2.2.2.1 x.2.1.2.2.2.2.2 x.2.2.1.1 x.2.2.1.2 x.2.2.2.1.1 x.2.2.2.1.2.1 x.2.2.2.1.2.2.1 x.2.2.2.1.2.2.2.1 x.2.2.2.1.2.2.2.2.1 x.2.2.2.1.2.2.2.2.2 x.2.2.2.2.1.1 x.2.2.2.2.1.2 x.2.2.2.2.2.1.1 x.2.2.2.2.2.1.2.1 x.2.2.2.2.2.1.2.2.1 x.2.2.2.2.2.1.2.2.2.1 x.2.2.2.2.2.1.2.2.2.2.1 x.2.2.2.2.2.1.2.2.2.2.2 x.2.2.2.2.2.2.1.1 x.2.2.2.2.2.2.1.2 x.2.2.2.2.2.2.2.1.1 x.2.2.2.2.2.2.2.1.2 x.2.2.2.2.2.2.2.2.1.1 x.2.2.2.2.2.2.2.2.1.2 x.2.2.2.2.2.2.2.2.2.1 x.2.2.2.2.2.2.2.2.2.2) (fun _ _ h => gS_from h)
def posthouselaw6_MeetingProposeMatchesSpec_cr : Cod (V × List B) Bool := (cFstU (cPair (vC cBool) lNil))
noncomputable def posthouselaw6_MeetingProposeMatchesSpec_s (m_Organizer : ByteArray) (m_Guests : (List S48)) (m_Round : Int) (m_Proposed_From : Int) (m_Proposed_To : Int) (m_Cancelled : Bool) (p_From : Int) (p_To : Int) : Option Bool := fS Try.prog lv X0 8 posthouselaw6_MeetingProposeMatchesSpec_ca posthouselaw6_MeetingProposeMatchesSpec_cr ((m_Organizer, m_Guests, m_Round, m_Proposed_From, m_Proposed_To, m_Cancelled), (p_From, p_To))
noncomputable def posthouselaw6_MeetingProposeMatchesSpec_t (m_Organizer : ByteArray) (m_Guests : (List S48)) (m_Round : Int) (m_Proposed_From : Int) (m_Proposed_To : Int) (m_Cancelled : Bool) (p_From : Int) (p_To : Int) : Option Bool :=
  (gdE (EC.isL ec_48 (EC.encL ec_48 m_Guests)) <|
  (Option.bind (meeting_Propose_s m_Organizer (EC.decL ec_48 (EC.encL ec_48 m_Guests)) m_Round m_Proposed_From m_Proposed_To m_Cancelled p_From p_To) fun r0 =>
    (gdE (EC.isL ec_48 (EC.encL ec_48 m_Guests)) <|
      (Option.bind (meeting_Cancel_s m_Organizer (EC.decL ec_48 (EC.encL ec_48 m_Guests)) m_Round m_Proposed_From m_Proposed_To m_Cancelled) fun r1 =>
        (gdE (EC.isL ec_48 (EC.encL ec_48 m_Guests)) <|
          (Option.bind (posthouseref6_MeetingFault_s m_Organizer (EC.decL ec_48 (EC.encL ec_48 m_Guests)) m_Round m_Proposed_From m_Proposed_To m_Cancelled) fun r2 =>
            (gdE (EC.isL ec_48 (EC.encL ec_48 m_Guests)) <|
              (Option.bind (meeting_Validate_s m_Organizer (EC.decL ec_48 (EC.encL ec_48 m_Guests)) m_Round m_Proposed_From m_Proposed_To m_Cancelled) fun r3 =>
                (brE (!(((r3).1 == (r2).1) && (((r3).2 == (r2).2) && true)))
                  (some false)
                  (brE (((r2).1 == (0 : Int)) == true)
                    (brE (m_Cancelled == false)
                      (brE (m_Round == (1000000 : Int))
                        (Option.bind (posthouseref5_At_s (8 : Int) (-(4 : Int))) fun r4 =>
                          (gdE (EC.isL ec_48 (EC.encL ec_48 m_Guests)) <|
                            (gdE (EC.isL ec_48 (EC.encL ec_48 (r0).2)) <|
                              (gdE (EC.isL ec_48 (EC.encL ec_48 (r1).2)) <|
                                (Option.bind (posthouselaw6_MeetingProposeMatchesSpec_g9 m_Organizer (EC.decL ec_48 (EC.encL ec_48 m_Guests)) m_Round m_Proposed_From m_Proposed_To m_Cancelled p_From p_To (((r0).1).1).1 ((((r0).1).1).2).1 (((((r0).1).1).2).2).1 ((((((r0).1).1).2).2).2).1 (((((((r0).1).1).2).2).2).2).1 (((((((r0).1).1).2).2).2).2).2 (((r0).1).2).1 (((r0).1).2).2 (((r1).1).1).1 ((((r1).1).1).2).1 (((((r1).1).1).2).2).1 ((((((r1).1).1).2).2).2).1 (((((((r1).1).1).2).2).2).2).1 (((((((r1).1).1).2).2).2).2).2 (((r1).1).2).1 (((r1).1).2).2 (r2).1 (r2).2 (r4).1 (r4).2 (EC.decL ec_48 (EC.encL ec_48 (r0).2)) (EC.decL ec_48 (EC.encL ec_48 (r1).2))) fun r5 =>
                                  (some (r5).1))))))
                        (gdE (EC.isL ec_48 (EC.encL ec_48 m_Guests)) <|
                          (gdE (EC.isL ec_48 (EC.encL ec_48 (r0).2)) <|
                            (gdE (EC.isL ec_48 (EC.encL ec_48 (r1).2)) <|
                              (Option.bind (posthouselaw6_MeetingProposeMatchesSpec_g9 m_Organizer (EC.decL ec_48 (EC.encL ec_48 m_Guests)) m_Round m_Proposed_From m_Proposed_To m_Cancelled p_From p_To (((r0).1).1).1 ((((r0).1).1).2).1 (((((r0).1).1).2).2).1 ((((((r0).1).1).2).2).2).1 (((((((r0).1).1).2).2).2).2).1 (((((((r0).1).1).2).2).2).2).2 (((r0).1).2).1 (((r0).1).2).2 (((r1).1).1).1 ((((r1).1).1).2).1 (((((r1).1).1).2).2).1 ((((((r1).1).1).2).2).2).1 (((((((r1).1).1).2).2).2).2).1 (((((((r1).1).1).2).2).2).2).2 (((r1).1).2).1 (((r1).1).2).2 (r2).1 (r2).2 (r2).1 (r2).2 (EC.decL ec_48 (EC.encL ec_48 (r0).2)) (EC.decL ec_48 (EC.encL ec_48 (r1).2))) fun r4 =>
                                (some (r4).1))))))
                      (Option.bind (posthouseref5_At_s (8 : Int) (-(4 : Int))) fun r4 =>
                        (gdE (EC.isL ec_48 (EC.encL ec_48 m_Guests)) <|
                          (gdE (EC.isL ec_48 (EC.encL ec_48 (r0).2)) <|
                            (gdE (EC.isL ec_48 (EC.encL ec_48 (r1).2)) <|
                              (Option.bind (posthouselaw6_MeetingProposeMatchesSpec_g9 m_Organizer (EC.decL ec_48 (EC.encL ec_48 m_Guests)) m_Round m_Proposed_From m_Proposed_To m_Cancelled p_From p_To (((r0).1).1).1 ((((r0).1).1).2).1 (((((r0).1).1).2).2).1 ((((((r0).1).1).2).2).2).1 (((((((r0).1).1).2).2).2).2).1 (((((((r0).1).1).2).2).2).2).2 (((r0).1).2).1 (((r0).1).2).2 (((r1).1).1).1 ((((r1).1).1).2).1 (((((r1).1).1).2).2).1 ((((((r1).1).1).2).2).2).1 (((((((r1).1).1).2).2).2).2).1 (((((((r1).1).1).2).2).2).2).2 (((r1).1).2).1 (((r1).1).2).2 (r2).1 (r2).2 (r4).1 (r4).2 (EC.decL ec_48 (EC.encL ec_48 (r0).2)) (EC.decL ec_48 (EC.encL ec_48 (r1).2))) fun r5 =>
                                (some (r5).1)))))))
                    (gdE (EC.isL ec_48 (EC.encL ec_48 m_Guests)) <|
                      (gdE (EC.isL ec_48 (EC.encL ec_48 (r0).2)) <|
                        (gdE (EC.isL ec_48 (EC.encL ec_48 (r1).2)) <|
                          (Option.bind (posthouselaw6_MeetingProposeMatchesSpec_g9 m_Organizer (EC.decL ec_48 (EC.encL ec_48 m_Guests)) m_Round m_Proposed_From m_Proposed_To m_Cancelled p_From p_To (((r0).1).1).1 ((((r0).1).1).2).1 (((((r0).1).1).2).2).1 ((((((r0).1).1).2).2).2).1 (((((((r0).1).1).2).2).2).2).1 (((((((r0).1).1).2).2).2).2).2 (((r0).1).2).1 (((r0).1).2).2 (((r1).1).1).1 ((((r1).1).1).2).1 (((((r1).1).1).2).2).1 ((((((r1).1).1).2).2).2).1 (((((((r1).1).1).2).2).2).2).1 (((((((r1).1).1).2).2).2).2).2 (((r1).1).2).1 (((r1).1).2).2 (r2).1 (r2).2 (r2).1 (r2).2 (EC.decL ec_48 (EC.encL ec_48 (r0).2)) (EC.decL ec_48 (EC.encL ec_48 (r1).2))) fun r4 =>
                            (some (r4).1)))))))))))))))
theorem posthouselaw6_MeetingProposeMatchesSpec_eq {m_Organizer : ByteArray} {m_Guests : (List S48)} {m_Round : Int} {m_Proposed_From : Int} {m_Proposed_To : Int} {m_Cancelled : Bool} {p_From : Int} {p_To : Int} {r : Bool} (h : posthouselaw6_MeetingProposeMatchesSpec_t m_Organizer m_Guests m_Round m_Proposed_From m_Proposed_To m_Cancelled p_From p_To = some r) : posthouselaw6_MeetingProposeMatchesSpec_s m_Organizer m_Guests m_Round m_Proposed_From m_Proposed_To m_Cancelled p_From p_To = some r :=
  fS_tree (es := tab_meeting_Revise) [posthouselaw6_MeetingProposeMatchesSpec_g9_e] Try.func8 rfl (by kernel_rfl) rfl (by kernel_rfl) (by kernel_rfl) trivial ⟨⟨_, rfl, rfl⟩, trivial⟩ (by kernel_rfl) h
noncomputable def posthouselaw6_MeetingProposeMatchesSpec_e : Ent Try.prog lv X0 := entS Try.prog lv X0 8 [] posthouselaw6_MeetingProposeMatchesSpec_ca posthouselaw6_MeetingProposeMatchesSpec_cr (fun x => posthouselaw6_MeetingProposeMatchesSpec_s x.1.1 x.1.2.1 x.1.2.2.1 x.1.2.2.2.1 x.1.2.2.2.2.1 x.1.2.2.2.2.2 x.2.1 x.2.2) (fun _ _ h => fS_call h)
noncomputable def tab_posthouselaw6_MeetingProposeMatchesSpec : List (Ent Try.prog lv X0) := posthouselaw6_MeetingProposeMatchesSpec_e :: tab_meeting_Revise
def posthouselaw6_MeetingReviseMatchesSpec_ca : Cod (List V) (ByteArray × (List S48) × Int × Int × Int × Bool) := (lOne (vAgg (lCons (vC cStr) (lCons (vC (cSl ec_48)) (lCons (vC (cInt .i64)) (lCons (vC (cInt .i64)) (lCons (vC (cInt .i64)) (lOne (vC cBool)))))))))
def posthouselaw6_MeetingReviseMatchesSpec_g10_s : SC ((Unit × Unit × Bool × Unit × Int × Int) × ((ByteArray × (List S48) × Int × Int × Int × Bool) × (ByteArray × Nat × Int × Int × Int × Bool) × (Int × Int) × (List S48))) := sLS [1, 3, 4, 5, 7, 8] (lCons (vPtr 0 0) (lCons (vPtr 1 0) (lCons (vC cBool) (lCons (vPtr 2 0) (lCons (vC (cInt .i64)) (lOne (vC (cInt .i64)))))))) (lCons (oSome (bBox (lCons (vC cStr) (lCons (vC (cSl ec_48)) (lCons (vC (cInt .i64)) (lCons (vC (cInt .i64)) (lCons (vC (cInt .i64)) (lOne (vC cBool))))))))) (lCons (oSome (bBox (lCons (vC cStr) (lCons (vRow 3) (lCons (vC (cInt .i64)) (lCons (vC (cInt .i64)) (lCons (vC (cInt .i64)) (lOne (vC cBool))))))))) (lCons (oSome (bBox (lCons (vC (cInt .i64)) (lOne (vC (cInt .i64)))))) (lOne (oSome (bRow ec_48)))))) [false, false, false, false] (by decide) (fun _ => rfl)
def posthouselaw6_MeetingReviseMatchesSpec_g10_o0 : SC ((Unit × Unit × Bool × Unit × Int × Int) × ((ByteArray × (List S48) × Int × Int × Int × Bool) × (ByteArray × Nat × Int × Int × Int × Bool) × (Int × Int) × (List S48))) := sLS [1, 3, 4, 5, 7, 8] (lCons (vPtr 0 0) (lCons (vPtr 1 0) (lCons (vC cBool) (lCons (vPtr 2 0) (lCons (vC (cInt .i64)) (lOne (vC (cInt .i64)))))))) (lCons (oSome (bBox (lCons (vC cStr) (lCons (vC (cSl ec_48)) (lCons (vC (cInt .i64)) (lCons (vC (cInt .i64)) (lCons (vC (cInt .i64)) (lOne (vC cBool))))))))) (lCons (oSome (bBox (lCons (vC cStr) (lCons (vRow 3) (lCons (vC (cInt .i64)) (lCons (vC (cInt .i64)) (lCons (vC (cInt .i64)) (lOne (vC cBool))))))))) (lCons (oSome (bBox (lCons (vC (cInt .i64)) (lOne (vC (cInt .i64)))))) (lOne (oSome (bRow ec_48)))))) [false, false, false, false] (by decide) (fun _ => rfl)
def posthouselaw6_MeetingReviseMatchesSpec_g10_o : OC ((Unit × Unit × Bool × Unit × Int × Int) × ((ByteArray × (List S48) × Int × Int × Int × Bool) × (ByteArray × Nat × Int × Int × Int × Bool) × (Int × Int) × (List S48))) := oAt 0 posthouselaw6_MeetingReviseMatchesSpec_g10_o0
noncomputable def posthouselaw6_MeetingReviseMatchesSpec_g10 (is : Bool) (best : Int) (i : Int) (b0 : ByteArray) (b0_1 : (List S48)) (b0_2 : Int) (b0_3 : Int) (b0_4 : Int) (b0_5 : Bool) (b1 : ByteArray) (b1_1 : Nat) (b1_2 : Int) (b1_3 : Int) (b1_4 : Int) (b1_5 : Bool) (b2 : Int) (b2_1 : Int) (b3 : (List S48)) : Option ((Unit × Unit × Bool × Unit × Int × Int) × ((ByteArray × (List S48) × Int × Int × Int × Bool) × (ByteArray × Nat × Int × Int × Int × Bool) × (Int × Int) × (List S48))) := gS Try.prog lv X0 9 146 (getSeg (cdF Try.f9) 10) posthouselaw6_MeetingReviseMatchesSpec_g10_s posthouselaw6_MeetingReviseMatchesSpec_g10_o (((), (), is, (), best, i), ((b0, b0_1, b0_2, b0_3, b0_4, b0_5), (b1, b1_1, b1_2, b1_3, b1_4, b1_5), (b2, b2_1), b3))
noncomputable def posthouselaw6_MeetingReviseMatchesSpec_g10_t (is : Bool) (best : Int) (i : Int) (b0 : ByteArray) (b0_1 : (List S48)) (b0_2 : Int) (b0_3 : Int) (b0_4 : Int) (b0_5 : Bool) (b1 : ByteArray) (b1_1 : Nat) (b1_2 : Int) (b1_3 : Int) (b1_4 : Int) (b1_5 : Bool) (b2 : Int) (b2_1 : Int) (b3 : (List S48)) : Option ((Unit × Unit × Bool × Unit × Int × Int) × ((ByteArray × (List S48) × Int × Int × Int × Bool) × (ByteArray × Nat × Int × Int × Int × Bool) × (Int × Int) × (List S48))) :=
  (gdE (EC.isL ec_48 (EC.encL ec_48 b0_1)) <|
  (gdE (EC.isL ec_48 (EC.encL ec_48 b3)) <|
    (some (((), ((), (is, ((), (best, (Go.IntKind.wrap Go.IntKind.i64 (i + (1 : Int)))))))), ((b0, ((EC.decL ec_48 (EC.encL ec_48 b0_1)), (b0_2, (b0_3, (b0_4, b0_5))))), ((b1, (b1_1, (b1_2, (b1_3, (b1_4, b1_5))))), ((b2, b2_1), (EC.decL ec_48 (EC.encL ec_48 b3)))))))))
theorem posthouselaw6_MeetingReviseMatchesSpec_g10_eq {is : Bool} {best : Int} {i : Int} {b0 : ByteArray} {b0_1 : (List S48)} {b0_2 : Int} {b0_3 : Int} {b0_4 : Int} {b0_5 : Bool} {b1 : ByteArray} {b1_1 : Nat} {b1_2 : Int} {b1_3 : Int} {b1_4 : Int} {b1_5 : Bool} {b2 : Int} {b2_1 : Int} {b3 : (List S48)} {r : ((Unit × Unit × Bool × Unit × Int × Int) × ((ByteArray × (List S48) × Int × Int × Int × Bool) × (ByteArray × Nat × Int × Int × Int × Bool) × (Int × Int) × (List S48)))} (h : posthouselaw6_MeetingReviseMatchesSpec_g10_t is best i b0 b0_1 b0_2 b0_3 b0_4 b0_5 b1 b1_1 b1_2 b1_3 b1_4 b1_5 b2 b2_1 b3 = some r) : posthouselaw6_MeetingReviseMatchesSpec_g10 is best i b0 b0_1 b0_2 b0_3 b0_4 b0_5 b1 b1_1 b1_2 b1_3 b1_4 b1_5 b2 b2_1 b3 = some r :=
  gS_tree (es := tab_posthouselaw6_MeetingProposeMatchesSpec) [] (by kernel_rfl) trivial trivial (by kernel_rfl) h
noncomputable def posthouselaw6_MeetingReviseMatchesSpec_g10_e : LEnt Try.prog lv X0 9 146 := gentS Try.prog lv X0 10 (getSeg (cdF Try.f9) 10) (by kernel_rfl) posthouselaw6_MeetingReviseMatchesSpec_g10_s posthouselaw6_MeetingReviseMatchesSpec_g10_o (fun x => posthouselaw6_MeetingReviseMatchesSpec_g10 x.1.2.2.1 x.1.2.2.2.2.1 x.1.2.2.2.2.2 x.2.1.1 x.2.1.2.1 x.2.1.2.2.1 x.2.1.2.2.2.1 x.2.1.2.2.2.2.1 x.2.1.2.2.2.2.2 x.2.2.1.1 x.2.2.1.2.1 x.2.2.1.2.2.1 x.2.2.1.2.2.2.1 x.2.2.1.2.2.2.2.1 x.2.2.1.2.2.2.2.2 x.2.2.2.1.1 x.2.2.2.1.2 x.2.2.2.2) (fun _ _ h => gS_from h)
def posthouselaw6_MeetingReviseMatchesSpec_l9_s : SC ((Unit × Unit × Bool × Unit × Int × Int) × ((ByteArray × (List S48) × Int × Int × Int × Bool) × (ByteArray × Nat × Int × Int × Int × Bool) × (Int × Int) × (List S48))) := sLS [1, 3, 4, 5, 7, 8] (lCons (vPtr 0 0) (lCons (vPtr 1 0) (lCons (vC cBool) (lCons (vPtr 2 0) (lCons (vC (cInt .i64)) (lOne (vC (cInt .i64)))))))) (lCons (oSome (bBox (lCons (vC cStr) (lCons (vC (cSl ec_48)) (lCons (vC (cInt .i64)) (lCons (vC (cInt .i64)) (lCons (vC (cInt .i64)) (lOne (vC cBool))))))))) (lCons (oSome (bBox (lCons (vC cStr) (lCons (vRow 3) (lCons (vC (cInt .i64)) (lCons (vC (cInt .i64)) (lCons (vC (cInt .i64)) (lOne (vC cBool))))))))) (lCons (oSome (bBox (lCons (vC (cInt .i64)) (lOne (vC (cInt .i64)))))) (lOne (oSome (bRow ec_48)))))) [false, false, false, false] (by decide) (fun _ => rfl)
def posthouselaw6_MeetingReviseMatchesSpec_l9_o2 : SC ((Unit × Unit × Bool × Unit × Int × Int × Bool) × ((ByteArray × (List S48) × Int × Int × Int × Bool) × (ByteArray × Nat × Int × Int × Int × Bool) × (Int × Int) × (List S48))) := sLS [1, 3, 4, 5, 7, 8, 53] (lCons (vPtr 0 0) (lCons (vPtr 1 0) (lCons (vC cBool) (lCons (vPtr 2 0) (lCons (vC (cInt .i64)) (lCons (vC (cInt .i64)) (lOne (vC cBool)))))))) (lCons (oSome (bBox (lCons (vC cStr) (lCons (vC (cSl ec_48)) (lCons (vC (cInt .i64)) (lCons (vC (cInt .i64)) (lCons (vC (cInt .i64)) (lOne (vC cBool))))))))) (lCons (oSome (bBox (lCons (vC cStr) (lCons (vRow 3) (lCons (vC (cInt .i64)) (lCons (vC (cInt .i64)) (lCons (vC (cInt .i64)) (lOne (vC cBool))))))))) (lCons (oSome (bBox (lCons (vC (cInt .i64)) (lOne (vC (cInt .i64)))))) (lOne (oSome (bRow ec_48)))))) [false, false, false, false] (by decide) (fun _ => rfl)
def posthouselaw6_MeetingReviseMatchesSpec_l9_o : OC ((Unit × Unit × Bool × Unit × Int × Int × Bool) × ((ByteArray × (List S48) × Int × Int × Int × Bool) × (ByteArray × Nat × Int × Int × Int × Bool) × (Int × Int) × (List S48))) := oAt 2 posthouselaw6_MeetingReviseMatchesSpec_l9_o2
noncomputable def posthouselaw6_MeetingReviseMatchesSpec_l9 (is : Bool) (best : Int) (i : Int) (b0 : ByteArray) (b0_1 : (List S48)) (b0_2 : Int) (b0_3 : Int) (b0_4 : Int) (b0_5 : Bool) (b1 : ByteArray) (b1_1 : Nat) (b1_2 : Int) (b1_3 : Int) (b1_4 : Int) (b1_5 : Bool) (b2 : Int) (b2_1 : Int) (b3 : (List S48)) : Option ((Unit × Unit × Bool × Unit × Int × Int × Bool) × ((ByteArray × (List S48) × Int × Int × Int × Bool) × (ByteArray × Nat × Int × Int × Int × Bool) × (Int × Int) × (List S48))) := lS Try.prog lv X0 9 146 (getLoop (cdF Try.f9) 9) posthouselaw6_MeetingReviseMatchesSpec_l9_s posthouselaw6_MeetingReviseMatchesSpec_l9_o (((), (), is, (), best, i), ((b0, b0_1, b0_2, b0_3, b0_4, b0_5), (b1, b1_1, b1_2, b1_3, b1_4, b1_5), (b2, b2_1), b3))
noncomputable def posthouselaw6_MeetingReviseMatchesSpec_l9_t (is : Bool) (best : Int) (i : Int) (b0 : ByteArray) (b0_1 : (List S48)) (b0_2 : Int) (b0_3 : Int) (b0_4 : Int) (b0_5 : Bool) (b1 : ByteArray) (b1_1 : Nat) (b1_2 : Int) (b1_3 : Int) (b1_4 : Int) (b1_5 : Bool) (b2 : Int) (b2_1 : Int) (b3 : (List S48)) : Option ((Unit × Unit × Bool × Unit × Int × Int × Bool) × ((ByteArray × (List S48) × Int × Int × Int × Bool) × (ByteArray × Nat × Int × Int × Int × Bool) × (Int × Int) × (List S48))) :=
  (brE (decide (i < (((List.length (EC.encL ec_48 b0_1)) : Nat) : Int)))
  (gdE (decide ((0 : Int) ≤ i)) <|
    (gdE ((decide ((Int.toNat i) < (List.length (EC.encL ec_48 b0_1)))) && (isE [K1.str, (K1.int Go.IntKind.i64), (K1.int Go.IntKind.i64), (K1.int Go.IntKind.i64)] (0 : Nat) (List.getD (EC.encL ec_48 b0_1) (Int.toNat i) []))) <|
      (brE ((intOf (List.getD (List.getD (EC.encL ec_48 b0_1) (Int.toNat i) []) (1 : Nat) C.ne)) != (3 : Int))
        (gdE (EC.isL ec_48 (EC.encL ec_48 b0_1)) <|
          (gdE (EC.isL ec_48 (EC.encL ec_48 b3)) <|
            (Option.bind (posthouselaw6_MeetingReviseMatchesSpec_g10 is best i b0 (EC.decL ec_48 (EC.encL ec_48 b0_1)) b0_2 b0_3 b0_4 b0_5 b1 b1_1 b1_2 b1_3 b1_4 b1_5 b2 b2_1 (EC.decL ec_48 (EC.encL ec_48 b3))) fun r0 =>
              (gdE (EC.isL ec_48 (EC.encL ec_48 ((((r0).2).1).2).1)) <|
                (gdE (EC.isL ec_48 (EC.encL ec_48 ((((r0).2).2).2).2)) <|
                  (posthouselaw6_MeetingReviseMatchesSpec_l9 ((((r0).1).2).2).1 ((((((r0).1).2).2).2).2).1 ((((((r0).1).2).2).2).2).2 (((r0).2).1).1 (EC.decL ec_48 (EC.encL ec_48 ((((r0).2).1).2).1)) (((((r0).2).1).2).2).1 ((((((r0).2).1).2).2).2).1 (((((((r0).2).1).2).2).2).2).1 (((((((r0).2).1).2).2).2).2).2 ((((r0).2).2).1).1 (((((r0).2).2).1).2).1 ((((((r0).2).2).1).2).2).1 (((((((r0).2).2).1).2).2).2).1 ((((((((r0).2).2).1).2).2).2).2).1 ((((((((r0).2).2).1).2).2).2).2).2 (((((r0).2).2).2).1).1 (((((r0).2).2).2).1).2 (EC.decL ec_48 (EC.encL ec_48 ((((r0).2).2).2).2))))))))
        (gdE (decide ((0 : Int) ≤ i)) <|
          (gdE ((decide ((Int.toNat i) < (List.length (EC.encL ec_48 b0_1)))) && (isE [K1.str, (K1.int Go.IntKind.i64), (K1.int Go.IntKind.i64), (K1.int Go.IntKind.i64)] (0 : Nat) (List.getD (EC.encL ec_48 b0_1) (Int.toNat i) []))) <|
            (brE ((decide (best < (0 : Int))) == false)
              (gdE (decide ((0 : Int) ≤ best)) <|
                (gdE ((decide ((Int.toNat best) < (List.length (EC.encL ec_48 b0_1)))) && (isE [K1.str, (K1.int Go.IntKind.i64), (K1.int Go.IntKind.i64), (K1.int Go.IntKind.i64)] (0 : Nat) (List.getD (EC.encL ec_48 b0_1) (Int.toNat best) []))) <|
                  (brE ((decide ((intOf (List.getD (List.getD (EC.encL ec_48 b0_1) (Int.toNat i) []) (2 : Nat) C.ne)) < (intOf (List.getD (List.getD (EC.encL ec_48 b0_1) (Int.toNat best) []) (2 : Nat) C.ne)))) == false)
                    (gdE (decide ((0 : Int) ≤ best)) <|
                      (gdE ((decide ((Int.toNat best) < (List.length (EC.encL ec_48 b0_1)))) && (isE [K1.str, (K1.int Go.IntKind.i64), (K1.int Go.IntKind.i64), (K1.int Go.IntKind.i64)] (0 : Nat) (List.getD (EC.encL ec_48 b0_1) (Int.toNat best) []))) <|
                        (brE (((intOf (List.getD (List.getD (EC.encL ec_48 b0_1) (Int.toNat i) []) (2 : Nat) C.ne)) == (intOf (List.getD (List.getD (EC.encL ec_48 b0_1) (Int.toNat best) []) (2 : Nat) C.ne))) == true)
                          (gdE (decide ((0 : Int) ≤ best)) <|
                            (gdE ((decide ((Int.toNat best) < (List.length (EC.encL ec_48 b0_1)))) && (isE [K1.str, (K1.int Go.IntKind.i64), (K1.int Go.IntKind.i64), (K1.int Go.IntKind.i64)] (0 : Nat) (List.getD (EC.encL ec_48 b0_1) (Int.toNat best) []))) <|
                              (brE (decide ((intOf (List.getD (List.getD (EC.encL ec_48 b0_1) (Int.toNat i) []) (3 : Nat) C.ne)) < (intOf (List.getD (List.getD (EC.encL ec_48 b0_1) (Int.toNat best) []) (3 : Nat) C.ne))))
                                (gdE (EC.isL ec_48 (EC.encL ec_48 b0_1)) <|
                                  (gdE (EC.isL ec_48 (EC.encL ec_48 b3)) <|
                                    (Option.bind (posthouselaw6_MeetingReviseMatchesSpec_g10 is i i b0 (EC.decL ec_48 (EC.encL ec_48 b0_1)) b0_2 b0_3 b0_4 b0_5 b1 b1_1 b1_2 b1_3 b1_4 b1_5 b2 b2_1 (EC.decL ec_48 (EC.encL ec_48 b3))) fun r0 =>
                                      (gdE (EC.isL ec_48 (EC.encL ec_48 ((((r0).2).1).2).1)) <|
                                        (gdE (EC.isL ec_48 (EC.encL ec_48 ((((r0).2).2).2).2)) <|
                                          (posthouselaw6_MeetingReviseMatchesSpec_l9 ((((r0).1).2).2).1 ((((((r0).1).2).2).2).2).1 ((((((r0).1).2).2).2).2).2 (((r0).2).1).1 (EC.decL ec_48 (EC.encL ec_48 ((((r0).2).1).2).1)) (((((r0).2).1).2).2).1 ((((((r0).2).1).2).2).2).1 (((((((r0).2).1).2).2).2).2).1 (((((((r0).2).1).2).2).2).2).2 ((((r0).2).2).1).1 (((((r0).2).2).1).2).1 ((((((r0).2).2).1).2).2).1 (((((((r0).2).2).1).2).2).2).1 ((((((((r0).2).2).1).2).2).2).2).1 ((((((((r0).2).2).1).2).2).2).2).2 (((((r0).2).2).2).1).1 (((((r0).2).2).2).1).2 (EC.decL ec_48 (EC.encL ec_48 ((((r0).2).2).2).2))))))))
                                (gdE (EC.isL ec_48 (EC.encL ec_48 b0_1)) <|
                                  (gdE (EC.isL ec_48 (EC.encL ec_48 b3)) <|
                                    (Option.bind (posthouselaw6_MeetingReviseMatchesSpec_g10 is best i b0 (EC.decL ec_48 (EC.encL ec_48 b0_1)) b0_2 b0_3 b0_4 b0_5 b1 b1_1 b1_2 b1_3 b1_4 b1_5 b2 b2_1 (EC.decL ec_48 (EC.encL ec_48 b3))) fun r0 =>
                                      (gdE (EC.isL ec_48 (EC.encL ec_48 ((((r0).2).1).2).1)) <|
                                        (gdE (EC.isL ec_48 (EC.encL ec_48 ((((r0).2).2).2).2)) <|
                                          (posthouselaw6_MeetingReviseMatchesSpec_l9 ((((r0).1).2).2).1 ((((((r0).1).2).2).2).2).1 ((((((r0).1).2).2).2).2).2 (((r0).2).1).1 (EC.decL ec_48 (EC.encL ec_48 ((((r0).2).1).2).1)) (((((r0).2).1).2).2).1 ((((((r0).2).1).2).2).2).1 (((((((r0).2).1).2).2).2).2).1 (((((((r0).2).1).2).2).2).2).2 ((((r0).2).2).1).1 (((((r0).2).2).1).2).1 ((((((r0).2).2).1).2).2).1 (((((((r0).2).2).1).2).2).2).1 ((((((((r0).2).2).1).2).2).2).2).1 ((((((((r0).2).2).1).2).2).2).2).2 (((((r0).2).2).2).1).1 (((((r0).2).2).2).1).2 (EC.decL ec_48 (EC.encL ec_48 ((((r0).2).2).2).2)))))))))))
                          (gdE (EC.isL ec_48 (EC.encL ec_48 b0_1)) <|
                            (gdE (EC.isL ec_48 (EC.encL ec_48 b3)) <|
                              (Option.bind (posthouselaw6_MeetingReviseMatchesSpec_g10 is best i b0 (EC.decL ec_48 (EC.encL ec_48 b0_1)) b0_2 b0_3 b0_4 b0_5 b1 b1_1 b1_2 b1_3 b1_4 b1_5 b2 b2_1 (EC.decL ec_48 (EC.encL ec_48 b3))) fun r0 =>
                                (gdE (EC.isL ec_48 (EC.encL ec_48 ((((r0).2).1).2).1)) <|
                                  (gdE (EC.isL ec_48 (EC.encL ec_48 ((((r0).2).2).2).2)) <|
                                    (posthouselaw6_MeetingReviseMatchesSpec_l9 ((((r0).1).2).2).1 ((((((r0).1).2).2).2).2).1 ((((((r0).1).2).2).2).2).2 (((r0).2).1).1 (EC.decL ec_48 (EC.encL ec_48 ((((r0).2).1).2).1)) (((((r0).2).1).2).2).1 ((((((r0).2).1).2).2).2).1 (((((((r0).2).1).2).2).2).2).1 (((((((r0).2).1).2).2).2).2).2 ((((r0).2).2).1).1 (((((r0).2).2).1).2).1 ((((((r0).2).2).1).2).2).1 (((((((r0).2).2).1).2).2).2).1 ((((((((r0).2).2).1).2).2).2).2).1 ((((((((r0).2).2).1).2).2).2).2).2 (((((r0).2).2).2).1).1 (((((r0).2).2).2).1).2 (EC.decL ec_48 (EC.encL ec_48 ((((r0).2).2).2).2)))))))))))
                    (gdE (EC.isL ec_48 (EC.encL ec_48 b0_1)) <|
                      (gdE (EC.isL ec_48 (EC.encL ec_48 b3)) <|
                        (Option.bind (posthouselaw6_MeetingReviseMatchesSpec_g10 is i i b0 (EC.decL ec_48 (EC.encL ec_48 b0_1)) b0_2 b0_3 b0_4 b0_5 b1 b1_1 b1_2 b1_3 b1_4 b1_5 b2 b2_1 (EC.decL ec_48 (EC.encL ec_48 b3))) fun r0 =>
                          (gdE (EC.isL ec_48 (EC.encL ec_48 ((((r0).2).1).2).1)) <|
                            (gdE (EC.isL ec_48 (EC.encL ec_48 ((((r0).2).2).2).2)) <|
                              (posthouselaw6_MeetingReviseMatchesSpec_l9 ((((r0).1).2).2).1 ((((((r0).1).2).2).2).2).1 ((((((r0).1).2).2).2).2).2 (((r0).2).1).1 (EC.decL ec_48 (EC.encL ec_48 ((((r0).2).1).2).1)) (((((r0).2).1).2).2).1 ((((((r0).2).1).2).2).2).1 (((((((r0).2).1).2).2).2).2).1 (((((((r0).2).1).2).2).2).2).2 ((((r0).2).2).1).1 (((((r0).2).2).1).2).1 ((((((r0).2).2).1).2).2).1 (((((((r0).2).2).1).2).2).2).1 ((((((((r0).2).2).1).2).2).2).2).1 ((((((((r0).2).2).1).2).2).2).2).2 (((((r0).2).2).2).1).1 (((((r0).2).2).2).1).2 (EC.decL ec_48 (EC.encL ec_48 ((((r0).2).2).2).2)))))))))))
              (gdE (EC.isL ec_48 (EC.encL ec_48 b0_1)) <|
                (gdE (EC.isL ec_48 (EC.encL ec_48 b3)) <|
                  (Option.bind (posthouselaw6_MeetingReviseMatchesSpec_g10 is i i b0 (EC.decL ec_48 (EC.encL ec_48 b0_1)) b0_2 b0_3 b0_4 b0_5 b1 b1_1 b1_2 b1_3 b1_4 b1_5 b2 b2_1 (EC.decL ec_48 (EC.encL ec_48 b3))) fun r0 =>
                    (gdE (EC.isL ec_48 (EC.encL ec_48 ((((r0).2).1).2).1)) <|
                      (gdE (EC.isL ec_48 (EC.encL ec_48 ((((r0).2).2).2).2)) <|
                        (posthouselaw6_MeetingReviseMatchesSpec_l9 ((((r0).1).2).2).1 ((((((r0).1).2).2).2).2).1 ((((((r0).1).2).2).2).2).2 (((r0).2).1).1 (EC.decL ec_48 (EC.encL ec_48 ((((r0).2).1).2).1)) (((((r0).2).1).2).2).1 ((((((r0).2).1).2).2).2).1 (((((((r0).2).1).2).2).2).2).1 (((((((r0).2).1).2).2).2).2).2 ((((r0).2).2).1).1 (((((r0).2).2).1).2).1 ((((((r0).2).2).1).2).2).1 (((((((r0).2).2).1).2).2).2).1 ((((((((r0).2).2).1).2).2).2).2).1 ((((((((r0).2).2).1).2).2).2).2).2 (((((r0).2).2).2).1).1 (((((r0).2).2).2).1).2 (EC.decL ec_48 (EC.encL ec_48 ((((r0).2).2).2).2))))))))))))))
  (gdE (EC.isL ec_48 (EC.encL ec_48 b0_1)) <|
    (gdE (EC.isL ec_48 (EC.encL ec_48 b3)) <|
      (some (((), ((), (is, ((), (best, (i, false)))))), ((b0, ((EC.decL ec_48 (EC.encL ec_48 b0_1)), (b0_2, (b0_3, (b0_4, b0_5))))), ((b1, (b1_1, (b1_2, (b1_3, (b1_4, b1_5))))), ((b2, b2_1), (EC.decL ec_48 (EC.encL ec_48 b3))))))))))
theorem posthouselaw6_MeetingReviseMatchesSpec_l9_eq {is : Bool} {best : Int} {i : Int} {b0 : ByteArray} {b0_1 : (List S48)} {b0_2 : Int} {b0_3 : Int} {b0_4 : Int} {b0_5 : Bool} {b1 : ByteArray} {b1_1 : Nat} {b1_2 : Int} {b1_3 : Int} {b1_4 : Int} {b1_5 : Bool} {b2 : Int} {b2_1 : Int} {b3 : (List S48)} {r : ((Unit × Unit × Bool × Unit × Int × Int × Bool) × ((ByteArray × (List S48) × Int × Int × Int × Bool) × (ByteArray × Nat × Int × Int × Int × Bool) × (Int × Int) × (List S48)))} (h : posthouselaw6_MeetingReviseMatchesSpec_l9_t is best i b0 b0_1 b0_2 b0_3 b0_4 b0_5 b1 b1_1 b1_2 b1_3 b1_4 b1_5 b2 b2_1 b3 = some r) : posthouselaw6_MeetingReviseMatchesSpec_l9 is best i b0 b0_1 b0_2 b0_3 b0_4 b0_5 b1 b1_1 b1_2 b1_3 b1_4 b1_5 b2 b2_1 b3 = some r :=
  lS_tree (es := tab_posthouselaw6_MeetingProposeMatchesSpec) [posthouselaw6_MeetingReviseMatchesSpec_g10_e] (by kernel_rfl) trivial ⟨⟨_, rfl, rfl⟩, trivial⟩ (by kernel_rfl) h
noncomputable def posthouselaw6_MeetingReviseMatchesSpec_l9_e : LEnt Try.prog lv X0 9 146 := lentS Try.prog lv X0 9 (getLoop (cdF Try.f9) 9) posthouselaw6_MeetingReviseMatchesSpec_l9_s posthouselaw6_MeetingReviseMatchesSpec_l9_o (fun x => posthouselaw6_MeetingReviseMatchesSpec_l9 x.1.2.2.1 x.1.2.2.2.2.1 x.1.2.2.2.2.2 x.2.1.1 x.2.1.2.1 x.2.1.2.2.1 x.2.1.2.2.2.1 x.2.1.2.2.2.2.1 x.2.1.2.2.2.2.2 x.2.2.1.1 x.2.2.1.2.1 x.2.2.1.2.2.1 x.2.2.1.2.2.2.1 x.2.2.1.2.2.2.2.1 x.2.2.1.2.2.2.2.2 x.2.2.2.1.1 x.2.2.2.1.2 x.2.2.2.2) (fun _ _ h => lS_from h)
def posthouselaw6_MeetingReviseMatchesSpec_g5_s : SC ((Unit × Unit × Bool × Unit × Unit) × ((ByteArray × (List S48) × Int × Int × Int × Bool) × (ByteArray × Nat × Int × Int × Int × Bool) × (Int × Int) × (Int × Int) × (List S48))) := sLS [1, 3, 4, 5, 6] (lCons (vPtr 0 0) (lCons (vPtr 1 0) (lCons (vC cBool) (lCons (vPtr 2 0) (lOne (vPtr 3 0)))))) (lCons (oSome (bBox (lCons (vC cStr) (lCons (vC (cSl ec_48)) (lCons (vC (cInt .i64)) (lCons (vC (cInt .i64)) (lCons (vC (cInt .i64)) (lOne (vC cBool))))))))) (lCons (oSome (bBox (lCons (vC cStr) (lCons (vRow 4) (lCons (vC (cInt .i64)) (lCons (vC (cInt .i64)) (lCons (vC (cInt .i64)) (lOne (vC cBool))))))))) (lCons (oSome (bBox (lCons (vC (cInt .i64)) (lOne (vC (cInt .i64)))))) (lCons (oSome (bBox (lCons (vC (cInt .i64)) (lOne (vC (cInt .i64)))))) (lOne (oSome (bRow ec_48))))))) [false, false, false, false, false] (by decide) (fun _ => rfl)
def posthouselaw6_MeetingReviseMatchesSpec_g5_o1 : SC (Bool × Unit) := sLS [2] (lOne (vC cBool)) lNil [] (by decide) (fun _ => rfl)
def posthouselaw6_MeetingReviseMatchesSpec_g5_o : OC (Bool × Unit) := oAt 1 posthouselaw6_MeetingReviseMatchesSpec_g5_o1
noncomputable def posthouselaw6_MeetingReviseMatchesSpec_g5 (is : Bool) (b0 : ByteArray) (b0_1 : (List S48)) (b0_2 : Int) (b0_3 : Int) (b0_4 : Int) (b0_5 : Bool) (b1 : ByteArray) (b1_1 : Nat) (b1_2 : Int) (b1_3 : Int) (b1_4 : Int) (b1_5 : Bool) (b2 : Int) (b2_1 : Int) (b3 : Int) (b3_1 : Int) (b4 : (List S48)) : Option (Bool × Unit) := gS Try.prog lv X0 9 146 (getSeg (cdF Try.f9) 5) posthouselaw6_MeetingReviseMatchesSpec_g5_s posthouselaw6_MeetingReviseMatchesSpec_g5_o (((), (), is, (), ()), ((b0, b0_1, b0_2, b0_3, b0_4, b0_5), (b1, b1_1, b1_2, b1_3, b1_4, b1_5), (b2, b2_1), (b3, b3_1), b4))
noncomputable def posthouselaw6_MeetingReviseMatchesSpec_g5_t (is : Bool) (b0 : ByteArray) (b0_1 : (List S48)) (b0_2 : Int) (b0_3 : Int) (b0_4 : Int) (b0_5 : Bool) (b1 : ByteArray) (b1_1 : Nat) (b1_2 : Int) (b1_3 : Int) (b1_4 : Int) (b1_5 : Bool) (b2 : Int) (b2_1 : Int) (b3 : Int) (b3_1 : Int) (b4 : (List S48)) : Option (Bool × Unit) :=
  (brE (b3 != (0 : Int))
  (brE (((b2 == b3) && ((b2_1 == b3_1) && true)) == true)
    (brE ((!is) == true)
      (gdE (EC.isL ec_48 (EC.encL ec_48 b4)) <|
        (Option.bind (posthouseref6_SameMeeting_s b1 (EC.decL ec_48 (EC.encL ec_48 b4)) b1_2 b1_3 b1_4 b1_5 (ByteArray.mk (List.toArray [])) (EC.decL ec_48 []) (0 : Int) (0 : Int) (0 : Int) false) fun r0 =>
          (brE (r0 == true)
            (Option.bind posthouselaw6_agreed_s fun r1 =>
              (some (r1, ())))
            (some (false, ())))))
      (some (false, ())))
    (some (false, ())))
  (gdE (EC.isL ec_48 (EC.encL ec_48 b0_1)) <|
    (gdE (EC.isL ec_48 (EC.encL ec_48 b4)) <|
      (Option.bind (posthouselaw6_MeetingReviseMatchesSpec_l9 is (-(1 : Int)) (0 : Int) b0 (EC.decL ec_48 (EC.encL ec_48 b0_1)) b0_2 b0_3 b0_4 b0_5 b1 b1_1 b1_2 b1_3 b1_4 b1_5 b2 b2_1 (EC.decL ec_48 (EC.encL ec_48 b4))) fun r0 =>
        (brE (decide (((((((r0).1).2).2).2).2).1 < (0 : Int)))
          (brE (((((((r0).2).2).2).1).1 == (0 : Int)) == true)
            (brE ((!((((r0).1).2).2).1) == true)
              (gdE (EC.isL ec_48 (EC.encL ec_48 ((((r0).2).2).2).2)) <|
                (gdE (EC.isL ec_48 (EC.encL ec_48 ((((r0).2).1).2).1)) <|
                  (Option.bind (posthouseref6_SameMeeting_s ((((r0).2).2).1).1 (EC.decL ec_48 (EC.encL ec_48 ((((r0).2).2).2).2)) ((((((r0).2).2).1).2).2).1 (((((((r0).2).2).1).2).2).2).1 ((((((((r0).2).2).1).2).2).2).2).1 ((((((((r0).2).2).1).2).2).2).2).2 (((r0).2).1).1 (EC.decL ec_48 (EC.encL ec_48 ((((r0).2).1).2).1)) (((((r0).2).1).2).2).1 ((((((r0).2).1).2).2).2).1 (((((((r0).2).1).2).2).2).2).1 (((((((r0).2).1).2).2).2).2).2) fun r1 =>
                    (brE (r1 == true)
                      (Option.bind posthouselaw6_agreed_s fun r2 =>
                        (some (r2, ())))
                      (some (false, ()))))))
              (some (false, ())))
            (some (false, ())))
          (brE (((((((r0).2).2).2).1).1 == (0 : Int)) == true)
            (brE (((((r0).1).2).2).1 == true)
              (gdE (decide ((0 : Int) ≤ ((((((r0).1).2).2).2).2).1)) <|
                (gdE ((decide ((Int.toNat ((((((r0).1).2).2).2).2).1) < (List.length (EC.encL ec_48 ((((r0).2).1).2).1)))) && (isE [K1.str, (K1.int Go.IntKind.i64), (K1.int Go.IntKind.i64), (K1.int Go.IntKind.i64)] (0 : Nat) (List.getD (EC.encL ec_48 ((((r0).2).1).2).1) (Int.toNat ((((((r0).1).2).2).2).2).1) []))) <|
                  (gdE (EC.isL ec_48 (EC.encL ec_48 ((((r0).2).1).2).1)) <|
                    (Option.bind (posthouseref6_Proposed_s (((r0).2).1).1 (EC.decL ec_48 (EC.encL ec_48 ((((r0).2).1).2).1)) (((((r0).2).1).2).2).1 ((((((r0).2).1).2).2).2).1 (((((((r0).2).1).2).2).2).2).1 (((((((r0).2).1).2).2).2).2).2 (intOf (List.getD (List.getD (EC.encL ec_48 ((((r0).2).1).2).1) (Int.toNat ((((((r0).1).2).2).2).2).1) []) (2 : Nat) C.ne)) (intOf (List.getD (List.getD (EC.encL ec_48 ((((r0).2).1).2).1) (Int.toNat ((((((r0).1).2).2).2).2).1) []) (3 : Nat) C.ne))) fun r1 =>
                      (gdE (EC.isL ec_48 (EC.encL ec_48 ((((r0).2).2).2).2)) <|
                        (gdE (EC.isL ec_48 (EC.encL ec_48 (r1).2)) <|
                          (Option.bind (posthouseref6_SameMeeting_s ((((r0).2).2).1).1 (EC.decL ec_48 (EC.encL ec_48 ((((r0).2).2).2).2)) ((((((r0).2).2).1).2).2).1 (((((((r0).2).2).1).2).2).2).1 ((((((((r0).2).2).1).2).2).2).2).1 ((((((((r0).2).2).1).2).2).2).2).2 ((r1).1).1 (EC.decL ec_48 (EC.encL ec_48 (r1).2)) ((((r1).1).2).2).1 (((((r1).1).2).2).2).1 ((((((r1).1).2).2).2).2).1 ((((((r1).1).2).2).2).2).2) fun r2 =>
                            (brE (r2 == true)
                              (Option.bind posthouselaw6_agreed_s fun r3 =>
                                (some (r3, ())))
                              (some (false, ()))))))))))
              (some (false, ())))
            (some (false, ()))))))))
theorem posthouselaw6_MeetingReviseMatchesSpec_g5_eq {is : Bool} {b0 : ByteArray} {b0_1 : (List S48)} {b0_2 : Int} {b0_3 : Int} {b0_4 : Int} {b0_5 : Bool} {b1 : ByteArray} {b1_1 : Nat} {b1_2 : Int} {b1_3 : Int} {b1_4 : Int} {b1_5 : Bool} {b2 : Int} {b2_1 : Int} {b3 : Int} {b3_1 : Int} {b4 : (List S48)} {r : (Bool × Unit)} (h : posthouselaw6_MeetingReviseMatchesSpec_g5_t is b0 b0_1 b0_2 b0_3 b0_4 b0_5 b1 b1_1 b1_2 b1_3 b1_4 b1_5 b2 b2_1 b3 b3_1 b4 = some r) : posthouselaw6_MeetingReviseMatchesSpec_g5 is b0 b0_1 b0_2 b0_3 b0_4 b0_5 b1 b1_1 b1_2 b1_3 b1_4 b1_5 b2 b2_1 b3 b3_1 b4 = some r :=
  gS_tree (es := tab_posthouselaw6_MeetingProposeMatchesSpec) [posthouselaw6_MeetingReviseMatchesSpec_l9_e] (by kernel_rfl) ⟨⟨_, rfl, rfl⟩, trivial⟩ trivial (by kernel_rfl) h
noncomputable def posthouselaw6_MeetingReviseMatchesSpec_g5_e : LEnt Try.prog lv X0 9 146 := gentS Try.prog lv X0 5 (getSeg (cdF Try.f9) 5) (by kernel_rfl) posthouselaw6_MeetingReviseMatchesSpec_g5_s posthouselaw6_MeetingReviseMatchesSpec_g5_o (fun x => posthouselaw6_MeetingReviseMatchesSpec_g5 x.1.2.2.1 x.2.1.1 x.2.1.2.1 x.2.1.2.2.1 x.2.1.2.2.2.1 x.2.1.2.2.2.2.1 x.2.1.2.2.2.2.2 x.2.2.1.1 x.2.2.1.2.1 x.2.2.1.2.2.1 x.2.2.1.2.2.2.1 x.2.2.1.2.2.2.2.1 x.2.2.1.2.2.2.2.2 x.2.2.2.1.1 x.2.2.2.1.2 x.2.2.2.2.1.1 x.2.2.2.2.1.2 x.2.2.2.2.2) (fun _ _ h => gS_from h)
def posthouselaw6_MeetingReviseMatchesSpec_cr : Cod (V × List B) Bool := (cFstU (cPair (vC cBool) lNil))
noncomputable def posthouselaw6_MeetingReviseMatchesSpec_s (m_Organizer : ByteArray) (m_Guests : (List S48)) (m_Round : Int) (m_Proposed_From : Int) (m_Proposed_To : Int) (m_Cancelled : Bool) : Option Bool := fS Try.prog lv X0 9 posthouselaw6_MeetingReviseMatchesSpec_ca posthouselaw6_MeetingReviseMatchesSpec_cr (m_Organizer, m_Guests, m_Round, m_Proposed_From, m_Proposed_To, m_Cancelled)
noncomputable def posthouselaw6_MeetingReviseMatchesSpec_t (m_Organizer : ByteArray) (m_Guests : (List S48)) (m_Round : Int) (m_Proposed_From : Int) (m_Proposed_To : Int) (m_Cancelled : Bool) : Option Bool :=
  (gdE (EC.isL ec_48 (EC.encL ec_48 m_Guests)) <|
  (Option.bind (meeting_Revise_s m_Organizer (EC.decL ec_48 (EC.encL ec_48 m_Guests)) m_Round m_Proposed_From m_Proposed_To m_Cancelled) fun r0 =>
    (gdE (EC.isL ec_48 (EC.encL ec_48 m_Guests)) <|
      (Option.bind (posthouseref6_MeetingFault_s m_Organizer (EC.decL ec_48 (EC.encL ec_48 m_Guests)) m_Round m_Proposed_From m_Proposed_To m_Cancelled) fun r1 =>
        (brE (((r1).1 == (0 : Int)) == true)
          (brE (m_Cancelled == false)
            (brE (m_Round == (1000000 : Int))
              (Option.bind (posthouseref5_At_s (8 : Int) (-(4 : Int))) fun r2 =>
                (gdE (EC.isL ec_48 (EC.encL ec_48 m_Guests)) <|
                  (gdE (EC.isL ec_48 (EC.encL ec_48 (r0).2)) <|
                    (Option.bind (posthouselaw6_MeetingReviseMatchesSpec_g5 (((r0).1).2).1 m_Organizer (EC.decL ec_48 (EC.encL ec_48 m_Guests)) m_Round m_Proposed_From m_Proposed_To m_Cancelled (((r0).1).1).1 ((((r0).1).1).2).1 (((((r0).1).1).2).2).1 ((((((r0).1).1).2).2).2).1 (((((((r0).1).1).2).2).2).2).1 (((((((r0).1).1).2).2).2).2).2 ((((r0).1).2).2).1 ((((r0).1).2).2).2 (r2).1 (r2).2 (EC.decL ec_48 (EC.encL ec_48 (r0).2))) fun r3 =>
                      (some (r3).1)))))
              (gdE (EC.isL ec_48 (EC.encL ec_48 m_Guests)) <|
                (gdE (EC.isL ec_48 (EC.encL ec_48 (r0).2)) <|
                  (Option.bind (posthouselaw6_MeetingReviseMatchesSpec_g5 (((r0).1).2).1 m_Organizer (EC.decL ec_48 (EC.encL ec_48 m_Guests)) m_Round m_Proposed_From m_Proposed_To m_Cancelled (((r0).1).1).1 ((((r0).1).1).2).1 (((((r0).1).1).2).2).1 ((((((r0).1).1).2).2).2).1 (((((((r0).1).1).2).2).2).2).1 (((((((r0).1).1).2).2).2).2).2 ((((r0).1).2).2).1 ((((r0).1).2).2).2 (r1).1 (r1).2 (EC.decL ec_48 (EC.encL ec_48 (r0).2))) fun r2 =>
                    (some (r2).1)))))
            (Option.bind (posthouseref5_At_s (8 : Int) (-(4 : Int))) fun r2 =>
              (gdE (EC.isL ec_48 (EC.encL ec_48 m_Guests)) <|
                (gdE (EC.isL ec_48 (EC.encL ec_48 (r0).2)) <|
                  (Option.bind (posthouselaw6_MeetingReviseMatchesSpec_g5 (((r0).1).2).1 m_Organizer (EC.decL ec_48 (EC.encL ec_48 m_Guests)) m_Round m_Proposed_From m_Proposed_To m_Cancelled (((r0).1).1).1 ((((r0).1).1).2).1 (((((r0).1).1).2).2).1 ((((((r0).1).1).2).2).2).1 (((((((r0).1).1).2).2).2).2).1 (((((((r0).1).1).2).2).2).2).2 ((((r0).1).2).2).1 ((((r0).1).2).2).2 (r2).1 (r2).2 (EC.decL ec_48 (EC.encL ec_48 (r0).2))) fun r3 =>
                    (some (r3).1))))))
          (gdE (EC.isL ec_48 (EC.encL ec_48 m_Guests)) <|
            (gdE (EC.isL ec_48 (EC.encL ec_48 (r0).2)) <|
              (Option.bind (posthouselaw6_MeetingReviseMatchesSpec_g5 (((r0).1).2).1 m_Organizer (EC.decL ec_48 (EC.encL ec_48 m_Guests)) m_Round m_Proposed_From m_Proposed_To m_Cancelled (((r0).1).1).1 ((((r0).1).1).2).1 (((((r0).1).1).2).2).1 ((((((r0).1).1).2).2).2).1 (((((((r0).1).1).2).2).2).2).1 (((((((r0).1).1).2).2).2).2).2 ((((r0).1).2).2).1 ((((r0).1).2).2).2 (r1).1 (r1).2 (EC.decL ec_48 (EC.encL ec_48 (r0).2))) fun r2 =>
                (some (r2).1)))))))))
theorem posthouselaw6_MeetingReviseMatchesSpec_eq {m_Organizer : ByteArray} {m_Guests : (List S48)} {m_Round : Int} {m_Proposed_From : Int} {m_Proposed_To : Int} {m_Cancelled : Bool} {r : Bool} (h : posthouselaw6_MeetingReviseMatchesSpec_t m_Organizer m_Guests m_Round m_Proposed_From m_Proposed_To m_Cancelled = some r) : posthouselaw6_MeetingReviseMatchesSpec_s m_Organizer m_Guests m_Round m_Proposed_From m_Proposed_To m_Cancelled = some r :=
  fS_tree (es := tab_posthouselaw6_MeetingProposeMatchesSpec) [posthouselaw6_MeetingReviseMatchesSpec_g5_e] Try.func9 rfl (by kernel_rfl) rfl (by kernel_rfl) (by kernel_rfl) trivial ⟨⟨_, rfl, rfl⟩, trivial⟩ (by kernel_rfl) h
noncomputable def posthouselaw6_MeetingReviseMatchesSpec_e : Ent Try.prog lv X0 := entS Try.prog lv X0 9 [] posthouselaw6_MeetingReviseMatchesSpec_ca posthouselaw6_MeetingReviseMatchesSpec_cr (fun x => posthouselaw6_MeetingReviseMatchesSpec_s x.1 x.2.1 x.2.2.1 x.2.2.2.1 x.2.2.2.2.1 x.2.2.2.2.2) (fun _ _ h => fS_call h)
noncomputable def tab_posthouselaw6_MeetingReviseMatchesSpec : List (Ent Try.prog lv X0) := posthouselaw6_MeetingReviseMatchesSpec_e :: tab_posthouselaw6_MeetingProposeMatchesSpec
def posthouselaw6_MeetingNeedsAll_ca : Cod (List V) ((ByteArray × (List S48) × Int × Int × Int × Bool) × (Int × Int) × (Int × Int) × Int) := (lCons (vAgg (lCons (vC cStr) (lCons (vC (cSl ec_48)) (lCons (vC (cInt .i64)) (lCons (vC (cInt .i64)) (lCons (vC (cInt .i64)) (lOne (vC cBool)))))))) (lCons (vAgg (lCons (vC (cInt .i64)) (lOne (vC (cInt .i64))))) (lCons (vAgg (lCons (vC (cInt .i64)) (lOne (vC (cInt .i64))))) (lOne (vC (cInt .i64))))))
def posthouselaw6_MeetingNeedsAll_l7_s : SC ((Int × Unit × Unit × Unit × Int) × ((ByteArray × (List S48) × Int × Int × Int × Bool) × (Int × Int) × (ByteArray × Nat × Int × Int × Int × Bool) × (List S48))) := sLS [3, 4, 6, 9, 11] (lCons (vC (cInt .i64)) (lCons (vPtr 0 0) (lCons (vPtr 1 0) (lCons (vPtr 2 0) (lOne (vC (cInt .i64))))))) (lCons (oSome (bBox (lCons (vC cStr) (lCons (vC (cSl ec_48)) (lCons (vC (cInt .i64)) (lCons (vC (cInt .i64)) (lCons (vC (cInt .i64)) (lOne (vC cBool))))))))) (lCons (oSome (bBox (lCons (vC (cInt .i64)) (lOne (vC (cInt .i64)))))) (lCons (oSome (bBox (lCons (vC cStr) (lCons (vRow 3) (lCons (vC (cInt .i64)) (lCons (vC (cInt .i64)) (lCons (vC (cInt .i64)) (lOne (vC cBool))))))))) (lOne (oSome (bRow ec_48)))))) [false, false, false, false] (by decide) (fun _ => rfl)
def posthouselaw6_MeetingNeedsAll_l7_o2 : SC ((Int × Unit × Unit × Unit × Int × Bool) × ((ByteArray × (List S48) × Int × Int × Int × Bool) × (Int × Int) × (ByteArray × Nat × Int × Int × Int × Bool) × (List S48))) := sLS [3, 4, 6, 9, 11, 50] (lCons (vC (cInt .i64)) (lCons (vPtr 0 0) (lCons (vPtr 1 0) (lCons (vPtr 2 0) (lCons (vC (cInt .i64)) (lOne (vC cBool))))))) (lCons (oSome (bBox (lCons (vC cStr) (lCons (vC (cSl ec_48)) (lCons (vC (cInt .i64)) (lCons (vC (cInt .i64)) (lCons (vC (cInt .i64)) (lOne (vC cBool))))))))) (lCons (oSome (bBox (lCons (vC (cInt .i64)) (lOne (vC (cInt .i64)))))) (lCons (oSome (bBox (lCons (vC cStr) (lCons (vRow 3) (lCons (vC (cInt .i64)) (lCons (vC (cInt .i64)) (lCons (vC (cInt .i64)) (lOne (vC cBool))))))))) (lOne (oSome (bRow ec_48)))))) [false, false, false, false] (by decide) (fun _ => rfl)
def posthouselaw6_MeetingNeedsAll_l7_o1 : SC (Bool × Unit) := sLS [8] (lOne (vC cBool)) lNil [] (by decide) (fun _ => rfl)
def posthouselaw6_MeetingNeedsAll_l7_o : OC ((Bool × Unit) ⊕ ((Int × Unit × Unit × Unit × Int × Bool) × ((ByteArray × (List S48) × Int × Int × Int × Bool) × (Int × Int) × (ByteArray × Nat × Int × Int × Int × Bool) × (List S48)))) := oOr 1 posthouselaw6_MeetingNeedsAll_l7_o1 (oAt 2 posthouselaw6_MeetingNeedsAll_l7_o2) (fun x => (by decide : (2 : Nat) ≠ 1))
noncomputable def posthouselaw6_MeetingNeedsAll_l7 (from_ : Int) (i : Int) (b0 : ByteArray) (b0_1 : (List S48)) (b0_2 : Int) (b0_3 : Int) (b0_4 : Int) (b0_5 : Bool) (b1 : Int) (b1_1 : Int) (b2 : ByteArray) (b2_1 : Nat) (b2_2 : Int) (b2_3 : Int) (b2_4 : Int) (b2_5 : Bool) (b3 : (List S48)) : Option ((Bool × Unit) ⊕ ((Int × Unit × Unit × Unit × Int × Bool) × ((ByteArray × (List S48) × Int × Int × Int × Bool) × (Int × Int) × (ByteArray × Nat × Int × Int × Int × Bool) × (List S48)))) := lS Try.prog lv X0 7 135 (getLoop (cdF Try.f7) 7) posthouselaw6_MeetingNeedsAll_l7_s posthouselaw6_MeetingNeedsAll_l7_o ((from_, (), (), (), i), ((b0, b0_1, b0_2, b0_3, b0_4, b0_5), (b1, b1_1), (b2, b2_1, b2_2, b2_3, b2_4, b2_5), b3))
noncomputable def posthouselaw6_MeetingNeedsAll_l7_t (from_ : Int) (i : Int) (b0 : ByteArray) (b0_1 : (List S48)) (b0_2 : Int) (b0_3 : Int) (b0_4 : Int) (b0_5 : Bool) (b1 : Int) (b1_1 : Int) (b2 : ByteArray) (b2_1 : Nat) (b2_2 : Int) (b2_3 : Int) (b2_4 : Int) (b2_5 : Bool) (b3 : (List S48)) : Option ((Bool × Unit) ⊕ ((Int × Unit × Unit × Unit × Int × Bool) × ((ByteArray × (List S48) × Int × Int × Int × Bool) × (Int × Int) × (ByteArray × Nat × Int × Int × Int × Bool) × (List S48)))) :=
  (brE (decide (i < (((List.length (EC.encL ec_48 b0_1)) : Nat) : Int)))
  (gdE (EC.isL ec_48 (EC.encL ec_48 b3)) <|
    (Option.bind (meeting_Agreed_s b2 (EC.decL ec_48 (EC.encL ec_48 b3)) b2_2 b2_3 b2_4 b2_5) fun r0 =>
      (brE ((((List.length (EC.encL ec_48 b0_1)) : Nat) : Int) == (0 : Int))
        none
        (gdE (decide ((0 : Int) ≤ (Int.tmod (Go.IntKind.wrap Go.IntKind.i64 (from_ + i)) (((List.length (EC.encL ec_48 b0_1)) : Nat) : Int)))) <|
          (gdE ((decide ((Int.toNat (Int.tmod (Go.IntKind.wrap Go.IntKind.i64 (from_ + i)) (((List.length (EC.encL ec_48 b0_1)) : Nat) : Int))) < (List.length (EC.encL ec_48 b0_1)))) && (isE [K1.str, (K1.int Go.IntKind.i64), (K1.int Go.IntKind.i64), (K1.int Go.IntKind.i64)] (0 : Nat) (List.getD (EC.encL ec_48 b0_1) (Int.toNat (Int.tmod (Go.IntKind.wrap Go.IntKind.i64 (from_ + i)) (((List.length (EC.encL ec_48 b0_1)) : Nat) : Int))) []))) <|
            (gdE (EC.isL ec_48 (EC.encL ec_48 b3)) <|
              (Option.bind (meeting_Answer_s b2 (EC.decL ec_48 (EC.encL ec_48 b3)) b2_2 b2_3 b2_4 b2_5 (strOf (List.getD (List.getD (EC.encL ec_48 b0_1) (Int.toNat (Int.tmod (Go.IntKind.wrap Go.IntKind.i64 (from_ + i)) (((List.length (EC.encL ec_48 b0_1)) : Nat) : Int))) []) (0 : Nat) C.ne)) (1 : Int) b1 b1_1) fun r1 =>
                (brE ((((r0).2).1 != (0 : Int)) == false)
                  (brE (((((r1).1).2).1 != (0 : Int)) == false)
                    (brE (r0).1
                      (some (.inl (false, ())))
                      (gdE (EC.isL ec_48 (EC.encL ec_48 b0_1)) <|
                        (gdE (EC.isL ec_48 (EC.encL ec_48 (r1).2)) <|
                          (posthouselaw6_MeetingNeedsAll_l7 from_ (Go.IntKind.wrap Go.IntKind.i64 (i + (1 : Int))) b0 (EC.decL ec_48 (EC.encL ec_48 b0_1)) b0_2 b0_3 b0_4 b0_5 b1 b1_1 (((r1).1).1).1 ((((r1).1).1).2).1 (((((r1).1).1).2).2).1 ((((((r1).1).1).2).2).2).1 (((((((r1).1).1).2).2).2).2).1 (((((((r1).1).1).2).2).2).2).2 (EC.decL ec_48 (EC.encL ec_48 (r1).2))))))
                    (some (.inl (false, ()))))
                  (some (.inl (false, ())))))))))))
  (gdE (EC.isL ec_48 (EC.encL ec_48 b0_1)) <|
    (gdE (EC.isL ec_48 (EC.encL ec_48 b3)) <|
      (some (.inr ((from_, ((), ((), ((), (i, false))))), ((b0, ((EC.decL ec_48 (EC.encL ec_48 b0_1)), (b0_2, (b0_3, (b0_4, b0_5))))), ((b1, b1_1), ((b2, (b2_1, (b2_2, (b2_3, (b2_4, b2_5))))), (EC.decL ec_48 (EC.encL ec_48 b3)))))))))))
theorem posthouselaw6_MeetingNeedsAll_l7_eq {from_ : Int} {i : Int} {b0 : ByteArray} {b0_1 : (List S48)} {b0_2 : Int} {b0_3 : Int} {b0_4 : Int} {b0_5 : Bool} {b1 : Int} {b1_1 : Int} {b2 : ByteArray} {b2_1 : Nat} {b2_2 : Int} {b2_3 : Int} {b2_4 : Int} {b2_5 : Bool} {b3 : (List S48)} {r : ((Bool × Unit) ⊕ ((Int × Unit × Unit × Unit × Int × Bool) × ((ByteArray × (List S48) × Int × Int × Int × Bool) × (Int × Int) × (ByteArray × Nat × Int × Int × Int × Bool) × (List S48))))} (h : posthouselaw6_MeetingNeedsAll_l7_t from_ i b0 b0_1 b0_2 b0_3 b0_4 b0_5 b1 b1_1 b2 b2_1 b2_2 b2_3 b2_4 b2_5 b3 = some r) : posthouselaw6_MeetingNeedsAll_l7 from_ i b0 b0_1 b0_2 b0_3 b0_4 b0_5 b1 b1_1 b2 b2_1 b2_2 b2_3 b2_4 b2_5 b3 = some r :=
  lS_tree (es := tab_posthouselaw6_MeetingReviseMatchesSpec) [] (by kernel_rfl) trivial trivial (by kernel_rfl) h
noncomputable def posthouselaw6_MeetingNeedsAll_l7_e : LEnt Try.prog lv X0 7 135 := lentS Try.prog lv X0 7 (getLoop (cdF Try.f7) 7) posthouselaw6_MeetingNeedsAll_l7_s posthouselaw6_MeetingNeedsAll_l7_o (fun x => posthouselaw6_MeetingNeedsAll_l7 x.1.1 x.1.2.2.2.2 x.2.1.1 x.2.1.2.1 x.2.1.2.2.1 x.2.1.2.2.2.1 x.2.1.2.2.2.2.1 x.2.1.2.2.2.2.2 x.2.2.1.1 x.2.2.1.2 x.2.2.2.1.1 x.2.2.2.1.2.1 x.2.2.2.1.2.2.1 x.2.2.2.1.2.2.2.1 x.2.2.2.1.2.2.2.2.1 x.2.2.2.1.2.2.2.2.2 x.2.2.2.2) (fun _ _ h => lS_from h)
def posthouselaw6_MeetingNeedsAll_cr : Cod (V × List B) Bool := (cFstU (cPair (vC cBool) lNil))
noncomputable def posthouselaw6_MeetingNeedsAll_s (m_Organizer : ByteArray) (m_Guests : (List S48)) (m_Round : Int) (m_Proposed_From : Int) (m_Proposed_To : Int) (m_Cancelled : Bool) (p_From : Int) (p_To : Int) (q_From : Int) (q_To : Int) (from_ : Int) : Option Bool := fS Try.prog lv X0 7 posthouselaw6_MeetingNeedsAll_ca posthouselaw6_MeetingNeedsAll_cr ((m_Organizer, m_Guests, m_Round, m_Proposed_From, m_Proposed_To, m_Cancelled), (p_From, p_To), (q_From, q_To), from_)
noncomputable def posthouselaw6_MeetingNeedsAll_t (m_Organizer : ByteArray) (m_Guests : (List S48)) (m_Round : Int) (m_Proposed_From : Int) (m_Proposed_To : Int) (m_Cancelled : Bool) (p_From : Int) (p_To : Int) (q_From : Int) (q_To : Int) (from_ : Int) : Option Bool :=
  (gdE (EC.isL ec_48 (EC.encL ec_48 m_Guests)) <|
  (Option.bind (meeting_Propose_s m_Organizer (EC.decL ec_48 (EC.encL ec_48 m_Guests)) m_Round m_Proposed_From m_Proposed_To m_Cancelled p_From p_To) fun r0 =>
    (brE (((((r0).1).2).1 != (0 : Int)) == false)
      (Option.bind (posthouseref5_In_s from_ (0 : Int) (Go.IntKind.wrap Go.IntKind.i64 ((((List.length (EC.encL ec_48 m_Guests)) : Nat) : Int) - (1 : Int)))) fun r1 =>
        (brE (!r1)
          (Option.bind posthouselaw6_agreed_s fun r2 =>
            (some r2))
          (brE (((((((r0).1).1).2).1 : Nat) : Int) != (((List.length (EC.encL ec_48 m_Guests)) : Nat) : Int))
            (some false)
            (gdE (EC.isL ec_48 (EC.encL ec_48 m_Guests)) <|
              (gdE (EC.isL ec_48 (EC.encL ec_48 (r0).2)) <|
                (Option.bind (posthouselaw6_MeetingNeedsAll_l7 from_ (0 : Int) m_Organizer (EC.decL ec_48 (EC.encL ec_48 m_Guests)) m_Round m_Proposed_From m_Proposed_To m_Cancelled q_From q_To (((r0).1).1).1 ((((r0).1).1).2).1 (((((r0).1).1).2).2).1 ((((((r0).1).1).2).2).2).1 (((((((r0).1).1).2).2).2).2).1 (((((((r0).1).1).2).2).2).2).2 (EC.decL ec_48 (EC.encL ec_48 (r0).2))) fun r2 =>
                  (Sum.elim (fun r3 => (some (r3).1))
                    (fun r3 => (gdE (EC.isL ec_48 (EC.encL ec_48 ((((r3).2).2).2).2)) <|
                      (Option.bind (meeting_Agreed_s (((((r3).2).2).2).1).1 (EC.decL ec_48 (EC.encL ec_48 ((((r3).2).2).2).2)) (((((((r3).2).2).2).1).2).2).1 ((((((((r3).2).2).2).1).2).2).2).1 (((((((((r3).2).2).2).1).2).2).2).2).1 (((((((((r3).2).2).2).1).2).2).2).2).2) fun r4 =>
                        (brE ((((r4).2).1 != (0 : Int)) == false)
                          (brE (!(r4).1)
                            (some false)
                            (gdE (EC.isL ec_48 (EC.encL ec_48 ((((r3).2).2).2).2)) <|
                              (Option.bind (meeting_Propose_s (((((r3).2).2).2).1).1 (EC.decL ec_48 (EC.encL ec_48 ((((r3).2).2).2).2)) (((((((r3).2).2).2).1).2).2).1 ((((((((r3).2).2).2).1).2).2).2).1 (((((((((r3).2).2).2).1).2).2).2).2).1 (((((((((r3).2).2).2).1).2).2).2).2).2 ((((r3).2).2).1).1 ((((r3).2).2).1).2) fun r5 =>
                                (brE ((((r5).1).2).1 != (0 : Int))
                                  (brE (((((r5).1).2).1 == (3 : Int)) == false)
                                    (brE (((((r5).1).2).1 == (8 : Int)) == true)
                                      (Option.bind posthouselaw6_agreed_s fun r6 =>
                                        (some r6))
                                      (some false))
                                    (Option.bind posthouselaw6_agreed_s fun r6 =>
                                      (some r6)))
                                  (gdE (EC.isL ec_48 (EC.encL ec_48 (r5).2)) <|
                                    (Option.bind (meeting_Agreed_s (((r5).1).1).1 (EC.decL ec_48 (EC.encL ec_48 (r5).2)) (((((r5).1).1).2).2).1 ((((((r5).1).1).2).2).2).1 (((((((r5).1).1).2).2).2).2).1 (((((((r5).1).1).2).2).2).2).2) fun r6 =>
                                      (brE ((((r6).2).1 == (0 : Int)) == true)
                                        (brE ((!(r6).1) == true)
                                          (Option.bind posthouselaw6_agreed_s fun r7 =>
                                            (some r7))
                                          (some false))
                                        (some false))))))))
                          (some false))))) r2)))))))
      (Option.bind posthouselaw6_agreed_s fun r1 =>
        (some r1)))))
theorem posthouselaw6_MeetingNeedsAll_eq {m_Organizer : ByteArray} {m_Guests : (List S48)} {m_Round : Int} {m_Proposed_From : Int} {m_Proposed_To : Int} {m_Cancelled : Bool} {p_From : Int} {p_To : Int} {q_From : Int} {q_To : Int} {from_ : Int} {r : Bool} (h : posthouselaw6_MeetingNeedsAll_t m_Organizer m_Guests m_Round m_Proposed_From m_Proposed_To m_Cancelled p_From p_To q_From q_To from_ = some r) : posthouselaw6_MeetingNeedsAll_s m_Organizer m_Guests m_Round m_Proposed_From m_Proposed_To m_Cancelled p_From p_To q_From q_To from_ = some r :=
  fS_tree (es := tab_posthouselaw6_MeetingReviseMatchesSpec) [posthouselaw6_MeetingNeedsAll_l7_e] Try.func7 rfl (by kernel_rfl) rfl (by kernel_rfl) (by kernel_rfl) ⟨⟨_, rfl, rfl⟩, trivial⟩ trivial (by kernel_rfl) h
noncomputable def posthouselaw6_MeetingNeedsAll_e : Ent Try.prog lv X0 := entS Try.prog lv X0 7 [] posthouselaw6_MeetingNeedsAll_ca posthouselaw6_MeetingNeedsAll_cr (fun x => posthouselaw6_MeetingNeedsAll_s x.1.1 x.1.2.1 x.1.2.2.1 x.1.2.2.2.1 x.1.2.2.2.2.1 x.1.2.2.2.2.2 x.2.1.1 x.2.1.2 x.2.2.1.1 x.2.2.1.2 x.2.2.2) (fun _ _ h => fS_call h)
noncomputable def tab_posthouselaw6_MeetingNeedsAll : List (Ent Try.prog lv X0) := posthouselaw6_MeetingNeedsAll_e :: tab_posthouselaw6_MeetingReviseMatchesSpec
end Go.Proofs.Ytgmjhnijnpfkgaa
