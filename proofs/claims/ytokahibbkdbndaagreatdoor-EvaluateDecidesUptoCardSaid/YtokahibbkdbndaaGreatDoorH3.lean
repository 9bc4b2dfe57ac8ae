/- Functions of the program as plain functions: made by program from the machine. -/
import Derived.Test.YtokahibbkdbndaaGreatDoorH2
namespace Go.Proofs.YtokahibbkdbndaaGreatDoor
open Go.RowKit
set_option maxRecDepth 100000
noncomputable section
structure S48 where
  Kind : Int
  Tests : (List S48)
  Name : ByteArray
  Pattern : Int
  Text : ByteArray
  N : Int
mutual
def en48 : S48 → List C
  | ⟨a0, a1, a2, a3, a4, a5⟩ => [.int .i64 a0, .sl (en48L a1), .str a2, .int .i64 a3, .str a4, .int .i64 a5]
def en48L : List S48 → List (List C)
  | [] => []
  | x :: xs => en48 x :: en48L xs
end
theorem en48L_map : ∀ xs, en48L xs = xs.map en48
  | [] => rfl
  | x :: xs => by rw [en48L, en48L_map xs]; rfl
mutual
theorem en48_inj : ∀ {x y : S48}, en48 x = en48 y → x = y
  | ⟨a0, a1, a2, a3, a4, a5⟩, ⟨b0, b1, b2, b3, b4, b5⟩, h => by
    simp only [en48, List.cons.injEq, C.int.injEq, C.sl.injEq, C.str.injEq, true_and, and_true] at h
    obtain ⟨h0, h1, h2, h3, h4, h5⟩ := h
    have h1 := en48L_inj h1
    subst h0 h1 h2 h3 h4 h5
    rfl
theorem en48L_inj : ∀ {xs ys : List S48}, en48L xs = en48L ys → xs = ys
  | [], [], _ => rfl
  | [], _ :: _, h => by simp [en48L] at h
  | _ :: _, [], h => by simp [en48L] at h
  | x :: xs, y :: ys, h => by
    simp only [en48L, List.cons.injEq] at h
    rw [en48_inj h.1, en48L_inj h.2]
end
open Classical in
def ec_48 : EC S48 where
  enc := en48
  dec c := if h : ∃ x, en48 x = c then h.choose else ⟨intOf .ne, ([] : (List S48)), strOf .ne, intOf .ne, strOf .ne, intOf .ne⟩
  is c := decide (∃ x, en48 x = c)
  enc_dec {c} h := by
    have h2 : ∃ x, en48 x = c := by simpa using h
    rw [dif_pos h2]
    exact h2.choose_spec
  dec_enc x := by
    have h2 : ∃ y, en48 y = en48 x := ⟨x, rfl⟩
    rw [dif_pos h2]
    exact en48_inj h2.choose_spec
  is_enc x := by simp
theorem enc_48 (x : S48) : ec_48.enc x = [.int .i64 x.Kind, .sl (ec_48.encL x.Tests), .str x.Name, .int .i64 x.Pattern, .str x.Text, .int .i64 x.N] := by
  cases x
  show en48 _ = _
  simp only [en48, en48L_map]
  rfl
theorem dec_nil_48 : ec_48.dec [] = (⟨intOf .ne, ([] : (List S48)), strOf .ne, intOf .ne, strOf .ne, intOf .ne⟩ : S48) := by
  refine dif_neg ?_
  rintro ⟨⟨a0, a1, a2, a3, a4, a5⟩, h⟩
  simp [en48] at h
theorem isE_48 (xs : List S48) (n : Nat) : isE [.int .i64, .sl, .str, .int .i64, .str, .int .i64] 0 ((ec_48.encL xs).getD n []) = decide (n < xs.length) := by
  by_cases h : n < xs.length
  · simp only [EC.getD_lt _ _ h]; simp [enc_48, isE, isK, h]
  · simp only [EC.getD_ge _ _ (Nat.not_lt.1 h)]; simp [isE, isK, h]
theorem at_48_0 (xs : List S48) (n : Nat) : intOf (((ec_48.encL xs).getD n []).getD 0 .ne) = (xs.getD n (ec_48.dec [])).Kind := by
  by_cases h : n < xs.length
  · simp only [EC.getD_lt _ _ h]; simp [enc_48, h, intOf, List.getD_eq_getElem?_getD]
  · simp only [EC.getD_ge _ _ (Nat.not_lt.1 h)]; simp [Nat.not_lt.1 h, dec_nil_48, strOf, intOf, List.getD_eq_getElem?_getD]
theorem at_48_1 (xs : List S48) (n : Nat) : slOf (((ec_48.encL xs).getD n []).getD 1 .ne) = ec_48.encL (xs.getD n (ec_48.dec [])).Tests := by
  by_cases h : n < xs.length
  · simp only [EC.getD_lt _ _ h]; simp [enc_48, h, slOf, List.getD_eq_getElem?_getD]
  · simp only [EC.getD_ge _ _ (Nat.not_lt.1 h)]; simp [Nat.not_lt.1 h, dec_nil_48, strOf, intOf, slOf, List.getD_eq_getElem?_getD, EC.encL]
theorem at_48_2 (xs : List S48) (n : Nat) : strOf (((ec_48.encL xs).getD n []).getD 2 .ne) = (xs.getD n (ec_48.dec [])).Name := by
  by_cases h : n < xs.length
  · simp only [EC.getD_lt _ _ h]; simp [enc_48, h, strOf, List.getD_eq_getElem?_getD]
  · simp only [EC.getD_ge _ _ (Nat.not_lt.1 h)]; simp [Nat.not_lt.1 h, dec_nil_48, strOf, intOf, List.getD_eq_getElem?_getD]
theorem at_48_3 (xs : List S48) (n : Nat) : intOf (((ec_48.encL xs).getD n []).getD 3 .ne) = (xs.getD n (ec_48.dec [])).Pattern := by
  by_cases h : n < xs.length
  · simp only [EC.getD_lt _ _ h]; simp [enc_48, h, intOf, List.getD_eq_getElem?_getD]
  · simp only [EC.getD_ge _ _ (Nat.not_lt.1 h)]; simp [Nat.not_lt.1 h, dec_nil_48, strOf, intOf, List.getD_eq_getElem?_getD]
theorem at_48_4 (xs : List S48) (n : Nat) : strOf (((ec_48.encL xs).getD n []).getD 4 .ne) = (xs.getD n (ec_48.dec [])).Text := by
  by_cases h : n < xs.length
  · simp only [EC.getD_lt _ _ h]; simp [enc_48, h, strOf, List.getD_eq_getElem?_getD]
  · simp only [EC.getD_ge _ _ (Nat.not_lt.1 h)]; simp [Nat.not_lt.1 h, dec_nil_48, strOf, intOf, List.getD_eq_getElem?_getD]
theorem at_48_5 (xs : List S48) (n : Nat) : intOf (((ec_48.encL xs).getD n []).getD 5 .ne) = (xs.getD n (ec_48.dec [])).N := by
  by_cases h : n < xs.length
  · simp only [EC.getD_lt _ _ h]; simp [enc_48, h, intOf, List.getD_eq_getElem?_getD]
  · simp only [EC.getD_ge _ _ (Nat.not_lt.1 h)]; simp [Nat.not_lt.1 h, dec_nil_48, strOf, intOf, List.getD_eq_getElem?_getD]
structure S50 where
  Kind : Int
  Test_Kind : Int
  Test_Tests : (List S48)
  Test_Name : ByteArray
  Test_Pattern : Int
  Test_Text : ByteArray
  Test_N : Int
  Then : (List S50)
  Else : (List S50)
  Act : Int
  Name : ByteArray
  Text : ByteArray
  N : Int
mutual
def en50 : S50 → List C
  | ⟨a0, a1, a2, a3, a4, a5, a6, a7, a8, a9, a10, a11, a12⟩ => [.int .i64 a0, .int .i64 a1, .sl (ec_48.encL a2), .str a3, .int .i64 a4, .str a5, .int .i64 a6, .sl (en50L a7), .sl (en50L a8), .int .i64 a9, .str a10, .str a11, .int .i64 a12]
def en50L : List S50 → List (List C)
  | [] => []
  | x :: xs => en50 x :: en50L xs
end
theorem en50L_map : ∀ xs, en50L xs = xs.map en50
  | [] => rfl
  | x :: xs => by rw [en50L, en50L_map xs]; rfl
mutual
theorem en50_inj : ∀ {x y : S50}, en50 x = en50 y → x = y
  | ⟨a0, a1, a2, a3, a4, a5, a6, a7, a8, a9, a10, a11, a12⟩, ⟨b0, b1, b2, b3, b4, b5, b6, b7, b8, b9, b10, b11, b12⟩, h => by
    simp only [en50, List.cons.injEq, C.int.injEq, C.sl.injEq, C.str.injEq, true_and, and_true] at h
    obtain ⟨h0, h1, h2, h3, h4, h5, h6, h7, h8, h9, h10, h11, h12⟩ := h
    have h2 : a2 = b2 := by have q := congrArg ec_48.decL h2; simpa only [EC.decL_encL] using q
    have h7 := en50L_inj h7
    have h8 := en50L_inj h8
    subst h0 h1 h2 h3 h4 h5 h6 h7 h8 h9 h10 h11 h12
    rfl
theorem en50L_inj : ∀ {xs ys : List S50}, en50L xs = en50L ys → xs = ys
  | [], [], _ => rfl
  | [], _ :: _, h => by simp [en50L] at h
  | _ :: _, [], h => by simp [en50L] at h
  | x :: xs, y :: ys, h => by
    simp only [en50L, List.cons.injEq] at h
    rw [en50_inj h.1, en50L_inj h.2]
end
open Classical in
def ec_50 : EC S50 where
  enc := en50
  dec c := if h : ∃ x, en50 x = c then h.choose else ⟨intOf .ne, intOf .ne, ([] : (List S48)), strOf .ne, intOf .ne, strOf .ne, intOf .ne, ([] : (List S50)), ([] : (List S50)), intOf .ne, strOf .ne, strOf .ne, intOf .ne⟩
  is c := decide (∃ x, en50 x = c)
  enc_dec {c} h := by
    have h2 : ∃ x, en50 x = c := by simpa using h
    rw [dif_pos h2]
    exact h2.choose_spec
  dec_enc x := by
    have h2 : ∃ y, en50 y = en50 x := ⟨x, rfl⟩
    rw [dif_pos h2]
    exact en50_inj h2.choose_spec
  is_enc x := by simp
theorem enc_50 (x : S50) : ec_50.enc x = [.int .i64 x.Kind, .int .i64 x.Test_Kind, .sl (ec_48.encL x.Test_Tests), .str x.Test_Name, .int .i64 x.Test_Pattern, .str x.Test_Text, .int .i64 x.Test_N, .sl (ec_50.encL x.Then), .sl (ec_50.encL x.Else), .int .i64 x.Act, .str x.Name, .str x.Text, .int .i64 x.N] := by
  cases x
  show en50 _ = _
  simp only [en50, en50L_map]
  rfl
theorem dec_nil_50 : ec_50.dec [] = (⟨intOf .ne, intOf .ne, ([] : (List S48)), strOf .ne, intOf .ne, strOf .ne, intOf .ne, ([] : (List S50)), ([] : (List S50)), intOf .ne, strOf .ne, strOf .ne, intOf .ne⟩ : S50) := by
  refine dif_neg ?_
  rintro ⟨⟨a0, a1, a2, a3, a4, a5, a6, a7, a8, a9, a10, a11, a12⟩, h⟩
  simp [en50] at h
theorem isE_50 (xs : List S50) (n : Nat) : isE [.int .i64, .int .i64, .sl, .str, .int .i64, .str, .int .i64, .sl, .sl, .int .i64, .str, .str, .int .i64] 0 ((ec_50.encL xs).getD n []) = decide (n < xs.length) := by
  by_cases h : n < xs.length
  · simp only [EC.getD_lt _ _ h]; simp [enc_50, isE, isK, h]
  · simp only [EC.getD_ge _ _ (Nat.not_lt.1 h)]; simp [isE, isK, h]
theorem at_50_0 (xs : List S50) (n : Nat) : intOf (((ec_50.encL xs).getD n []).getD 0 .ne) = (xs.getD n (ec_50.dec [])).Kind := by
  by_cases h : n < xs.length
  · simp only [EC.getD_lt _ _ h]; simp [enc_50, h, intOf, List.getD_eq_getElem?_getD]
  · simp only [EC.getD_ge _ _ (Nat.not_lt.1 h)]; simp [Nat.not_lt.1 h, dec_nil_50, strOf, intOf, List.getD_eq_getElem?_getD]
theorem at_50_1 (xs : List S50) (n : Nat) : intOf (((ec_50.encL xs).getD n []).getD 1 .ne) = (xs.getD n (ec_50.dec [])).Test_Kind := by
  by_cases h : n < xs.length
  · simp only [EC.getD_lt _ _ h]; simp [enc_50, h, intOf, List.getD_eq_getElem?_getD]
  · simp only [EC.getD_ge _ _ (Nat.not_lt.1 h)]; simp [Nat.not_lt.1 h, dec_nil_50, strOf, intOf, List.getD_eq_getElem?_getD]
theorem at_50_2 (xs : List S50) (n : Nat) : slOf (((ec_50.encL xs).getD n []).getD 2 .ne) = ec_48.encL (xs.getD n (ec_50.dec [])).Test_Tests := by
  by_cases h : n < xs.length
  · simp only [EC.getD_lt _ _ h]; simp [enc_50, h, slOf, List.getD_eq_getElem?_getD]
  · simp only [EC.getD_ge _ _ (Nat.not_lt.1 h)]; simp [Nat.not_lt.1 h, dec_nil_50, strOf, intOf, slOf, List.getD_eq_getElem?_getD, EC.encL]
theorem at_50_3 (xs : List S50) (n : Nat) : strOf (((ec_50.encL xs).getD n []).getD 3 .ne) = (xs.getD n (ec_50.dec [])).Test_Name := by
  by_cases h : n < xs.length
  · simp only [EC.getD_lt _ _ h]; simp [enc_50, h, strOf, List.getD_eq_getElem?_getD]
  · simp only [EC.getD_ge _ _ (Nat.not_lt.1 h)]; simp [Nat.not_lt.1 h, dec_nil_50, strOf, intOf, List.getD_eq_getElem?_getD]
theorem at_50_4 (xs : List S50) (n : Nat) : intOf (((ec_50.encL xs).getD n []).getD 4 .ne) = (xs.getD n (ec_50.dec [])).Test_Pattern := by
  by_cases h : n < xs.length
  · simp only [EC.getD_lt _ _ h]; simp [enc_50, h, intOf, List.getD_eq_getElem?_getD]
  · simp only [EC.getD_ge _ _ (Nat.not_lt.1 h)]; simp [Nat.not_lt.1 h, dec_nil_50, strOf, intOf, List.getD_eq_getElem?_getD]
theorem at_50_5 (xs : List S50) (n : Nat) : strOf (((ec_50.encL xs).getD n []).getD 5 .ne) = (xs.getD n (ec_50.dec [])).Test_Text := by
  by_cases h : n < xs.length
  · simp only [EC.getD_lt _ _ h]; simp [enc_50, h, strOf, List.getD_eq_getElem?_getD]
  · simp only [EC.getD_ge _ _ (Nat.not_lt.1 h)]; simp [Nat.not_lt.1 h, dec_nil_50, strOf, intOf, List.getD_eq_getElem?_getD]
theorem at_50_6 (xs : List S50) (n : Nat) : intOf (((ec_50.encL xs).getD n []).getD 6 .ne) = (xs.getD n (ec_50.dec [])).Test_N := by
  by_cases h : n < xs.length
  · simp only [EC.getD_lt _ _ h]; simp [enc_50, h, intOf, List.getD_eq_getElem?_getD]
  · simp only [EC.getD_ge _ _ (Nat.not_lt.1 h)]; simp [Nat.not_lt.1 h, dec_nil_50, strOf, intOf, List.getD_eq_getElem?_getD]
theorem at_50_7 (xs : List S50) (n : Nat) : slOf (((ec_50.encL xs).getD n []).getD 7 .ne) = ec_50.encL (xs.getD n (ec_50.dec [])).Then := by
  by_cases h : n < xs.length
  · simp only [EC.getD_lt _ _ h]; simp [enc_50, h, slOf, List.getD_eq_getElem?_getD]
  · simp only [EC.getD_ge _ _ (Nat.not_lt.1 h)]; simp [Nat.not_lt.1 h, dec_nil_50, strOf, intOf, slOf, List.getD_eq_getElem?_getD, EC.encL]
theorem at_50_8 (xs : List S50) (n : Nat) : slOf (((ec_50.encL xs).getD n []).getD 8 .ne) = ec_50.encL (xs.getD n (ec_50.dec [])).Else := by
  by_cases h : n < xs.length
  · simp only [EC.getD_lt _ _ h]; simp [enc_50, h, slOf, List.getD_eq_getElem?_getD]
  · simp only [EC.getD_ge _ _ (Nat.not_lt.1 h)]; simp [Nat.not_lt.1 h, dec_nil_50, strOf, intOf, slOf, List.getD_eq_getElem?_getD, EC.encL]
theorem at_50_9 (xs : List S50) (n : Nat) : intOf (((ec_50.encL xs).getD n []).getD 9 .ne) = (xs.getD n (ec_50.dec [])).Act := by
  by_cases h : n < xs.length
  · simp only [EC.getD_lt _ _ h]; simp [enc_50, h, intOf, List.getD_eq_getElem?_getD]
  · simp only [EC.getD_ge _ _ (Nat.not_lt.1 h)]; simp [Nat.not_lt.1 h, dec_nil_50, strOf, intOf, List.getD_eq_getElem?_getD]
theorem at_50_10 (xs : List S50) (n : Nat) : strOf (((ec_50.encL xs).getD n []).getD 10 .ne) = (xs.getD n (ec_50.dec [])).Name := by
  by_cases h : n < xs.length
  · simp only [EC.getD_lt _ _ h]; simp [enc_50, h, strOf, List.getD_eq_getElem?_getD]
  · simp only [EC.getD_ge _ _ (Nat.not_lt.1 h)]; simp [Nat.not_lt.1 h, dec_nil_50, strOf, intOf, List.getD_eq_getElem?_getD]
theorem at_50_11 (xs : List S50) (n : Nat) : strOf (((ec_50.encL xs).getD n []).getD 11 .ne) = (xs.getD n (ec_50.dec [])).Text := by
  by_cases h : n < xs.length
  · simp only [EC.getD_lt _ _ h]; simp [enc_50, h, strOf, List.getD_eq_getElem?_getD]
  · simp only [EC.getD_ge _ _ (Nat.not_lt.1 h)]; simp [Nat.not_lt.1 h, dec_nil_50, strOf, intOf, List.getD_eq_getElem?_getD]
theorem at_50_12 (xs : List S50) (n : Nat) : intOf (((ec_50.encL xs).getD n []).getD 12 .ne) = (xs.getD n (ec_50.dec [])).N := by
  by_cases h : n < xs.length
  · simp only [EC.getD_lt _ _ h]; simp [enc_50, h, intOf, List.getD_eq_getElem?_getD]
  · simp only [EC.getD_ge _ _ (Nat.not_lt.1 h)]; simp [Nat.not_lt.1 h, dec_nil_50, strOf, intOf, List.getD_eq_getElem?_getD]
def rules_Size_ca : Cod (List V) (List S50) := (lOne (vC (cSl ec_50)))
def rules_Size_cr : Cod (V × List B) Int := (cFstU (cPair (vC (cInt .i64)) lNil))
def rules_Size_s (s : (List S50)) : Option Int := fS Tryz.prog lv X0 73 rules_Size_ca rules_Size_cr s
def rules_Size_e : Ent Tryz.prog lv X0 := entS Tryz.prog lv X0 73 [] rules_Size_ca rules_Size_cr (fun x => rules_Size_s x) (fun _ _ h => fS_call h)
def tab_rules_Size : List (Ent Tryz.prog lv X0) := rules_Size_e :: tab_patterns_Match
def rules_Size_l3_s : SC ((Int × (List S50) × Int × Int) × Unit) := sLS [3, 6, 7, 8] (lCons (vC (cInt .i64)) (lCons (vC (cSl ec_50)) (lCons (vC (cInt .i64)) (lOne (vC (cInt .i64)))))) lNil [] [] (by decide) (fun _ => rfl)
def rules_Size_l3_o2 : SC ((Int × (List S50) × Int × Int × Bool) × Unit) := sLS [3, 6, 7, 8, 9] (lCons (vC (cInt .i64)) (lCons (vC (cSl ec_50)) (lCons (vC (cInt .i64)) (lCons (vC (cInt .i64)) (lOne (vC cBool)))))) lNil [] [] (by decide) (fun _ => rfl)
def rules_Size_l3_o : OC ((Int × (List S50) × Int × Int × Bool) × Unit) := oAt 2 rules_Size_l3_o2
def rules_Size_l3 (n : Int) (t6 : (List S50)) (t7 : Int) (t8 : Int) : Option ((Int × (List S50) × Int × Int × Bool) × Unit) := lS Tryz.prog lv X0 73 24 (getLoop (cdF Tryz.f73) 3) rules_Size_l3_s rules_Size_l3_o ((n, t6, t7, t8), ())
def rules_Size_l3_t (n : Int) (t6 : (List S50)) (t7 : Int) (t8 : Int) : Option ((Int × (List S50) × Int × Int × Bool) × Unit) :=
 (brE (decide (t8 < t7))
 (gdE (decide ((0 : Int) ≤ t8)) <|
 (gdE ((decide ((Int.toNat t8) < (List.length (EC.encL ec_50 t6)))) && (isE [(K1.int Go.IntKind.i64), (K1.int Go.IntKind.i64), K1.sl, K1.str, (K1.int Go.IntKind.i64), K1.str, (K1.int Go.IntKind.i64), K1.sl, K1.sl, (K1.int Go.IntKind.i64), K1.str, K1.str, (K1.int Go.IntKind.i64)] (0 : Nat) (List.getD (EC.encL ec_50 t6) (Int.toNat t8) []))) <|
 (gdE (EC.isL ec_50 (slOf (List.getD (List.getD (EC.encL ec_50 t6) (Int.toNat t8) []) (7 : Nat) C.ne))) <|
 (Option.bind (rules_Size_s (EC.decL ec_50 (slOf (List.getD (List.getD (EC.encL ec_50 t6) (Int.toNat t8) []) (7 : Nat) C.ne)))) fun r0 =>
 (gdE (EC.isL ec_50 (slOf (List.getD (List.getD (EC.encL ec_50 t6) (Int.toNat t8) []) (8 : Nat) C.ne))) <|
 (Option.bind (rules_Size_s (EC.decL ec_50 (slOf (List.getD (List.getD (EC.encL ec_50 t6) (Int.toNat t8) []) (8 : Nat) C.ne)))) fun r1 =>
 (gdE (EC.isL ec_50 (EC.encL ec_50 t6)) <|
 (rules_Size_l3 (IntKind.wrap .i64 (n + (IntKind.wrap .i64 ((IntKind.wrap .i64 ((1 : Int) + r0)) + r1)))) (EC.decL ec_50 (EC.encL ec_50 t6)) t7 (IntKind.wrap .i64 (t8 + (1 : Int)))))))))))
 (gdE (EC.isL ec_50 (EC.encL ec_50 t6)) <|
 (some ((n, ((EC.decL ec_50 (EC.encL ec_50 t6)), (t7, (t8, false)))), ()))))
theorem rules_Size_l3_eq {n : Int} {t6 : (List S50)} {t7 : Int} {t8 : Int} {r : ((Int × (List S50) × Int × Int × Bool) × Unit)} (h : rules_Size_l3_t n t6 t7 t8 = some r) : rules_Size_l3 n t6 t7 t8 = some r :=
  lS_tree (es := tab_rules_Size) (hs := []) [] (by kernel_rfl) trivial trivial (by kernel_rfl) h
def rules_Size_l3_e : LEnt Tryz.prog lv X0 73 24 := lentS Tryz.prog lv X0 3 (getLoop (cdF Tryz.f73) 3) rules_Size_l3_s rules_Size_l3_o (fun x => rules_Size_l3 x.1.1 x.1.2.1 x.1.2.2.1 x.1.2.2.2) (fun _ _ h => lS_from h)
def rules_Size_t (s : (List S50)) : Option Int :=
 (gdE (EC.isL ec_50 (EC.encL ec_50 s)) <|
 (Option.bind (rules_Size_l3 (0 : Int) (EC.decL ec_50 (EC.encL ec_50 s)) (((List.length (EC.encL ec_50 s)) : Nat) : Int) (0 : Int)) fun r0 =>
 (some ((r0).1).1)))
theorem rules_Size_eq {s : (List S50)} {r : Int} (h : rules_Size_t s = some r) : rules_Size_s s = some r :=
  fS_tree (es := tab_rules_Size) (hs := []) [rules_Size_l3_e] Tryz.func73 rfl (by kernel_rfl) rfl (by kernel_rfl) (by kernel_rfl) ⟨⟨_, rfl, rfl⟩, trivial⟩ trivial (by kernel_rfl) h
def rules_noTest_ca : Cod (List V) (Int × (List S48) × ByteArray × Int × ByteArray × Int) := (lOne (vAgg (lCons (vC (cInt .i64)) (lCons (vC (cSl ec_48)) (lCons (vC cStr) (lCons (vC (cInt .i64)) (lCons (vC cStr) (lOne (vC (cInt .i64))))))))))
def rules_noTest_cr : Cod (V × List B) Bool := (cFstU (cPair (vC cBool) lNil))
def rules_noTest_s (t_Kind : Int) (t_Tests : (List S48)) (t_Name : ByteArray) (t_Pattern : Int) (t_Text : ByteArray) (t_N : Int) : Option Bool := fS Tryz.prog lv X0 126 rules_noTest_ca rules_noTest_cr (t_Kind, t_Tests, t_Name, t_Pattern, t_Text, t_N)
def rules_noTest_t (t_Kind : Int) (t_Tests : (List S48)) (t_Name : ByteArray) (t_Pattern : Int) (t_Text : ByteArray) (t_N : Int) : Option Bool :=
 (brE ((t_Kind == 0) == true)
 (brE (((((List.length (EC.encL ec_48 t_Tests)) : Nat) : Int) == 0) == true)
 (brE (((ByteArray.toList t_Name) == (ByteArray.toList ⟨#[]⟩)) == true)
 (brE ((t_Pattern == 0) == true)
 (brE (((ByteArray.toList t_Text) == (ByteArray.toList ⟨#[]⟩)) == true)
 (some (t_N == 0))
 (some false))
 (some false))
 (some false))
 (some false))
 (some false))
theorem rules_noTest_eq {t_Kind : Int} {t_Tests : (List S48)} {t_Name : ByteArray} {t_Pattern : Int} {t_Text : ByteArray} {t_N : Int} {r : Bool} (h : rules_noTest_t t_Kind t_Tests t_Name t_Pattern t_Text t_N = some r) : rules_noTest_s t_Kind t_Tests t_Name t_Pattern t_Text t_N = some r :=
  fS_tree (es := tab_rules_Size) (hs := []) [] Tryz.func126 rfl (by kernel_rfl) rfl (by kernel_rfl) (by kernel_rfl) trivial trivial (by kernel_rfl) h
def rules_noTest_e : Ent Tryz.prog lv X0 := entS Tryz.prog lv X0 126 [] rules_noTest_ca rules_noTest_cr (fun x => rules_noTest_s x.1 x.2.1 x.2.2.1 x.2.2.2.1 x.2.2.2.2.1 x.2.2.2.2.2) (fun _ _ h => fS_call h)
def tab_rules_noTest : List (Ent Tryz.prog lv X0) := rules_noTest_e :: tab_rules_Size
def rules_texted_ca : Cod (List V) Int := (lOne (vC (cInt .i64)))
def rules_texted_cr : Cod (V × List B) Bool := (cFstU (cPair (vC cBool) lNil))
def rules_texted_s (act : Int) : Option Bool := fS Tryz.prog lv X0 127 rules_texted_ca rules_texted_cr act
def rules_texted_t (act : Int) : Option Bool :=
 (brE ((act == 2) == false)
 (brE ((act == 4) == false)
 (brE ((act == 5) == false)
 (some (act == 7))
 (some true))
 (some true))
 (some true))
theorem rules_texted_eq {act : Int} {r : Bool} (h : rules_texted_t act = some r) : rules_texted_s act = some r :=
  fS_tree (es := tab_rules_noTest) (hs := []) [] Tryz.func127 rfl (by kernel_rfl) rfl (by kernel_rfl) (by kernel_rfl) trivial trivial (by kernel_rfl) h
def rules_texted_e : Ent Tryz.prog lv X0 := entS Tryz.prog lv X0 127 [] rules_texted_ca rules_texted_cr (fun x => rules_texted_s x) (fun _ _ h => fS_call h)
def tab_rules_texted : List (Ent Tryz.prog lv X0) := rules_texted_e :: tab_rules_noTest
def rules_used_ca : Cod (List V) Int := (lOne (vC (cInt .i64)))
def rules_used_cr : Cod (V × List B) (Bool × Bool × Bool) := (cFstU (cPair (vTup (lCons (vC cBool) (lCons (vC cBool) (lOne (vC cBool))))) lNil))
def rules_used_s (kind : Int) : Option (Bool × Bool × Bool) := fS Tryz.prog lv X0 129 rules_used_ca rules_used_cr kind
def rules_used_t (kind : Int) : Option (Bool × Bool × Bool) :=
 (brE (kind == 5)
 (some (true, (true, false)))
 (brE (kind == 6)
 (some (false, (true, false)))
 (brE (kind == 7)
 (some (false, (true, false)))
 (brE (kind == 8)
 (some (false, (false, true)))
 (brE (kind == 9)
 (some (true, (false, false)))
 (some (false, (false, false))))))))
theorem rules_used_eq {kind : Int} {r : (Bool × Bool × Bool)} (h : rules_used_t kind = some r) : rules_used_s kind = some r :=
  fS_tree (es := tab_rules_texted) (hs := []) [] Tryz.func129 rfl (by kernel_rfl) rfl (by kernel_rfl) (by kernel_rfl) trivial trivial (by kernel_rfl) h
def rules_used_e : Ent Tryz.prog lv X0 := entS Tryz.prog lv X0 129 [] rules_used_ca rules_used_cr (fun x => rules_used_s x) (fun _ _ h => fS_call h)
def tab_rules_used : List (Ent Tryz.prog lv X0) := rules_used_e :: tab_rules_texted
def rules_inner_ca : Cod (List V) (Int × (List S48) × ByteArray × Int × ByteArray × Int) := (lOne (vAgg (lCons (vC (cInt .i64)) (lCons (vC (cSl ec_48)) (lCons (vC cStr) (lCons (vC (cInt .i64)) (lCons (vC cStr) (lOne (vC (cInt .i64))))))))))
def rules_inner_cr : Cod (V × List B) Bool := (cFstU (cPair (vC cBool) lNil))
def rules_inner_s (t_Kind : Int) (t_Tests : (List S48)) (t_Name : ByteArray) (t_Pattern : Int) (t_Text : ByteArray) (t_N : Int) : Option Bool := fS Tryz.prog lv X0 130 rules_inner_ca rules_inner_cr (t_Kind, t_Tests, t_Name, t_Pattern, t_Text, t_N)
def rules_inner_t (t_Kind : Int) (t_Tests : (List S48)) (t_Name : ByteArray) (t_Pattern : Int) (t_Text : ByteArray) (t_N : Int) : Option Bool :=
 (brE (t_Kind == 2)
 (some ((((List.length (EC.encL ec_48 t_Tests)) : Nat) : Int) == 1))
 (brE (t_Kind == 3)
 (brE ((decide ((((List.length (EC.encL ec_48 t_Tests)) : Nat) : Int) ≥ (1 : Int))) == true)
 (some (decide ((((List.length (EC.encL ec_48 t_Tests)) : Nat) : Int) ≤ (60 : Int))))
 (some false))
 (brE (t_Kind == 4)
 (brE ((decide ((((List.length (EC.encL ec_48 t_Tests)) : Nat) : Int) ≥ (1 : Int))) == true)
 (some (decide ((((List.length (EC.encL ec_48 t_Tests)) : Nat) : Int) ≤ (60 : Int))))
 (some false))
 (some ((((List.length (EC.encL ec_48 t_Tests)) : Nat) : Int) == 0)))))
theorem rules_inner_eq {t_Kind : Int} {t_Tests : (List S48)} {t_Name : ByteArray} {t_Pattern : Int} {t_Text : ByteArray} {t_N : Int} {r : Bool} (h : rules_inner_t t_Kind t_Tests t_Name t_Pattern t_Text t_N = some r) : rules_inner_s t_Kind t_Tests t_Name t_Pattern t_Text t_N = some r :=
  fS_tree (es := tab_rules_used) (hs := []) [] Tryz.func130 rfl (by kernel_rfl) rfl (by kernel_rfl) (by kernel_rfl) trivial trivial (by kernel_rfl) h
def rules_inner_e : Ent Tryz.prog lv X0 := entS Tryz.prog lv X0 130 [] rules_inner_ca rules_inner_cr (fun x => rules_inner_s x.1 x.2.1 x.2.2.1 x.2.2.2.1 x.2.2.2.2.1 x.2.2.2.2.2) (fun _ _ h => fS_call h)
def tab_rules_inner : List (Ent Tryz.prog lv X0) := rules_inner_e :: tab_rules_used
structure S45 where
  Kind : Int
  Text : ByteArray
  N : Int
def ec_45 : EC S45 where
  enc x := [.int .i64 x.Kind, .str x.Text, .int .i64 x.N]
  dec c := ⟨intOf (c.getD 0 .ne), strOf (c.getD 1 .ne), intOf (c.getD 2 .ne)⟩
  is c := isE [.int .i64, .str, .int .i64] 0 c
  enc_dec h := decE_eq h
  dec_enc x := by rfl
  is_enc x := by simp [isE, isK]
theorem enc_45 (x : S45) : ec_45.enc x = [.int .i64 x.Kind, .str x.Text, .int .i64 x.N] := rfl
theorem isE_45 (xs : List S45) (n : Nat) : isE [.int .i64, .str, .int .i64] 0 ((ec_45.encL xs).getD n []) = decide (n < xs.length) := by
  by_cases h : n < xs.length
  · simp only [EC.getD_lt _ _ h]; simp [enc_45, isE, isK, h]
  · simp only [EC.getD_ge _ _ (Nat.not_lt.1 h)]; simp [isE, isK, h]
theorem at_45_0 (xs : List S45) (n : Nat) : intOf (((ec_45.encL xs).getD n []).getD 0 .ne) = (xs.getD n (ec_45.dec [])).Kind := by
  by_cases h : n < xs.length
  · simp only [EC.getD_lt _ _ h]; simp [enc_45, h, intOf, List.getD_eq_getElem?_getD]
  · simp only [EC.getD_ge _ _ (Nat.not_lt.1 h)]; simp [Nat.not_lt.1 h, ec_45, strOf, intOf, List.getD_eq_getElem?_getD]
theorem lit_45 (a0 : Int) (a1 : ByteArray) (a2 : Int) : ([.int .i64 a0, .str a1, .int .i64 a2] : List C) = ec_45.enc (⟨a0, a1, a2⟩ : S45) := rfl
theorem apd_45 (xs : List S45) (a0 : Int) (a1 : ByteArray) (a2 : Int) : ec_45.encL xs ++ [[.int .i64 a0, .str a1, .int .i64 a2]] = ec_45.encL (xs ++ [(⟨a0, a1, a2⟩ : S45)]) := by rw [lit_45]; simp [EC.encL]
theorem all_45 (xs : List S45) : (ec_45.encL xs).all (fun (el : List C) => el.length == 3) = true := by induction xs with | nil => rfl | cons x xs ih => first | (simp [EC.encL, enc_45]; done) | simpa [EC.encL, enc_45] using ih
def evaluate_Decided_ca : Cod (List V) (List S45) := (lOne (vC (cSl ec_45)))
def evaluate_Decided_l2_s : SC (((List S45) × Int × Int) × Unit) := sLS [5, 6, 7] (lCons (vC (cSl ec_45)) (lCons (vC (cInt .i64)) (lOne (vC (cInt .i64))))) lNil [] [] (by decide) (fun _ => rfl)
def evaluate_Decided_l2_o2 : SC (((List S45) × Int × Int × Bool) × Unit) := sLS [5, 6, 7, 8] (lCons (vC (cSl ec_45)) (lCons (vC (cInt .i64)) (lCons (vC (cInt .i64)) (lOne (vC cBool))))) lNil [] [] (by decide) (fun _ => rfl)
def evaluate_Decided_l2_o1 : SC (Bool × Unit) := sLS [2] (lOne (vC cBool)) lNil [] [] (by decide) (fun _ => rfl)
def evaluate_Decided_l2_o : OC ((Bool × Unit) ⊕ (((List S45) × Int × Int × Bool) × Unit)) := oOr 1 evaluate_Decided_l2_o1 (oAt 2 evaluate_Decided_l2_o2) (fun x => (by decide : (2 : Nat) ≠ 1))
def evaluate_Decided_l2 (t5 : (List S45)) (t6 : Int) (t7 : Int) : Option ((Bool × Unit) ⊕ (((List S45) × Int × Int × Bool) × Unit)) := lS Tryz.prog lv X0 54 20 (getLoop (cdF Tryz.f54) 2) evaluate_Decided_l2_s evaluate_Decided_l2_o ((t5, t6, t7), ())
def evaluate_Decided_l2_t (t5 : (List S45)) (t6 : Int) (t7 : Int) : Option ((Bool × Unit) ⊕ (((List S45) × Int × Int × Bool) × Unit)) :=
 (brE (decide (t7 < t6))
 (gdE (decide ((0 : Int) ≤ t7)) <|
 (gdE ((decide ((Int.toNat t7) < (List.length (EC.encL ec_45 t5)))) && (isE [(K1.int Go.IntKind.i64), K1.str, (K1.int Go.IntKind.i64)] (0 : Nat) (List.getD (EC.encL ec_45 t5) (Int.toNat t7) []))) <|
 (brE (((intOf (List.getD (List.getD (EC.encL ec_45 t5) (Int.toNat t7) []) (0 : Nat) C.ne)) != 6) == true)
 (brE ((intOf (List.getD (List.getD (EC.encL ec_45 t5) (Int.toNat t7) []) (0 : Nat) C.ne)) != 7)
 (some (.inl (true, ())))
 (gdE (EC.isL ec_45 (EC.encL ec_45 t5)) <|
 (evaluate_Decided_l2 (EC.decL ec_45 (EC.encL ec_45 t5)) t6 (IntKind.wrap .i64 (t7 + (1 : Int))))))
 (gdE (EC.isL ec_45 (EC.encL ec_45 t5)) <|
 (evaluate_Decided_l2 (EC.decL ec_45 (EC.encL ec_45 t5)) t6 (IntKind.wrap .i64 (t7 + (1 : Int))))))))
 (gdE (EC.isL ec_45 (EC.encL ec_45 t5)) <|
 (some (.inr (((EC.decL ec_45 (EC.encL ec_45 t5)), (t6, (t7, false))), ())))))
theorem evaluate_Decided_l2_eq {t5 : (List S45)} {t6 : Int} {t7 : Int} {r : ((Bool × Unit) ⊕ (((List S45) × Int × Int × Bool) × Unit))} (h : evaluate_Decided_l2_t t5 t6 t7 = some r) : evaluate_Decided_l2 t5 t6 t7 = some r :=
  lS_tree (es := tab_rules_inner) (hs := []) [] (by kernel_rfl) trivial trivial (by kernel_rfl) h
def evaluate_Decided_l2_e : LEnt Tryz.prog lv X0 54 20 := lentS Tryz.prog lv X0 2 (getLoop (cdF Tryz.f54) 2) evaluate_Decided_l2_s evaluate_Decided_l2_o (fun x => evaluate_Decided_l2 x.1.1 x.1.2.1 x.1.2.2) (fun _ _ h => lS_from h)
def evaluate_Decided_cr : Cod (V × List B) Bool := (cFstU (cPair (vC cBool) lNil))
def evaluate_Decided_s (l : (List S45)) : Option Bool := fS Tryz.prog lv X0 54 evaluate_Decided_ca evaluate_Decided_cr l
def evaluate_Decided_t (l : (List S45)) : Option Bool :=
 (gdE (EC.isL ec_45 (EC.encL ec_45 l)) <|
 (Option.bind (evaluate_Decided_l2 (EC.decL ec_45 (EC.encL ec_45 l)) (((List.length (EC.encL ec_45 l)) : Nat) : Int) (0 : Int)) fun r0 =>
 (Sum.elim (fun r1 => (some (r1).1))
 (fun r1 => (some false)) r0)))
theorem evaluate_Decided_eq {l : (List S45)} {r : Bool} (h : evaluate_Decided_t l = some r) : evaluate_Decided_s l = some r :=
  fS_tree (es := tab_rules_inner) (hs := []) [evaluate_Decided_l2_e] Tryz.func54 rfl (by kernel_rfl) rfl (by kernel_rfl) (by kernel_rfl) ⟨⟨_, rfl, rfl⟩, trivial⟩ trivial (by kernel_rfl) h
def evaluate_Decided_e : Ent Tryz.prog lv X0 := entS Tryz.prog lv X0 54 [] evaluate_Decided_ca evaluate_Decided_cr (fun x => evaluate_Decided_s x) (fun _ _ h => fS_call h)
def tab_evaluate_Decided : List (Ent Tryz.prog lv X0) := evaluate_Decided_e :: tab_rules_inner
def rules_variable_1_ca : Cod (List V) Int := (lOne (vC (cInt .u8)))
def rules_variable_1_cr : Cod (V × List B) Bool := (cFstU (cPair (vC cBool) lNil))
def rules_variable_1_s (c : Int) : Option Bool := fS Tryz.prog lv X0 151 rules_variable_1_ca rules_variable_1_cr c
def rules_variable_1_t (c : Int) : Option Bool :=
 (brE ((decide (c ≥ (97 : Int))) == true)
 (brE ((decide (c ≤ (122 : Int))) == false)
 (brE ((decide (c ≥ (48 : Int))) == true)
 (some (decide (c ≤ (57 : Int))))
 (some false))
 (some true))
 (brE ((decide (c ≥ (48 : Int))) == true)
 (some (decide (c ≤ (57 : Int))))
 (some false)))
theorem rules_variable_1_eq {c : Int} {r : Bool} (h : rules_variable_1_t c = some r) : rules_variable_1_s c = some r :=
  fS_tree (es := tab_evaluate_Decided) (hs := []) [] Tryz.func151 rfl (by kernel_rfl) rfl (by kernel_rfl) (by kernel_rfl) trivial trivial (by kernel_rfl) h
def rules_variable_1_e : Ent Tryz.prog lv X0 := entS Tryz.prog lv X0 151 [] rules_variable_1_ca rules_variable_1_cr (fun x => rules_variable_1_s x) (fun _ _ h => fS_call h)
def tab_rules_variable_1 : List (Ent Tryz.prog lv X0) := rules_variable_1_e :: tab_evaluate_Decided
def allSmall_ca : Cod (List V) (ByteArray × Unit) := (lCons (vC cStr) (lOne (vFn 151 lNil)))
def allSmall_l2_s : SC ((ByteArray × Unit × Int × Int) × Unit) := sLS [0, 1, 7, 8] (lCons (vC cStr) (lCons (vFn 151 lNil) (lCons (vC (cInt .i64)) (lOne (vC (cInt .i64)))))) lNil [] [] (by decide) (fun _ => rfl)
def allSmall_l2_o2 : SC ((ByteArray × Unit × Int × Int × Bool) × Unit) := sLS [0, 1, 7, 8, 9] (lCons (vC cStr) (lCons (vFn 151 lNil) (lCons (vC (cInt .i64)) (lCons (vC (cInt .i64)) (lOne (vC cBool)))))) lNil [] [] (by decide) (fun _ => rfl)
def allSmall_l2_o1 : SC (Bool × Unit) := sLS [4] (lOne (vC cBool)) lNil [] [] (by decide) (fun _ => rfl)
def allSmall_l2_o : OC ((Bool × Unit) ⊕ ((ByteArray × Unit × Int × Int × Bool) × Unit)) := oOr 1 allSmall_l2_o1 (oAt 2 allSmall_l2_o2) (fun x => (by decide : (2 : Nat) ≠ 1))
def allSmall_l2 (s : ByteArray) (t7 : Int) (t8 : Int) : Option ((Bool × Unit) ⊕ ((ByteArray × Unit × Int × Int × Bool) × Unit)) := lS Tryz.prog lv X0 84 18 (getLoop (cdF Tryz.f84) 2) allSmall_l2_s allSmall_l2_o ((s, (), t7, t8), ())
def allSmall_l2_t (s : ByteArray) (t7 : Int) (t8 : Int) : Option ((Bool × Unit) ⊕ ((ByteArray × Unit × Int × Int × Bool) × Unit)) :=
 (brE (decide (t8 < t7))
 (gdE ((decide ((0 : Int) ≤ t8)) && (decide ((Int.toNat t8) < (ByteArray.size s)))) <|
 (Option.bind (rules_variable_1_s (((UInt8.toNat (Array.getD (ByteArray.data s) (Int.toNat t8) (0 : UInt8))) : Nat) : Int)) fun r0 =>
 (brE (!r0)
 (some (.inl (false, ())))
 (allSmall_l2 s t7 (IntKind.wrap .i64 (t8 + (1 : Int)))))))
 (some (.inr ((s, ((), (t7, (t8, false)))), ()))))
theorem allSmall_l2_eq {s : ByteArray} {t7 : Int} {t8 : Int} {r : ((Bool × Unit) ⊕ ((ByteArray × Unit × Int × Int × Bool) × Unit))} (h : allSmall_l2_t s t7 t8 = some r) : allSmall_l2 s t7 t8 = some r :=
  lS_tree (es := tab_rules_variable_1) (hs := []) [] (by kernel_rfl) trivial trivial (by kernel_rfl) h
def allSmall_l2_e : LEnt Tryz.prog lv X0 84 18 := lentS Tryz.prog lv X0 2 (getLoop (cdF Tryz.f84) 2) allSmall_l2_s allSmall_l2_o (fun x => allSmall_l2 x.1.1 x.1.2.2.1 x.1.2.2.2) (fun _ _ h => lS_from h)
def allSmall_cr : Cod (V × List B) Bool := (cFstU (cPair (vC cBool) lNil))
def allSmall_s (s : ByteArray) : Option Bool := fS Tryz.prog lv X0 84 allSmall_ca allSmall_cr (s, ())
def allSmall_t (s : ByteArray) : Option Bool :=
 (Option.bind (allSmall_l2 s (((ByteArray.size s) : Nat) : Int) (0 : Int)) fun r0 =>
 (Sum.elim (fun r1 => (some (r1).1))
 (fun r1 => (some true)) r0))
theorem allSmall_eq {s : ByteArray} {r : Bool} (h : allSmall_t s = some r) : allSmall_s s = some r :=
  fS_tree (es := tab_rules_variable_1) (hs := []) [allSmall_l2_e] Tryz.func84 rfl (by kernel_rfl) rfl (by kernel_rfl) (by kernel_rfl) ⟨⟨_, rfl, rfl⟩, trivial⟩ trivial (by kernel_rfl) h
def allSmall_e : Ent Tryz.prog lv X0 := entS Tryz.prog lv X0 84 [151] allSmall_ca allSmall_cr (fun x => allSmall_s x.1) (fun _ _ h => fS_call h)
def tab_allSmall : List (Ent Tryz.prog lv X0) := allSmall_e :: tab_rules_variable_1
def rules_variable_ca : Cod (List V) ByteArray := (lOne (vC cStr))
def rules_variable_cr : Cod (V × List B) Bool := (cFstU (cPair (vC cBool) lNil))
def rules_variable_s (s : ByteArray) : Option Bool := fS Tryz.prog lv X0 128 rules_variable_ca rules_variable_cr s
def rules_variable_t (s : ByteArray) : Option Bool :=
 (brE ((!((ByteArray.toList s) == (ByteArray.toList ⟨#[]⟩))) == true)
 (brE ((decide ((((ByteArray.size s) : Nat) : Int) ≤ (60 : Int))) == true)
 (Option.bind (allSmall_s s) fun r0 =>
 (brE (r0 == true)
 (gdE ((decide ((0 : Int) ≤ (0 : Int))) && (decide ((Int.toNat (0 : Int)) < (ByteArray.size s)))) <|
 (some (decide ((((UInt8.toNat (Array.getD (ByteArray.data s) (Int.toNat (0 : Int)) (0 : UInt8))) : Nat) : Int) > (57 : Int)))))
 (some false)))
 (some false))
 (some false))
theorem rules_variable_eq {s : ByteArray} {r : Bool} (h : rules_variable_t s = some r) : rules_variable_s s = some r :=
  fS_tree (es := tab_allSmall) (hs := []) [] Tryz.func128 rfl (by kernel_rfl) rfl (by kernel_rfl) (by kernel_rfl) trivial trivial (by kernel_rfl) h
def rules_variable_e : Ent Tryz.prog lv X0 := entS Tryz.prog lv X0 128 [] rules_variable_ca rules_variable_cr (fun x => rules_variable_s x) (fun _ _ h => fS_call h)
def tab_rules_variable : List (Ent Tryz.prog lv X0) := rules_variable_e :: tab_allSmall
def rules_plain_ca : Cod (List V) (Int × Int × (List S48) × ByteArray × Int × ByteArray × Int × (List S50) × (List S50) × Int × ByteArray × ByteArray × Int) := (lOne (vAgg (lCons (vC (cInt .i64)) (lCons (vC (cInt .i64)) (lCons (vC (cSl ec_48)) (lCons (vC cStr) (lCons (vC (cInt .i64)) (lCons (vC cStr) (lCons (vC (cInt .i64)) (lCons (vC (cSl ec_50)) (lCons (vC (cSl ec_50)) (lCons (vC (cInt .i64)) (lCons (vC cStr) (lCons (vC cStr) (lOne (vC (cInt .i64)))))))))))))))))
def rules_plain_cr : Cod (V × List B) Int := (cFstU (cPair (vC (cInt .i64)) lNil))
def rules_plain_s (r_Kind : Int) (r_Test_Kind : Int) (r_Test_Tests : (List S48)) (r_Test_Name : ByteArray) (r_Test_Pattern : Int) (r_Test_Text : ByteArray) (r_Test_N : Int) (r_Then : (List S50)) (r_Else : (List S50)) (r_Act : Int) (r_Name : ByteArray) (r_Text : ByteArray) (r_N : Int) : Option Int := fS Tryz.prog lv X0 101 rules_plain_ca rules_plain_cr (r_Kind, r_Test_Kind, r_Test_Tests, r_Test_Name, r_Test_Pattern, r_Test_Text, r_Test_N, r_Then, r_Else, r_Act, r_Name, r_Text, r_N)
def rules_plain_t (r_Kind : Int) (r_Test_Kind : Int) (r_Test_Tests : (List S48)) (r_Test_Name : ByteArray) (r_Test_Pattern : Int) (r_Test_Text : ByteArray) (r_Test_N : Int) (r_Then : (List S50)) (r_Else : (List S50)) (r_Act : Int) (r_Name : ByteArray) (r_Text : ByteArray) (r_N : Int) : Option Int :=
 (gdE (EC.isL ec_48 (EC.encL ec_48 r_Test_Tests)) <|
 (Option.bind (rules_noTest_s r_Test_Kind (EC.decL ec_48 (EC.encL ec_48 r_Test_Tests)) r_Test_Name r_Test_Pattern r_Test_Text r_Test_N) fun r0 =>
 (brE ((!r0) == false)
 (brE ((decide ((IntKind.wrap .i64 ((((List.length (EC.encL ec_50 r_Then)) : Nat) : Int) + (((List.length (EC.encL ec_50 r_Else)) : Nat) : Int))) > (0 : Int))) == false)
 (brE ((!(r_Kind == 2)) == true)
 (brE ((r_Act != 0) == false)
 (brE ((r_N != 0) == false)
 (brE ((r_Kind != 3) == true)
 (brE ((!((ByteArray.toList r_Name) == (ByteArray.toList ⟨#[]⟩))) == false)
 (brE ((r_Kind == 4) == true)
 (brE (!((ByteArray.toList r_Text) == (ByteArray.toList ⟨#[]⟩)))
 (some 5)
 (brE ((r_Kind == 2) == true)
 (brE ((decide (r_Act < (1 : Int))) == false)
 (brE (decide (r_Act > (7 : Int)))
 (some 4)
 (brE ((r_Kind == 2) == true)
 (Option.bind (rules_texted_s r_Act) fun r1 =>
 (brE ((!r1) == true)
 (brE ((!((ByteArray.toList r_Text) == (ByteArray.toList ⟨#[]⟩))) == false)
 (brE ((r_Act != 6) == true)
 (brE (r_N != 0)
 (some 5)
 (brE ((r_Kind == 3) == true)
 (Option.bind (rules_variable_s r_Name) fun r2 =>
 (brE (!r2)
 (some 10)
 (brE (decide ((((ByteArray.size r_Text) : Nat) : Int) > (200 : Int)))
 (some 1)
 (brE ((decide (r_N < (0 : Int))) == false)
 (brE (decide (r_N > (63 : Int)))
 (some 3)
 (some 0))
 (some 3)))))
 (brE (decide ((((ByteArray.size r_Text) : Nat) : Int) > (200 : Int)))
 (some 1)
 (brE ((decide (r_N < (0 : Int))) == false)
 (brE (decide (r_N > (63 : Int)))
 (some 3)
 (some 0))
 (some 3)))))
 (brE ((r_Kind == 3) == true)
 (Option.bind (rules_variable_s r_Name) fun r2 =>
 (brE (!r2)
 (some 10)
 (brE (decide ((((ByteArray.size r_Text) : Nat) : Int) > (200 : Int)))
 (some 1)
 (brE ((decide (r_N < (0 : Int))) == false)
 (brE (decide (r_N > (63 : Int)))
 (some 3)
 (some 0))
 (some 3)))))
 (brE (decide ((((ByteArray.size r_Text) : Nat) : Int) > (200 : Int)))
 (some 1)
 (brE ((decide (r_N < (0 : Int))) == false)
 (brE (decide (r_N > (63 : Int)))
 (some 3)
 (some 0))
 (some 3)))))
 (some 5))
 (brE ((r_Act != 6) == true)
 (brE (r_N != 0)
 (some 5)
 (brE ((r_Kind == 3) == true)
 (Option.bind (rules_variable_s r_Name) fun r2 =>
 (brE (!r2)
 (some 10)
 (brE (decide ((((ByteArray.size r_Text) : Nat) : Int) > (200 : Int)))
 (some 1)
 (brE ((decide (r_N < (0 : Int))) == false)
 (brE (decide (r_N > (63 : Int)))
 (some 3)
 (some 0))
 (some 3)))))
 (brE (decide ((((ByteArray.size r_Text) : Nat) : Int) > (200 : Int)))
 (some 1)
 (brE ((decide (r_N < (0 : Int))) == false)
 (brE (decide (r_N > (63 : Int)))
 (some 3)
 (some 0))
 (some 3)))))
 (brE ((r_Kind == 3) == true)
 (Option.bind (rules_variable_s r_Name) fun r2 =>
 (brE (!r2)
 (some 10)
 (brE (decide ((((ByteArray.size r_Text) : Nat) : Int) > (200 : Int)))
 (some 1)
 (brE ((decide (r_N < (0 : Int))) == false)
 (brE (decide (r_N > (63 : Int)))
 (some 3)
 (some 0))
 (some 3)))))
 (brE (decide ((((ByteArray.size r_Text) : Nat) : Int) > (200 : Int)))
 (some 1)
 (brE ((decide (r_N < (0 : Int))) == false)
 (brE (decide (r_N > (63 : Int)))
 (some 3)
 (some 0))
 (some 3)))))))
 (brE ((r_Kind == 3) == true)
 (Option.bind (rules_variable_s r_Name) fun r1 =>
 (brE (!r1)
 (some 10)
 (brE (decide ((((ByteArray.size r_Text) : Nat) : Int) > (200 : Int)))
 (some 1)
 (brE ((decide (r_N < (0 : Int))) == false)
 (brE (decide (r_N > (63 : Int)))
 (some 3)
 (some 0))
 (some 3)))))
 (brE (decide ((((ByteArray.size r_Text) : Nat) : Int) > (200 : Int)))
 (some 1)
 (brE ((decide (r_N < (0 : Int))) == false)
 (brE (decide (r_N > (63 : Int)))
 (some 3)
 (some 0))
 (some 3))))))
 (some 4))
 (brE ((r_Kind == 2) == true)
 (Option.bind (rules_texted_s r_Act) fun r1 =>
 (brE ((!r1) == true)
 (brE ((!((ByteArray.toList r_Text) == (ByteArray.toList ⟨#[]⟩))) == false)
 (brE ((r_Act != 6) == true)
 (brE (r_N != 0)
 (some 5)
 (brE ((r_Kind == 3) == true)
 (Option.bind (rules_variable_s r_Name) fun r2 =>
 (brE (!r2)
 (some 10)
 (brE (decide ((((ByteArray.size r_Text) : Nat) : Int) > (200 : Int)))
 (some 1)
 (brE ((decide (r_N < (0 : Int))) == false)
 (brE (decide (r_N > (63 : Int)))
 (some 3)
 (some 0))
 (some 3)))))
 (brE (decide ((((ByteArray.size r_Text) : Nat) : Int) > (200 : Int)))
 (some 1)
 (brE ((decide (r_N < (0 : Int))) == false)
 (brE (decide (r_N > (63 : Int)))
 (some 3)
 (some 0))
 (some 3)))))
 (brE ((r_Kind == 3) == true)
 (Option.bind (rules_variable_s r_Name) fun r2 =>
 (brE (!r2)
 (some 10)
 (brE (decide ((((ByteArray.size r_Text) : Nat) : Int) > (200 : Int)))
 (some 1)
 (brE ((decide (r_N < (0 : Int))) == false)
 (brE (decide (r_N > (63 : Int)))
 (some 3)
 (some 0))
 (some 3)))))
 (brE (decide ((((ByteArray.size r_Text) : Nat) : Int) > (200 : Int)))
 (some 1)
 (brE ((decide (r_N < (0 : Int))) == false)
 (brE (decide (r_N > (63 : Int)))
 (some 3)
 (some 0))
 (some 3)))))
 (some 5))
 (brE ((r_Act != 6) == true)
 (brE (r_N != 0)
 (some 5)
 (brE ((r_Kind == 3) == true)
 (Option.bind (rules_variable_s r_Name) fun r2 =>
 (brE (!r2)
 (some 10)
 (brE (decide ((((ByteArray.size r_Text) : Nat) : Int) > (200 : Int)))
 (some 1)
 (brE ((decide (r_N < (0 : Int))) == false)
 (brE (decide (r_N > (63 : Int)))
 (some 3)
 (some 0))
 (some 3)))))
 (brE (decide ((((ByteArray.size r_Text) : Nat) : Int) > (200 : Int)))
 (some 1)
 (brE ((decide (r_N < (0 : Int))) == false)
 (brE (decide (r_N > (63 : Int)))
 (some 3)
 (some 0))
 (some 3)))))
 (brE ((r_Kind == 3) == true)
 (Option.bind (rules_variable_s r_Name) fun r2 =>
 (brE (!r2)
 (some 10)
 (brE (decide ((((ByteArray.size r_Text) : Nat) : Int) > (200 : Int)))
 (some 1)
 (brE ((decide (r_N < (0 : Int))) == false)
 (brE (decide (r_N > (63 : Int)))
 (some 3)
 (some 0))
 (some 3)))))
 (brE (decide ((((ByteArray.size r_Text) : Nat) : Int) > (200 : Int)))
 (some 1)
 (brE ((decide (r_N < (0 : Int))) == false)
 (brE (decide (r_N > (63 : Int)))
 (some 3)
 (some 0))
 (some 3)))))))
 (brE ((r_Kind == 3) == true)
 (Option.bind (rules_variable_s r_Name) fun r1 =>
 (brE (!r1)
 (some 10)
 (brE (decide ((((ByteArray.size r_Text) : Nat) : Int) > (200 : Int)))
 (some 1)
 (brE ((decide (r_N < (0 : Int))) == false)
 (brE (decide (r_N > (63 : Int)))
 (some 3)
 (some 0))
 (some 3)))))
 (brE (decide ((((ByteArray.size r_Text) : Nat) : Int) > (200 : Int)))
 (some 1)
 (brE ((decide (r_N < (0 : Int))) == false)
 (brE (decide (r_N > (63 : Int)))
 (some 3)
 (some 0))
 (some 3)))))))
 (brE ((r_Kind == 2) == true)
 (brE ((decide (r_Act < (1 : Int))) == false)
 (brE (decide (r_Act > (7 : Int)))
 (some 4)
 (brE ((r_Kind == 2) == true)
 (Option.bind (rules_texted_s r_Act) fun r1 =>
 (brE ((!r1) == true)
 (brE ((!((ByteArray.toList r_Text) == (ByteArray.toList ⟨#[]⟩))) == false)
 (brE ((r_Act != 6) == true)
 (brE (r_N != 0)
 (some 5)
 (brE ((r_Kind == 3) == true)
 (Option.bind (rules_variable_s r_Name) fun r2 =>
 (brE (!r2)
 (some 10)
 (brE (decide ((((ByteArray.size r_Text) : Nat) : Int) > (200 : Int)))
 (some 1)
 (brE ((decide (r_N < (0 : Int))) == false)
 (brE (decide (r_N > (63 : Int)))
 (some 3)
 (some 0))
 (some 3)))))
 (brE (decide ((((ByteArray.size r_Text) : Nat) : Int) > (200 : Int)))
 (some 1)
 (brE ((decide (r_N < (0 : Int))) == false)
 (brE (decide (r_N > (63 : Int)))
 (some 3)
 (some 0))
 (some 3)))))
 (brE ((r_Kind == 3) == true)
 (Option.bind (rules_variable_s r_Name) fun r2 =>
 (brE (!r2)
 (some 10)
 (brE (decide ((((ByteArray.size r_Text) : Nat) : Int) > (200 : Int)))
 (some 1)
 (brE ((decide (r_N < (0 : Int))) == false)
 (brE (decide (r_N > (63 : Int)))
 (some 3)
 (some 0))
 (some 3)))))
 (brE (decide ((((ByteArray.size r_Text) : Nat) : Int) > (200 : Int)))
 (some 1)
 (brE ((decide (r_N < (0 : Int))) == false)
 (brE (decide (r_N > (63 : Int)))
 (some 3)
 (some 0))
 (some 3)))))
 (some 5))
 (brE ((r_Act != 6) == true)
 (brE (r_N != 0)
 (some 5)
 (brE ((r_Kind == 3) == true)
 (Option.bind (rules_variable_s r_Name) fun r2 =>
 (brE (!r2)
 (some 10)
 (brE (decide ((((ByteArray.size r_Text) : Nat) : Int) > (200 : Int)))
 (some 1)
 (brE ((decide (r_N < (0 : Int))) == false)
 (brE (decide (r_N > (63 : Int)))
 (some 3)
 (some 0))
 (some 3)))))
 (brE (decide ((((ByteArray.size r_Text) : Nat) : Int) > (200 : Int)))
 (some 1)
 (brE ((decide (r_N < (0 : Int))) == false)
 (brE (decide (r_N > (63 : Int)))
 (some 3)
 (some 0))
 (some 3)))))
 (brE ((r_Kind == 3) == true)
 (Option.bind (rules_variable_s r_Name) fun r2 =>
 (brE (!r2)
 (some 10)
 (brE (decide ((((ByteArray.size r_Text) : Nat) : Int) > (200 : Int)))
 (some 1)
 (brE ((decide (r_N < (0 : Int))) == false)
 (brE (decide (r_N > (63 : Int)))
 (some 3)
 (some 0))
 (some 3)))))
 (brE (decide ((((ByteArray.size r_Text) : Nat) : Int) > (200 : Int)))
 (some 1)
 (brE ((decide (r_N < (0 : Int))) == false)
 (brE (decide (r_N > (63 : Int)))
 (some 3)
 (some 0))
 (some 3)))))))
 (brE ((r_Kind == 3) == true)
 (Option.bind (rules_variable_s r_Name) fun r1 =>
 (brE (!r1)
 (some 10)
 (brE (decide ((((ByteArray.size r_Text) : Nat) : Int) > (200 : Int)))
 (some 1)
 (brE ((decide (r_N < (0 : Int))) == false)
 (brE (decide (r_N > (63 : Int)))
 (some 3)
 (some 0))
 (some 3)))))
 (brE (decide ((((ByteArray.size r_Text) : Nat) : Int) > (200 : Int)))
 (some 1)
 (brE ((decide (r_N < (0 : Int))) == false)
 (brE (decide (r_N > (63 : Int)))
 (some 3)
 (some 0))
 (some 3))))))
 (some 4))
 (brE ((r_Kind == 2) == true)
 (Option.bind (rules_texted_s r_Act) fun r1 =>
 (brE ((!r1) == true)
 (brE ((!((ByteArray.toList r_Text) == (ByteArray.toList ⟨#[]⟩))) == false)
 (brE ((r_Act != 6) == true)
 (brE (r_N != 0)
 (some 5)
 (brE ((r_Kind == 3) == true)
 (Option.bind (rules_variable_s r_Name) fun r2 =>
 (brE (!r2)
 (some 10)
 (brE (decide ((((ByteArray.size r_Text) : Nat) : Int) > (200 : Int)))
 (some 1)
 (brE ((decide (r_N < (0 : Int))) == false)
 (brE (decide (r_N > (63 : Int)))
 (some 3)
 (some 0))
 (some 3)))))
 (brE (decide ((((ByteArray.size r_Text) : Nat) : Int) > (200 : Int)))
 (some 1)
 (brE ((decide (r_N < (0 : Int))) == false)
 (brE (decide (r_N > (63 : Int)))
 (some 3)
 (some 0))
 (some 3)))))
 (brE ((r_Kind == 3) == true)
 (Option.bind (rules_variable_s r_Name) fun r2 =>
 (brE (!r2)
 (some 10)
 (brE (decide ((((ByteArray.size r_Text) : Nat) : Int) > (200 : Int)))
 (some 1)
 (brE ((decide (r_N < (0 : Int))) == false)
 (brE (decide (r_N > (63 : Int)))
 (some 3)
 (some 0))
 (some 3)))))
 (brE (decide ((((ByteArray.size r_Text) : Nat) : Int) > (200 : Int)))
 (some 1)
 (brE ((decide (r_N < (0 : Int))) == false)
 (brE (decide (r_N > (63 : Int)))
 (some 3)
 (some 0))
 (some 3)))))
 (some 5))
 (brE ((r_Act != 6) == true)
 (brE (r_N != 0)
 (some 5)
 (brE ((r_Kind == 3) == true)
 (Option.bind (rules_variable_s r_Name) fun r2 =>
 (brE (!r2)
 (some 10)
 (brE (decide ((((ByteArray.size r_Text) : Nat) : Int) > (200 : Int)))
 (some 1)
 (brE ((decide (r_N < (0 : Int))) == false)
 (brE (decide (r_N > (63 : Int)))
 (some 3)
 (some 0))
 (some 3)))))
 (brE (decide ((((ByteArray.size r_Text) : Nat) : Int) > (200 : Int)))
 (some 1)
 (brE ((decide (r_N < (0 : Int))) == false)
 (brE (decide (r_N > (63 : Int)))
 (some 3)
 (some 0))
 (some 3)))))
 (brE ((r_Kind == 3) == true)
 (Option.bind (rules_variable_s r_Name) fun r2 =>
 (brE (!r2)
 (some 10)
 (brE (decide ((((ByteArray.size r_Text) : Nat) : Int) > (200 : Int)))
 (some 1)
 (brE ((decide (r_N < (0 : Int))) == false)
 (brE (decide (r_N > (63 : Int)))
 (some 3)
 (some 0))
 (some 3)))))
 (brE (decide ((((ByteArray.size r_Text) : Nat) : Int) > (200 : Int)))
 (some 1)
 (brE ((decide (r_N < (0 : Int))) == false)
 (brE (decide (r_N > (63 : Int)))
 (some 3)
 (some 0))
 (some 3)))))))
 (brE ((r_Kind == 3) == true)
 (Option.bind (rules_variable_s r_Name) fun r1 =>
 (brE (!r1)
 (some 10)
 (brE (decide ((((ByteArray.size r_Text) : Nat) : Int) > (200 : Int)))
 (some 1)
 (brE ((decide (r_N < (0 : Int))) == false)
 (brE (decide (r_N > (63 : Int)))
 (some 3)
 (some 0))
 (some 3)))))
 (brE (decide ((((ByteArray.size r_Text) : Nat) : Int) > (200 : Int)))
 (some 1)
 (brE ((decide (r_N < (0 : Int))) == false)
 (brE (decide (r_N > (63 : Int)))
 (some 3)
 (some 0))
 (some 3)))))))
 (some 5))
 (brE ((r_Kind == 4) == true)
 (brE (!((ByteArray.toList r_Text) == (ByteArray.toList ⟨#[]⟩)))
 (some 5)
 (brE ((r_Kind == 2) == true)
 (brE ((decide (r_Act < (1 : Int))) == false)
 (brE (decide (r_Act > (7 : Int)))
 (some 4)
 (brE ((r_Kind == 2) == true)
 (Option.bind (rules_texted_s r_Act) fun r1 =>
 (brE ((!r1) == true)
 (brE ((!((ByteArray.toList r_Text) == (ByteArray.toList ⟨#[]⟩))) == false)
 (brE ((r_Act != 6) == true)
 (brE (r_N != 0)
 (some 5)
 (brE ((r_Kind == 3) == true)
 (Option.bind (rules_variable_s r_Name) fun r2 =>
 (brE (!r2)
 (some 10)
 (brE (decide ((((ByteArray.size r_Text) : Nat) : Int) > (200 : Int)))
 (some 1)
 (brE ((decide (r_N < (0 : Int))) == false)
 (brE (decide (r_N > (63 : Int)))
 (some 3)
 (some 0))
 (some 3)))))
 (brE (decide ((((ByteArray.size r_Text) : Nat) : Int) > (200 : Int)))
 (some 1)
 (brE ((decide (r_N < (0 : Int))) == false)
 (brE (decide (r_N > (63 : Int)))
 (some 3)
 (some 0))
 (some 3)))))
 (brE ((r_Kind == 3) == true)
 (Option.bind (rules_variable_s r_Name) fun r2 =>
 (brE (!r2)
 (some 10)
 (brE (decide ((((ByteArray.size r_Text) : Nat) : Int) > (200 : Int)))
 (some 1)
 (brE ((decide (r_N < (0 : Int))) == false)
 (brE (decide (r_N > (63 : Int)))
 (some 3)
 (some 0))
 (some 3)))))
 (brE (decide ((((ByteArray.size r_Text) : Nat) : Int) > (200 : Int)))
 (some 1)
 (brE ((decide (r_N < (0 : Int))) == false)
 (brE (decide (r_N > (63 : Int)))
 (some 3)
 (some 0))
 (some 3)))))
 (some 5))
 (brE ((r_Act != 6) == true)
 (brE (r_N != 0)
 (some 5)
 (brE ((r_Kind == 3) == true)
 (Option.bind (rules_variable_s r_Name) fun r2 =>
 (brE (!r2)
 (some 10)
 (brE (decide ((((ByteArray.size r_Text) : Nat) : Int) > (200 : Int)))
 (some 1)
 (brE ((decide (r_N < (0 : Int))) == false)
 (brE (decide (r_N > (63 : Int)))
 (some 3)
 (some 0))
 (some 3)))))
 (brE (decide ((((ByteArray.size r_Text) : Nat) : Int) > (200 : Int)))
 (some 1)
 (brE ((decide (r_N < (0 : Int))) == false)
 (brE (decide (r_N > (63 : Int)))
 (some 3)
 (some 0))
 (some 3)))))
 (brE ((r_Kind == 3) == true)
 (Option.bind (rules_variable_s r_Name) fun r2 =>
 (brE (!r2)
 (some 10)
 (brE (decide ((((ByteArray.size r_Text) : Nat) : Int) > (200 : Int)))
 (some 1)
 (brE ((decide (r_N < (0 : Int))) == false)
 (brE (decide (r_N > (63 : Int)))
 (some 3)
 (some 0))
 (some 3)))))
 (brE (decide ((((ByteArray.size r_Text) : Nat) : Int) > (200 : Int)))
 (some 1)
 (brE ((decide (r_N < (0 : Int))) == false)
 (brE (decide (r_N > (63 : Int)))
 (some 3)
 (some 0))
 (some 3)))))))
 (brE ((r_Kind == 3) == true)
 (Option.bind (rules_variable_s r_Name) fun r1 =>
 (brE (!r1)
 (some 10)
 (brE (decide ((((ByteArray.size r_Text) : Nat) : Int) > (200 : Int)))
 (some 1)
 (brE ((decide (r_N < (0 : Int))) == false)
 (brE (decide (r_N > (63 : Int)))
 (some 3)
 (some 0))
 (some 3)))))
 (brE (decide ((((ByteArray.size r_Text) : Nat) : Int) > (200 : Int)))
 (some 1)
 (brE ((decide (r_N < (0 : Int))) == false)
 (brE (decide (r_N > (63 : Int)))
 (some 3)
 (some 0))
 (some 3))))))
 (some 4))
 (brE ((r_Kind == 2) == true)
 (Option.bind (rules_texted_s r_Act) fun r1 =>
 (brE ((!r1) == true)
 (brE ((!((ByteArray.toList r_Text) == (ByteArray.toList ⟨#[]⟩))) == false)
 (brE ((r_Act != 6) == true)
 (brE (r_N != 0)
 (some 5)
 (brE ((r_Kind == 3) == true)
 (Option.bind (rules_variable_s r_Name) fun r2 =>
 (brE (!r2)
 (some 10)
 (brE (decide ((((ByteArray.size r_Text) : Nat) : Int) > (200 : Int)))
 (some 1)
 (brE ((decide (r_N < (0 : Int))) == false)
 (brE (decide (r_N > (63 : Int)))
 (some 3)
 (some 0))
 (some 3)))))
 (brE (decide ((((ByteArray.size r_Text) : Nat) : Int) > (200 : Int)))
 (some 1)
 (brE ((decide (r_N < (0 : Int))) == false)
 (brE (decide (r_N > (63 : Int)))
 (some 3)
 (some 0))
 (some 3)))))
 (brE ((r_Kind == 3) == true)
 (Option.bind (rules_variable_s r_Name) fun r2 =>
 (brE (!r2)
 (some 10)
 (brE (decide ((((ByteArray.size r_Text) : Nat) : Int) > (200 : Int)))
 (some 1)
 (brE ((decide (r_N < (0 : Int))) == false)
 (brE (decide (r_N > (63 : Int)))
 (some 3)
 (some 0))
 (some 3)))))
 (brE (decide ((((ByteArray.size r_Text) : Nat) : Int) > (200 : Int)))
 (some 1)
 (brE ((decide (r_N < (0 : Int))) == false)
 (brE (decide (r_N > (63 : Int)))
 (some 3)
 (some 0))
 (some 3)))))
 (some 5))
 (brE ((r_Act != 6) == true)
 (brE (r_N != 0)
 (some 5)
 (brE ((r_Kind == 3) == true)
 (Option.bind (rules_variable_s r_Name) fun r2 =>
 (brE (!r2)
 (some 10)
 (brE (decide ((((ByteArray.size r_Text) : Nat) : Int) > (200 : Int)))
 (some 1)
 (brE ((decide (r_N < (0 : Int))) == false)
 (brE (decide (r_N > (63 : Int)))
 (some 3)
 (some 0))
 (some 3)))))
 (brE (decide ((((ByteArray.size r_Text) : Nat) : Int) > (200 : Int)))
 (some 1)
 (brE ((decide (r_N < (0 : Int))) == false)
 (brE (decide (r_N > (63 : Int)))
 (some 3)
 (some 0))
 (some 3)))))
 (brE ((r_Kind == 3) == true)
 (Option.bind (rules_variable_s r_Name) fun r2 =>
 (brE (!r2)
 (some 10)
 (brE (decide ((((ByteArray.size r_Text) : Nat) : Int) > (200 : Int)))
 (some 1)
 (brE ((decide (r_N < (0 : Int))) == false)
 (brE (decide (r_N > (63 : Int)))
 (some 3)
 (some 0))
 (some 3)))))
 (brE (decide ((((ByteArray.size r_Text) : Nat) : Int) > (200 : Int)))
 (some 1)
 (brE ((decide (r_N < (0 : Int))) == false)
 (brE (decide (r_N > (63 : Int)))
 (some 3)
 (some 0))
 (some 3)))))))
 (brE ((r_Kind == 3) == true)
 (Option.bind (rules_variable_s r_Name) fun r1 =>
 (brE (!r1)
 (some 10)
 (brE (decide ((((ByteArray.size r_Text) : Nat) : Int) > (200 : Int)))
 (some 1)
 (brE ((decide (r_N < (0 : Int))) == false)
 (brE (decide (r_N > (63 : Int)))
 (some 3)
 (some 0))
 (some 3)))))
 (brE (decide ((((ByteArray.size r_Text) : Nat) : Int) > (200 : Int)))
 (some 1)
 (brE ((decide (r_N < (0 : Int))) == false)
 (brE (decide (r_N > (63 : Int)))
 (some 3)
 (some 0))
 (some 3)))))))
 (brE ((r_Kind == 2) == true)
 (brE ((decide (r_Act < (1 : Int))) == false)
 (brE (decide (r_Act > (7 : Int)))
 (some 4)
 (brE ((r_Kind == 2) == true)
 (Option.bind (rules_texted_s r_Act) fun r1 =>
 (brE ((!r1) == true)
 (brE ((!((ByteArray.toList r_Text) == (ByteArray.toList ⟨#[]⟩))) == false)
 (brE ((r_Act != 6) == true)
 (brE (r_N != 0)
 (some 5)
 (brE ((r_Kind == 3) == true)
 (Option.bind (rules_variable_s r_Name) fun r2 =>
 (brE (!r2)
 (some 10)
 (brE (decide ((((ByteArray.size r_Text) : Nat) : Int) > (200 : Int)))
 (some 1)
 (brE ((decide (r_N < (0 : Int))) == false)
 (brE (decide (r_N > (63 : Int)))
 (some 3)
 (some 0))
 (some 3)))))
 (brE (decide ((((ByteArray.size r_Text) : Nat) : Int) > (200 : Int)))
 (some 1)
 (brE ((decide (r_N < (0 : Int))) == false)
 (brE (decide (r_N > (63 : Int)))
 (some 3)
 (some 0))
 (some 3)))))
 (brE ((r_Kind == 3) == true)
 (Option.bind (rules_variable_s r_Name) fun r2 =>
 (brE (!r2)
 (some 10)
 (brE (decide ((((ByteArray.size r_Text) : Nat) : Int) > (200 : Int)))
 (some 1)
 (brE ((decide (r_N < (0 : Int))) == false)
 (brE (decide (r_N > (63 : Int)))
 (some 3)
 (some 0))
 (some 3)))))
 (brE (decide ((((ByteArray.size r_Text) : Nat) : Int) > (200 : Int)))
 (some 1)
 (brE ((decide (r_N < (0 : Int))) == false)
 (brE (decide (r_N > (63 : Int)))
 (some 3)
 (some 0))
 (some 3)))))
 (some 5))
 (brE ((r_Act != 6) == true)
 (brE (r_N != 0)
 (some 5)
 (brE ((r_Kind == 3) == true)
 (Option.bind (rules_variable_s r_Name) fun r2 =>
 (brE (!r2)
 (some 10)
 (brE (decide ((((ByteArray.size r_Text) : Nat) : Int) > (200 : Int)))
 (some 1)
 (brE ((decide (r_N < (0 : Int))) == false)
 (brE (decide (r_N > (63 : Int)))
 (some 3)
 (some 0))
 (some 3)))))
 (brE (decide ((((ByteArray.size r_Text) : Nat) : Int) > (200 : Int)))
 (some 1)
 (brE ((decide (r_N < (0 : Int))) == false)
 (brE (decide (r_N > (63 : Int)))
 (some 3)
 (some 0))
 (some 3)))))
 (brE ((r_Kind == 3) == true)
 (Option.bind (rules_variable_s r_Name) fun r2 =>
 (brE (!r2)
 (some 10)
 (brE (decide ((((ByteArray.size r_Text) : Nat) : Int) > (200 : Int)))
 (some 1)
 (brE ((decide (r_N < (0 : Int))) == false)
 (brE (decide (r_N > (63 : Int)))
 (some 3)
 (some 0))
 (some 3)))))
 (brE (decide ((((ByteArray.size r_Text) : Nat) : Int) > (200 : Int)))
 (some 1)
 (brE ((decide (r_N < (0 : Int))) == false)
 (brE (decide (r_N > (63 : Int)))
 (some 3)
 (some 0))
 (some 3)))))))
 (brE ((r_Kind == 3) == true)
 (Option.bind (rules_variable_s r_Name) fun r1 =>
 (brE (!r1)
 (some 10)
 (brE (decide ((((ByteArray.size r_Text) : Nat) : Int) > (200 : Int)))
 (some 1)
 (brE ((decide (r_N < (0 : Int))) == false)
 (brE (decide (r_N > (63 : Int)))
 (some 3)
 (some 0))
 (some 3)))))
 (brE (decide ((((ByteArray.size r_Text) : Nat) : Int) > (200 : Int)))
 (some 1)
 (brE ((decide (r_N < (0 : Int))) == false)
 (brE (decide (r_N > (63 : Int)))
 (some 3)
 (some 0))
 (some 3))))))
 (some 4))
 (brE ((r_Kind == 2) == true)
 (Option.bind (rules_texted_s r_Act) fun r1 =>
 (brE ((!r1) == true)
 (brE ((!((ByteArray.toList r_Text) == (ByteArray.toList ⟨#[]⟩))) == false)
 (brE ((r_Act != 6) == true)
 (brE (r_N != 0)
 (some 5)
 (brE ((r_Kind == 3) == true)
 (Option.bind (rules_variable_s r_Name) fun r2 =>
 (brE (!r2)
 (some 10)
 (brE (decide ((((ByteArray.size r_Text) : Nat) : Int) > (200 : Int)))
 (some 1)
 (brE ((decide (r_N < (0 : Int))) == false)
 (brE (decide (r_N > (63 : Int)))
 (some 3)
 (some 0))
 (some 3)))))
 (brE (decide ((((ByteArray.size r_Text) : Nat) : Int) > (200 : Int)))
 (some 1)
 (brE ((decide (r_N < (0 : Int))) == false)
 (brE (decide (r_N > (63 : Int)))
 (some 3)
 (some 0))
 (some 3)))))
 (brE ((r_Kind == 3) == true)
 (Option.bind (rules_variable_s r_Name) fun r2 =>
 (brE (!r2)
 (some 10)
 (brE (decide ((((ByteArray.size r_Text) : Nat) : Int) > (200 : Int)))
 (some 1)
 (brE ((decide (r_N < (0 : Int))) == false)
 (brE (decide (r_N > (63 : Int)))
 (some 3)
 (some 0))
 (some 3)))))
 (brE (decide ((((ByteArray.size r_Text) : Nat) : Int) > (200 : Int)))
 (some 1)
 (brE ((decide (r_N < (0 : Int))) == false)
 (brE (decide (r_N > (63 : Int)))
 (some 3)
 (some 0))
 (some 3)))))
 (some 5))
 (brE ((r_Act != 6) == true)
 (brE (r_N != 0)
 (some 5)
 (brE ((r_Kind == 3) == true)
 (Option.bind (rules_variable_s r_Name) fun r2 =>
 (brE (!r2)
 (some 10)
 (brE (decide ((((ByteArray.size r_Text) : Nat) : Int) > (200 : Int)))
 (some 1)
 (brE ((decide (r_N < (0 : Int))) == false)
 (brE (decide (r_N > (63 : Int)))
 (some 3)
 (some 0))
 (some 3)))))
 (brE (decide ((((ByteArray.size r_Text) : Nat) : Int) > (200 : Int)))
 (some 1)
 (brE ((decide (r_N < (0 : Int))) == false)
 (brE (decide (r_N > (63 : Int)))
 (some 3)
 (some 0))
 (some 3)))))
 (brE ((r_Kind == 3) == true)
 (Option.bind (rules_variable_s r_Name) fun r2 =>
 (brE (!r2)
 (some 10)
 (brE (decide ((((ByteArray.size r_Text) : Nat) : Int) > (200 : Int)))
 (some 1)
 (brE ((decide (r_N < (0 : Int))) == false)
 (brE (decide (r_N > (63 : Int)))
 (some 3)
 (some 0))
 (some 3)))))
 (brE (decide ((((ByteArray.size r_Text) : Nat) : Int) > (200 : Int)))
 (some 1)
 (brE ((decide (r_N < (0 : Int))) == false)
 (brE (decide (r_N > (63 : Int)))
 (some 3)
 (some 0))
 (some 3)))))))
 (brE ((r_Kind == 3) == true)
 (Option.bind (rules_variable_s r_Name) fun r1 =>
 (brE (!r1)
 (some 10)
 (brE (decide ((((ByteArray.size r_Text) : Nat) : Int) > (200 : Int)))
 (some 1)
 (brE ((decide (r_N < (0 : Int))) == false)
 (brE (decide (r_N > (63 : Int)))
 (some 3)
 (some 0))
 (some 3)))))
 (brE (decide ((((ByteArray.size r_Text) : Nat) : Int) > (200 : Int)))
 (some 1)
 (brE ((decide (r_N < (0 : Int))) == false)
 (brE (decide (r_N > (63 : Int)))
 (some 3)
 (some 0))
 (some 3))))))))
 (some 5))
 (some 5))
 (brE ((r_Kind != 3) == true)
 (brE ((!((ByteArray.toList r_Name) == (ByteArray.toList ⟨#[]⟩))) == false)
 (brE ((r_Kind == 4) == true)
 (brE (!((ByteArray.toList r_Text) == (ByteArray.toList ⟨#[]⟩)))
 (some 5)
 (brE ((r_Kind == 2) == true)
 (brE ((decide (r_Act < (1 : Int))) == false)
 (brE (decide (r_Act > (7 : Int)))
 (some 4)
 (brE ((r_Kind == 2) == true)
 (Option.bind (rules_texted_s r_Act) fun r1 =>
 (brE ((!r1) == true)
 (brE ((!((ByteArray.toList r_Text) == (ByteArray.toList ⟨#[]⟩))) == false)
 (brE ((r_Act != 6) == true)
 (brE (r_N != 0)
 (some 5)
 (brE ((r_Kind == 3) == true)
 (Option.bind (rules_variable_s r_Name) fun r2 =>
 (brE (!r2)
 (some 10)
 (brE (decide ((((ByteArray.size r_Text) : Nat) : Int) > (200 : Int)))
 (some 1)
 (brE ((decide (r_N < (0 : Int))) == false)
 (brE (decide (r_N > (63 : Int)))
 (some 3)
 (some 0))
 (some 3)))))
 (brE (decide ((((ByteArray.size r_Text) : Nat) : Int) > (200 : Int)))
 (some 1)
 (brE ((decide (r_N < (0 : Int))) == false)
 (brE (decide (r_N > (63 : Int)))
 (some 3)
 (some 0))
 (some 3)))))
 (brE ((r_Kind == 3) == true)
 (Option.bind (rules_variable_s r_Name) fun r2 =>
 (brE (!r2)
 (some 10)
 (brE (decide ((((ByteArray.size r_Text) : Nat) : Int) > (200 : Int)))
 (some 1)
 (brE ((decide (r_N < (0 : Int))) == false)
 (brE (decide (r_N > (63 : Int)))
 (some 3)
 (some 0))
 (some 3)))))
 (brE (decide ((((ByteArray.size r_Text) : Nat) : Int) > (200 : Int)))
 (some 1)
 (brE ((decide (r_N < (0 : Int))) == false)
 (brE (decide (r_N > (63 : Int)))
 (some 3)
 (some 0))
 (some 3)))))
 (some 5))
 (brE ((r_Act != 6) == true)
 (brE (r_N != 0)
 (some 5)
 (brE ((r_Kind == 3) == true)
 (Option.bind (rules_variable_s r_Name) fun r2 =>
 (brE (!r2)
 (some 10)
 (brE (decide ((((ByteArray.size r_Text) : Nat) : Int) > (200 : Int)))
 (some 1)
 (brE ((decide (r_N < (0 : Int))) == false)
 (brE (decide (r_N > (63 : Int)))
 (some 3)
 (some 0))
 (some 3)))))
 (brE (decide ((((ByteArray.size r_Text) : Nat) : Int) > (200 : Int)))
 (some 1)
 (brE ((decide (r_N < (0 : Int))) == false)
 (brE (decide (r_N > (63 : Int)))
 (some 3)
 (some 0))
 (some 3)))))
 (brE ((r_Kind == 3) == true)
 (Option.bind (rules_variable_s r_Name) fun r2 =>
 (brE (!r2)
 (some 10)
 (brE (decide ((((ByteArray.size r_Text) : Nat) : Int) > (200 : Int)))
 (some 1)
 (brE ((decide (r_N < (0 : Int))) == false)
 (brE (decide (r_N > (63 : Int)))
 (some 3)
 (some 0))
 (some 3)))))
 (brE (decide ((((ByteArray.size r_Text) : Nat) : Int) > (200 : Int)))
 (some 1)
 (brE ((decide (r_N < (0 : Int))) == false)
 (brE (decide (r_N > (63 : Int)))
 (some 3)
 (some 0))
 (some 3)))))))
 (brE ((r_Kind == 3) == true)
 (Option.bind (rules_variable_s r_Name) fun r1 =>
 (brE (!r1)
 (some 10)
 (brE (decide ((((ByteArray.size r_Text) : Nat) : Int) > (200 : Int)))
 (some 1)
 (brE ((decide (r_N < (0 : Int))) == false)
 (brE (decide (r_N > (63 : Int)))
 (some 3)
 (some 0))
 (some 3)))))
 (brE (decide ((((ByteArray.size r_Text) : Nat) : Int) > (200 : Int)))
 (some 1)
 (brE ((decide (r_N < (0 : Int))) == false)
 (brE (decide (r_N > (63 : Int)))
 (some 3)
 (some 0))
 (some 3))))))
 (some 4))
 (brE ((r_Kind == 2) == true)
 (Option.bind (rules_texted_s r_Act) fun r1 =>
 (brE ((!r1) == true)
 (brE ((!((ByteArray.toList r_Text) == (ByteArray.toList ⟨#[]⟩))) == false)
 (brE ((r_Act != 6) == true)
 (brE (r_N != 0)
 (some 5)
 (brE ((r_Kind == 3) == true)
 (Option.bind (rules_variable_s r_Name) fun r2 =>
 (brE (!r2)
 (some 10)
 (brE (decide ((((ByteArray.size r_Text) : Nat) : Int) > (200 : Int)))
 (some 1)
 (brE ((decide (r_N < (0 : Int))) == false)
 (brE (decide (r_N > (63 : Int)))
 (some 3)
 (some 0))
 (some 3)))))
 (brE (decide ((((ByteArray.size r_Text) : Nat) : Int) > (200 : Int)))
 (some 1)
 (brE ((decide (r_N < (0 : Int))) == false)
 (brE (decide (r_N > (63 : Int)))
 (some 3)
 (some 0))
 (some 3)))))
 (brE ((r_Kind == 3) == true)
 (Option.bind (rules_variable_s r_Name) fun r2 =>
 (brE (!r2)
 (some 10)
 (brE (decide ((((ByteArray.size r_Text) : Nat) : Int) > (200 : Int)))
 (some 1)
 (brE ((decide (r_N < (0 : Int))) == false)
 (brE (decide (r_N > (63 : Int)))
 (some 3)
 (some 0))
 (some 3)))))
 (brE (decide ((((ByteArray.size r_Text) : Nat) : Int) > (200 : Int)))
 (some 1)
 (brE ((decide (r_N < (0 : Int))) == false)
 (brE (decide (r_N > (63 : Int)))
 (some 3)
 (some 0))
 (some 3)))))
 (some 5))
 (brE ((r_Act != 6) == true)
 (brE (r_N != 0)
 (some 5)
 (brE ((r_Kind == 3) == true)
 (Option.bind (rules_variable_s r_Name) fun r2 =>
 (brE (!r2)
 (some 10)
 (brE (decide ((((ByteArray.size r_Text) : Nat) : Int) > (200 : Int)))
 (some 1)
 (brE ((decide (r_N < (0 : Int))) == false)
 (brE (decide (r_N > (63 : Int)))
 (some 3)
 (some 0))
 (some 3)))))
 (brE (decide ((((ByteArray.size r_Text) : Nat) : Int) > (200 : Int)))
 (some 1)
 (brE ((decide (r_N < (0 : Int))) == false)
 (brE (decide (r_N > (63 : Int)))
 (some 3)
 (some 0))
 (some 3)))))
 (brE ((r_Kind == 3) == true)
 (Option.bind (rules_variable_s r_Name) fun r2 =>
 (brE (!r2)
 (some 10)
 (brE (decide ((((ByteArray.size r_Text) : Nat) : Int) > (200 : Int)))
 (some 1)
 (brE ((decide (r_N < (0 : Int))) == false)
 (brE (decide (r_N > (63 : Int)))
 (some 3)
 (some 0))
 (some 3)))))
 (brE (decide ((((ByteArray.size r_Text) : Nat) : Int) > (200 : Int)))
 (some 1)
 (brE ((decide (r_N < (0 : Int))) == false)
 (brE (decide (r_N > (63 : Int)))
 (some 3)
 (some 0))
 (some 3)))))))
 (brE ((r_Kind == 3) == true)
 (Option.bind (rules_variable_s r_Name) fun r1 =>
 (brE (!r1)
 (some 10)
 (brE (decide ((((ByteArray.size r_Text) : Nat) : Int) > (200 : Int)))
 (some 1)
 (brE ((decide (r_N < (0 : Int))) == false)
 (brE (decide (r_N > (63 : Int)))
 (some 3)
 (some 0))
 (some 3)))))
 (brE (decide ((((ByteArray.size r_Text) : Nat) : Int) > (200 : Int)))
 (some 1)
 (brE ((decide (r_N < (0 : Int))) == false)
 (brE (decide (r_N > (63 : Int)))
 (some 3)
 (some 0))
 (some 3)))))))
 (brE ((r_Kind == 2) == true)
 (brE ((decide (r_Act < (1 : Int))) == false)
 (brE (decide (r_Act > (7 : Int)))
 (some 4)
 (brE ((r_Kind == 2) == true)
 (Option.bind (rules_texted_s r_Act) fun r1 =>
 (brE ((!r1) == true)
 (brE ((!((ByteArray.toList r_Text) == (ByteArray.toList ⟨#[]⟩))) == false)
 (brE ((r_Act != 6) == true)
 (brE (r_N != 0)
 (some 5)
 (brE ((r_Kind == 3) == true)
 (Option.bind (rules_variable_s r_Name) fun r2 =>
 (brE (!r2)
 (some 10)
 (brE (decide ((((ByteArray.size r_Text) : Nat) : Int) > (200 : Int)))
 (some 1)
 (brE ((decide (r_N < (0 : Int))) == false)
 (brE (decide (r_N > (63 : Int)))
 (some 3)
 (some 0))
 (some 3)))))
 (brE (decide ((((ByteArray.size r_Text) : Nat) : Int) > (200 : Int)))
 (some 1)
 (brE ((decide (r_N < (0 : Int))) == false)
 (brE (decide (r_N > (63 : Int)))
 (some 3)
 (some 0))
 (some 3)))))
 (brE ((r_Kind == 3) == true)
 (Option.bind (rules_variable_s r_Name) fun r2 =>
 (brE (!r2)
 (some 10)
 (brE (decide ((((ByteArray.size r_Text) : Nat) : Int) > (200 : Int)))
 (some 1)
 (brE ((decide (r_N < (0 : Int))) == false)
 (brE (decide (r_N > (63 : Int)))
 (some 3)
 (some 0))
 (some 3)))))
 (brE (decide ((((ByteArray.size r_Text) : Nat) : Int) > (200 : Int)))
 (some 1)
 (brE ((decide (r_N < (0 : Int))) == false)
 (brE (decide (r_N > (63 : Int)))
 (some 3)
 (some 0))
 (some 3)))))
 (some 5))
 (brE ((r_Act != 6) == true)
 (brE (r_N != 0)
 (some 5)
 (brE ((r_Kind == 3) == true)
 (Option.bind (rules_variable_s r_Name) fun r2 =>
 (brE (!r2)
 (some 10)
 (brE (decide ((((ByteArray.size r_Text) : Nat) : Int) > (200 : Int)))
 (some 1)
 (brE ((decide (r_N < (0 : Int))) == false)
 (brE (decide (r_N > (63 : Int)))
 (some 3)
 (some 0))
 (some 3)))))
 (brE (decide ((((ByteArray.size r_Text) : Nat) : Int) > (200 : Int)))
 (some 1)
 (brE ((decide (r_N < (0 : Int))) == false)
 (brE (decide (r_N > (63 : Int)))
 (some 3)
 (some 0))
 (some 3)))))
 (brE ((r_Kind == 3) == true)
 (Option.bind (rules_variable_s r_Name) fun r2 =>
 (brE (!r2)
 (some 10)
 (brE (decide ((((ByteArray.size r_Text) : Nat) : Int) > (200 : Int)))
 (some 1)
 (brE ((decide (r_N < (0 : Int))) == false)
 (brE (decide (r_N > (63 : Int)))
 (some 3)
 (some 0))
 (some 3)))))
 (brE (decide ((((ByteArray.size r_Text) : Nat) : Int) > (200 : Int)))
 (some 1)
 (brE ((decide (r_N < (0 : Int))) == false)
 (brE (decide (r_N > (63 : Int)))
 (some 3)
 (some 0))
 (some 3)))))))
 (brE ((r_Kind == 3) == true)
 (Option.bind (rules_variable_s r_Name) fun r1 =>
 (brE (!r1)
 (some 10)
 (brE (decide ((((ByteArray.size r_Text) : Nat) : Int) > (200 : Int)))
 (some 1)
 (brE ((decide (r_N < (0 : Int))) == false)
 (brE (decide (r_N > (63 : Int)))
 (some 3)
 (some 0))
 (some 3)))))
 (brE (decide ((((ByteArray.size r_Text) : Nat) : Int) > (200 : Int)))
 (some 1)
 (brE ((decide (r_N < (0 : Int))) == false)
 (brE (decide (r_N > (63 : Int)))
 (some 3)
 (some 0))
 (some 3))))))
 (some 4))
 (brE ((r_Kind == 2) == true)
 (Option.bind (rules_texted_s r_Act) fun r1 =>
 (brE ((!r1) == true)
 (brE ((!((ByteArray.toList r_Text) == (ByteArray.toList ⟨#[]⟩))) == false)
 (brE ((r_Act != 6) == true)
 (brE (r_N != 0)
 (some 5)
 (brE ((r_Kind == 3) == true)
 (Option.bind (rules_variable_s r_Name) fun r2 =>
 (brE (!r2)
 (some 10)
 (brE (decide ((((ByteArray.size r_Text) : Nat) : Int) > (200 : Int)))
 (some 1)
 (brE ((decide (r_N < (0 : Int))) == false)
 (brE (decide (r_N > (63 : Int)))
 (some 3)
 (some 0))
 (some 3)))))
 (brE (decide ((((ByteArray.size r_Text) : Nat) : Int) > (200 : Int)))
 (some 1)
 (brE ((decide (r_N < (0 : Int))) == false)
 (brE (decide (r_N > (63 : Int)))
 (some 3)
 (some 0))
 (some 3)))))
 (brE ((r_Kind == 3) == true)
 (Option.bind (rules_variable_s r_Name) fun r2 =>
 (brE (!r2)
 (some 10)
 (brE (decide ((((ByteArray.size r_Text) : Nat) : Int) > (200 : Int)))
 (some 1)
 (brE ((decide (r_N < (0 : Int))) == false)
 (brE (decide (r_N > (63 : Int)))
 (some 3)
 (some 0))
 (some 3)))))
 (brE (decide ((((ByteArray.size r_Text) : Nat) : Int) > (200 : Int)))
 (some 1)
 (brE ((decide (r_N < (0 : Int))) == false)
 (brE (decide (r_N > (63 : Int)))
 (some 3)
 (some 0))
 (some 3)))))
 (some 5))
 (brE ((r_Act != 6) == true)
 (brE (r_N != 0)
 (some 5)
 (brE ((r_Kind == 3) == true)
 (Option.bind (rules_variable_s r_Name) fun r2 =>
 (brE (!r2)
 (some 10)
 (brE (decide ((((ByteArray.size r_Text) : Nat) : Int) > (200 : Int)))
 (some 1)
 (brE ((decide (r_N < (0 : Int))) == false)
 (brE (decide (r_N > (63 : Int)))
 (some 3)
 (some 0))
 (some 3)))))
 (brE (decide ((((ByteArray.size r_Text) : Nat) : Int) > (200 : Int)))
 (some 1)
 (brE ((decide (r_N < (0 : Int))) == false)
 (brE (decide (r_N > (63 : Int)))
 (some 3)
 (some 0))
 (some 3)))))
 (brE ((r_Kind == 3) == true)
 (Option.bind (rules_variable_s r_Name) fun r2 =>
 (brE (!r2)
 (some 10)
 (brE (decide ((((ByteArray.size r_Text) : Nat) : Int) > (200 : Int)))
 (some 1)
 (brE ((decide (r_N < (0 : Int))) == false)
 (brE (decide (r_N > (63 : Int)))
 (some 3)
 (some 0))
 (some 3)))))
 (brE (decide ((((ByteArray.size r_Text) : Nat) : Int) > (200 : Int)))
 (some 1)
 (brE ((decide (r_N < (0 : Int))) == false)
 (brE (decide (r_N > (63 : Int)))
 (some 3)
 (some 0))
 (some 3)))))))
 (brE ((r_Kind == 3) == true)
 (Option.bind (rules_variable_s r_Name) fun r1 =>
 (brE (!r1)
 (some 10)
 (brE (decide ((((ByteArray.size r_Text) : Nat) : Int) > (200 : Int)))
 (some 1)
 (brE ((decide (r_N < (0 : Int))) == false)
 (brE (decide (r_N > (63 : Int)))
 (some 3)
 (some 0))
 (some 3)))))
 (brE (decide ((((ByteArray.size r_Text) : Nat) : Int) > (200 : Int)))
 (some 1)
 (brE ((decide (r_N < (0 : Int))) == false)
 (brE (decide (r_N > (63 : Int)))
 (some 3)
 (some 0))
 (some 3)))))))
 (some 5))
 (brE ((r_Kind == 4) == true)
 (brE (!((ByteArray.toList r_Text) == (ByteArray.toList ⟨#[]⟩)))
 (some 5)
 (brE ((r_Kind == 2) == true)
 (brE ((decide (r_Act < (1 : Int))) == false)
 (brE (decide (r_Act > (7 : Int)))
 (some 4)
 (brE ((r_Kind == 2) == true)
 (Option.bind (rules_texted_s r_Act) fun r1 =>
 (brE ((!r1) == true)
 (brE ((!((ByteArray.toList r_Text) == (ByteArray.toList ⟨#[]⟩))) == false)
 (brE ((r_Act != 6) == true)
 (brE (r_N != 0)
 (some 5)
 (brE ((r_Kind == 3) == true)
 (Option.bind (rules_variable_s r_Name) fun r2 =>
 (brE (!r2)
 (some 10)
 (brE (decide ((((ByteArray.size r_Text) : Nat) : Int) > (200 : Int)))
 (some 1)
 (brE ((decide (r_N < (0 : Int))) == false)
 (brE (decide (r_N > (63 : Int)))
 (some 3)
 (some 0))
 (some 3)))))
 (brE (decide ((((ByteArray.size r_Text) : Nat) : Int) > (200 : Int)))
 (some 1)
 (brE ((decide (r_N < (0 : Int))) == false)
 (brE (decide (r_N > (63 : Int)))
 (some 3)
 (some 0))
 (some 3)))))
 (brE ((r_Kind == 3) == true)
 (Option.bind (rules_variable_s r_Name) fun r2 =>
 (brE (!r2)
 (some 10)
 (brE (decide ((((ByteArray.size r_Text) : Nat) : Int) > (200 : Int)))
 (some 1)
 (brE ((decide (r_N < (0 : Int))) == false)
 (brE (decide (r_N > (63 : Int)))
 (some 3)
 (some 0))
 (some 3)))))
 (brE (decide ((((ByteArray.size r_Text) : Nat) : Int) > (200 : Int)))
 (some 1)
 (brE ((decide (r_N < (0 : Int))) == false)
 (brE (decide (r_N > (63 : Int)))
 (some 3)
 (some 0))
 (some 3)))))
 (some 5))
 (brE ((r_Act != 6) == true)
 (brE (r_N != 0)
 (some 5)
 (brE ((r_Kind == 3) == true)
 (Option.bind (rules_variable_s r_Name) fun r2 =>
 (brE (!r2)
 (some 10)
 (brE (decide ((((ByteArray.size r_Text) : Nat) : Int) > (200 : Int)))
 (some 1)
 (brE ((decide (r_N < (0 : Int))) == false)
 (brE (decide (r_N > (63 : Int)))
 (some 3)
 (some 0))
 (some 3)))))
 (brE (decide ((((ByteArray.size r_Text) : Nat) : Int) > (200 : Int)))
 (some 1)
 (brE ((decide (r_N < (0 : Int))) == false)
 (brE (decide (r_N > (63 : Int)))
 (some 3)
 (some 0))
 (some 3)))))
 (brE ((r_Kind == 3) == true)
 (Option.bind (rules_variable_s r_Name) fun r2 =>
 (brE (!r2)
 (some 10)
 (brE (decide ((((ByteArray.size r_Text) : Nat) : Int) > (200 : Int)))
 (some 1)
 (brE ((decide (r_N < (0 : Int))) == false)
 (brE (decide (r_N > (63 : Int)))
 (some 3)
 (some 0))
 (some 3)))))
 (brE (decide ((((ByteArray.size r_Text) : Nat) : Int) > (200 : Int)))
 (some 1)
 (brE ((decide (r_N < (0 : Int))) == false)
 (brE (decide (r_N > (63 : Int)))
 (some 3)
 (some 0))
 (some 3)))))))
 (brE ((r_Kind == 3) == true)
 (Option.bind (rules_variable_s r_Name) fun r1 =>
 (brE (!r1)
 (some 10)
 (brE (decide ((((ByteArray.size r_Text) : Nat) : Int) > (200 : Int)))
 (some 1)
 (brE ((decide (r_N < (0 : Int))) == false)
 (brE (decide (r_N > (63 : Int)))
 (some 3)
 (some 0))
 (some 3)))))
 (brE (decide ((((ByteArray.size r_Text) : Nat) : Int) > (200 : Int)))
 (some 1)
 (brE ((decide (r_N < (0 : Int))) == false)
 (brE (decide (r_N > (63 : Int)))
 (some 3)
 (some 0))
 (some 3))))))
 (some 4))
 (brE ((r_Kind == 2) == true)
 (Option.bind (rules_texted_s r_Act) fun r1 =>
 (brE ((!r1) == true)
 (brE ((!((ByteArray.toList r_Text) == (ByteArray.toList ⟨#[]⟩))) == false)
 (brE ((r_Act != 6) == true)
 (brE (r_N != 0)
 (some 5)
 (brE ((r_Kind == 3) == true)
 (Option.bind (rules_variable_s r_Name) fun r2 =>
 (brE (!r2)
 (some 10)
 (brE (decide ((((ByteArray.size r_Text) : Nat) : Int) > (200 : Int)))
 (some 1)
 (brE ((decide (r_N < (0 : Int))) == false)
 (brE (decide (r_N > (63 : Int)))
 (some 3)
 (some 0))
 (some 3)))))
 (brE (decide ((((ByteArray.size r_Text) : Nat) : Int) > (200 : Int)))
 (some 1)
 (brE ((decide (r_N < (0 : Int))) == false)
 (brE (decide (r_N > (63 : Int)))
 (some 3)
 (some 0))
 (some 3)))))
 (brE ((r_Kind == 3) == true)
 (Option.bind (rules_variable_s r_Name) fun r2 =>
 (brE (!r2)
 (some 10)
 (brE (decide ((((ByteArray.size r_Text) : Nat) : Int) > (200 : Int)))
 (some 1)
 (brE ((decide (r_N < (0 : Int))) == false)
 (brE (decide (r_N > (63 : Int)))
 (some 3)
 (some 0))
 (some 3)))))
 (brE (decide ((((ByteArray.size r_Text) : Nat) : Int) > (200 : Int)))
 (some 1)
 (brE ((decide (r_N < (0 : Int))) == false)
 (brE (decide (r_N > (63 : Int)))
 (some 3)
 (some 0))
 (some 3)))))
 (some 5))
 (brE ((r_Act != 6) == true)
 (brE (r_N != 0)
 (some 5)
 (brE ((r_Kind == 3) == true)
 (Option.bind (rules_variable_s r_Name) fun r2 =>
 (brE (!r2)
 (some 10)
 (brE (decide ((((ByteArray.size r_Text) : Nat) : Int) > (200 : Int)))
 (some 1)
 (brE ((decide (r_N < (0 : Int))) == false)
 (brE (decide (r_N > (63 : Int)))
 (some 3)
 (some 0))
 (some 3)))))
 (brE (decide ((((ByteArray.size r_Text) : Nat) : Int) > (200 : Int)))
 (some 1)
 (brE ((decide (r_N < (0 : Int))) == false)
 (brE (decide (r_N > (63 : Int)))
 (some 3)
 (some 0))
 (some 3)))))
 (brE ((r_Kind == 3) == true)
 (Option.bind (rules_variable_s r_Name) fun r2 =>
 (brE (!r2)
 (some 10)
 (brE (decide ((((ByteArray.size r_Text) : Nat) : Int) > (200 : Int)))
 (some 1)
 (brE ((decide (r_N < (0 : Int))) == false)
 (brE (decide (r_N > (63 : Int)))
 (some 3)
 (some 0))
 (some 3)))))
 (brE (decide ((((ByteArray.size r_Text) : Nat) : Int) > (200 : Int)))
 (some 1)
 (brE ((decide (r_N < (0 : Int))) == false)
 (brE (decide (r_N > (63 : Int)))
 (some 3)
 (some 0))
 (some 3)))))))
 (brE ((r_Kind == 3) == true)
 (Option.bind (rules_variable_s r_Name) fun r1 =>
 (brE (!r1)
 (some 10)
 (brE (decide ((((ByteArray.size r_Text) : Nat) : Int) > (200 : Int)))
 (some 1)
 (brE ((decide (r_N < (0 : Int))) == false)
 (brE (decide (r_N > (63 : Int)))
 (some 3)
 (some 0))
 (some 3)))))
 (brE (decide ((((ByteArray.size r_Text) : Nat) : Int) > (200 : Int)))
 (some 1)
 (brE ((decide (r_N < (0 : Int))) == false)
 (brE (decide (r_N > (63 : Int)))
 (some 3)
 (some 0))
 (some 3)))))))
 (brE ((r_Kind == 2) == true)
 (brE ((decide (r_Act < (1 : Int))) == false)
 (brE (decide (r_Act > (7 : Int)))
 (some 4)
 (brE ((r_Kind == 2) == true)
 (Option.bind (rules_texted_s r_Act) fun r1 =>
 (brE ((!r1) == true)
 (brE ((!((ByteArray.toList r_Text) == (ByteArray.toList ⟨#[]⟩))) == false)
 (brE ((r_Act != 6) == true)
 (brE (r_N != 0)
 (some 5)
 (brE ((r_Kind == 3) == true)
 (Option.bind (rules_variable_s r_Name) fun r2 =>
 (brE (!r2)
 (some 10)
 (brE (decide ((((ByteArray.size r_Text) : Nat) : Int) > (200 : Int)))
 (some 1)
 (brE ((decide (r_N < (0 : Int))) == false)
 (brE (decide (r_N > (63 : Int)))
 (some 3)
 (some 0))
 (some 3)))))
 (brE (decide ((((ByteArray.size r_Text) : Nat) : Int) > (200 : Int)))
 (some 1)
 (brE ((decide (r_N < (0 : Int))) == false)
 (brE (decide (r_N > (63 : Int)))
 (some 3)
 (some 0))
 (some 3)))))
 (brE ((r_Kind == 3) == true)
 (Option.bind (rules_variable_s r_Name) fun r2 =>
 (brE (!r2)
 (some 10)
 (brE (decide ((((ByteArray.size r_Text) : Nat) : Int) > (200 : Int)))
 (some 1)
 (brE ((decide (r_N < (0 : Int))) == false)
 (brE (decide (r_N > (63 : Int)))
 (some 3)
 (some 0))
 (some 3)))))
 (brE (decide ((((ByteArray.size r_Text) : Nat) : Int) > (200 : Int)))
 (some 1)
 (brE ((decide (r_N < (0 : Int))) == false)
 (brE (decide (r_N > (63 : Int)))
 (some 3)
 (some 0))
 (some 3)))))
 (some 5))
 (brE ((r_Act != 6) == true)
 (brE (r_N != 0)
 (some 5)
 (brE ((r_Kind == 3) == true)
 (Option.bind (rules_variable_s r_Name) fun r2 =>
 (brE (!r2)
 (some 10)
 (brE (decide ((((ByteArray.size r_Text) : Nat) : Int) > (200 : Int)))
 (some 1)
 (brE ((decide (r_N < (0 : Int))) == false)
 (brE (decide (r_N > (63 : Int)))
 (some 3)
 (some 0))
 (some 3)))))
 (brE (decide ((((ByteArray.size r_Text) : Nat) : Int) > (200 : Int)))
 (some 1)
 (brE ((decide (r_N < (0 : Int))) == false)
 (brE (decide (r_N > (63 : Int)))
 (some 3)
 (some 0))
 (some 3)))))
 (brE ((r_Kind == 3) == true)
 (Option.bind (rules_variable_s r_Name) fun r2 =>
 (brE (!r2)
 (some 10)
 (brE (decide ((((ByteArray.size r_Text) : Nat) : Int) > (200 : Int)))
 (some 1)
 (brE ((decide (r_N < (0 : Int))) == false)
 (brE (decide (r_N > (63 : Int)))
 (some 3)
 (some 0))
 (some 3)))))
 (brE (decide ((((ByteArray.size r_Text) : Nat) : Int) > (200 : Int)))
 (some 1)
 (brE ((decide (r_N < (0 : Int))) == false)
 (brE (decide (r_N > (63 : Int)))
 (some 3)
 (some 0))
 (some 3)))))))
 (brE ((r_Kind == 3) == true)
 (Option.bind (rules_variable_s r_Name) fun r1 =>
 (brE (!r1)
 (some 10)
 (brE (decide ((((ByteArray.size r_Text) : Nat) : Int) > (200 : Int)))
 (some 1)
 (brE ((decide (r_N < (0 : Int))) == false)
 (brE (decide (r_N > (63 : Int)))
 (some 3)
 (some 0))
 (some 3)))))
 (brE (decide ((((ByteArray.size r_Text) : Nat) : Int) > (200 : Int)))
 (some 1)
 (brE ((decide (r_N < (0 : Int))) == false)
 (brE (decide (r_N > (63 : Int)))
 (some 3)
 (some 0))
 (some 3))))))
 (some 4))
 (brE ((r_Kind == 2) == true)
 (Option.bind (rules_texted_s r_Act) fun r1 =>
 (brE ((!r1) == true)
 (brE ((!((ByteArray.toList r_Text) == (ByteArray.toList ⟨#[]⟩))) == false)
 (brE ((r_Act != 6) == true)
 (brE (r_N != 0)
 (some 5)
 (brE ((r_Kind == 3) == true)
 (Option.bind (rules_variable_s r_Name) fun r2 =>
 (brE (!r2)
 (some 10)
 (brE (decide ((((ByteArray.size r_Text) : Nat) : Int) > (200 : Int)))
 (some 1)
 (brE ((decide (r_N < (0 : Int))) == false)
 (brE (decide (r_N > (63 : Int)))
 (some 3)
 (some 0))
 (some 3)))))
 (brE (decide ((((ByteArray.size r_Text) : Nat) : Int) > (200 : Int)))
 (some 1)
 (brE ((decide (r_N < (0 : Int))) == false)
 (brE (decide (r_N > (63 : Int)))
 (some 3)
 (some 0))
 (some 3)))))
 (brE ((r_Kind == 3) == true)
 (Option.bind (rules_variable_s r_Name) fun r2 =>
 (brE (!r2)
 (some 10)
 (brE (decide ((((ByteArray.size r_Text) : Nat) : Int) > (200 : Int)))
 (some 1)
 (brE ((decide (r_N < (0 : Int))) == false)
 (brE (decide (r_N > (63 : Int)))
 (some 3)
 (some 0))
 (some 3)))))
 (brE (decide ((((ByteArray.size r_Text) : Nat) : Int) > (200 : Int)))
 (some 1)
 (brE ((decide (r_N < (0 : Int))) == false)
 (brE (decide (r_N > (63 : Int)))
 (some 3)
 (some 0))
 (some 3)))))
 (some 5))
 (brE ((r_Act != 6) == true)
 (brE (r_N != 0)
 (some 5)
 (brE ((r_Kind == 3) == true)
 (Option.bind (rules_variable_s r_Name) fun r2 =>
 (brE (!r2)
 (some 10)
 (brE (decide ((((ByteArray.size r_Text) : Nat) : Int) > (200 : Int)))
 (some 1)
 (brE ((decide (r_N < (0 : Int))) == false)
 (brE (decide (r_N > (63 : Int)))
 (some 3)
 (some 0))
 (some 3)))))
 (brE (decide ((((ByteArray.size r_Text) : Nat) : Int) > (200 : Int)))
 (some 1)
 (brE ((decide (r_N < (0 : Int))) == false)
 (brE (decide (r_N > (63 : Int)))
 (some 3)
 (some 0))
 (some 3)))))
 (brE ((r_Kind == 3) == true)
 (Option.bind (rules_variable_s r_Name) fun r2 =>
 (brE (!r2)
 (some 10)
 (brE (decide ((((ByteArray.size r_Text) : Nat) : Int) > (200 : Int)))
 (some 1)
 (brE ((decide (r_N < (0 : Int))) == false)
 (brE (decide (r_N > (63 : Int)))
 (some 3)
 (some 0))
 (some 3)))))
 (brE (decide ((((ByteArray.size r_Text) : Nat) : Int) > (200 : Int)))
 (some 1)
 (brE ((decide (r_N < (0 : Int))) == false)
 (brE (decide (r_N > (63 : Int)))
 (some 3)
 (some 0))
 (some 3)))))))
 (brE ((r_Kind == 3) == true)
 (Option.bind (rules_variable_s r_Name) fun r1 =>
 (brE (!r1)
 (some 10)
 (brE (decide ((((ByteArray.size r_Text) : Nat) : Int) > (200 : Int)))
 (some 1)
 (brE ((decide (r_N < (0 : Int))) == false)
 (brE (decide (r_N > (63 : Int)))
 (some 3)
 (some 0))
 (some 3)))))
 (brE (decide ((((ByteArray.size r_Text) : Nat) : Int) > (200 : Int)))
 (some 1)
 (brE ((decide (r_N < (0 : Int))) == false)
 (brE (decide (r_N > (63 : Int)))
 (some 3)
 (some 0))
 (some 3)))))))))
 (some 5))
 (some 5))))
theorem rules_plain_eq {r_Kind : Int} {r_Test_Kind : Int} {r_Test_Tests : (List S48)} {r_Test_Name : ByteArray} {r_Test_Pattern : Int} {r_Test_Text : ByteArray} {r_Test_N : Int} {r_Then : (List S50)} {r_Else : (List S50)} {r_Act : Int} {r_Name : ByteArray} {r_Text : ByteArray} {r_N : Int} {r : Int} (h : rules_plain_t r_Kind r_Test_Kind r_Test_Tests r_Test_Name r_Test_Pattern r_Test_Text r_Test_N r_Then r_Else r_Act r_Name r_Text r_N = some r) : rules_plain_s r_Kind r_Test_Kind r_Test_Tests r_Test_Name r_Test_Pattern r_Test_Text r_Test_N r_Then r_Else r_Act r_Name r_Text r_N = some r :=
  fS_tree (es := tab_rules_variable) (hs := []) [] Tryz.func101 rfl (by kernel_rfl) rfl (by kernel_rfl) (by kernel_rfl) trivial trivial (by kernel_rfl) h
def rules_plain_e : Ent Tryz.prog lv X0 := entS Tryz.prog lv X0 101 [] rules_plain_ca rules_plain_cr (fun x => rules_plain_s x.1 x.2.1 x.2.2.1 x.2.2.2.1 x.2.2.2.2.1 x.2.2.2.2.2.1 x.2.2.2.2.2.2.1 x.2.2.2.2.2.2.2.1 x.2.2.2.2.2.2.2.2.1 x.2.2.2.2.2.2.2.2.2.1 x.2.2.2.2.2.2.2.2.2.2.1 x.2.2.2.2.2.2.2.2.2.2.2.1 x.2.2.2.2.2.2.2.2.2.2.2.2) (fun _ _ h => fS_call h)
def tab_rules_plain : List (Ent Tryz.prog lv X0) := rules_plain_e :: tab_rules_variable
def rules_test_ca : Cod (List V) ((Int × (List S48) × ByteArray × Int × ByteArray × Int) × Int) := (lCons (vAgg (lCons (vC (cInt .i64)) (lCons (vC (cSl ec_48)) (lCons (vC cStr) (lCons (vC (cInt .i64)) (lCons (vC cStr) (lOne (vC (cInt .i64))))))))) (lOne (vC (cInt .i64))))
def rules_test_cr : Cod (V × List B) Int := (cFstU (cPair (vC (cInt .i64)) lNil))
def rules_test_s (t_Kind : Int) (t_Tests : (List S48)) (t_Name : ByteArray) (t_Pattern : Int) (t_Text : ByteArray) (t_N : Int) (depth : Int) : Option Int := fS Tryz.prog lv X0 102 rules_test_ca rules_test_cr ((t_Kind, t_Tests, t_Name, t_Pattern, t_Text, t_N), depth)
def rules_test_e : Ent Tryz.prog lv X0 := entS Tryz.prog lv X0 102 [] rules_test_ca rules_test_cr (fun x => rules_test_s x.1.1 x.1.2.1 x.1.2.2.1 x.1.2.2.2.1 x.1.2.2.2.2.1 x.1.2.2.2.2.2 x.2) (fun _ _ h => fS_call h)
def tab_rules_test : List (Ent Tryz.prog lv X0) := rules_test_e :: tab_rules_plain
def rules_test_l19_s : SC ((Int × (List S48) × Int × Int) × Unit) := sLS [1, 105, 106, 107] (lCons (vC (cInt .i64)) (lCons (vC (cSl ec_48)) (lCons (vC (cInt .i64)) (lOne (vC (cInt .i64)))))) lNil [] [] (by decide) (fun _ => rfl)
def rules_test_l19_o3 : SC ((Int × (List S48) × Int × Int × Bool) × Unit) := sLS [1, 105, 106, 107, 108] (lCons (vC (cInt .i64)) (lCons (vC (cSl ec_48)) (lCons (vC (cInt .i64)) (lCons (vC (cInt .i64)) (lOne (vC cBool)))))) lNil [] [] (by decide) (fun _ => rfl)
def rules_test_l19_o1 : SC (Int × Unit) := sLS [4] (lOne (vC (cInt .i64))) lNil [] [] (by decide) (fun _ => rfl)
def rules_test_l19_o : OC ((Int × Unit) ⊕ ((Int × (List S48) × Int × Int × Bool) × Unit)) := oOr 1 rules_test_l19_o1 (oAt 3 rules_test_l19_o3) (fun x => (by decide : (3 : Nat) ≠ 1))
def rules_test_l19 (depth : Int) (t105 : (List S48)) (t106 : Int) (t107 : Int) : Option ((Int × Unit) ⊕ ((Int × (List S48) × Int × Int × Bool) × Unit)) := lS Tryz.prog lv X0 102 119 (getLoop (cdF Tryz.f102) 19) rules_test_l19_s rules_test_l19_o ((depth, t105, t106, t107), ())
def rules_test_l19_t (depth : Int) (t105 : (List S48)) (t106 : Int) (t107 : Int) : Option ((Int × Unit) ⊕ ((Int × (List S48) × Int × Int × Bool) × Unit)) :=
 (brE (decide (t107 < t106))
 (gdE (decide ((0 : Int) ≤ t107)) <|
 (gdE ((decide ((Int.toNat t107) < (List.length (EC.encL ec_48 t105)))) && (isE [(K1.int Go.IntKind.i64), K1.sl, K1.str, (K1.int Go.IntKind.i64), K1.str, (K1.int Go.IntKind.i64)] (0 : Nat) (List.getD (EC.encL ec_48 t105) (Int.toNat t107) []))) <|
 (gdE (EC.isL ec_48 (slOf (List.getD (List.getD (EC.encL ec_48 t105) (Int.toNat t107) []) (1 : Nat) C.ne))) <|
 (Option.bind (rules_test_s (intOf (List.getD (List.getD (EC.encL ec_48 t105) (Int.toNat t107) []) (0 : Nat) C.ne)) (EC.decL ec_48 (slOf (List.getD (List.getD (EC.encL ec_48 t105) (Int.toNat t107) []) (1 : Nat) C.ne))) (strOf (List.getD (List.getD (EC.encL ec_48 t105) (Int.toNat t107) []) (2 : Nat) C.ne)) (intOf (List.getD (List.getD (EC.encL ec_48 t105) (Int.toNat t107) []) (3 : Nat) C.ne)) (strOf (List.getD (List.getD (EC.encL ec_48 t105) (Int.toNat t107) []) (4 : Nat) C.ne)) (intOf (List.getD (List.getD (EC.encL ec_48 t105) (Int.toNat t107) []) (5 : Nat) C.ne)) (IntKind.wrap .i64 (depth + (1 : Int)))) fun r0 =>
 (brE (r0 != 0)
 (some (.inl (r0, ())))
 (gdE (EC.isL ec_48 (EC.encL ec_48 t105)) <|
 (rules_test_l19 depth (EC.decL ec_48 (EC.encL ec_48 t105)) t106 (IntKind.wrap .i64 (t107 + (1 : Int))))))))))
 (gdE (EC.isL ec_48 (EC.encL ec_48 t105)) <|
 (some (.inr ((depth, ((EC.decL ec_48 (EC.encL ec_48 t105)), (t106, (t107, false)))), ())))))
theorem rules_test_l19_eq {depth : Int} {t105 : (List S48)} {t106 : Int} {t107 : Int} {r : ((Int × Unit) ⊕ ((Int × (List S48) × Int × Int × Bool) × Unit))} (h : rules_test_l19_t depth t105 t106 t107 = some r) : rules_test_l19 depth t105 t106 t107 = some r :=
  lS_tree (es := tab_rules_test) (hs := []) [] (by kernel_rfl) trivial trivial (by kernel_rfl) h
def rules_test_l19_e : LEnt Tryz.prog lv X0 102 119 := lentS Tryz.prog lv X0 19 (getLoop (cdF Tryz.f102) 19) rules_test_l19_s rules_test_l19_o (fun x => rules_test_l19 x.1.1 x.1.2.1 x.1.2.2.1 x.1.2.2.2) (fun _ _ h => lS_from h)
def rules_test_g18_s : SC ((Int × Unit) × (Int × (List S48) × ByteArray × Int × ByteArray × Int)) := sLS [1, 2] (lCons (vC (cInt .i64)) (lOne (vPtr 0 0))) (lOne (oSome (bBox (lCons (vC (cInt .i64)) (lCons (vC (cSl ec_48)) (lCons (vC cStr) (lCons (vC (cInt .i64)) (lCons (vC cStr) (lOne (vC (cInt .i64))))))))))) [false] [] (by decide) (fun _ => rfl)
def rules_test_g18_o1 : SC (Int × Unit) := sLS [4] (lOne (vC (cInt .i64))) lNil [] [] (by decide) (fun _ => rfl)
def rules_test_g18_o : OC (Int × Unit) := oAt 1 rules_test_g18_o1
def rules_test_g18 (depth : Int) (b0 : Int) (b0_1 : (List S48)) (b0_2 : ByteArray) (b0_3 : Int) (b0_4 : ByteArray) (b0_5 : Int) : Option (Int × Unit) := gS Tryz.prog lv X0 102 119 (getSeg (cdF Tryz.f102) 18) rules_test_g18_s rules_test_g18_o ((depth, ()), (b0, b0_1, b0_2, b0_3, b0_4, b0_5))
def rules_test_g18_t (depth : Int) (b0 : Int) (b0_1 : (List S48)) (b0_2 : ByteArray) (b0_3 : Int) (b0_4 : ByteArray) (b0_5 : Int) : Option (Int × Unit) :=
 (gdE (EC.isL ec_48 (EC.encL ec_48 b0_1)) <|
 (Option.bind (rules_test_l19 depth (EC.decL ec_48 (EC.encL ec_48 b0_1)) (((List.length (EC.encL ec_48 b0_1)) : Nat) : Int) (0 : Int)) fun r0 =>
 (Sum.elim (fun r1 => (some ((r1).1, ())))
 (fun r1 => (some ((0 : Int), ()))) r0)))
theorem rules_test_g18_eq {depth : Int} {b0 : Int} {b0_1 : (List S48)} {b0_2 : ByteArray} {b0_3 : Int} {b0_4 : ByteArray} {b0_5 : Int} {r : (Int × Unit)} (h : rules_test_g18_t depth b0 b0_1 b0_2 b0_3 b0_4 b0_5 = some r) : rules_test_g18 depth b0 b0_1 b0_2 b0_3 b0_4 b0_5 = some r :=
  gS_tree (es := tab_rules_test) (hs := []) [rules_test_l19_e] (by kernel_rfl) ⟨⟨_, rfl, rfl⟩, trivial⟩ trivial (by kernel_rfl) h
def rules_test_g18_e : LEnt Tryz.prog lv X0 102 119 := gentS Tryz.prog lv X0 18 (getSeg (cdF Tryz.f102) 18) (by kernel_rfl) rules_test_g18_s rules_test_g18_o (fun x => rules_test_g18 x.1.1 x.2.1 x.2.2.1 x.2.2.2.1 x.2.2.2.2.1 x.2.2.2.2.2.1 x.2.2.2.2.2.2) (fun _ _ h => gS_from h)
def rules_test_t (t_Kind : Int) (t_Tests : (List S48)) (t_Name : ByteArray) (t_Pattern : Int) (t_Text : ByteArray) (t_N : Int) (depth : Int) : Option Int :=
 (Option.bind (rules_used_s t_Kind) fun r0 =>
 (brE (decide (depth > (8 : Int)))
 (some 5)
 (brE ((decide (t_Kind < (1 : Int))) == false)
 (brE (decide (t_Kind > (9 : Int)))
 (some 4)
 (gdE (EC.isL ec_48 (EC.encL ec_48 t_Tests)) <|
 (Option.bind (rules_inner_s t_Kind (EC.decL ec_48 (EC.encL ec_48 t_Tests)) t_Name t_Pattern t_Text t_N) fun r1 =>
 (brE (!r1)
 (some 5)
 (brE ((!(r0).1) == true)
 (brE ((!((ByteArray.toList t_Name) == (ByteArray.toList ⟨#[]⟩))) == false)
 (brE ((!((r0).2).1) == true)
 (brE ((t_Pattern != 0) == false)
 (brE ((!((ByteArray.toList t_Text) == (ByteArray.toList ⟨#[]⟩))) == false)
 (brE ((!((r0).2).2) == true)
 (brE (t_N != 0)
 (some 5)
 (brE ((r0).1 == true)
 (brE (((ByteArray.toList t_Name) == (ByteArray.toList ⟨#[]⟩)) == false)
 (brE (decide ((((ByteArray.size t_Name) : Nat) : Int) > (60 : Int)))
 (some 10)
 (brE (((r0).2).1 == true)
 (brE ((decide (t_Pattern < (1 : Int))) == false)
 (brE (decide (t_Pattern > (3 : Int)))
 (some 4)
 (brE (decide ((((ByteArray.size t_Text) : Nat) : Int) > (200 : Int)))
 (some 1)
 (brE ((decide (t_N < (0 : Int))) == false)
 (brE (decide (t_N > (1000000 : Int)))
 (some 3)
 (gdE (EC.isL ec_48 (EC.encL ec_48 t_Tests)) <|
 (Option.bind (rules_test_g18 depth t_Kind (EC.decL ec_48 (EC.encL ec_48 t_Tests)) t_Name t_Pattern t_Text t_N) fun r2 =>
 (some (r2).1))))
 (some 3))))
 (some 4))
 (brE (decide ((((ByteArray.size t_Text) : Nat) : Int) > (200 : Int)))
 (some 1)
 (brE ((decide (t_N < (0 : Int))) == false)
 (brE (decide (t_N > (1000000 : Int)))
 (some 3)
 (gdE (EC.isL ec_48 (EC.encL ec_48 t_Tests)) <|
 (Option.bind (rules_test_g18 depth t_Kind (EC.decL ec_48 (EC.encL ec_48 t_Tests)) t_Name t_Pattern t_Text t_N) fun r2 =>
 (some (r2).1))))
 (some 3)))))
 (some 10))
 (brE (((r0).2).1 == true)
 (brE ((decide (t_Pattern < (1 : Int))) == false)
 (brE (decide (t_Pattern > (3 : Int)))
 (some 4)
 (brE (decide ((((ByteArray.size t_Text) : Nat) : Int) > (200 : Int)))
 (some 1)
 (brE ((decide (t_N < (0 : Int))) == false)
 (brE (decide (t_N > (1000000 : Int)))
 (some 3)
 (gdE (EC.isL ec_48 (EC.encL ec_48 t_Tests)) <|
 (Option.bind (rules_test_g18 depth t_Kind (EC.decL ec_48 (EC.encL ec_48 t_Tests)) t_Name t_Pattern t_Text t_N) fun r2 =>
 (some (r2).1))))
 (some 3))))
 (some 4))
 (brE (decide ((((ByteArray.size t_Text) : Nat) : Int) > (200 : Int)))
 (some 1)
 (brE ((decide (t_N < (0 : Int))) == false)
 (brE (decide (t_N > (1000000 : Int)))
 (some 3)
 (gdE (EC.isL ec_48 (EC.encL ec_48 t_Tests)) <|
 (Option.bind (rules_test_g18 depth t_Kind (EC.decL ec_48 (EC.encL ec_48 t_Tests)) t_Name t_Pattern t_Text t_N) fun r2 =>
 (some (r2).1))))
 (some 3))))))
 (brE ((r0).1 == true)
 (brE (((ByteArray.toList t_Name) == (ByteArray.toList ⟨#[]⟩)) == false)
 (brE (decide ((((ByteArray.size t_Name) : Nat) : Int) > (60 : Int)))
 (some 10)
 (brE (((r0).2).1 == true)
 (brE ((decide (t_Pattern < (1 : Int))) == false)
 (brE (decide (t_Pattern > (3 : Int)))
 (some 4)
 (brE (decide ((((ByteArray.size t_Text) : Nat) : Int) > (200 : Int)))
 (some 1)
 (brE ((decide (t_N < (0 : Int))) == false)
 (brE (decide (t_N > (1000000 : Int)))
 (some 3)
 (gdE (EC.isL ec_48 (EC.encL ec_48 t_Tests)) <|
 (Option.bind (rules_test_g18 depth t_Kind (EC.decL ec_48 (EC.encL ec_48 t_Tests)) t_Name t_Pattern t_Text t_N) fun r2 =>
 (some (r2).1))))
 (some 3))))
 (some 4))
 (brE (decide ((((ByteArray.size t_Text) : Nat) : Int) > (200 : Int)))
 (some 1)
 (brE ((decide (t_N < (0 : Int))) == false)
 (brE (decide (t_N > (1000000 : Int)))
 (some 3)
 (gdE (EC.isL ec_48 (EC.encL ec_48 t_Tests)) <|
 (Option.bind (rules_test_g18 depth t_Kind (EC.decL ec_48 (EC.encL ec_48 t_Tests)) t_Name t_Pattern t_Text t_N) fun r2 =>
 (some (r2).1))))
 (some 3)))))
 (some 10))
 (brE (((r0).2).1 == true)
 (brE ((decide (t_Pattern < (1 : Int))) == false)
 (brE (decide (t_Pattern > (3 : Int)))
 (some 4)
 (brE (decide ((((ByteArray.size t_Text) : Nat) : Int) > (200 : Int)))
 (some 1)
 (brE ((decide (t_N < (0 : Int))) == false)
 (brE (decide (t_N > (1000000 : Int)))
 (some 3)
 (gdE (EC.isL ec_48 (EC.encL ec_48 t_Tests)) <|
 (Option.bind (rules_test_g18 depth t_Kind (EC.decL ec_48 (EC.encL ec_48 t_Tests)) t_Name t_Pattern t_Text t_N) fun r2 =>
 (some (r2).1))))
 (some 3))))
 (some 4))
 (brE (decide ((((ByteArray.size t_Text) : Nat) : Int) > (200 : Int)))
 (some 1)
 (brE ((decide (t_N < (0 : Int))) == false)
 (brE (decide (t_N > (1000000 : Int)))
 (some 3)
 (gdE (EC.isL ec_48 (EC.encL ec_48 t_Tests)) <|
 (Option.bind (rules_test_g18 depth t_Kind (EC.decL ec_48 (EC.encL ec_48 t_Tests)) t_Name t_Pattern t_Text t_N) fun r2 =>
 (some (r2).1))))
 (some 3))))))
 (some 5))
 (some 5))
 (brE ((!((r0).2).2) == true)
 (brE (t_N != 0)
 (some 5)
 (brE ((r0).1 == true)
 (brE (((ByteArray.toList t_Name) == (ByteArray.toList ⟨#[]⟩)) == false)
 (brE (decide ((((ByteArray.size t_Name) : Nat) : Int) > (60 : Int)))
 (some 10)
 (brE (((r0).2).1 == true)
 (brE ((decide (t_Pattern < (1 : Int))) == false)
 (brE (decide (t_Pattern > (3 : Int)))
 (some 4)
 (brE (decide ((((ByteArray.size t_Text) : Nat) : Int) > (200 : Int)))
 (some 1)
 (brE ((decide (t_N < (0 : Int))) == false)
 (brE (decide (t_N > (1000000 : Int)))
 (some 3)
 (gdE (EC.isL ec_48 (EC.encL ec_48 t_Tests)) <|
 (Option.bind (rules_test_g18 depth t_Kind (EC.decL ec_48 (EC.encL ec_48 t_Tests)) t_Name t_Pattern t_Text t_N) fun r2 =>
 (some (r2).1))))
 (some 3))))
 (some 4))
 (brE (decide ((((ByteArray.size t_Text) : Nat) : Int) > (200 : Int)))
 (some 1)
 (brE ((decide (t_N < (0 : Int))) == false)
 (brE (decide (t_N > (1000000 : Int)))
 (some 3)
 (gdE (EC.isL ec_48 (EC.encL ec_48 t_Tests)) <|
 (Option.bind (rules_test_g18 depth t_Kind (EC.decL ec_48 (EC.encL ec_48 t_Tests)) t_Name t_Pattern t_Text t_N) fun r2 =>
 (some (r2).1))))
 (some 3)))))
 (some 10))
 (brE (((r0).2).1 == true)
 (brE ((decide (t_Pattern < (1 : Int))) == false)
 (brE (decide (t_Pattern > (3 : Int)))
 (some 4)
 (brE (decide ((((ByteArray.size t_Text) : Nat) : Int) > (200 : Int)))
 (some 1)
 (brE ((decide (t_N < (0 : Int))) == false)
 (brE (decide (t_N > (1000000 : Int)))
 (some 3)
 (gdE (EC.isL ec_48 (EC.encL ec_48 t_Tests)) <|
 (Option.bind (rules_test_g18 depth t_Kind (EC.decL ec_48 (EC.encL ec_48 t_Tests)) t_Name t_Pattern t_Text t_N) fun r2 =>
 (some (r2).1))))
 (some 3))))
 (some 4))
 (brE (decide ((((ByteArray.size t_Text) : Nat) : Int) > (200 : Int)))
 (some 1)
 (brE ((decide (t_N < (0 : Int))) == false)
 (brE (decide (t_N > (1000000 : Int)))
 (some 3)
 (gdE (EC.isL ec_48 (EC.encL ec_48 t_Tests)) <|
 (Option.bind (rules_test_g18 depth t_Kind (EC.decL ec_48 (EC.encL ec_48 t_Tests)) t_Name t_Pattern t_Text t_N) fun r2 =>
 (some (r2).1))))
 (some 3))))))
 (brE ((r0).1 == true)
 (brE (((ByteArray.toList t_Name) == (ByteArray.toList ⟨#[]⟩)) == false)
 (brE (decide ((((ByteArray.size t_Name) : Nat) : Int) > (60 : Int)))
 (some 10)
 (brE (((r0).2).1 == true)
 (brE ((decide (t_Pattern < (1 : Int))) == false)
 (brE (decide (t_Pattern > (3 : Int)))
 (some 4)
 (brE (decide ((((ByteArray.size t_Text) : Nat) : Int) > (200 : Int)))
 (some 1)
 (brE ((decide (t_N < (0 : Int))) == false)
 (brE (decide (t_N > (1000000 : Int)))
 (some 3)
 (gdE (EC.isL ec_48 (EC.encL ec_48 t_Tests)) <|
 (Option.bind (rules_test_g18 depth t_Kind (EC.decL ec_48 (EC.encL ec_48 t_Tests)) t_Name t_Pattern t_Text t_N) fun r2 =>
 (some (r2).1))))
 (some 3))))
 (some 4))
 (brE (decide ((((ByteArray.size t_Text) : Nat) : Int) > (200 : Int)))
 (some 1)
 (brE ((decide (t_N < (0 : Int))) == false)
 (brE (decide (t_N > (1000000 : Int)))
 (some 3)
 (gdE (EC.isL ec_48 (EC.encL ec_48 t_Tests)) <|
 (Option.bind (rules_test_g18 depth t_Kind (EC.decL ec_48 (EC.encL ec_48 t_Tests)) t_Name t_Pattern t_Text t_N) fun r2 =>
 (some (r2).1))))
 (some 3)))))
 (some 10))
 (brE (((r0).2).1 == true)
 (brE ((decide (t_Pattern < (1 : Int))) == false)
 (brE (decide (t_Pattern > (3 : Int)))
 (some 4)
 (brE (decide ((((ByteArray.size t_Text) : Nat) : Int) > (200 : Int)))
 (some 1)
 (brE ((decide (t_N < (0 : Int))) == false)
 (brE (decide (t_N > (1000000 : Int)))
 (some 3)
 (gdE (EC.isL ec_48 (EC.encL ec_48 t_Tests)) <|
 (Option.bind (rules_test_g18 depth t_Kind (EC.decL ec_48 (EC.encL ec_48 t_Tests)) t_Name t_Pattern t_Text t_N) fun r2 =>
 (some (r2).1))))
 (some 3))))
 (some 4))
 (brE (decide ((((ByteArray.size t_Text) : Nat) : Int) > (200 : Int)))
 (some 1)
 (brE ((decide (t_N < (0 : Int))) == false)
 (brE (decide (t_N > (1000000 : Int)))
 (some 3)
 (gdE (EC.isL ec_48 (EC.encL ec_48 t_Tests)) <|
 (Option.bind (rules_test_g18 depth t_Kind (EC.decL ec_48 (EC.encL ec_48 t_Tests)) t_Name t_Pattern t_Text t_N) fun r2 =>
 (some (r2).1))))
 (some 3)))))))
 (some 5))
 (brE ((!((r0).2).1) == true)
 (brE ((t_Pattern != 0) == false)
 (brE ((!((ByteArray.toList t_Text) == (ByteArray.toList ⟨#[]⟩))) == false)
 (brE ((!((r0).2).2) == true)
 (brE (t_N != 0)
 (some 5)
 (brE ((r0).1 == true)
 (brE (((ByteArray.toList t_Name) == (ByteArray.toList ⟨#[]⟩)) == false)
 (brE (decide ((((ByteArray.size t_Name) : Nat) : Int) > (60 : Int)))
 (some 10)
 (brE (((r0).2).1 == true)
 (brE ((decide (t_Pattern < (1 : Int))) == false)
 (brE (decide (t_Pattern > (3 : Int)))
 (some 4)
 (brE (decide ((((ByteArray.size t_Text) : Nat) : Int) > (200 : Int)))
 (some 1)
 (brE ((decide (t_N < (0 : Int))) == false)
 (brE (decide (t_N > (1000000 : Int)))
 (some 3)
 (gdE (EC.isL ec_48 (EC.encL ec_48 t_Tests)) <|
 (Option.bind (rules_test_g18 depth t_Kind (EC.decL ec_48 (EC.encL ec_48 t_Tests)) t_Name t_Pattern t_Text t_N) fun r2 =>
 (some (r2).1))))
 (some 3))))
 (some 4))
 (brE (decide ((((ByteArray.size t_Text) : Nat) : Int) > (200 : Int)))
 (some 1)
 (brE ((decide (t_N < (0 : Int))) == false)
 (brE (decide (t_N > (1000000 : Int)))
 (some 3)
 (gdE (EC.isL ec_48 (EC.encL ec_48 t_Tests)) <|
 (Option.bind (rules_test_g18 depth t_Kind (EC.decL ec_48 (EC.encL ec_48 t_Tests)) t_Name t_Pattern t_Text t_N) fun r2 =>
 (some (r2).1))))
 (some 3)))))
 (some 10))
 (brE (((r0).2).1 == true)
 (brE ((decide (t_Pattern < (1 : Int))) == false)
 (brE (decide (t_Pattern > (3 : Int)))
 (some 4)
 (brE (decide ((((ByteArray.size t_Text) : Nat) : Int) > (200 : Int)))
 (some 1)
 (brE ((decide (t_N < (0 : Int))) == false)
 (brE (decide (t_N > (1000000 : Int)))
 (some 3)
 (gdE (EC.isL ec_48 (EC.encL ec_48 t_Tests)) <|
 (Option.bind (rules_test_g18 depth t_Kind (EC.decL ec_48 (EC.encL ec_48 t_Tests)) t_Name t_Pattern t_Text t_N) fun r2 =>
 (some (r2).1))))
 (some 3))))
 (some 4))
 (brE (decide ((((ByteArray.size t_Text) : Nat) : Int) > (200 : Int)))
 (some 1)
 (brE ((decide (t_N < (0 : Int))) == false)
 (brE (decide (t_N > (1000000 : Int)))
 (some 3)
 (gdE (EC.isL ec_48 (EC.encL ec_48 t_Tests)) <|
 (Option.bind (rules_test_g18 depth t_Kind (EC.decL ec_48 (EC.encL ec_48 t_Tests)) t_Name t_Pattern t_Text t_N) fun r2 =>
 (some (r2).1))))
 (some 3))))))
 (brE ((r0).1 == true)
 (brE (((ByteArray.toList t_Name) == (ByteArray.toList ⟨#[]⟩)) == false)
 (brE (decide ((((ByteArray.size t_Name) : Nat) : Int) > (60 : Int)))
 (some 10)
 (brE (((r0).2).1 == true)
 (brE ((decide (t_Pattern < (1 : Int))) == false)
 (brE (decide (t_Pattern > (3 : Int)))
 (some 4)
 (brE (decide ((((ByteArray.size t_Text) : Nat) : Int) > (200 : Int)))
 (some 1)
 (brE ((decide (t_N < (0 : Int))) == false)
 (brE (decide (t_N > (1000000 : Int)))
 (some 3)
 (gdE (EC.isL ec_48 (EC.encL ec_48 t_Tests)) <|
 (Option.bind (rules_test_g18 depth t_Kind (EC.decL ec_48 (EC.encL ec_48 t_Tests)) t_Name t_Pattern t_Text t_N) fun r2 =>
 (some (r2).1))))
 (some 3))))
 (some 4))
 (brE (decide ((((ByteArray.size t_Text) : Nat) : Int) > (200 : Int)))
 (some 1)
 (brE ((decide (t_N < (0 : Int))) == false)
 (brE (decide (t_N > (1000000 : Int)))
 (some 3)
 (gdE (EC.isL ec_48 (EC.encL ec_48 t_Tests)) <|
 (Option.bind (rules_test_g18 depth t_Kind (EC.decL ec_48 (EC.encL ec_48 t_Tests)) t_Name t_Pattern t_Text t_N) fun r2 =>
 (some (r2).1))))
 (some 3)))))
 (some 10))
 (brE (((r0).2).1 == true)
 (brE ((decide (t_Pattern < (1 : Int))) == false)
 (brE (decide (t_Pattern > (3 : Int)))
 (some 4)
 (brE (decide ((((ByteArray.size t_Text) : Nat) : Int) > (200 : Int)))
 (some 1)
 (brE ((decide (t_N < (0 : Int))) == false)
 (brE (decide (t_N > (1000000 : Int)))
 (some 3)
 (gdE (EC.isL ec_48 (EC.encL ec_48 t_Tests)) <|
 (Option.bind (rules_test_g18 depth t_Kind (EC.decL ec_48 (EC.encL ec_48 t_Tests)) t_Name t_Pattern t_Text t_N) fun r2 =>
 (some (r2).1))))
 (some 3))))
 (some 4))
 (brE (decide ((((ByteArray.size t_Text) : Nat) : Int) > (200 : Int)))
 (some 1)
 (brE ((decide (t_N < (0 : Int))) == false)
 (brE (decide (t_N > (1000000 : Int)))
 (some 3)
 (gdE (EC.isL ec_48 (EC.encL ec_48 t_Tests)) <|
 (Option.bind (rules_test_g18 depth t_Kind (EC.decL ec_48 (EC.encL ec_48 t_Tests)) t_Name t_Pattern t_Text t_N) fun r2 =>
 (some (r2).1))))
 (some 3))))))
 (some 5))
 (some 5))
 (brE ((!((r0).2).2) == true)
 (brE (t_N != 0)
 (some 5)
 (brE ((r0).1 == true)
 (brE (((ByteArray.toList t_Name) == (ByteArray.toList ⟨#[]⟩)) == false)
 (brE (decide ((((ByteArray.size t_Name) : Nat) : Int) > (60 : Int)))
 (some 10)
 (brE (((r0).2).1 == true)
 (brE ((decide (t_Pattern < (1 : Int))) == false)
 (brE (decide (t_Pattern > (3 : Int)))
 (some 4)
 (brE (decide ((((ByteArray.size t_Text) : Nat) : Int) > (200 : Int)))
 (some 1)
 (brE ((decide (t_N < (0 : Int))) == false)
 (brE (decide (t_N > (1000000 : Int)))
 (some 3)
 (gdE (EC.isL ec_48 (EC.encL ec_48 t_Tests)) <|
 (Option.bind (rules_test_g18 depth t_Kind (EC.decL ec_48 (EC.encL ec_48 t_Tests)) t_Name t_Pattern t_Text t_N) fun r2 =>
 (some (r2).1))))
 (some 3))))
 (some 4))
 (brE (decide ((((ByteArray.size t_Text) : Nat) : Int) > (200 : Int)))
 (some 1)
 (brE ((decide (t_N < (0 : Int))) == false)
 (brE (decide (t_N > (1000000 : Int)))
 (some 3)
 (gdE (EC.isL ec_48 (EC.encL ec_48 t_Tests)) <|
 (Option.bind (rules_test_g18 depth t_Kind (EC.decL ec_48 (EC.encL ec_48 t_Tests)) t_Name t_Pattern t_Text t_N) fun r2 =>
 (some (r2).1))))
 (some 3)))))
 (some 10))
 (brE (((r0).2).1 == true)
 (brE ((decide (t_Pattern < (1 : Int))) == false)
 (brE (decide (t_Pattern > (3 : Int)))
 (some 4)
 (brE (decide ((((ByteArray.size t_Text) : Nat) : Int) > (200 : Int)))
 (some 1)
 (brE ((decide (t_N < (0 : Int))) == false)
 (brE (decide (t_N > (1000000 : Int)))
 (some 3)
 (gdE (EC.isL ec_48 (EC.encL ec_48 t_Tests)) <|
 (Option.bind (rules_test_g18 depth t_Kind (EC.decL ec_48 (EC.encL ec_48 t_Tests)) t_Name t_Pattern t_Text t_N) fun r2 =>
 (some (r2).1))))
 (some 3))))
 (some 4))
 (brE (decide ((((ByteArray.size t_Text) : Nat) : Int) > (200 : Int)))
 (some 1)
 (brE ((decide (t_N < (0 : Int))) == false)
 (brE (decide (t_N > (1000000 : Int)))
 (some 3)
 (gdE (EC.isL ec_48 (EC.encL ec_48 t_Tests)) <|
 (Option.bind (rules_test_g18 depth t_Kind (EC.decL ec_48 (EC.encL ec_48 t_Tests)) t_Name t_Pattern t_Text t_N) fun r2 =>
 (some (r2).1))))
 (some 3))))))
 (brE ((r0).1 == true)
 (brE (((ByteArray.toList t_Name) == (ByteArray.toList ⟨#[]⟩)) == false)
 (brE (decide ((((ByteArray.size t_Name) : Nat) : Int) > (60 : Int)))
 (some 10)
 (brE (((r0).2).1 == true)
 (brE ((decide (t_Pattern < (1 : Int))) == false)
 (brE (decide (t_Pattern > (3 : Int)))
 (some 4)
 (brE (decide ((((ByteArray.size t_Text) : Nat) : Int) > (200 : Int)))
 (some 1)
 (brE ((decide (t_N < (0 : Int))) == false)
 (brE (decide (t_N > (1000000 : Int)))
 (some 3)
 (gdE (EC.isL ec_48 (EC.encL ec_48 t_Tests)) <|
 (Option.bind (rules_test_g18 depth t_Kind (EC.decL ec_48 (EC.encL ec_48 t_Tests)) t_Name t_Pattern t_Text t_N) fun r2 =>
 (some (r2).1))))
 (some 3))))
 (some 4))
 (brE (decide ((((ByteArray.size t_Text) : Nat) : Int) > (200 : Int)))
 (some 1)
 (brE ((decide (t_N < (0 : Int))) == false)
 (brE (decide (t_N > (1000000 : Int)))
 (some 3)
 (gdE (EC.isL ec_48 (EC.encL ec_48 t_Tests)) <|
 (Option.bind (rules_test_g18 depth t_Kind (EC.decL ec_48 (EC.encL ec_48 t_Tests)) t_Name t_Pattern t_Text t_N) fun r2 =>
 (some (r2).1))))
 (some 3)))))
 (some 10))
 (brE (((r0).2).1 == true)
 (brE ((decide (t_Pattern < (1 : Int))) == false)
 (brE (decide (t_Pattern > (3 : Int)))
 (some 4)
 (brE (decide ((((ByteArray.size t_Text) : Nat) : Int) > (200 : Int)))
 (some 1)
 (brE ((decide (t_N < (0 : Int))) == false)
 (brE (decide (t_N > (1000000 : Int)))
 (some 3)
 (gdE (EC.isL ec_48 (EC.encL ec_48 t_Tests)) <|
 (Option.bind (rules_test_g18 depth t_Kind (EC.decL ec_48 (EC.encL ec_48 t_Tests)) t_Name t_Pattern t_Text t_N) fun r2 =>
 (some (r2).1))))
 (some 3))))
 (some 4))
 (brE (decide ((((ByteArray.size t_Text) : Nat) : Int) > (200 : Int)))
 (some 1)
 (brE ((decide (t_N < (0 : Int))) == false)
 (brE (decide (t_N > (1000000 : Int)))
 (some 3)
 (gdE (EC.isL ec_48 (EC.encL ec_48 t_Tests)) <|
 (Option.bind (rules_test_g18 depth t_Kind (EC.decL ec_48 (EC.encL ec_48 t_Tests)) t_Name t_Pattern t_Text t_N) fun r2 =>
 (some (r2).1))))
 (some 3))))))))))))
 (some 4))))
theorem rules_test_eq {t_Kind : Int} {t_Tests : (List S48)} {t_Name : ByteArray} {t_Pattern : Int} {t_Text : ByteArray} {t_N : Int} {depth : Int} {r : Int} (h : rules_test_t t_Kind t_Tests t_Name t_Pattern t_Text t_N depth = some r) : rules_test_s t_Kind t_Tests t_Name t_Pattern t_Text t_N depth = some r :=
  fS_tree (es := tab_rules_test) (hs := []) [rules_test_g18_e] Tryz.func102 rfl (by kernel_rfl) rfl (by kernel_rfl) (by kernel_rfl) trivial ⟨⟨_, rfl, rfl⟩, trivial⟩ (by kernel_rfl) h
def rules_rule_ca : Cod (List V) ((Int × Int × (List S48) × ByteArray × Int × ByteArray × Int × (List S50) × (List S50) × Int × ByteArray × ByteArray × Int) × Int) := (lCons (vAgg (lCons (vC (cInt .i64)) (lCons (vC (cInt .i64)) (lCons (vC (cSl ec_48)) (lCons (vC cStr) (lCons (vC (cInt .i64)) (lCons (vC cStr) (lCons (vC (cInt .i64)) (lCons (vC (cSl ec_50)) (lCons (vC (cSl ec_50)) (lCons (vC (cInt .i64)) (lCons (vC cStr) (lCons (vC cStr) (lOne (vC (cInt .i64)))))))))))))))) (lOne (vC (cInt .i64))))
def rules_rule_cr : Cod (V × List B) Int := (cFstU (cPair (vC (cInt .i64)) lNil))
def rules_rule_s (r_Kind : Int) (r_Test_Kind : Int) (r_Test_Tests : (List S48)) (r_Test_Name : ByteArray) (r_Test_Pattern : Int) (r_Test_Text : ByteArray) (r_Test_N : Int) (r_Then : (List S50)) (r_Else : (List S50)) (r_Act : Int) (r_Name : ByteArray) (r_Text : ByteArray) (r_N : Int) (depth : Int) : Option Int := fS Tryz.prog lv X0 79 rules_rule_ca rules_rule_cr ((r_Kind, r_Test_Kind, r_Test_Tests, r_Test_Name, r_Test_Pattern, r_Test_Text, r_Test_N, r_Then, r_Else, r_Act, r_Name, r_Text, r_N), depth)
def rules_rule_t (r_Kind : Int) (r_Test_Kind : Int) (r_Test_Tests : (List S48)) (r_Test_Name : ByteArray) (r_Test_Pattern : Int) (r_Test_Text : ByteArray) (r_Test_N : Int) (r_Then : (List S50)) (r_Else : (List S50)) (r_Act : Int) (r_Name : ByteArray) (r_Text : ByteArray) (r_N : Int) (depth : Int) : Option Int :=
 (brE (decide (depth > (8 : Int)))
 (some 5)
 (brE ((decide (r_Kind < (1 : Int))) == false)
 (brE (decide (r_Kind > (4 : Int)))
 (some 4)
 (brE (r_Kind != 1)
 (gdE (EC.isL ec_48 (EC.encL ec_48 r_Test_Tests)) <|
 (gdE (EC.isL ec_50 (EC.encL ec_50 r_Then)) <|
 (gdE (EC.isL ec_50 (EC.encL ec_50 r_Else)) <|
 (Option.bind (rules_plain_s r_Kind r_Test_Kind (EC.decL ec_48 (EC.encL ec_48 r_Test_Tests)) r_Test_Name r_Test_Pattern r_Test_Text r_Test_N (EC.decL ec_50 (EC.encL ec_50 r_Then)) (EC.decL ec_50 (EC.encL ec_50 r_Else)) r_Act r_Name r_Text r_N) fun r0 =>
 (some r0)))))
 (brE ((r_Act != 0) == false)
 (brE ((!((ByteArray.toList r_Name) == (ByteArray.toList ⟨#[]⟩))) == false)
 (brE ((!((ByteArray.toList r_Text) == (ByteArray.toList ⟨#[]⟩))) == false)
 (brE (r_N != 0)
 (some 5)
 (gdE (EC.isL ec_48 (EC.encL ec_48 r_Test_Tests)) <|
 (Option.bind (rules_test_s r_Test_Kind (EC.decL ec_48 (EC.encL ec_48 r_Test_Tests)) r_Test_Name r_Test_Pattern r_Test_Text r_Test_N (1 : Int)) fun r0 =>
 (some r0))))
 (some 5))
 (some 5))
 (some 5))))
 (some 4)))
theorem rules_rule_eq {r_Kind : Int} {r_Test_Kind : Int} {r_Test_Tests : (List S48)} {r_Test_Name : ByteArray} {r_Test_Pattern : Int} {r_Test_Text : ByteArray} {r_Test_N : Int} {r_Then : (List S50)} {r_Else : (List S50)} {r_Act : Int} {r_Name : ByteArray} {r_Text : ByteArray} {r_N : Int} {depth : Int} {r : Int} (h : rules_rule_t r_Kind r_Test_Kind r_Test_Tests r_Test_Name r_Test_Pattern r_Test_Text r_Test_N r_Then r_Else r_Act r_Name r_Text r_N depth = some r) : rules_rule_s r_Kind r_Test_Kind r_Test_Tests r_Test_Name r_Test_Pattern r_Test_Text r_Test_N r_Then r_Else r_Act r_Name r_Text r_N depth = some r :=
  fS_tree (es := tab_rules_test) (hs := []) [] Tryz.func79 rfl (by kernel_rfl) rfl (by kernel_rfl) (by kernel_rfl) trivial trivial (by kernel_rfl) h
def rules_rule_e : Ent Tryz.prog lv X0 := entS Tryz.prog lv X0 79 [] rules_rule_ca rules_rule_cr (fun x => rules_rule_s x.1.1 x.1.2.1 x.1.2.2.1 x.1.2.2.2.1 x.1.2.2.2.2.1 x.1.2.2.2.2.2.1 x.1.2.2.2.2.2.2.1 x.1.2.2.2.2.2.2.2.1 x.1.2.2.2.2.2.2.2.2.1 x.1.2.2.2.2.2.2.2.2.2.1 x.1.2.2.2.2.2.2.2.2.2.2.1 x.1.2.2.2.2.2.2.2.2.2.2.2.1 x.1.2.2.2.2.2.2.2.2.2.2.2.2 x.2) (fun _ _ h => fS_call h)
def tab_rules_rule : List (Ent Tryz.prog lv X0) := rules_rule_e :: tab_rules_test
def ec_22 : EC (List S50) where
  enc x := [.sl (ec_50.encL x)]
  dec c := ec_50.decL (slOf (c.getD 0 .ne))
  is c := isE [.sl] 0 c && ec_50.isL (slOf (c.getD 0 .ne))
  enc_dec h := by
    simp only [Bool.and_eq_true] at h
    have h0 := decE_eq h.1
    simp only [decE, decC] at h0
    simp only [EC.encL_decL _ h.2]
    exact h0
  dec_enc x := by simp [slOf]
  is_enc x := by simp [isE, isK, slOf]
theorem enc_22 (x : (List S50)) : ec_22.enc x = [.sl (ec_50.encL x)] := rfl
theorem at_22_0 (xs : List (List S50)) (n : Nat) : slOf (((ec_22.encL xs).getD n []).getD 0 .ne) = ec_50.encL (xs.getD n (ec_22.dec [])) := by
  by_cases h : n < xs.length
  · simp only [EC.getD_lt _ _ h]; simp [enc_22, h, slOf, List.getD_eq_getElem?_getD]
  · simp only [EC.getD_ge _ _ (Nat.not_lt.1 h)]; simp [Nat.not_lt.1 h, ec_22, slOf, List.getD_eq_getElem?_getD, EC.decL, EC.encL]
def rules_Validate_ca : Cod (List V) (List S50) := (lOne (vC (cSl ec_50)))
def rules_Validate_1_h1_s : SC (((List S50) × Int × Unit × Unit) × (Int × (Unit × Unit))) := sLS [0, 1, 2, 3] (lCons (vC (cSl ec_50)) (lCons (vC (cInt .i64)) (lCons (vPtr 0 0) (lOne (vPtr 1 0))))) (lCons (oSome (bBox (lOne (vC (cInt .i64))))) (lOne (oSome (bBox (lOne (vFn 78 (lCons (vPtr 0 0) (lOne (vPtr 1 0))))))))) [false, false] [0, 1] (by decide) (fun _ => rfl)
def rules_Validate_1_h1_q : SC ((Int × Int) × (Int × (Unit × Unit))) := sLS [0] (lOne (vAgg (lCons (vC (cInt .i64)) (lOne (vC (cInt .i64)))))) (lCons (oSome (bBox (lOne (vC (cInt .i64))))) (lOne (oSome (bBox (lOne (vFn 78 (lCons (vPtr 0 0) (lOne (vPtr 1 0))))))))) [false, false] [0, 1] (by decide) (fun _ => rfl)
def rules_Validate_1_h1_o : HC ((Int × Int) × ((Int × Int) × (Int × (Unit × Unit)))) := hPair (vAgg (lCons (vC (cInt .i64)) (lOne (vC (cInt .i64))))) rules_Validate_1_h1_q
def rules_Validate_1_h1 (l : (List S50)) (depth : Int) (b0 : Int) : Option ((Int × Int) × ((Int × Int) × (Int × (Unit × Unit)))) := hS Tryz.prog lv X0 78 rules_Validate_1_h1_s rules_Validate_1_h1_o ((l, depth, (), ()), (b0, ((), ())))
def rules_Validate_1_h1_e : HEnt Tryz.prog lv X0 := hentS Tryz.prog lv X0 78 [0, 1, 4, 1, 1, 1, 2, 3, 0, 0, 3, 3, 1, 0, 1, 1, 1, 1, 1, 1, 6, 78, 2, 3, 0, 0, 3, 1, 0, 0, 1] rules_Validate_1_h1_s rules_Validate_1_h1_o (fun x => rules_Validate_1_h1 x.1.1 x.1.2.1 x.2.1) (fun _ _ h => hS_from h)
def htab_rules_Validate_1_h1 : List (HEnt Tryz.prog lv X0) := rules_Validate_1_h1_e :: []
def rules_Validate_1_h1_l11_s : SC ((Int × Unit × Unit × Unit × (List S50) × Int × Int × Nat × Int × Int) × (Int × (Unit × Unit) × (Int × Int) × (List (List S50)))) := sLS [1, 2, 3, 6, 13, 14, 15, 36, 37, 38] (lCons (vC (cInt .i64)) (lCons (vPtr 0 0) (lCons (vPtr 1 0) (lCons (vPtr 2 0) (lCons (vC (cSl ec_50)) (lCons (vC (cInt .i64)) (lCons (vC (cInt .i64)) (lCons (vRow 3) (lCons (vC (cInt .i64)) (lOne (vC (cInt .i64)))))))))))) (lCons (oSome (bBox (lOne (vC (cInt .i64))))) (lCons (oSome (bBox (lOne (vFn 78 (lCons (vPtr 0 0) (lOne (vPtr 1 0))))))) (lCons (oSome (bBox (lCons (vC (cInt .i64)) (lOne (vC (cInt .i64)))))) (lOne (oSome (bRow ec_22)))))) [false, false, false, false] [0, 1] (by decide) (fun _ => rfl)
def rules_Validate_1_h1_l11_o4 : SC ((Int × Unit × Unit × Unit × (List S50) × Int × Int × Nat × Int × Int × Bool) × (Int × (Unit × Unit) × (Int × Int) × (List (List S50)))) := sLS [1, 2, 3, 6, 13, 14, 15, 36, 37, 38, 39] (lCons (vC (cInt .i64)) (lCons (vPtr 0 0) (lCons (vPtr 1 0) (lCons (vPtr 2 0) (lCons (vC (cSl ec_50)) (lCons (vC (cInt .i64)) (lCons (vC (cInt .i64)) (lCons (vRow 3) (lCons (vC (cInt .i64)) (lCons (vC (cInt .i64)) (lOne (vC cBool)))))))))))) (lCons (oSome (bBox (lOne (vC (cInt .i64))))) (lCons (oSome (bBox (lOne (vFn 78 (lCons (vPtr 0 0) (lOne (vPtr 1 0))))))) (lCons (oSome (bBox (lCons (vC (cInt .i64)) (lOne (vC (cInt .i64)))))) (lOne (oSome (bRow ec_22)))))) [false, false, false, false] [0, 1] (by decide) (fun _ => rfl)
def rules_Validate_1_h1_l11_o1 : SC (Unit × ((Int × Int) × Int × (Unit × Unit))) := sLS [6] (lOne (vPtr 0 0)) (lCons (oSome (bBox (lCons (vC (cInt .i64)) (lOne (vC (cInt .i64)))))) (lCons (oSome (bBox (lOne (vC (cInt .i64))))) (lOne (oSome (bBox (lOne (vFn 78 (lCons (vPtr 1 0) (lOne (vPtr 2 0)))))))))) [false, false, false] [1, 2] (by decide) (fun _ => rfl)
def rules_Validate_1_h1_l11_o : OC ((Unit × ((Int × Int) × Int × (Unit × Unit))) ⊕ ((Int × Unit × Unit × Unit × (List S50) × Int × Int × Nat × Int × Int × Bool) × (Int × (Unit × Unit) × (Int × Int) × (List (List S50))))) := oOr 1 rules_Validate_1_h1_l11_o1 (oAt 4 rules_Validate_1_h1_l11_o4) (fun x => (by decide : (4 : Nat) ≠ 1))
def rules_Validate_1_h1_l11 (depth : Int) (t13 : (List S50)) (t14 : Int) (t15 : Int) (t36 : Nat) (t37 : Int) (t38 : Int) (b0 : Int) (b2 : Int) (b2_1 : Int) (b3 : (List (List S50))) : Option ((Unit × ((Int × Int) × Int × (Unit × Unit))) ⊕ ((Int × Unit × Unit × Unit × (List S50) × Int × Int × Nat × Int × Int × Bool) × (Int × (Unit × Unit) × (Int × Int) × (List (List S50))))) := lS Tryz.prog lv X0 78 53 (getLoop (cdF Tryz.f78) 11) rules_Validate_1_h1_l11_s rules_Validate_1_h1_l11_o ((depth, (), (), (), t13, t14, t15, t36, t37, t38), (b0, ((), ()), (b2, b2_1), b3))
def rules_Validate_1_h1_l11_t (depth : Int) (t13 : (List S50)) (t14 : Int) (t15 : Int) (t36 : Nat) (t37 : Int) (t38 : Int) (b0 : Int) (b2 : Int) (b2_1 : Int) (b3 : (List (List S50))) : Option ((Unit × ((Int × Int) × Int × (Unit × Unit))) ⊕ ((Int × Unit × Unit × Unit × (List S50) × Int × Int × Nat × Int × Int × Bool) × (Int × (Unit × Unit) × (Int × Int) × (List (List S50))))) :=
 (brE (decide (t38 < t37))
 (gdE ((decide ((0 : Int) ≤ t38)) && (decide (t38 < ((t36 : Nat) : Int)))) <|
 (gdE ((decide ((Int.toNat t38) < (List.length (EC.encL ec_22 b3)))) && ((List.length (List.getD (EC.encL ec_22 b3) (Int.toNat t38) [])) == (1 : Nat))) <|
 (gdE (isP [K1.sl] (0 : Nat) (List.getD (EC.encL ec_22 b3) (Int.toNat t38) [])) <|
 (gdE (EC.isL ec_50 (slOf (List.getD (List.getD (EC.encL ec_22 b3) (Int.toNat t38) []) (0 : Nat) C.ne))) <|
 (Option.bind (rules_Validate_1_h1 (EC.decL ec_50 (slOf (List.getD (List.getD (EC.encL ec_22 b3) (Int.toNat t38) []) (0 : Nat) C.ne))) (IntKind.wrap .i64 (depth + (1 : Int))) b0) fun r0 =>
 (Option.bind (basic_Failed_s ((r0).1).1 ((r0).1).2) fun r1 =>
 (brE r1
 (some (.inl ((), ((((r0).1).1, ((r0).1).2), ((((r0).2).2).1, ((), ()))))))
 (gdE (EC.isL ec_50 (EC.encL ec_50 t13)) <|
 (gdE (EC.isL ec_22 (EC.encL ec_22 b3)) <|
 (rules_Validate_1_h1_l11 depth (EC.decL ec_50 (EC.encL ec_50 t13)) t14 t15 t36 t37 (IntKind.wrap .i64 (t38 + (1 : Int))) (((r0).2).2).1 b2 b2_1 (EC.decL ec_22 (EC.encL ec_22 b3))))))))))))
 (gdE (EC.isL ec_50 (EC.encL ec_50 t13)) <|
 (gdE (EC.isL ec_22 (EC.encL ec_22 b3)) <|
 (some (.inr ((depth, ((), ((), ((), ((EC.decL ec_50 (EC.encL ec_50 t13)), (t14, (t15, (t36, (t37, (t38, false)))))))))), (b0, (((), ()), ((b2, b2_1), (EC.decL ec_22 (EC.encL ec_22 b3)))))))))))
theorem rules_Validate_1_h1_l11_eq {depth : Int} {t13 : (List S50)} {t14 : Int} {t15 : Int} {t36 : Nat} {t37 : Int} {t38 : Int} {b0 : Int} {b2 : Int} {b2_1 : Int} {b3 : (List (List S50))} {r : ((Unit × ((Int × Int) × Int × (Unit × Unit))) ⊕ ((Int × Unit × Unit × Unit × (List S50) × Int × Int × Nat × Int × Int × Bool) × (Int × (Unit × Unit) × (Int × Int) × (List (List S50)))))} (h : rules_Validate_1_h1_l11_t depth t13 t14 t15 t36 t37 t38 b0 b2 b2_1 b3 = some r) : rules_Validate_1_h1_l11 depth t13 t14 t15 t36 t37 t38 b0 b2 b2_1 b3 = some r :=
  lS_tree (es := tab_rules_rule) (hs := htab_rules_Validate_1_h1) [] (by kernel_rfl) trivial trivial (by kernel_rfl) h
def rules_Validate_1_h1_l11_e : LEnt Tryz.prog lv X0 78 53 := lentS Tryz.prog lv X0 11 (getLoop (cdF Tryz.f78) 11) rules_Validate_1_h1_l11_s rules_Validate_1_h1_l11_o (fun x => rules_Validate_1_h1_l11 x.1.1 x.1.2.2.2.2.1 x.1.2.2.2.2.2.1 x.1.2.2.2.2.2.2.1 x.1.2.2.2.2.2.2.2.1 x.1.2.2.2.2.2.2.2.2.1 x.1.2.2.2.2.2.2.2.2.2 x.2.1 x.2.2.2.1.1 x.2.2.2.1.2 x.2.2.2.2) (fun _ _ h => lS_from h)
def rules_Validate_1_h1_l2_s : SC ((Int × Unit × Unit × Unit × (List S50) × Int × Int) × (Int × (Unit × Unit) × (Int × Int))) := sLS [1, 2, 3, 6, 13, 14, 15] (lCons (vC (cInt .i64)) (lCons (vPtr 0 0) (lCons (vPtr 1 0) (lCons (vPtr 2 0) (lCons (vC (cSl ec_50)) (lCons (vC (cInt .i64)) (lOne (vC (cInt .i64))))))))) (lCons (oSome (bBox (lOne (vC (cInt .i64))))) (lCons (oSome (bBox (lOne (vFn 78 (lCons (vPtr 0 0) (lOne (vPtr 1 0))))))) (lOne (oSome (bBox (lCons (vC (cInt .i64)) (lOne (vC (cInt .i64))))))))) [false, false, false] [0, 1] (by decide) (fun _ => rfl)
def rules_Validate_1_h1_l2_o2 : SC ((Int × Unit × Unit × Unit × (List S50) × Int × Int × Bool) × (Int × (Unit × Unit) × (Int × Int))) := sLS [1, 2, 3, 6, 13, 14, 15, 16] (lCons (vC (cInt .i64)) (lCons (vPtr 0 0) (lCons (vPtr 1 0) (lCons (vPtr 2 0) (lCons (vC (cSl ec_50)) (lCons (vC (cInt .i64)) (lCons (vC (cInt .i64)) (lOne (vC cBool))))))))) (lCons (oSome (bBox (lOne (vC (cInt .i64))))) (lCons (oSome (bBox (lOne (vFn 78 (lCons (vPtr 0 0) (lOne (vPtr 1 0))))))) (lOne (oSome (bBox (lCons (vC (cInt .i64)) (lOne (vC (cInt .i64))))))))) [false, false, false] [0, 1] (by decide) (fun _ => rfl)
def rules_Validate_1_h1_l2_o1 : SC (Unit × ((Int × Int) × Int × (Unit × Unit))) := sLS [6] (lOne (vPtr 0 0)) (lCons (oSome (bBox (lCons (vC (cInt .i64)) (lOne (vC (cInt .i64)))))) (lCons (oSome (bBox (lOne (vC (cInt .i64))))) (lOne (oSome (bBox (lOne (vFn 78 (lCons (vPtr 1 0) (lOne (vPtr 2 0)))))))))) [false, false, false] [1, 2] (by decide) (fun _ => rfl)
def rules_Validate_1_h1_l2_o : OC ((Unit × ((Int × Int) × Int × (Unit × Unit))) ⊕ ((Int × Unit × Unit × Unit × (List S50) × Int × Int × Bool) × (Int × (Unit × Unit) × (Int × Int)))) := oOr 1 rules_Validate_1_h1_l2_o1 (oAt 2 rules_Validate_1_h1_l2_o2) (fun x => (by decide : (2 : Nat) ≠ 1))
def rules_Validate_1_h1_l2 (depth : Int) (t13 : (List S50)) (t14 : Int) (t15 : Int) (b0 : Int) (b2 : Int) (b2_1 : Int) : Option ((Unit × ((Int × Int) × Int × (Unit × Unit))) ⊕ ((Int × Unit × Unit × Unit × (List S50) × Int × Int × Bool) × (Int × (Unit × Unit) × (Int × Int)))) := lS Tryz.prog lv X0 78 53 (getLoop (cdF Tryz.f78) 2) rules_Validate_1_h1_l2_s rules_Validate_1_h1_l2_o ((depth, (), (), (), t13, t14, t15), (b0, ((), ()), (b2, b2_1)))
def rules_Validate_1_h1_l2_t (depth : Int) (t13 : (List S50)) (t14 : Int) (t15 : Int) (b0 : Int) (b2 : Int) (b2_1 : Int) : Option ((Unit × ((Int × Int) × Int × (Unit × Unit))) ⊕ ((Int × Unit × Unit × Unit × (List S50) × Int × Int × Bool) × (Int × (Unit × Unit) × (Int × Int)))) :=
 (brE (decide (t15 < t14))
 (gdE (decide ((0 : Int) ≤ t15)) <|
 (gdE ((decide ((Int.toNat t15) < (List.length (EC.encL ec_50 t13)))) && (isE [(K1.int Go.IntKind.i64), (K1.int Go.IntKind.i64), K1.sl, K1.str, (K1.int Go.IntKind.i64), K1.str, (K1.int Go.IntKind.i64), K1.sl, K1.sl, (K1.int Go.IntKind.i64), K1.str, K1.str, (K1.int Go.IntKind.i64)] (0 : Nat) (List.getD (EC.encL ec_50 t13) (Int.toNat t15) []))) <|
 (brE (b0 == 100)
 (Option.bind (basic_Fault_s (2 : Int) (-(1 : Int))) fun r0 =>
 (some (.inl ((), (((r0).1, (r0).2), (b0, ((), ())))))))
 (gdE (EC.isL ec_48 (slOf (List.getD (List.getD (EC.encL ec_50 t13) (Int.toNat t15) []) (2 : Nat) C.ne))) <|
 (gdE (EC.isL ec_50 (slOf (List.getD (List.getD (EC.encL ec_50 t13) (Int.toNat t15) []) (7 : Nat) C.ne))) <|
 (gdE (EC.isL ec_50 (slOf (List.getD (List.getD (EC.encL ec_50 t13) (Int.toNat t15) []) (8 : Nat) C.ne))) <|
 (Option.bind (rules_rule_s (intOf (List.getD (List.getD (EC.encL ec_50 t13) (Int.toNat t15) []) (0 : Nat) C.ne)) (intOf (List.getD (List.getD (EC.encL ec_50 t13) (Int.toNat t15) []) (1 : Nat) C.ne)) (EC.decL ec_48 (slOf (List.getD (List.getD (EC.encL ec_50 t13) (Int.toNat t15) []) (2 : Nat) C.ne))) (strOf (List.getD (List.getD (EC.encL ec_50 t13) (Int.toNat t15) []) (3 : Nat) C.ne)) (intOf (List.getD (List.getD (EC.encL ec_50 t13) (Int.toNat t15) []) (4 : Nat) C.ne)) (strOf (List.getD (List.getD (EC.encL ec_50 t13) (Int.toNat t15) []) (5 : Nat) C.ne)) (intOf (List.getD (List.getD (EC.encL ec_50 t13) (Int.toNat t15) []) (6 : Nat) C.ne)) (EC.decL ec_50 (slOf (List.getD (List.getD (EC.encL ec_50 t13) (Int.toNat t15) []) (7 : Nat) C.ne))) (EC.decL ec_50 (slOf (List.getD (List.getD (EC.encL ec_50 t13) (Int.toNat t15) []) (8 : Nat) C.ne))) (intOf (List.getD (List.getD (EC.encL ec_50 t13) (Int.toNat t15) []) (9 : Nat) C.ne)) (strOf (List.getD (List.getD (EC.encL ec_50 t13) (Int.toNat t15) []) (10 : Nat) C.ne)) (strOf (List.getD (List.getD (EC.encL ec_50 t13) (Int.toNat t15) []) (11 : Nat) C.ne)) (intOf (List.getD (List.getD (EC.encL ec_50 t13) (Int.toNat t15) []) (12 : Nat) C.ne)) depth) fun r0 =>
 (brE (r0 != 0)
 (Option.bind (basic_Fault_s r0 b0) fun r1 =>
 (some (.inl ((), (((r1).1, (r1).2), (b0, ((), ())))))))
 (gdE (EC.isL ec_50 (EC.encL ec_50 t13)) <|
 (gdE (EC.isL ec_22 [[(C.sl (slOf (List.getD (List.getD (EC.encL ec_50 t13) (Int.toNat t15) []) (7 : Nat) C.ne)))], [(C.sl (slOf (List.getD (List.getD (EC.encL ec_50 t13) (Int.toNat t15) []) (8 : Nat) C.ne)))]]) <|
 (Option.bind (rules_Validate_1_h1_l11 depth (EC.decL ec_50 (EC.encL ec_50 t13)) t14 t15 (2 : Nat) (((2 : Nat) : Nat) : Int) (0 : Int) (IntKind.wrap .i64 (b0 + (1 : Int))) b2 b2_1 (EC.decL ec_22 [[(C.sl (slOf (List.getD (List.getD (EC.encL ec_50 t13) (Int.toNat t15) []) (7 : Nat) C.ne)))], [(C.sl (slOf (List.getD (List.getD (EC.encL ec_50 t13) (Int.toNat t15) []) (8 : Nat) C.ne)))]])) fun r1 =>
 (Sum.elim (fun r2 => (some (.inl ((), (((((r2).2).1).1, (((r2).2).1).2), ((((r2).2).2).1, ((), ())))))))
 (fun r2 => (gdE (EC.isL ec_50 (EC.encL ec_50 ((((((r2).1).2).2).2).2).1)) <|
 (rules_Validate_1_h1_l2 ((r2).1).1 (EC.decL ec_50 (EC.encL ec_50 ((((((r2).1).2).2).2).2).1)) (((((((r2).1).2).2).2).2).2).1 (IntKind.wrap .i64 (((((((((r2).1).2).2).2).2).2).2).1 + (1 : Int))) ((r2).2).1 (((((r2).2).2).2).1).1 (((((r2).2).2).2).1).2))) r1))))))))))))
 (gdE (EC.isL ec_50 (EC.encL ec_50 t13)) <|
 (some (.inr ((depth, ((), ((), ((), ((EC.decL ec_50 (EC.encL ec_50 t13)), (t14, (t15, false))))))), (b0, (((), ()), (b2, b2_1))))))))
theorem rules_Validate_1_h1_l2_eq {depth : Int} {t13 : (List S50)} {t14 : Int} {t15 : Int} {b0 : Int} {b2 : Int} {b2_1 : Int} {r : ((Unit × ((Int × Int) × Int × (Unit × Unit))) ⊕ ((Int × Unit × Unit × Unit × (List S50) × Int × Int × Bool) × (Int × (Unit × Unit) × (Int × Int))))} (h : rules_Validate_1_h1_l2_t depth t13 t14 t15 b0 b2 b2_1 = some r) : rules_Validate_1_h1_l2 depth t13 t14 t15 b0 b2 b2_1 = some r :=
  lS_tree (es := tab_rules_rule) (hs := htab_rules_Validate_1_h1) [rules_Validate_1_h1_l11_e] (by kernel_rfl) ⟨⟨_, rfl, rfl⟩, trivial⟩ trivial (by kernel_rfl) h
def rules_Validate_1_h1_l2_e : LEnt Tryz.prog lv X0 78 53 := lentS Tryz.prog lv X0 2 (getLoop (cdF Tryz.f78) 2) rules_Validate_1_h1_l2_s rules_Validate_1_h1_l2_o (fun x => rules_Validate_1_h1_l2 x.1.1 x.1.2.2.2.2.1 x.1.2.2.2.2.2.1 x.1.2.2.2.2.2.2 x.2.1 x.2.2.2.1 x.2.2.2.2) (fun _ _ h => lS_from h)
def rules_Validate_1_h1_t (l : (List S50)) (depth : Int) (b0 : Int) : Option ((Int × Int) × ((Int × Int) × (Int × (Unit × Unit)))) :=
 (gdE (EC.isL ec_50 (EC.encL ec_50 l)) <|
 (Option.bind (rules_Validate_1_h1_l2 depth (EC.decL ec_50 (EC.encL ec_50 l)) (((List.length (EC.encL ec_50 l)) : Nat) : Int) (0 : Int) b0 (0 : Int) (0 : Int)) fun r0 =>
 (Sum.elim (fun r1 => (some (((((r1).2).1).1, (((r1).2).1).2), (((((r1).2).1).1, (((r1).2).1).2), ((((r1).2).2).1, ((), ()))))))
 (fun r1 => (Option.bind basic_None_s fun r2 =>
 (some (((r2).1, (r2).2), (((r2).1, (r2).2), (((r1).2).1, ((), ()))))))) r0)))
theorem rules_Validate_1_h1_eq {l : (List S50)} {depth : Int} {b0 : Int} {r : ((Int × Int) × ((Int × Int) × (Int × (Unit × Unit))))} (h : rules_Validate_1_h1_t l depth b0 = some r) : rules_Validate_1_h1 l depth b0 = some r :=
  hS_tree (fn := Tryz.f78) (es := tab_rules_rule) (hs := htab_rules_Validate_1_h1) [rules_Validate_1_h1_l2_e] (by kernel_rfl) rfl (by kernel_rfl) ⟨⟨_, rfl, rfl⟩, trivial⟩ trivial (by kernel_rfl) h
def rules_Validate_cr : Cod (V × List B) (Int × Int) := (cFstU (cPair (vAgg (lCons (vC (cInt .i64)) (lOne (vC (cInt .i64))))) lNil))
def rules_Validate_s (s : (List S50)) : Option (Int × Int) := fS Tryz.prog lv X0 60 rules_Validate_ca rules_Validate_cr s
def rules_Validate_t (s : (List S50)) : Option (Int × Int) :=
 (gdE (EC.isL ec_50 (EC.encL ec_50 s)) <|
 (Option.bind (rules_Validate_1_h1 (EC.decL ec_50 (EC.encL ec_50 s)) (1 : Int) (0 : Int)) fun r0 =>
 (some (((r0).1).1, ((r0).1).2))))
theorem rules_Validate_eq {s : (List S50)} {r : (Int × Int)} (h : rules_Validate_t s = some r) : rules_Validate_s s = some r :=
  fS_tree (es := tab_rules_rule) (hs := htab_rules_Validate_1_h1) [] Tryz.func60 rfl (by kernel_rfl) rfl (by kernel_rfl) (by kernel_rfl) trivial trivial (by kernel_rfl) h
def rules_Validate_e : Ent Tryz.prog lv X0 := entS Tryz.prog lv X0 60 [] rules_Validate_ca rules_Validate_cr (fun x => rules_Validate_s x) (fun _ _ h => fS_call h)
def tab_rules_Validate : List (Ent Tryz.prog lv X0) := rules_Validate_e :: tab_rules_rule
end
end Go.Proofs.YtokahibbkdbndaaGreatDoor
