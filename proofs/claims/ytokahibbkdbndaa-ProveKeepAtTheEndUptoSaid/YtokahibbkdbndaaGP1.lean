/- Functions of the program as plain functions: made by program from the machine. -/
import Derived.Test.YtokahibbkdbndaaGB
namespace Go.Proofs.Ytokahibbkdbndaa
open Go.RowKit
set_option maxRecDepth 100000
noncomputable section
structure S42 where
  Kind : Int
  Tests : (List S42)
  Name : ByteArray
  Pattern : Int
  Text : ByteArray
  N : Int
mutual
def en42 : S42 → List C
  | ⟨a0, a1, a2, a3, a4, a5⟩ => [.int .i64 a0, .sl (en42L a1), .str a2, .int .i64 a3, .str a4, .int .i64 a5]
def en42L : List S42 → List (List C)
  | [] => []
  | x :: xs => en42 x :: en42L xs
end
theorem en42L_map : ∀ xs, en42L xs = xs.map en42
  | [] => rfl
  | x :: xs => by rw [en42L, en42L_map xs]; rfl
mutual
theorem en42_inj : ∀ {x y : S42}, en42 x = en42 y → x = y
  | ⟨a0, a1, a2, a3, a4, a5⟩, ⟨b0, b1, b2, b3, b4, b5⟩, h => by
    simp only [en42, List.cons.injEq, C.int.injEq, C.sl.injEq, C.str.injEq, true_and, and_true] at h
    obtain ⟨h0, h1, h2, h3, h4, h5⟩ := h
    have h1 := en42L_inj h1
    subst h0 h1 h2 h3 h4 h5
    rfl
theorem en42L_inj : ∀ {xs ys : List S42}, en42L xs = en42L ys → xs = ys
  | [], [], _ => rfl
  | [], _ :: _, h => by simp [en42L] at h
  | _ :: _, [], h => by simp [en42L] at h
  | x :: xs, y :: ys, h => by
    simp only [en42L, List.cons.injEq] at h
    rw [en42_inj h.1, en42L_inj h.2]
end
open Classical in
def ec_42 : EC S42 where
  enc := en42
  dec c := if h : ∃ x, en42 x = c then h.choose else ⟨intOf .ne, ([] : (List S42)), strOf .ne, intOf .ne, strOf .ne, intOf .ne⟩
  is c := decide (∃ x, en42 x = c)
  enc_dec {c} h := by
    have h2 : ∃ x, en42 x = c := by simpa using h
    rw [dif_pos h2]
    exact h2.choose_spec
  dec_enc x := by
    have h2 : ∃ y, en42 y = en42 x := ⟨x, rfl⟩
    rw [dif_pos h2]
    exact en42_inj h2.choose_spec
  is_enc x := by simp
theorem enc_42 (x : S42) : ec_42.enc x = [.int .i64 x.Kind, .sl (ec_42.encL x.Tests), .str x.Name, .int .i64 x.Pattern, .str x.Text, .int .i64 x.N] := by
  cases x
  show en42 _ = _
  simp only [en42, en42L_map]
  rfl
theorem dec_nil_42 : ec_42.dec [] = (⟨intOf .ne, ([] : (List S42)), strOf .ne, intOf .ne, strOf .ne, intOf .ne⟩ : S42) := by
  refine dif_neg ?_
  rintro ⟨⟨a0, a1, a2, a3, a4, a5⟩, h⟩
  simp [en42] at h
theorem isE_42 (xs : List S42) (n : Nat) : isE [.int .i64, .sl, .str, .int .i64, .str, .int .i64] 0 ((ec_42.encL xs).getD n []) = decide (n < xs.length) := by
  by_cases h : n < xs.length
  · simp only [EC.getD_lt _ _ h]; simp [enc_42, isE, isK, h]
  · simp only [EC.getD_ge _ _ (Nat.not_lt.1 h)]; simp [isE, isK, h]
theorem at_42_0 (xs : List S42) (n : Nat) : intOf (((ec_42.encL xs).getD n []).getD 0 .ne) = (xs.getD n (ec_42.dec [])).Kind := by
  by_cases h : n < xs.length
  · simp only [EC.getD_lt _ _ h]; simp [enc_42, h, intOf, List.getD_eq_getElem?_getD]
  · simp only [EC.getD_ge _ _ (Nat.not_lt.1 h)]; simp [Nat.not_lt.1 h, dec_nil_42, strOf, intOf, List.getD_eq_getElem?_getD]
theorem at_42_1 (xs : List S42) (n : Nat) : slOf (((ec_42.encL xs).getD n []).getD 1 .ne) = ec_42.encL (xs.getD n (ec_42.dec [])).Tests := by
  by_cases h : n < xs.length
  · simp only [EC.getD_lt _ _ h]; simp [enc_42, h, slOf, List.getD_eq_getElem?_getD]
  · simp only [EC.getD_ge _ _ (Nat.not_lt.1 h)]; simp [Nat.not_lt.1 h, dec_nil_42, strOf, intOf, slOf, List.getD_eq_getElem?_getD, EC.encL]
theorem at_42_2 (xs : List S42) (n : Nat) : strOf (((ec_42.encL xs).getD n []).getD 2 .ne) = (xs.getD n (ec_42.dec [])).Name := by
  by_cases h : n < xs.length
  · simp only [EC.getD_lt _ _ h]; simp [enc_42, h, strOf, List.getD_eq_getElem?_getD]
  · simp only [EC.getD_ge _ _ (Nat.not_lt.1 h)]; simp [Nat.not_lt.1 h, dec_nil_42, strOf, intOf, List.getD_eq_getElem?_getD]
theorem at_42_3 (xs : List S42) (n : Nat) : intOf (((ec_42.encL xs).getD n []).getD 3 .ne) = (xs.getD n (ec_42.dec [])).Pattern := by
  by_cases h : n < xs.length
  · simp only [EC.getD_lt _ _ h]; simp [enc_42, h, intOf, List.getD_eq_getElem?_getD]
  · simp only [EC.getD_ge _ _ (Nat.not_lt.1 h)]; simp [Nat.not_lt.1 h, dec_nil_42, strOf, intOf, List.getD_eq_getElem?_getD]
theorem at_42_4 (xs : List S42) (n : Nat) : strOf (((ec_42.encL xs).getD n []).getD 4 .ne) = (xs.getD n (ec_42.dec [])).Text := by
  by_cases h : n < xs.length
  · simp only [EC.getD_lt _ _ h]; simp [enc_42, h, strOf, List.getD_eq_getElem?_getD]
  · simp only [EC.getD_ge _ _ (Nat.not_lt.1 h)]; simp [Nat.not_lt.1 h, dec_nil_42, strOf, intOf, List.getD_eq_getElem?_getD]
theorem at_42_5 (xs : List S42) (n : Nat) : intOf (((ec_42.encL xs).getD n []).getD 5 .ne) = (xs.getD n (ec_42.dec [])).N := by
  by_cases h : n < xs.length
  · simp only [EC.getD_lt _ _ h]; simp [enc_42, h, intOf, List.getD_eq_getElem?_getD]
  · simp only [EC.getD_ge _ _ (Nat.not_lt.1 h)]; simp [Nat.not_lt.1 h, dec_nil_42, strOf, intOf, List.getD_eq_getElem?_getD]
theorem lit_42 (a0 : Int) (a1 : (List S42)) (a2 : ByteArray) (a3 : Int) (a4 : ByteArray) (a5 : Int) : ([.int .i64 a0, .sl (ec_42.encL a1), .str a2, .int .i64 a3, .str a4, .int .i64 a5] : List C) = ec_42.enc (⟨a0, a1, a2, a3, a4, a5⟩ : S42) := (enc_42 (⟨a0, a1, a2, a3, a4, a5⟩ : S42)).symm
theorem apd_42 (xs : List S42) (a0 : Int) (a1 : (List S42)) (a2 : ByteArray) (a3 : Int) (a4 : ByteArray) (a5 : Int) : ec_42.encL xs ++ [[.int .i64 a0, .sl (ec_42.encL a1), .str a2, .int .i64 a3, .str a4, .int .i64 a5]] = ec_42.encL (xs ++ [(⟨a0, a1, a2, a3, a4, a5⟩ : S42)]) := by rw [lit_42]; simp [EC.encL]
theorem len_42 (xs : List S42) (n : Nat) (h : n < xs.length) : ((ec_42.encL xs).getD n []).length = 6 := by rw [EC.getD_lt _ _ h, enc_42]; rfl
theorem all_42 (xs : List S42) : (ec_42.encL xs).all (fun (el : List C) => el.length == 6) = true := by induction xs with | nil => rfl | cons x xs ih => first | (simp [EC.encL, enc_42]; done) | simpa [EC.encL, enc_42] using ih
theorem set_42_0_6 (xs : List S42) (n : Nat) (a0 : Int) (a1 : (List S42)) (a2 : ByteArray) (a3 : Int) (a4 : ByteArray) (a5 : Int) : (ec_42.encL xs).set n (splice ((ec_42.encL xs).getD n []) 0 [.int .i64 a0, .sl (ec_42.encL a1), .str a2, .int .i64 a3, .str a4, .int .i64 a5]) = ec_42.encL (xs.set n ({ xs.getD n (ec_42.dec []) with Kind := a0, Tests := a1, Name := a2, Pattern := a3, Text := a4, N := a5 })) := by
  by_cases h : n < xs.length
  · rw [EC.getD_lt _ _ h]; simp [EC.encL, List.map_set, enc_42, splice]
  · simp [EC.encL, List.set_eq_of_length_le, Nat.not_lt.1 h]
theorem set_42_0_1 (xs : List S42) (n : Nat) (a0 : Int) : (ec_42.encL xs).set n (splice ((ec_42.encL xs).getD n []) 0 [.int .i64 a0]) = ec_42.encL (xs.set n ({ xs.getD n (ec_42.dec []) with Kind := a0 })) := by
  by_cases h : n < xs.length
  · rw [EC.getD_lt _ _ h]; simp [EC.encL, List.map_set, enc_42, splice, List.getD_eq_getElem?_getD, h]
  · simp [EC.encL, List.set_eq_of_length_le, Nat.not_lt.1 h]
theorem set_42_1_1 (xs : List S42) (n : Nat) (a1 : (List S42)) : (ec_42.encL xs).set n (splice ((ec_42.encL xs).getD n []) 1 [.sl (ec_42.encL a1)]) = ec_42.encL (xs.set n ({ xs.getD n (ec_42.dec []) with Tests := a1 })) := by
  by_cases h : n < xs.length
  · rw [EC.getD_lt _ _ h]; simp [EC.encL, List.map_set, enc_42, splice, List.getD_eq_getElem?_getD, h]
  · simp [EC.encL, List.set_eq_of_length_le, Nat.not_lt.1 h]
theorem set_42_2_1 (xs : List S42) (n : Nat) (a2 : ByteArray) : (ec_42.encL xs).set n (splice ((ec_42.encL xs).getD n []) 2 [.str a2]) = ec_42.encL (xs.set n ({ xs.getD n (ec_42.dec []) with Name := a2 })) := by
  by_cases h : n < xs.length
  · rw [EC.getD_lt _ _ h]; simp [EC.encL, List.map_set, enc_42, splice, List.getD_eq_getElem?_getD, h]
  · simp [EC.encL, List.set_eq_of_length_le, Nat.not_lt.1 h]
theorem set_42_3_1 (xs : List S42) (n : Nat) (a3 : Int) : (ec_42.encL xs).set n (splice ((ec_42.encL xs).getD n []) 3 [.int .i64 a3]) = ec_42.encL (xs.set n ({ xs.getD n (ec_42.dec []) with Pattern := a3 })) := by
  by_cases h : n < xs.length
  · rw [EC.getD_lt _ _ h]; simp [EC.encL, List.map_set, enc_42, splice, List.getD_eq_getElem?_getD, h]
  · simp [EC.encL, List.set_eq_of_length_le, Nat.not_lt.1 h]
theorem set_42_4_1 (xs : List S42) (n : Nat) (a4 : ByteArray) : (ec_42.encL xs).set n (splice ((ec_42.encL xs).getD n []) 4 [.str a4]) = ec_42.encL (xs.set n ({ xs.getD n (ec_42.dec []) with Text := a4 })) := by
  by_cases h : n < xs.length
  · rw [EC.getD_lt _ _ h]; simp [EC.encL, List.map_set, enc_42, splice, List.getD_eq_getElem?_getD, h]
  · simp [EC.encL, List.set_eq_of_length_le, Nat.not_lt.1 h]
theorem set_42_5_1 (xs : List S42) (n : Nat) (a5 : Int) : (ec_42.encL xs).set n (splice ((ec_42.encL xs).getD n []) 5 [.int .i64 a5]) = ec_42.encL (xs.set n ({ xs.getD n (ec_42.dec []) with N := a5 })) := by
  by_cases h : n < xs.length
  · rw [EC.getD_lt _ _ h]; simp [EC.encL, List.map_set, enc_42, splice, List.getD_eq_getElem?_getD, h]
  · simp [EC.encL, List.set_eq_of_length_le, Nat.not_lt.1 h]
structure S44 where
  Kind : Int
  Test_Kind : Int
  Test_Tests : (List S42)
  Test_Name : ByteArray
  Test_Pattern : Int
  Test_Text : ByteArray
  Test_N : Int
  Then : (List S44)
  Else : (List S44)
  Act : Int
  Name : ByteArray
  Text : ByteArray
  N : Int
mutual
def en44 : S44 → List C
  | ⟨a0, a1, a2, a3, a4, a5, a6, a7, a8, a9, a10, a11, a12⟩ => [.int .i64 a0, .int .i64 a1, .sl (ec_42.encL a2), .str a3, .int .i64 a4, .str a5, .int .i64 a6, .sl (en44L a7), .sl (en44L a8), .int .i64 a9, .str a10, .str a11, .int .i64 a12]
def en44L : List S44 → List (List C)
  | [] => []
  | x :: xs => en44 x :: en44L xs
end
theorem en44L_map : ∀ xs, en44L xs = xs.map en44
  | [] => rfl
  | x :: xs => by rw [en44L, en44L_map xs]; rfl
mutual
theorem en44_inj : ∀ {x y : S44}, en44 x = en44 y → x = y
  | ⟨a0, a1, a2, a3, a4, a5, a6, a7, a8, a9, a10, a11, a12⟩, ⟨b0, b1, b2, b3, b4, b5, b6, b7, b8, b9, b10, b11, b12⟩, h => by
    simp only [en44, List.cons.injEq, C.int.injEq, C.sl.injEq, C.str.injEq, true_and, and_true] at h
    obtain ⟨h0, h1, h2, h3, h4, h5, h6, h7, h8, h9, h10, h11, h12⟩ := h
    have h2 : a2 = b2 := by have q := congrArg ec_42.decL h2; simpa only [EC.decL_encL] using q
    have h7 := en44L_inj h7
    have h8 := en44L_inj h8
    subst h0 h1 h2 h3 h4 h5 h6 h7 h8 h9 h10 h11 h12
    rfl
theorem en44L_inj : ∀ {xs ys : List S44}, en44L xs = en44L ys → xs = ys
  | [], [], _ => rfl
  | [], _ :: _, h => by simp [en44L] at h
  | _ :: _, [], h => by simp [en44L] at h
  | x :: xs, y :: ys, h => by
    simp only [en44L, List.cons.injEq] at h
    rw [en44_inj h.1, en44L_inj h.2]
end
open Classical in
def ec_44 : EC S44 where
  enc := en44
  dec c := if h : ∃ x, en44 x = c then h.choose else ⟨intOf .ne, intOf .ne, ([] : (List S42)), strOf .ne, intOf .ne, strOf .ne, intOf .ne, ([] : (List S44)), ([] : (List S44)), intOf .ne, strOf .ne, strOf .ne, intOf .ne⟩
  is c := decide (∃ x, en44 x = c)
  enc_dec {c} h := by
    have h2 : ∃ x, en44 x = c := by simpa using h
    rw [dif_pos h2]
    exact h2.choose_spec
  dec_enc x := by
    have h2 : ∃ y, en44 y = en44 x := ⟨x, rfl⟩
    rw [dif_pos h2]
    exact en44_inj h2.choose_spec
  is_enc x := by simp
theorem enc_44 (x : S44) : ec_44.enc x = [.int .i64 x.Kind, .int .i64 x.Test_Kind, .sl (ec_42.encL x.Test_Tests), .str x.Test_Name, .int .i64 x.Test_Pattern, .str x.Test_Text, .int .i64 x.Test_N, .sl (ec_44.encL x.Then), .sl (ec_44.encL x.Else), .int .i64 x.Act, .str x.Name, .str x.Text, .int .i64 x.N] := by
  cases x
  show en44 _ = _
  simp only [en44, en44L_map]
  rfl
theorem dec_nil_44 : ec_44.dec [] = (⟨intOf .ne, intOf .ne, ([] : (List S42)), strOf .ne, intOf .ne, strOf .ne, intOf .ne, ([] : (List S44)), ([] : (List S44)), intOf .ne, strOf .ne, strOf .ne, intOf .ne⟩ : S44) := by
  refine dif_neg ?_
  rintro ⟨⟨a0, a1, a2, a3, a4, a5, a6, a7, a8, a9, a10, a11, a12⟩, h⟩
  simp [en44] at h
theorem isE_44 (xs : List S44) (n : Nat) : isE [.int .i64, .int .i64, .sl, .str, .int .i64, .str, .int .i64, .sl, .sl, .int .i64, .str, .str, .int .i64] 0 ((ec_44.encL xs).getD n []) = decide (n < xs.length) := by
  by_cases h : n < xs.length
  · simp only [EC.getD_lt _ _ h]; simp [enc_44, isE, isK, h]
  · simp only [EC.getD_ge _ _ (Nat.not_lt.1 h)]; simp [isE, isK, h]
theorem at_44_0 (xs : List S44) (n : Nat) : intOf (((ec_44.encL xs).getD n []).getD 0 .ne) = (xs.getD n (ec_44.dec [])).Kind := by
  by_cases h : n < xs.length
  · simp only [EC.getD_lt _ _ h]; simp [enc_44, h, intOf, List.getD_eq_getElem?_getD]
  · simp only [EC.getD_ge _ _ (Nat.not_lt.1 h)]; simp [Nat.not_lt.1 h, dec_nil_44, strOf, intOf, List.getD_eq_getElem?_getD]
theorem at_44_1 (xs : List S44) (n : Nat) : intOf (((ec_44.encL xs).getD n []).getD 1 .ne) = (xs.getD n (ec_44.dec [])).Test_Kind := by
  by_cases h : n < xs.length
  · simp only [EC.getD_lt _ _ h]; simp [enc_44, h, intOf, List.getD_eq_getElem?_getD]
  · simp only [EC.getD_ge _ _ (Nat.not_lt.1 h)]; simp [Nat.not_lt.1 h, dec_nil_44, strOf, intOf, List.getD_eq_getElem?_getD]
theorem at_44_2 (xs : List S44) (n : Nat) : slOf (((ec_44.encL xs).getD n []).getD 2 .ne) = ec_42.encL (xs.getD n (ec_44.dec [])).Test_Tests := by
  by_cases h : n < xs.length
  · simp only [EC.getD_lt _ _ h]; simp [enc_44, h, slOf, List.getD_eq_getElem?_getD]
  · simp only [EC.getD_ge _ _ (Nat.not_lt.1 h)]; simp [Nat.not_lt.1 h, dec_nil_44, strOf, intOf, slOf, List.getD_eq_getElem?_getD, EC.encL]
theorem at_44_3 (xs : List S44) (n : Nat) : strOf (((ec_44.encL xs).getD n []).getD 3 .ne) = (xs.getD n (ec_44.dec [])).Test_Name := by
  by_cases h : n < xs.length
  · simp only [EC.getD_lt _ _ h]; simp [enc_44, h, strOf, List.getD_eq_getElem?_getD]
  · simp only [EC.getD_ge _ _ (Nat.not_lt.1 h)]; simp [Nat.not_lt.1 h, dec_nil_44, strOf, intOf, List.getD_eq_getElem?_getD]
theorem at_44_4 (xs : List S44) (n : Nat) : intOf (((ec_44.encL xs).getD n []).getD 4 .ne) = (xs.getD n (ec_44.dec [])).Test_Pattern := by
  by_cases h : n < xs.length
  · simp only [EC.getD_lt _ _ h]; simp [enc_44, h, intOf, List.getD_eq_getElem?_getD]
  · simp only [EC.getD_ge _ _ (Nat.not_lt.1 h)]; simp [Nat.not_lt.1 h, dec_nil_44, strOf, intOf, List.getD_eq_getElem?_getD]
theorem at_44_5 (xs : List S44) (n : Nat) : strOf (((ec_44.encL xs).getD n []).getD 5 .ne) = (xs.getD n (ec_44.dec [])).Test_Text := by
  by_cases h : n < xs.length
  · simp only [EC.getD_lt _ _ h]; simp [enc_44, h, strOf, List.getD_eq_getElem?_getD]
  · simp only [EC.getD_ge _ _ (Nat.not_lt.1 h)]; simp [Nat.not_lt.1 h, dec_nil_44, strOf, intOf, List.getD_eq_getElem?_getD]
theorem at_44_6 (xs : List S44) (n : Nat) : intOf (((ec_44.encL xs).getD n []).getD 6 .ne) = (xs.getD n (ec_44.dec [])).Test_N := by
  by_cases h : n < xs.length
  · simp only [EC.getD_lt _ _ h]; simp [enc_44, h, intOf, List.getD_eq_getElem?_getD]
  · simp only [EC.getD_ge _ _ (Nat.not_lt.1 h)]; simp [Nat.not_lt.1 h, dec_nil_44, strOf, intOf, List.getD_eq_getElem?_getD]
theorem at_44_7 (xs : List S44) (n : Nat) : slOf (((ec_44.encL xs).getD n []).getD 7 .ne) = ec_44.encL (xs.getD n (ec_44.dec [])).Then := by
  by_cases h : n < xs.length
  · simp only [EC.getD_lt _ _ h]; simp [enc_44, h, slOf, List.getD_eq_getElem?_getD]
  · simp only [EC.getD_ge _ _ (Nat.not_lt.1 h)]; simp [Nat.not_lt.1 h, dec_nil_44, strOf, intOf, slOf, List.getD_eq_getElem?_getD, EC.encL]
theorem at_44_8 (xs : List S44) (n : Nat) : slOf (((ec_44.encL xs).getD n []).getD 8 .ne) = ec_44.encL (xs.getD n (ec_44.dec [])).Else := by
  by_cases h : n < xs.length
  · simp only [EC.getD_lt _ _ h]; simp [enc_44, h, slOf, List.getD_eq_getElem?_getD]
  · simp only [EC.getD_ge _ _ (Nat.not_lt.1 h)]; simp [Nat.not_lt.1 h, dec_nil_44, strOf, intOf, slOf, List.getD_eq_getElem?_getD, EC.encL]
theorem at_44_9 (xs : List S44) (n : Nat) : intOf (((ec_44.encL xs).getD n []).getD 9 .ne) = (xs.getD n (ec_44.dec [])).Act := by
  by_cases h : n < xs.length
  · simp only [EC.getD_lt _ _ h]; simp [enc_44, h, intOf, List.getD_eq_getElem?_getD]
  · simp only [EC.getD_ge _ _ (Nat.not_lt.1 h)]; simp [Nat.not_lt.1 h, dec_nil_44, strOf, intOf, List.getD_eq_getElem?_getD]
theorem at_44_10 (xs : List S44) (n : Nat) : strOf (((ec_44.encL xs).getD n []).getD 10 .ne) = (xs.getD n (ec_44.dec [])).Name := by
  by_cases h : n < xs.length
  · simp only [EC.getD_lt _ _ h]; simp [enc_44, h, strOf, List.getD_eq_getElem?_getD]
  · simp only [EC.getD_ge _ _ (Nat.not_lt.1 h)]; simp [Nat.not_lt.1 h, dec_nil_44, strOf, intOf, List.getD_eq_getElem?_getD]
theorem at_44_11 (xs : List S44) (n : Nat) : strOf (((ec_44.encL xs).getD n []).getD 11 .ne) = (xs.getD n (ec_44.dec [])).Text := by
  by_cases h : n < xs.length
  · simp only [EC.getD_lt _ _ h]; simp [enc_44, h, strOf, List.getD_eq_getElem?_getD]
  · simp only [EC.getD_ge _ _ (Nat.not_lt.1 h)]; simp [Nat.not_lt.1 h, dec_nil_44, strOf, intOf, List.getD_eq_getElem?_getD]
theorem at_44_12 (xs : List S44) (n : Nat) : intOf (((ec_44.encL xs).getD n []).getD 12 .ne) = (xs.getD n (ec_44.dec [])).N := by
  by_cases h : n < xs.length
  · simp only [EC.getD_lt _ _ h]; simp [enc_44, h, intOf, List.getD_eq_getElem?_getD]
  · simp only [EC.getD_ge _ _ (Nat.not_lt.1 h)]; simp [Nat.not_lt.1 h, dec_nil_44, strOf, intOf, List.getD_eq_getElem?_getD]
theorem lit_44 (a0 : Int) (a1 : Int) (a2 : (List S42)) (a3 : ByteArray) (a4 : Int) (a5 : ByteArray) (a6 : Int) (a7 : (List S44)) (a8 : (List S44)) (a9 : Int) (a10 : ByteArray) (a11 : ByteArray) (a12 : Int) : ([.int .i64 a0, .int .i64 a1, .sl (ec_42.encL a2), .str a3, .int .i64 a4, .str a5, .int .i64 a6, .sl (ec_44.encL a7), .sl (ec_44.encL a8), .int .i64 a9, .str a10, .str a11, .int .i64 a12] : List C) = ec_44.enc (⟨a0, a1, a2, a3, a4, a5, a6, a7, a8, a9, a10, a11, a12⟩ : S44) := (enc_44 (⟨a0, a1, a2, a3, a4, a5, a6, a7, a8, a9, a10, a11, a12⟩ : S44)).symm
theorem apd_44 (xs : List S44) (a0 : Int) (a1 : Int) (a2 : (List S42)) (a3 : ByteArray) (a4 : Int) (a5 : ByteArray) (a6 : Int) (a7 : (List S44)) (a8 : (List S44)) (a9 : Int) (a10 : ByteArray) (a11 : ByteArray) (a12 : Int) : ec_44.encL xs ++ [[.int .i64 a0, .int .i64 a1, .sl (ec_42.encL a2), .str a3, .int .i64 a4, .str a5, .int .i64 a6, .sl (ec_44.encL a7), .sl (ec_44.encL a8), .int .i64 a9, .str a10, .str a11, .int .i64 a12]] = ec_44.encL (xs ++ [(⟨a0, a1, a2, a3, a4, a5, a6, a7, a8, a9, a10, a11, a12⟩ : S44)]) := by rw [lit_44]; simp [EC.encL]
theorem len_44 (xs : List S44) (n : Nat) (h : n < xs.length) : ((ec_44.encL xs).getD n []).length = 13 := by rw [EC.getD_lt _ _ h, enc_44]; rfl
theorem all_44 (xs : List S44) : (ec_44.encL xs).all (fun (el : List C) => el.length == 13) = true := by induction xs with | nil => rfl | cons x xs ih => first | (simp [EC.encL, enc_44]; done) | simpa [EC.encL, enc_44] using ih
theorem set_44_0_13 (xs : List S44) (n : Nat) (a0 : Int) (a1 : Int) (a2 : (List S42)) (a3 : ByteArray) (a4 : Int) (a5 : ByteArray) (a6 : Int) (a7 : (List S44)) (a8 : (List S44)) (a9 : Int) (a10 : ByteArray) (a11 : ByteArray) (a12 : Int) : (ec_44.encL xs).set n (splice ((ec_44.encL xs).getD n []) 0 [.int .i64 a0, .int .i64 a1, .sl (ec_42.encL a2), .str a3, .int .i64 a4, .str a5, .int .i64 a6, .sl (ec_44.encL a7), .sl (ec_44.encL a8), .int .i64 a9, .str a10, .str a11, .int .i64 a12]) = ec_44.encL (xs.set n ({ xs.getD n (ec_44.dec []) with Kind := a0, Test_Kind := a1, Test_Tests := a2, Test_Name := a3, Test_Pattern := a4, Test_Text := a5, Test_N := a6, Then := a7, Else := a8, Act := a9, Name := a10, Text := a11, N := a12 })) := by
  by_cases h : n < xs.length
  · rw [EC.getD_lt _ _ h]; simp [EC.encL, List.map_set, enc_44, splice]
  · simp [EC.encL, List.set_eq_of_length_le, Nat.not_lt.1 h]
theorem set_44_0_1 (xs : List S44) (n : Nat) (a0 : Int) : (ec_44.encL xs).set n (splice ((ec_44.encL xs).getD n []) 0 [.int .i64 a0]) = ec_44.encL (xs.set n ({ xs.getD n (ec_44.dec []) with Kind := a0 })) := by
  by_cases h : n < xs.length
  · rw [EC.getD_lt _ _ h]; simp [EC.encL, List.map_set, enc_44, splice, List.getD_eq_getElem?_getD, h]
  · simp [EC.encL, List.set_eq_of_length_le, Nat.not_lt.1 h]
theorem set_44_1_6 (xs : List S44) (n : Nat) (a1 : Int) (a2 : (List S42)) (a3 : ByteArray) (a4 : Int) (a5 : ByteArray) (a6 : Int) : (ec_44.encL xs).set n (splice ((ec_44.encL xs).getD n []) 1 [.int .i64 a1, .sl (ec_42.encL a2), .str a3, .int .i64 a4, .str a5, .int .i64 a6]) = ec_44.encL (xs.set n ({ xs.getD n (ec_44.dec []) with Test_Kind := a1, Test_Tests := a2, Test_Name := a3, Test_Pattern := a4, Test_Text := a5, Test_N := a6 })) := by
  by_cases h : n < xs.length
  · rw [EC.getD_lt _ _ h]; simp [EC.encL, List.map_set, enc_44, splice, List.getD_eq_getElem?_getD, h]
  · simp [EC.encL, List.set_eq_of_length_le, Nat.not_lt.1 h]
theorem set_44_1_1 (xs : List S44) (n : Nat) (a1 : Int) : (ec_44.encL xs).set n (splice ((ec_44.encL xs).getD n []) 1 [.int .i64 a1]) = ec_44.encL (xs.set n ({ xs.getD n (ec_44.dec []) with Test_Kind := a1 })) := by
  by_cases h : n < xs.length
  · rw [EC.getD_lt _ _ h]; simp [EC.encL, List.map_set, enc_44, splice, List.getD_eq_getElem?_getD, h]
  · simp [EC.encL, List.set_eq_of_length_le, Nat.not_lt.1 h]
theorem set_44_2_1 (xs : List S44) (n : Nat) (a2 : (List S42)) : (ec_44.encL xs).set n (splice ((ec_44.encL xs).getD n []) 2 [.sl (ec_42.encL a2)]) = ec_44.encL (xs.set n ({ xs.getD n (ec_44.dec []) with Test_Tests := a2 })) := by
  by_cases h : n < xs.length
  · rw [EC.getD_lt _ _ h]; simp [EC.encL, List.map_set, enc_44, splice, List.getD_eq_getElem?_getD, h]
  · simp [EC.encL, List.set_eq_of_length_le, Nat.not_lt.1 h]
theorem set_44_3_1 (xs : List S44) (n : Nat) (a3 : ByteArray) : (ec_44.encL xs).set n (splice ((ec_44.encL xs).getD n []) 3 [.str a3]) = ec_44.encL (xs.set n ({ xs.getD n (ec_44.dec []) with Test_Name := a3 })) := by
  by_cases h : n < xs.length
  · rw [EC.getD_lt _ _ h]; simp [EC.encL, List.map_set, enc_44, splice, List.getD_eq_getElem?_getD, h]
  · simp [EC.encL, List.set_eq_of_length_le, Nat.not_lt.1 h]
theorem set_44_4_1 (xs : List S44) (n : Nat) (a4 : Int) : (ec_44.encL xs).set n (splice ((ec_44.encL xs).getD n []) 4 [.int .i64 a4]) = ec_44.encL (xs.set n ({ xs.getD n (ec_44.dec []) with Test_Pattern := a4 })) := by
  by_cases h : n < xs.length
  · rw [EC.getD_lt _ _ h]; simp [EC.encL, List.map_set, enc_44, splice, List.getD_eq_getElem?_getD, h]
  · simp [EC.encL, List.set_eq_of_length_le, Nat.not_lt.1 h]
theorem set_44_5_1 (xs : List S44) (n : Nat) (a5 : ByteArray) : (ec_44.encL xs).set n (splice ((ec_44.encL xs).getD n []) 5 [.str a5]) = ec_44.encL (xs.set n ({ xs.getD n (ec_44.dec []) with Test_Text := a5 })) := by
  by_cases h : n < xs.length
  · rw [EC.getD_lt _ _ h]; simp [EC.encL, List.map_set, enc_44, splice, List.getD_eq_getElem?_getD, h]
  · simp [EC.encL, List.set_eq_of_length_le, Nat.not_lt.1 h]
theorem set_44_6_1 (xs : List S44) (n : Nat) (a6 : Int) : (ec_44.encL xs).set n (splice ((ec_44.encL xs).getD n []) 6 [.int .i64 a6]) = ec_44.encL (xs.set n ({ xs.getD n (ec_44.dec []) with Test_N := a6 })) := by
  by_cases h : n < xs.length
  · rw [EC.getD_lt _ _ h]; simp [EC.encL, List.map_set, enc_44, splice, List.getD_eq_getElem?_getD, h]
  · simp [EC.encL, List.set_eq_of_length_le, Nat.not_lt.1 h]
theorem set_44_7_1 (xs : List S44) (n : Nat) (a7 : (List S44)) : (ec_44.encL xs).set n (splice ((ec_44.encL xs).getD n []) 7 [.sl (ec_44.encL a7)]) = ec_44.encL (xs.set n ({ xs.getD n (ec_44.dec []) with Then := a7 })) := by
  by_cases h : n < xs.length
  · rw [EC.getD_lt _ _ h]; simp [EC.encL, List.map_set, enc_44, splice, List.getD_eq_getElem?_getD, h]
  · simp [EC.encL, List.set_eq_of_length_le, Nat.not_lt.1 h]
theorem set_44_8_1 (xs : List S44) (n : Nat) (a8 : (List S44)) : (ec_44.encL xs).set n (splice ((ec_44.encL xs).getD n []) 8 [.sl (ec_44.encL a8)]) = ec_44.encL (xs.set n ({ xs.getD n (ec_44.dec []) with Else := a8 })) := by
  by_cases h : n < xs.length
  · rw [EC.getD_lt _ _ h]; simp [EC.encL, List.map_set, enc_44, splice, List.getD_eq_getElem?_getD, h]
  · simp [EC.encL, List.set_eq_of_length_le, Nat.not_lt.1 h]
theorem set_44_9_1 (xs : List S44) (n : Nat) (a9 : Int) : (ec_44.encL xs).set n (splice ((ec_44.encL xs).getD n []) 9 [.int .i64 a9]) = ec_44.encL (xs.set n ({ xs.getD n (ec_44.dec []) with Act := a9 })) := by
  by_cases h : n < xs.length
  · rw [EC.getD_lt _ _ h]; simp [EC.encL, List.map_set, enc_44, splice, List.getD_eq_getElem?_getD, h]
  · simp [EC.encL, List.set_eq_of_length_le, Nat.not_lt.1 h]
theorem set_44_10_1 (xs : List S44) (n : Nat) (a10 : ByteArray) : (ec_44.encL xs).set n (splice ((ec_44.encL xs).getD n []) 10 [.str a10]) = ec_44.encL (xs.set n ({ xs.getD n (ec_44.dec []) with Name := a10 })) := by
  by_cases h : n < xs.length
  · rw [EC.getD_lt _ _ h]; simp [EC.encL, List.map_set, enc_44, splice, List.getD_eq_getElem?_getD, h]
  · simp [EC.encL, List.set_eq_of_length_le, Nat.not_lt.1 h]
theorem set_44_11_1 (xs : List S44) (n : Nat) (a11 : ByteArray) : (ec_44.encL xs).set n (splice ((ec_44.encL xs).getD n []) 11 [.str a11]) = ec_44.encL (xs.set n ({ xs.getD n (ec_44.dec []) with Text := a11 })) := by
  by_cases h : n < xs.length
  · rw [EC.getD_lt _ _ h]; simp [EC.encL, List.map_set, enc_44, splice, List.getD_eq_getElem?_getD, h]
  · simp [EC.encL, List.set_eq_of_length_le, Nat.not_lt.1 h]
theorem set_44_12_1 (xs : List S44) (n : Nat) (a12 : Int) : (ec_44.encL xs).set n (splice ((ec_44.encL xs).getD n []) 12 [.int .i64 a12]) = ec_44.encL (xs.set n ({ xs.getD n (ec_44.dec []) with N := a12 })) := by
  by_cases h : n < xs.length
  · rw [EC.getD_lt _ _ h]; simp [EC.encL, List.map_set, enc_44, splice, List.getD_eq_getElem?_getD, h]
  · simp [EC.encL, List.set_eq_of_length_le, Nat.not_lt.1 h]
def posthouseref5_In_ca : Cod (List V) (Int × Int × Int) := (lCons (vC (cInt .i64)) (lCons (vC (cInt .i64)) (lOne (vC (cInt .i64)))))
def posthouseref5_In_cr : Cod (V × List B) Bool := (cFstU (cPair (vC cBool) lNil))
def posthouseref5_In_s (n : Int) (low : Int) (high : Int) : Option Bool := fS Try.prog lv X0 34 posthouseref5_In_ca posthouseref5_In_cr (n, low, high)
def posthouseref5_In_t (n : Int) (low : Int) (high : Int) : Option Bool :=
  (brE ((decide (low ≤ n)) == true)
  (some (decide (n ≤ high)))
  (some false))
theorem posthouseref5_In_eq {n : Int} {low : Int} {high : Int} {r : Bool} (h : posthouseref5_In_t n low high = some r) : posthouseref5_In_s n low high = some r :=
  fS_tree (es := tab0) (hs := []) [] Try.func34 rfl (by kernel_rfl) rfl (by kernel_rfl) (by kernel_rfl) trivial trivial (by kernel_rfl) h
def posthouseref5_In_e : Ent Try.prog lv X0 := entS Try.prog lv X0 34 [] posthouseref5_In_ca posthouseref5_In_cr (fun x => posthouseref5_In_s x.1 x.2.1 x.2.2) (fun _ _ h => fS_call h)
def tab_posthouseref5_In : List (Ent Try.prog lv X0) := posthouseref5_In_e :: tab0
def posthouseref6_SameTest_ca : Cod (List V) ((Int × (List S42) × ByteArray × Int × ByteArray × Int) × (Int × (List S42) × ByteArray × Int × ByteArray × Int)) := (lCons (vAgg (lCons (vC (cInt .i64)) (lCons (vC (cSl ec_42)) (lCons (vC cStr) (lCons (vC (cInt .i64)) (lCons (vC cStr) (lOne (vC (cInt .i64))))))))) (lOne (vAgg (lCons (vC (cInt .i64)) (lCons (vC (cSl ec_42)) (lCons (vC cStr) (lCons (vC (cInt .i64)) (lCons (vC cStr) (lOne (vC (cInt .i64)))))))))))
def posthouseref6_SameTest_cr : Cod (V × List B) Bool := (cFstU (cPair (vC cBool) lNil))
def posthouseref6_SameTest_s (a_Kind : Int) (a_Tests : (List S42)) (a_Name : ByteArray) (a_Pattern : Int) (a_Text : ByteArray) (a_N : Int) (b_Kind : Int) (b_Tests : (List S42)) (b_Name : ByteArray) (b_Pattern : Int) (b_Text : ByteArray) (b_N : Int) : Option Bool := fS Try.prog lv X0 35 posthouseref6_SameTest_ca posthouseref6_SameTest_cr ((a_Kind, a_Tests, a_Name, a_Pattern, a_Text, a_N), (b_Kind, b_Tests, b_Name, b_Pattern, b_Text, b_N))
def posthouseref6_SameTest_e : Ent Try.prog lv X0 := entS Try.prog lv X0 35 [] posthouseref6_SameTest_ca posthouseref6_SameTest_cr (fun x => posthouseref6_SameTest_s x.1.1 x.1.2.1 x.1.2.2.1 x.1.2.2.2.1 x.1.2.2.2.2.1 x.1.2.2.2.2.2 x.2.1 x.2.2.1 x.2.2.2.1 x.2.2.2.2.1 x.2.2.2.2.2.1 x.2.2.2.2.2.2) (fun _ _ h => fS_call h)
def tab_posthouseref6_SameTest : List (Ent Try.prog lv X0) := posthouseref6_SameTest_e :: tab_posthouseref5_In
def posthouseref6_SameTest_l4_s : SC ((Unit × Unit × Int) × ((Int × (List S42) × ByteArray × Int × ByteArray × Int) × (Int × (List S42) × ByteArray × Int × ByteArray × Int))) := sLS [2, 3, 5] (lCons (vPtr 0 0) (lCons (vPtr 1 0) (lOne (vC (cInt .i64))))) (lCons (oSome (bBox (lCons (vC (cInt .i64)) (lCons (vC (cSl ec_42)) (lCons (vC cStr) (lCons (vC (cInt .i64)) (lCons (vC cStr) (lOne (vC (cInt .i64)))))))))) (lOne (oSome (bBox (lCons (vC (cInt .i64)) (lCons (vC (cSl ec_42)) (lCons (vC cStr) (lCons (vC (cInt .i64)) (lCons (vC cStr) (lOne (vC (cInt .i64)))))))))))) [false, false] [] (by decide) (fun _ => rfl)
def posthouseref6_SameTest_l4_o2 : SC ((Unit × Unit × Int × Bool) × ((Int × (List S42) × ByteArray × Int × ByteArray × Int) × (Int × (List S42) × ByteArray × Int × ByteArray × Int))) := sLS [2, 3, 5, 52] (lCons (vPtr 0 0) (lCons (vPtr 1 0) (lCons (vC (cInt .i64)) (lOne (vC cBool))))) (lCons (oSome (bBox (lCons (vC (cInt .i64)) (lCons (vC (cSl ec_42)) (lCons (vC cStr) (lCons (vC (cInt .i64)) (lCons (vC cStr) (lOne (vC (cInt .i64)))))))))) (lOne (oSome (bBox (lCons (vC (cInt .i64)) (lCons (vC (cSl ec_42)) (lCons (vC cStr) (lCons (vC (cInt .i64)) (lCons (vC cStr) (lOne (vC (cInt .i64)))))))))))) [false, false] [] (by decide) (fun _ => rfl)
def posthouseref6_SameTest_l4_o1 : SC (Bool × Unit) := sLS [4] (lOne (vC cBool)) lNil [] [] (by decide) (fun _ => rfl)
def posthouseref6_SameTest_l4_o : OC ((Bool × Unit) ⊕ ((Unit × Unit × Int × Bool) × ((Int × (List S42) × ByteArray × Int × ByteArray × Int) × (Int × (List S42) × ByteArray × Int × ByteArray × Int)))) := oOr 1 posthouseref6_SameTest_l4_o1 (oAt 2 posthouseref6_SameTest_l4_o2) (fun x => (by decide : (2 : Nat) ≠ 1))
def posthouseref6_SameTest_l4 (i : Int) (b0 : Int) (b0_1 : (List S42)) (b0_2 : ByteArray) (b0_3 : Int) (b0_4 : ByteArray) (b0_5 : Int) (b1 : Int) (b1_1 : (List S42)) (b1_2 : ByteArray) (b1_3 : Int) (b1_4 : ByteArray) (b1_5 : Int) : Option ((Bool × Unit) ⊕ ((Unit × Unit × Int × Bool) × ((Int × (List S42) × ByteArray × Int × ByteArray × Int) × (Int × (List S42) × ByteArray × Int × ByteArray × Int)))) := lS Try.prog lv X0 35 67 (getLoop (cdF Try.f35) 4) posthouseref6_SameTest_l4_s posthouseref6_SameTest_l4_o (((), (), i), ((b0, b0_1, b0_2, b0_3, b0_4, b0_5), (b1, b1_1, b1_2, b1_3, b1_4, b1_5)))
def posthouseref6_SameTest_l4_t (i : Int) (b0 : Int) (b0_1 : (List S42)) (b0_2 : ByteArray) (b0_3 : Int) (b0_4 : ByteArray) (b0_5 : Int) (b1 : Int) (b1_1 : (List S42)) (b1_2 : ByteArray) (b1_3 : Int) (b1_4 : ByteArray) (b1_5 : Int) : Option ((Bool × Unit) ⊕ ((Unit × Unit × Int × Bool) × ((Int × (List S42) × ByteArray × Int × ByteArray × Int) × (Int × (List S42) × ByteArray × Int × ByteArray × Int)))) :=
  (brE (decide (i < (((List.length (EC.encL ec_42 b0_1)) : Nat) : Int)))
  (gdE (decide ((0 : Int) ≤ i)) <|
    (gdE ((decide ((Int.toNat i) < (List.length (EC.encL ec_42 b0_1)))) && (isE [(K1.int Go.IntKind.i64), K1.sl, K1.str, (K1.int Go.IntKind.i64), K1.str, (K1.int Go.IntKind.i64)] (0 : Nat) (List.getD (EC.encL ec_42 b0_1) (Int.toNat i) []))) <|
      (gdE (decide ((0 : Int) ≤ i)) <|
        (gdE ((decide ((Int.toNat i) < (List.length (EC.encL ec_42 b1_1)))) && (isE [(K1.int Go.IntKind.i64), K1.sl, K1.str, (K1.int Go.IntKind.i64), K1.str, (K1.int Go.IntKind.i64)] (0 : Nat) (List.getD (EC.encL ec_42 b1_1) (Int.toNat i) []))) <|
          (gdE (EC.isL ec_42 (slOf (List.getD (List.getD (EC.encL ec_42 b0_1) (Int.toNat i) []) (1 : Nat) C.ne))) <|
            (gdE (EC.isL ec_42 (slOf (List.getD (List.getD (EC.encL ec_42 b1_1) (Int.toNat i) []) (1 : Nat) C.ne))) <|
              (Option.bind (posthouseref6_SameTest_s (intOf (List.getD (List.getD (EC.encL ec_42 b0_1) (Int.toNat i) []) (0 : Nat) C.ne)) (EC.decL ec_42 (slOf (List.getD (List.getD (EC.encL ec_42 b0_1) (Int.toNat i) []) (1 : Nat) C.ne))) (strOf (List.getD (List.getD (EC.encL ec_42 b0_1) (Int.toNat i) []) (2 : Nat) C.ne)) (intOf (List.getD (List.getD (EC.encL ec_42 b0_1) (Int.toNat i) []) (3 : Nat) C.ne)) (strOf (List.getD (List.getD (EC.encL ec_42 b0_1) (Int.toNat i) []) (4 : Nat) C.ne)) (intOf (List.getD (List.getD (EC.encL ec_42 b0_1) (Int.toNat i) []) (5 : Nat) C.ne)) (intOf (List.getD (List.getD (EC.encL ec_42 b1_1) (Int.toNat i) []) (0 : Nat) C.ne)) (EC.decL ec_42 (slOf (List.getD (List.getD (EC.encL ec_42 b1_1) (Int.toNat i) []) (1 : Nat) C.ne))) (strOf (List.getD (List.getD (EC.encL ec_42 b1_1) (Int.toNat i) []) (2 : Nat) C.ne)) (intOf (List.getD (List.getD (EC.encL ec_42 b1_1) (Int.toNat i) []) (3 : Nat) C.ne)) (strOf (List.getD (List.getD (EC.encL ec_42 b1_1) (Int.toNat i) []) (4 : Nat) C.ne)) (intOf (List.getD (List.getD (EC.encL ec_42 b1_1) (Int.toNat i) []) (5 : Nat) C.ne))) fun r0 =>
                (brE (!r0)
                  (some (.inl (false, ())))
                  (gdE (EC.isL ec_42 (EC.encL ec_42 b0_1)) <|
                    (gdE (EC.isL ec_42 (EC.encL ec_42 b1_1)) <|
                      (posthouseref6_SameTest_l4 (Go.IntKind.wrap Go.IntKind.i64 (i + (1 : Int))) b0 (EC.decL ec_42 (EC.encL ec_42 b0_1)) b0_2 b0_3 b0_4 b0_5 b1 (EC.decL ec_42 (EC.encL ec_42 b1_1)) b1_2 b1_3 b1_4 b1_5)))))))))))
  (gdE (EC.isL ec_42 (EC.encL ec_42 b0_1)) <|
    (gdE (EC.isL ec_42 (EC.encL ec_42 b1_1)) <|
      (some (.inr (((), ((), (i, false))), ((b0, ((EC.decL ec_42 (EC.encL ec_42 b0_1)), (b0_2, (b0_3, (b0_4, b0_5))))), (b1, ((EC.decL ec_42 (EC.encL ec_42 b1_1)), (b1_2, (b1_3, (b1_4, b1_5))))))))))))
theorem posthouseref6_SameTest_l4_eq {i : Int} {b0 : Int} {b0_1 : (List S42)} {b0_2 : ByteArray} {b0_3 : Int} {b0_4 : ByteArray} {b0_5 : Int} {b1 : Int} {b1_1 : (List S42)} {b1_2 : ByteArray} {b1_3 : Int} {b1_4 : ByteArray} {b1_5 : Int} {r : ((Bool × Unit) ⊕ ((Unit × Unit × Int × Bool) × ((Int × (List S42) × ByteArray × Int × ByteArray × Int) × (Int × (List S42) × ByteArray × Int × ByteArray × Int))))} (h : posthouseref6_SameTest_l4_t i b0 b0_1 b0_2 b0_3 b0_4 b0_5 b1 b1_1 b1_2 b1_3 b1_4 b1_5 = some r) : posthouseref6_SameTest_l4 i b0 b0_1 b0_2 b0_3 b0_4 b0_5 b1 b1_1 b1_2 b1_3 b1_4 b1_5 = some r :=
  lS_tree (es := tab_posthouseref6_SameTest) (hs := []) [] (by kernel_rfl) trivial trivial (by kernel_rfl) h
def posthouseref6_SameTest_l4_e : LEnt Try.prog lv X0 35 67 := lentS Try.prog lv X0 4 (getLoop (cdF Try.f35) 4) posthouseref6_SameTest_l4_s posthouseref6_SameTest_l4_o (fun x => posthouseref6_SameTest_l4 x.1.2.2 x.2.1.1 x.2.1.2.1 x.2.1.2.2.1 x.2.1.2.2.2.1 x.2.1.2.2.2.2.1 x.2.1.2.2.2.2.2 x.2.2.1 x.2.2.2.1 x.2.2.2.2.1 x.2.2.2.2.2.1 x.2.2.2.2.2.2.1 x.2.2.2.2.2.2.2) (fun _ _ h => lS_from h)
def posthouseref6_SameTest_g3_s : SC ((Unit × Unit) × ((Int × (List S42) × ByteArray × Int × ByteArray × Int) × (Int × (List S42) × ByteArray × Int × ByteArray × Int))) := sLS [2, 3] (lCons (vPtr 0 0) (lOne (vPtr 1 0))) (lCons (oSome (bBox (lCons (vC (cInt .i64)) (lCons (vC (cSl ec_42)) (lCons (vC cStr) (lCons (vC (cInt .i64)) (lCons (vC cStr) (lOne (vC (cInt .i64)))))))))) (lOne (oSome (bBox (lCons (vC (cInt .i64)) (lCons (vC (cSl ec_42)) (lCons (vC cStr) (lCons (vC (cInt .i64)) (lCons (vC cStr) (lOne (vC (cInt .i64)))))))))))) [false, false] [] (by decide) (fun _ => rfl)
def posthouseref6_SameTest_g3_o1 : SC (Bool × Unit) := sLS [4] (lOne (vC cBool)) lNil [] [] (by decide) (fun _ => rfl)
def posthouseref6_SameTest_g3_o : OC (Bool × Unit) := oAt 1 posthouseref6_SameTest_g3_o1
def posthouseref6_SameTest_g3 (b0 : Int) (b0_1 : (List S42)) (b0_2 : ByteArray) (b0_3 : Int) (b0_4 : ByteArray) (b0_5 : Int) (b1 : Int) (b1_1 : (List S42)) (b1_2 : ByteArray) (b1_3 : Int) (b1_4 : ByteArray) (b1_5 : Int) : Option (Bool × Unit) := gS Try.prog lv X0 35 67 (getSeg (cdF Try.f35) 3) posthouseref6_SameTest_g3_s posthouseref6_SameTest_g3_o (((), ()), ((b0, b0_1, b0_2, b0_3, b0_4, b0_5), (b1, b1_1, b1_2, b1_3, b1_4, b1_5)))
def posthouseref6_SameTest_g3_t (b0 : Int) (b0_1 : (List S42)) (b0_2 : ByteArray) (b0_3 : Int) (b0_4 : ByteArray) (b0_5 : Int) (b1 : Int) (b1_1 : (List S42)) (b1_2 : ByteArray) (b1_3 : Int) (b1_4 : ByteArray) (b1_5 : Int) : Option (Bool × Unit) :=
  (gdE (EC.isL ec_42 (EC.encL ec_42 b0_1)) <|
  (gdE (EC.isL ec_42 (EC.encL ec_42 b1_1)) <|
    (Option.bind (posthouseref6_SameTest_l4 (0 : Int) b0 (EC.decL ec_42 (EC.encL ec_42 b0_1)) b0_2 b0_3 b0_4 b0_5 b1 (EC.decL ec_42 (EC.encL ec_42 b1_1)) b1_2 b1_3 b1_4 b1_5) fun r0 =>
      (Sum.elim (fun r1 => (some ((r1).1, ())))
        (fun r1 => (some (true, ()))) r0))))
theorem posthouseref6_SameTest_g3_eq {b0 : Int} {b0_1 : (List S42)} {b0_2 : ByteArray} {b0_3 : Int} {b0_4 : ByteArray} {b0_5 : Int} {b1 : Int} {b1_1 : (List S42)} {b1_2 : ByteArray} {b1_3 : Int} {b1_4 : ByteArray} {b1_5 : Int} {r : (Bool × Unit)} (h : posthouseref6_SameTest_g3_t b0 b0_1 b0_2 b0_3 b0_4 b0_5 b1 b1_1 b1_2 b1_3 b1_4 b1_5 = some r) : posthouseref6_SameTest_g3 b0 b0_1 b0_2 b0_3 b0_4 b0_5 b1 b1_1 b1_2 b1_3 b1_4 b1_5 = some r :=
  gS_tree (es := tab_posthouseref6_SameTest) (hs := []) [posthouseref6_SameTest_l4_e] (by kernel_rfl) ⟨⟨_, rfl, rfl⟩, trivial⟩ trivial (by kernel_rfl) h
def posthouseref6_SameTest_g3_e : LEnt Try.prog lv X0 35 67 := gentS Try.prog lv X0 3 (getSeg (cdF Try.f35) 3) (by kernel_rfl) posthouseref6_SameTest_g3_s posthouseref6_SameTest_g3_o (fun x => posthouseref6_SameTest_g3 x.2.1.1 x.2.1.2.1 x.2.1.2.2.1 x.2.1.2.2.2.1 x.2.1.2.2.2.2.1 x.2.1.2.2.2.2.2 x.2.2.1 x.2.2.2.1 x.2.2.2.2.1 x.2.2.2.2.2.1 x.2.2.2.2.2.2.1 x.2.2.2.2.2.2.2) (fun _ _ h => gS_from h)
def posthouseref6_SameTest_t (a_Kind : Int) (a_Tests : (List S42)) (a_Name : ByteArray) (a_Pattern : Int) (a_Text : ByteArray) (a_N : Int) (b_Kind : Int) (b_Tests : (List S42)) (b_Name : ByteArray) (b_Pattern : Int) (b_Text : ByteArray) (b_N : Int) : Option Bool :=
  (brE ((a_Kind != b_Kind) == false)
  (brE ((!((ByteArray.toList a_Name) == (ByteArray.toList b_Name))) == false)
    (brE ((a_Pattern != b_Pattern) == false)
      (brE ((!((ByteArray.toList a_Text) == (ByteArray.toList b_Text))) == false)
        (brE ((a_N != b_N) == false)
          (brE ((((List.length (EC.encL ec_42 a_Tests)) : Nat) : Int) != (((List.length (EC.encL ec_42 b_Tests)) : Nat) : Int))
            (some false)
            (gdE (EC.isL ec_42 (EC.encL ec_42 a_Tests)) <|
              (gdE (EC.isL ec_42 (EC.encL ec_42 b_Tests)) <|
                (Option.bind (posthouseref6_SameTest_g3 a_Kind (EC.decL ec_42 (EC.encL ec_42 a_Tests)) a_Name a_Pattern a_Text a_N b_Kind (EC.decL ec_42 (EC.encL ec_42 b_Tests)) b_Name b_Pattern b_Text b_N) fun r0 =>
                  (some (r0).1)))))
          (some false))
        (some false))
      (some false))
    (some false))
  (some false))
theorem posthouseref6_SameTest_eq {a_Kind : Int} {a_Tests : (List S42)} {a_Name : ByteArray} {a_Pattern : Int} {a_Text : ByteArray} {a_N : Int} {b_Kind : Int} {b_Tests : (List S42)} {b_Name : ByteArray} {b_Pattern : Int} {b_Text : ByteArray} {b_N : Int} {r : Bool} (h : posthouseref6_SameTest_t a_Kind a_Tests a_Name a_Pattern a_Text a_N b_Kind b_Tests b_Name b_Pattern b_Text b_N = some r) : posthouseref6_SameTest_s a_Kind a_Tests a_Name a_Pattern a_Text a_N b_Kind b_Tests b_Name b_Pattern b_Text b_N = some r :=
  fS_tree (es := tab_posthouseref6_SameTest) (hs := []) [posthouseref6_SameTest_g3_e] Try.func35 rfl (by kernel_rfl) rfl (by kernel_rfl) (by kernel_rfl) trivial ⟨⟨_, rfl, rfl⟩, trivial⟩ (by kernel_rfl) h
def posthouseref6_Count_ca : Cod (List V) (List S44) := (lOne (vC (cSl ec_44)))
def posthouseref6_Count_cr : Cod (V × List B) Int := (cFstU (cPair (vC (cInt .i64)) lNil))
def posthouseref6_Count_s (s : (List S44)) : Option Int := fS Try.prog lv X0 10 posthouseref6_Count_ca posthouseref6_Count_cr s
def posthouseref6_Count_e : Ent Try.prog lv X0 := entS Try.prog lv X0 10 [] posthouseref6_Count_ca posthouseref6_Count_cr (fun x => posthouseref6_Count_s x) (fun _ _ h => fS_call h)
def tab_posthouseref6_Count : List (Ent Try.prog lv X0) := posthouseref6_Count_e :: tab_posthouseref6_SameTest
def posthouseref6_Count_l3_s : SC (((List S44) × Int × Int) × Unit) := sLS [0, 3, 4] (lCons (vC (cSl ec_44)) (lCons (vC (cInt .i64)) (lOne (vC (cInt .i64))))) lNil [] [] (by decide) (fun _ => rfl)
def posthouseref6_Count_l3_o2 : SC (((List S44) × Int × Int × Bool) × Unit) := sLS [0, 3, 4, 10] (lCons (vC (cSl ec_44)) (lCons (vC (cInt .i64)) (lCons (vC (cInt .i64)) (lOne (vC cBool))))) lNil [] [] (by decide) (fun _ => rfl)
def posthouseref6_Count_l3_o : OC (((List S44) × Int × Int × Bool) × Unit) := oAt 2 posthouseref6_Count_l3_o2
def posthouseref6_Count_l3 (s : (List S44)) (n : Int) (i : Int) : Option (((List S44) × Int × Int × Bool) × Unit) := lS Try.prog lv X0 10 29 (getLoop (cdF Try.f10) 3) posthouseref6_Count_l3_s posthouseref6_Count_l3_o ((s, n, i), ())
def posthouseref6_Count_l3_t (s : (List S44)) (n : Int) (i : Int) : Option (((List S44) × Int × Int × Bool) × Unit) :=
  (brE (decide (i < (((List.length (EC.encL ec_44 s)) : Nat) : Int)))
  (gdE (decide ((0 : Int) ≤ i)) <|
    (gdE ((decide ((Int.toNat i) < (List.length (EC.encL ec_44 s)))) && (isE [(K1.int Go.IntKind.i64), (K1.int Go.IntKind.i64), K1.sl, K1.str, (K1.int Go.IntKind.i64), K1.str, (K1.int Go.IntKind.i64), K1.sl, K1.sl, (K1.int Go.IntKind.i64), K1.str, K1.str, (K1.int Go.IntKind.i64)] (0 : Nat) (List.getD (EC.encL ec_44 s) (Int.toNat i) []))) <|
      (gdE (EC.isL ec_44 (slOf (List.getD (List.getD (EC.encL ec_44 s) (Int.toNat i) []) (7 : Nat) C.ne))) <|
        (Option.bind (posthouseref6_Count_s (EC.decL ec_44 (slOf (List.getD (List.getD (EC.encL ec_44 s) (Int.toNat i) []) (7 : Nat) C.ne)))) fun r0 =>
          (gdE (decide ((0 : Int) ≤ i)) <|
            (gdE ((decide ((Int.toNat i) < (List.length (EC.encL ec_44 s)))) && (isE [(K1.int Go.IntKind.i64), (K1.int Go.IntKind.i64), K1.sl, K1.str, (K1.int Go.IntKind.i64), K1.str, (K1.int Go.IntKind.i64), K1.sl, K1.sl, (K1.int Go.IntKind.i64), K1.str, K1.str, (K1.int Go.IntKind.i64)] (0 : Nat) (List.getD (EC.encL ec_44 s) (Int.toNat i) []))) <|
              (gdE (EC.isL ec_44 (slOf (List.getD (List.getD (EC.encL ec_44 s) (Int.toNat i) []) (8 : Nat) C.ne))) <|
                (Option.bind (posthouseref6_Count_s (EC.decL ec_44 (slOf (List.getD (List.getD (EC.encL ec_44 s) (Int.toNat i) []) (8 : Nat) C.ne)))) fun r1 =>
                  (gdE (EC.isL ec_44 (EC.encL ec_44 s)) <|
                    (posthouseref6_Count_l3 (EC.decL ec_44 (EC.encL ec_44 s)) (Go.IntKind.wrap Go.IntKind.i64 (n + (Go.IntKind.wrap Go.IntKind.i64 (r0 + r1)))) (Go.IntKind.wrap Go.IntKind.i64 (i + (1 : Int)))))))))))))
  (gdE (EC.isL ec_44 (EC.encL ec_44 s)) <|
    (some (((EC.decL ec_44 (EC.encL ec_44 s)), (n, (i, false))), ()))))
theorem posthouseref6_Count_l3_eq {s : (List S44)} {n : Int} {i : Int} {r : (((List S44) × Int × Int × Bool) × Unit)} (h : posthouseref6_Count_l3_t s n i = some r) : posthouseref6_Count_l3 s n i = some r :=
  lS_tree (es := tab_posthouseref6_Count) (hs := []) [] (by kernel_rfl) trivial trivial (by kernel_rfl) h
def posthouseref6_Count_l3_e : LEnt Try.prog lv X0 10 29 := lentS Try.prog lv X0 3 (getLoop (cdF Try.f10) 3) posthouseref6_Count_l3_s posthouseref6_Count_l3_o (fun x => posthouseref6_Count_l3 x.1.1 x.1.2.1 x.1.2.2) (fun _ _ h => lS_from h)
def posthouseref6_Count_t (s : (List S44)) : Option Int :=
  (gdE (EC.isL ec_44 (EC.encL ec_44 s)) <|
  (Option.bind (posthouseref6_Count_l3 (EC.decL ec_44 (EC.encL ec_44 s)) (((List.length (EC.encL ec_44 s)) : Nat) : Int) (0 : Int)) fun r0 =>
    (some (((r0).1).2).1)))
theorem posthouseref6_Count_eq {s : (List S44)} {r : Int} (h : posthouseref6_Count_t s = some r) : posthouseref6_Count_s s = some r :=
  fS_tree (es := tab_posthouseref6_Count) (hs := []) [posthouseref6_Count_l3_e] Try.func10 rfl (by kernel_rfl) rfl (by kernel_rfl) (by kernel_rfl) ⟨⟨_, rfl, rfl⟩, trivial⟩ trivial (by kernel_rfl) h
def posthouseref6_Holds_ca : Cod (List V) ((List S42) × Int × (Int × (List S42) × ByteArray × Int × ByteArray × Int)) := (lCons (vC (cSl ec_42)) (lCons (vC (cInt .i64)) (lOne (vAgg (lCons (vC (cInt .i64)) (lCons (vC (cSl ec_42)) (lCons (vC cStr) (lCons (vC (cInt .i64)) (lCons (vC cStr) (lOne (vC (cInt .i64))))))))))))
def posthouseref6_Holds_cr : Cod (V × List B) Bool := (cFstU (cPair (vC cBool) lNil))
def posthouseref6_Holds_s (l : (List S42)) (outcomes : Int) (t_Kind : Int) (t_Tests : (List S42)) (t_Name : ByteArray) (t_Pattern : Int) (t_Text : ByteArray) (t_N : Int) : Option Bool := fS Try.prog lv X0 24 posthouseref6_Holds_ca posthouseref6_Holds_cr (l, outcomes, (t_Kind, t_Tests, t_Name, t_Pattern, t_Text, t_N))
def posthouseref6_Holds_e : Ent Try.prog lv X0 := entS Try.prog lv X0 24 [] posthouseref6_Holds_ca posthouseref6_Holds_cr (fun x => posthouseref6_Holds_s x.1 x.2.1 x.2.2.1 x.2.2.2.1 x.2.2.2.2.1 x.2.2.2.2.2.1 x.2.2.2.2.2.2.1 x.2.2.2.2.2.2.2) (fun _ _ h => fS_call h)
def tab_posthouseref6_Holds : List (Ent Try.prog lv X0) := posthouseref6_Holds_e :: tab_posthouseref6_Count
def posthouseref6_Holds_l7_s : SC (((List S42) × Int × Unit × Int) × (Int × (List S42) × ByteArray × Int × ByteArray × Int)) := sLS [0, 1, 5, 7] (lCons (vC (cSl ec_42)) (lCons (vC (cInt .i64)) (lCons (vPtr 0 0) (lOne (vC (cInt .i64)))))) (lOne (oSome (bBox (lCons (vC (cInt .i64)) (lCons (vC (cSl ec_42)) (lCons (vC cStr) (lCons (vC (cInt .i64)) (lCons (vC cStr) (lOne (vC (cInt .i64))))))))))) [false] [] (by decide) (fun _ => rfl)
def posthouseref6_Holds_l7_o2 : SC (((List S42) × Int × Unit × Int × Bool) × (Int × (List S42) × ByteArray × Int × ByteArray × Int)) := sLS [0, 1, 5, 7, 35] (lCons (vC (cSl ec_42)) (lCons (vC (cInt .i64)) (lCons (vPtr 0 0) (lCons (vC (cInt .i64)) (lOne (vC cBool)))))) (lOne (oSome (bBox (lCons (vC (cInt .i64)) (lCons (vC (cSl ec_42)) (lCons (vC cStr) (lCons (vC (cInt .i64)) (lCons (vC cStr) (lOne (vC (cInt .i64))))))))))) [false] [] (by decide) (fun _ => rfl)
def posthouseref6_Holds_l7_o1 : SC (Bool × Unit) := sLS [6] (lOne (vC cBool)) lNil [] [] (by decide) (fun _ => rfl)
def posthouseref6_Holds_l7_o : OC ((Bool × Unit) ⊕ (((List S42) × Int × Unit × Int × Bool) × (Int × (List S42) × ByteArray × Int × ByteArray × Int))) := oOr 1 posthouseref6_Holds_l7_o1 (oAt 2 posthouseref6_Holds_l7_o2) (fun x => (by decide : (2 : Nat) ≠ 1))
def posthouseref6_Holds_l7 (l : (List S42)) (outcomes : Int) (i : Int) (b0 : Int) (b0_1 : (List S42)) (b0_2 : ByteArray) (b0_3 : Int) (b0_4 : ByteArray) (b0_5 : Int) : Option ((Bool × Unit) ⊕ (((List S42) × Int × Unit × Int × Bool) × (Int × (List S42) × ByteArray × Int × ByteArray × Int))) := lS Try.prog lv X0 24 75 (getLoop (cdF Try.f24) 7) posthouseref6_Holds_l7_s posthouseref6_Holds_l7_o ((l, outcomes, (), i), (b0, b0_1, b0_2, b0_3, b0_4, b0_5))
def posthouseref6_Holds_l7_t (l : (List S42)) (outcomes : Int) (i : Int) (b0 : Int) (b0_1 : (List S42)) (b0_2 : ByteArray) (b0_3 : Int) (b0_4 : ByteArray) (b0_5 : Int) : Option ((Bool × Unit) ⊕ (((List S42) × Int × Unit × Int × Bool) × (Int × (List S42) × ByteArray × Int × ByteArray × Int))) :=
  (brE (decide (i < (((List.length (EC.encL ec_42 b0_1)) : Nat) : Int)))
  (gdE (decide ((0 : Int) ≤ i)) <|
    (gdE ((decide ((Int.toNat i) < (List.length (EC.encL ec_42 b0_1)))) && (isE [(K1.int Go.IntKind.i64), K1.sl, K1.str, (K1.int Go.IntKind.i64), K1.str, (K1.int Go.IntKind.i64)] (0 : Nat) (List.getD (EC.encL ec_42 b0_1) (Int.toNat i) []))) <|
      (gdE (EC.isL ec_42 (EC.encL ec_42 l)) <|
        (gdE (EC.isL ec_42 (slOf (List.getD (List.getD (EC.encL ec_42 b0_1) (Int.toNat i) []) (1 : Nat) C.ne))) <|
          (Option.bind (posthouseref6_Holds_s (EC.decL ec_42 (EC.encL ec_42 l)) outcomes (intOf (List.getD (List.getD (EC.encL ec_42 b0_1) (Int.toNat i) []) (0 : Nat) C.ne)) (EC.decL ec_42 (slOf (List.getD (List.getD (EC.encL ec_42 b0_1) (Int.toNat i) []) (1 : Nat) C.ne))) (strOf (List.getD (List.getD (EC.encL ec_42 b0_1) (Int.toNat i) []) (2 : Nat) C.ne)) (intOf (List.getD (List.getD (EC.encL ec_42 b0_1) (Int.toNat i) []) (3 : Nat) C.ne)) (strOf (List.getD (List.getD (EC.encL ec_42 b0_1) (Int.toNat i) []) (4 : Nat) C.ne)) (intOf (List.getD (List.getD (EC.encL ec_42 b0_1) (Int.toNat i) []) (5 : Nat) C.ne))) fun r0 =>
            (brE (r0 == (b0 == (4 : Int)))
              (some (.inl ((b0 == (4 : Int)), ())))
              (gdE (EC.isL ec_42 (EC.encL ec_42 l)) <|
                (gdE (EC.isL ec_42 (EC.encL ec_42 b0_1)) <|
                  (posthouseref6_Holds_l7 (EC.decL ec_42 (EC.encL ec_42 l)) outcomes (Go.IntKind.wrap Go.IntKind.i64 (i + (1 : Int))) b0 (EC.decL ec_42 (EC.encL ec_42 b0_1)) b0_2 b0_3 b0_4 b0_5)))))))))
  (gdE (EC.isL ec_42 (EC.encL ec_42 l)) <|
    (gdE (EC.isL ec_42 (EC.encL ec_42 b0_1)) <|
      (some (.inr (((EC.decL ec_42 (EC.encL ec_42 l)), (outcomes, ((), (i, false)))), (b0, ((EC.decL ec_42 (EC.encL ec_42 b0_1)), (b0_2, (b0_3, (b0_4, b0_5)))))))))))
theorem posthouseref6_Holds_l7_eq {l : (List S42)} {outcomes : Int} {i : Int} {b0 : Int} {b0_1 : (List S42)} {b0_2 : ByteArray} {b0_3 : Int} {b0_4 : ByteArray} {b0_5 : Int} {r : ((Bool × Unit) ⊕ (((List S42) × Int × Unit × Int × Bool) × (Int × (List S42) × ByteArray × Int × ByteArray × Int)))} (h : posthouseref6_Holds_l7_t l outcomes i b0 b0_1 b0_2 b0_3 b0_4 b0_5 = some r) : posthouseref6_Holds_l7 l outcomes i b0 b0_1 b0_2 b0_3 b0_4 b0_5 = some r :=
  lS_tree (es := tab_posthouseref6_Holds) (hs := []) [] (by kernel_rfl) trivial trivial (by kernel_rfl) h
def posthouseref6_Holds_l7_e : LEnt Try.prog lv X0 24 75 := lentS Try.prog lv X0 7 (getLoop (cdF Try.f24) 7) posthouseref6_Holds_l7_s posthouseref6_Holds_l7_o (fun x => posthouseref6_Holds_l7 x.1.1 x.1.2.1 x.1.2.2.2 x.2.1 x.2.2.1 x.2.2.2.1 x.2.2.2.2.1 x.2.2.2.2.2.1 x.2.2.2.2.2.2) (fun _ _ h => lS_from h)
def posthouseref6_Holds_l13_s : SC (((List S42) × Int × Unit × Int) × (Int × (List S42) × ByteArray × Int × ByteArray × Int)) := sLS [0, 1, 5, 8] (lCons (vC (cSl ec_42)) (lCons (vC (cInt .i64)) (lCons (vPtr 0 0) (lOne (vC (cInt .i64)))))) (lOne (oSome (bBox (lCons (vC (cInt .i64)) (lCons (vC (cSl ec_42)) (lCons (vC cStr) (lCons (vC (cInt .i64)) (lCons (vC cStr) (lOne (vC (cInt .i64))))))))))) [false] [] (by decide) (fun _ => rfl)
def posthouseref6_Holds_l13_o4 : SC (((List S42) × Int × Unit × Int × Bool) × (Int × (List S42) × ByteArray × Int × ByteArray × Int)) := sLS [0, 1, 5, 8, 59] (lCons (vC (cSl ec_42)) (lCons (vC (cInt .i64)) (lCons (vPtr 0 0) (lCons (vC (cInt .i64)) (lOne (vC cBool)))))) (lOne (oSome (bBox (lCons (vC (cInt .i64)) (lCons (vC (cSl ec_42)) (lCons (vC cStr) (lCons (vC (cInt .i64)) (lCons (vC cStr) (lOne (vC (cInt .i64))))))))))) [false] [] (by decide) (fun _ => rfl)
def posthouseref6_Holds_l13_o1 : SC (Bool × Unit) := sLS [6] (lOne (vC cBool)) lNil [] [] (by decide) (fun _ => rfl)
def posthouseref6_Holds_l13_o : OC ((Bool × Unit) ⊕ (((List S42) × Int × Unit × Int × Bool) × (Int × (List S42) × ByteArray × Int × ByteArray × Int))) := oOr 1 posthouseref6_Holds_l13_o1 (oAt 4 posthouseref6_Holds_l13_o4) (fun x => (by decide : (4 : Nat) ≠ 1))
def posthouseref6_Holds_l13 (l : (List S42)) (outcomes : Int) (i : Int) (b0 : Int) (b0_1 : (List S42)) (b0_2 : ByteArray) (b0_3 : Int) (b0_4 : ByteArray) (b0_5 : Int) : Option ((Bool × Unit) ⊕ (((List S42) × Int × Unit × Int × Bool) × (Int × (List S42) × ByteArray × Int × ByteArray × Int))) := lS Try.prog lv X0 24 75 (getLoop (cdF Try.f24) 13) posthouseref6_Holds_l13_s posthouseref6_Holds_l13_o ((l, outcomes, (), i), (b0, b0_1, b0_2, b0_3, b0_4, b0_5))
def posthouseref6_Holds_l13_t (l : (List S42)) (outcomes : Int) (i : Int) (b0 : Int) (b0_1 : (List S42)) (b0_2 : ByteArray) (b0_3 : Int) (b0_4 : ByteArray) (b0_5 : Int) : Option ((Bool × Unit) ⊕ (((List S42) × Int × Unit × Int × Bool) × (Int × (List S42) × ByteArray × Int × ByteArray × Int))) :=
  (brE (decide (i < (((List.length (EC.encL ec_42 l)) : Nat) : Int)))
  (gdE (decide ((0 : Int) ≤ i)) <|
    (gdE ((decide ((Int.toNat i) < (List.length (EC.encL ec_42 l)))) && (isE [(K1.int Go.IntKind.i64), K1.sl, K1.str, (K1.int Go.IntKind.i64), K1.str, (K1.int Go.IntKind.i64)] (0 : Nat) (List.getD (EC.encL ec_42 l) (Int.toNat i) []))) <|
      (gdE (EC.isL ec_42 (slOf (List.getD (List.getD (EC.encL ec_42 l) (Int.toNat i) []) (1 : Nat) C.ne))) <|
        (gdE (EC.isL ec_42 (EC.encL ec_42 b0_1)) <|
          (Option.bind (posthouseref6_SameTest_s (intOf (List.getD (List.getD (EC.encL ec_42 l) (Int.toNat i) []) (0 : Nat) C.ne)) (EC.decL ec_42 (slOf (List.getD (List.getD (EC.encL ec_42 l) (Int.toNat i) []) (1 : Nat) C.ne))) (strOf (List.getD (List.getD (EC.encL ec_42 l) (Int.toNat i) []) (2 : Nat) C.ne)) (intOf (List.getD (List.getD (EC.encL ec_42 l) (Int.toNat i) []) (3 : Nat) C.ne)) (strOf (List.getD (List.getD (EC.encL ec_42 l) (Int.toNat i) []) (4 : Nat) C.ne)) (intOf (List.getD (List.getD (EC.encL ec_42 l) (Int.toNat i) []) (5 : Nat) C.ne)) b0 (EC.decL ec_42 (EC.encL ec_42 b0_1)) b0_2 b0_3 b0_4 b0_5) fun r0 =>
            (brE r0
              (brE (decide ((Go.IntKind.wrap Go.IntKind.u64 i) < (0 : Int)))
                none
                (brE ((Go.IntKind.wrap Go.IntKind.i64 ((1 : Int) * ((2 : Int) ^ (Min.min (Int.toNat (Go.IntKind.wrap Go.IntKind.u64 i)) (Go.IntKind.bits Go.IntKind.i64))))) == (0 : Int))
                  none
                  (some (.inl (((Int.tmod (Go.IntKind.wrap Go.IntKind.i64 (Int.tdiv outcomes (Go.IntKind.wrap Go.IntKind.i64 ((1 : Int) * ((2 : Int) ^ (Min.min (Int.toNat (Go.IntKind.wrap Go.IntKind.u64 i)) (Go.IntKind.bits Go.IntKind.i64))))))) (2 : Int)) == (1 : Int)), ())))))
              (gdE (EC.isL ec_42 (EC.encL ec_42 l)) <|
                (gdE (EC.isL ec_42 (EC.encL ec_42 b0_1)) <|
                  (posthouseref6_Holds_l13 (EC.decL ec_42 (EC.encL ec_42 l)) outcomes (Go.IntKind.wrap Go.IntKind.i64 (i + (1 : Int))) b0 (EC.decL ec_42 (EC.encL ec_42 b0_1)) b0_2 b0_3 b0_4 b0_5)))))))))
  (gdE (EC.isL ec_42 (EC.encL ec_42 l)) <|
    (gdE (EC.isL ec_42 (EC.encL ec_42 b0_1)) <|
      (some (.inr (((EC.decL ec_42 (EC.encL ec_42 l)), (outcomes, ((), (i, false)))), (b0, ((EC.decL ec_42 (EC.encL ec_42 b0_1)), (b0_2, (b0_3, (b0_4, b0_5)))))))))))
theorem posthouseref6_Holds_l13_eq {l : (List S42)} {outcomes : Int} {i : Int} {b0 : Int} {b0_1 : (List S42)} {b0_2 : ByteArray} {b0_3 : Int} {b0_4 : ByteArray} {b0_5 : Int} {r : ((Bool × Unit) ⊕ (((List S42) × Int × Unit × Int × Bool) × (Int × (List S42) × ByteArray × Int × ByteArray × Int)))} (h : posthouseref6_Holds_l13_t l outcomes i b0 b0_1 b0_2 b0_3 b0_4 b0_5 = some r) : posthouseref6_Holds_l13 l outcomes i b0 b0_1 b0_2 b0_3 b0_4 b0_5 = some r :=
  lS_tree (es := tab_posthouseref6_Holds) (hs := []) [] (by kernel_rfl) trivial trivial (by kernel_rfl) h
def posthouseref6_Holds_l13_e : LEnt Try.prog lv X0 24 75 := lentS Try.prog lv X0 13 (getLoop (cdF Try.f24) 13) posthouseref6_Holds_l13_s posthouseref6_Holds_l13_o (fun x => posthouseref6_Holds_l13 x.1.1 x.1.2.1 x.1.2.2.2 x.2.1 x.2.2.1 x.2.2.2.1 x.2.2.2.2.1 x.2.2.2.2.2.1 x.2.2.2.2.2.2) (fun _ _ h => lS_from h)
def posthouseref6_Holds_t (l : (List S42)) (outcomes : Int) (t_Kind : Int) (t_Tests : (List S42)) (t_Name : ByteArray) (t_Pattern : Int) (t_Text : ByteArray) (t_N : Int) : Option Bool :=
  (brE (t_Kind == (1 : Int))
  (some true)
  (brE (t_Kind == (2 : Int))
    (gdE ((decide ((Int.toNat (0 : Int)) < (List.length (EC.encL ec_42 t_Tests)))) && (isE [(K1.int Go.IntKind.i64), K1.sl, K1.str, (K1.int Go.IntKind.i64), K1.str, (K1.int Go.IntKind.i64)] (0 : Nat) (List.getD (EC.encL ec_42 t_Tests) (Int.toNat (0 : Int)) []))) <|
      (gdE (EC.isL ec_42 (EC.encL ec_42 l)) <|
        (gdE (EC.isL ec_42 (slOf (List.getD (List.getD (EC.encL ec_42 t_Tests) (Int.toNat (0 : Int)) []) (1 : Nat) C.ne))) <|
          (Option.bind (posthouseref6_Holds_s (EC.decL ec_42 (EC.encL ec_42 l)) outcomes (intOf (List.getD (List.getD (EC.encL ec_42 t_Tests) (Int.toNat (0 : Int)) []) (0 : Nat) C.ne)) (EC.decL ec_42 (slOf (List.getD (List.getD (EC.encL ec_42 t_Tests) (Int.toNat (0 : Int)) []) (1 : Nat) C.ne))) (strOf (List.getD (List.getD (EC.encL ec_42 t_Tests) (Int.toNat (0 : Int)) []) (2 : Nat) C.ne)) (intOf (List.getD (List.getD (EC.encL ec_42 t_Tests) (Int.toNat (0 : Int)) []) (3 : Nat) C.ne)) (strOf (List.getD (List.getD (EC.encL ec_42 t_Tests) (Int.toNat (0 : Int)) []) (4 : Nat) C.ne)) (intOf (List.getD (List.getD (EC.encL ec_42 t_Tests) (Int.toNat (0 : Int)) []) (5 : Nat) C.ne))) fun r0 =>
            (some (!r0))))))
    (brE ((t_Kind == (3 : Int)) == false)
      (brE (t_Kind == (4 : Int))
        (gdE (EC.isL ec_42 (EC.encL ec_42 l)) <|
          (gdE (EC.isL ec_42 (EC.encL ec_42 t_Tests)) <|
            (Option.bind (posthouseref6_Holds_l7 (EC.decL ec_42 (EC.encL ec_42 l)) outcomes (0 : Int) t_Kind (EC.decL ec_42 (EC.encL ec_42 t_Tests)) t_Name t_Pattern t_Text t_N) fun r0 =>
              (Sum.elim (fun r1 => (some (r1).1))
                (fun r1 => (some (((r1).2).1 == (3 : Int)))) r0))))
        (gdE (EC.isL ec_42 (EC.encL ec_42 l)) <|
          (gdE (EC.isL ec_42 (EC.encL ec_42 t_Tests)) <|
            (Option.bind (posthouseref6_Holds_l13 (EC.decL ec_42 (EC.encL ec_42 l)) outcomes (0 : Int) t_Kind (EC.decL ec_42 (EC.encL ec_42 t_Tests)) t_Name t_Pattern t_Text t_N) fun r0 =>
              (Sum.elim (fun r1 => (some (r1).1))
                (fun r1 => (some false)) r0)))))
      (gdE (EC.isL ec_42 (EC.encL ec_42 l)) <|
        (gdE (EC.isL ec_42 (EC.encL ec_42 t_Tests)) <|
          (Option.bind (posthouseref6_Holds_l7 (EC.decL ec_42 (EC.encL ec_42 l)) outcomes (0 : Int) t_Kind (EC.decL ec_42 (EC.encL ec_42 t_Tests)) t_Name t_Pattern t_Text t_N) fun r0 =>
            (Sum.elim (fun r1 => (some (r1).1))
              (fun r1 => (some (((r1).2).1 == (3 : Int)))) r0)))))))
theorem posthouseref6_Holds_eq {l : (List S42)} {outcomes : Int} {t_Kind : Int} {t_Tests : (List S42)} {t_Name : ByteArray} {t_Pattern : Int} {t_Text : ByteArray} {t_N : Int} {r : Bool} (h : posthouseref6_Holds_t l outcomes t_Kind t_Tests t_Name t_Pattern t_Text t_N = some r) : posthouseref6_Holds_s l outcomes t_Kind t_Tests t_Name t_Pattern t_Text t_N = some r :=
  fS_tree (es := tab_posthouseref6_Holds) (hs := []) [posthouseref6_Holds_l7_e, posthouseref6_Holds_l13_e] Try.func24 rfl (by kernel_rfl) rfl (by kernel_rfl) (by kernel_rfl) ⟨⟨_, rfl, rfl⟩, ⟨_, rfl, rfl⟩, trivial⟩ trivial (by kernel_rfl) h
def ec_3 : EC Int where
  enc x := [.int .i64 x]
  dec c := intOf (c.getD 0 .ne)
  is c := isE [.int .i64] 0 c
  enc_dec h := decE_eq h
  dec_enc x := by rfl
  is_enc x := by simp [isE, isK]
theorem enc_3 (x : Int) : ec_3.enc x = [.int .i64 x] := rfl
theorem isE_3 (xs : List Int) (n : Nat) : isE [.int .i64] 0 ((ec_3.encL xs).getD n []) = decide (n < xs.length) := by
  by_cases h : n < xs.length
  · simp only [EC.getD_lt _ _ h]; simp [enc_3, isE, isK, h]
  · simp only [EC.getD_ge _ _ (Nat.not_lt.1 h)]; simp [isE, isK, h]
theorem at_3_0 (xs : List Int) (n : Nat) : intOf (((ec_3.encL xs).getD n []).getD 0 .ne) = (xs.getD n (ec_3.dec [])) := by
  by_cases h : n < xs.length
  · simp only [EC.getD_lt _ _ h]; simp [enc_3, h, intOf, List.getD_eq_getElem?_getD]
  · simp only [EC.getD_ge _ _ (Nat.not_lt.1 h)]; simp [Nat.not_lt.1 h, ec_3, intOf, List.getD_eq_getElem?_getD]
theorem lit_3 (a0 : Int) : ([.int .i64 a0] : List C) = ec_3.enc a0 := rfl
theorem apd_3 (xs : List Int) (a0 : Int) : ec_3.encL xs ++ [[.int .i64 a0]] = ec_3.encL (xs ++ [a0]) := by rw [lit_3]; simp [EC.encL]
theorem len_3 (xs : List Int) (n : Nat) (h : n < xs.length) : ((ec_3.encL xs).getD n []).length = 1 := by rw [EC.getD_lt _ _ h]; rfl
theorem all_3 (xs : List Int) : (ec_3.encL xs).all (fun (el : List C) => el.length == 1) = true := by induction xs with | nil => rfl | cons x xs ih => first | (simp [EC.encL, enc_3]; done) | simpa [EC.encL, enc_3] using ih
theorem set_3_0_1 (xs : List Int) (n : Nat) (a0 : Int) : (ec_3.encL xs).set n (splice ((ec_3.encL xs).getD n []) 0 [.int .i64 a0]) = ec_3.encL (xs.set n (a0)) := by
  by_cases h : n < xs.length
  · rw [EC.getD_lt _ _ h]; simp [EC.encL, List.map_set, enc_3, splice]
  · simp [EC.encL, List.set_eq_of_length_le, Nat.not_lt.1 h]
def posthouseref6_Path_ca : Cod (List V) ((List S42) × Int × (List S44) × Int) := (lCons (vC (cSl ec_42)) (lCons (vC (cInt .i64)) (lCons (vC (cSl ec_44)) (lOne (vC (cInt .i64))))))
def posthouseref6_Path_cr : Cod (V × List B) ((List Int) × (List Int) × Bool) := (cFstU (cPair (vTup (lCons (vC (cSl ec_3)) (lCons (vC (cSl ec_3)) (lOne (vC cBool))))) lNil))
def posthouseref6_Path_s (l : (List S42)) (outcomes : Int) (s : (List S44)) (number : Int) : Option ((List Int) × (List Int) × Bool) := fS Try.prog lv X0 11 posthouseref6_Path_ca posthouseref6_Path_cr (l, outcomes, s, number)
def posthouseref6_Path_e : Ent Try.prog lv X0 := entS Try.prog lv X0 11 [] posthouseref6_Path_ca posthouseref6_Path_cr (fun x => posthouseref6_Path_s x.1 x.2.1 x.2.2.1 x.2.2.2) (fun _ _ h => fS_call h)
def tab_posthouseref6_Path : List (Ent Try.prog lv X0) := posthouseref6_Path_e :: tab_posthouseref6_Holds
def posthouseref6_Path_l4_s : SC (((List S42) × Int × (List S44) × Int × Nat × Nat × Int) × ((List Int) × (List Int))) := sLS [0, 1, 2, 3, 11, 12, 13] (lCons (vC (cSl ec_42)) (lCons (vC (cInt .i64)) (lCons (vC (cSl ec_44)) (lCons (vC (cInt .i64)) (lCons (vRow 0) (lCons (vRow 1) (lOne (vC (cInt .i64))))))))) (lCons (oSome (bRow ec_3)) (lOne (oSome (bRow ec_3)))) [false, false] [] (by decide) (fun _ => rfl)
def posthouseref6_Path_l4_o2 : SC (((List S42) × Int × (List S44) × Int × Nat × Nat × Int × Bool) × ((List Int) × (List Int))) := sLS [0, 1, 2, 3, 11, 12, 13, 23] (lCons (vC (cSl ec_42)) (lCons (vC (cInt .i64)) (lCons (vC (cSl ec_44)) (lCons (vC (cInt .i64)) (lCons (vRow 0) (lCons (vRow 1) (lCons (vC (cInt .i64)) (lOne (vC cBool))))))))) (lCons (oSome (bRow ec_3)) (lOne (oSome (bRow ec_3)))) [false, false] [] (by decide) (fun _ => rfl)
def posthouseref6_Path_l4_o1 : SC ((Nat × Nat × Bool) × ((List Int) × (List Int))) := sLS [8, 9, 10] (lCons (vRow 0) (lCons (vRow 1) (lOne (vC cBool)))) (lCons (oSome (bRow ec_3)) (lOne (oSome (bRow ec_3)))) [false, false] [] (by decide) (fun _ => rfl)
def posthouseref6_Path_l4_o : OC (((Nat × Nat × Bool) × ((List Int) × (List Int))) ⊕ (((List S42) × Int × (List S44) × Int × Nat × Nat × Int × Bool) × ((List Int) × (List Int)))) := oOr 1 posthouseref6_Path_l4_o1 (oAt 2 posthouseref6_Path_l4_o2) (fun x => (by decide : (2 : Nat) ≠ 1))
def posthouseref6_Path_l4 (l : (List S42)) (outcomes : Int) (s : (List S44)) (number : Int) (rules : Nat) (acts : Nat) (i : Int) (b0 : (List Int)) (b1 : (List Int)) : Option (((Nat × Nat × Bool) × ((List Int) × (List Int))) ⊕ (((List S42) × Int × (List S44) × Int × Nat × Nat × Int × Bool) × ((List Int) × (List Int)))) := lS Try.prog lv X0 11 97 (getLoop (cdF Try.f11) 4) posthouseref6_Path_l4_s posthouseref6_Path_l4_o ((l, outcomes, s, number, rules, acts, i), (b0, b1))
def posthouseref6_Path_l4_t (l : (List S42)) (outcomes : Int) (s : (List S44)) (number : Int) (rules : Nat) (acts : Nat) (i : Int) (b0 : (List Int)) (b1 : (List Int)) : Option (((Nat × Nat × Bool) × ((List Int) × (List Int))) ⊕ (((List S42) × Int × (List S44) × Int × Nat × Nat × Int × Bool) × ((List Int) × (List Int)))) :=
  (brE (decide (i < (((List.length (EC.encL ec_44 s)) : Nat) : Int)))
  (gdE (decide ((0 : Int) ≤ i)) <|
    (gdE ((decide ((Int.toNat i) < (List.length (EC.encL ec_44 s)))) && (isE [(K1.int Go.IntKind.i64), (K1.int Go.IntKind.i64), K1.sl, K1.str, (K1.int Go.IntKind.i64), K1.str, (K1.int Go.IntKind.i64), K1.sl, K1.sl, (K1.int Go.IntKind.i64), K1.str, K1.str, (K1.int Go.IntKind.i64)] (0 : Nat) (List.getD (EC.encL ec_44 s) (Int.toNat i) []))) <|
      (gdE ((((List.all [[(C.int Go.IntKind.i64 number)]] (fun (el : (List C)) => ((List.length el) == (1 : Nat)))) && (List.all (EC.encL ec_3 b0) (fun (el : (List C)) => ((List.length el) == (1 : Nat))))) && (decide (((((rules + (List.length [[(C.int Go.IntKind.i64 number)]])) + ((rules + (List.length [[(C.int Go.IntKind.i64 number)]])) / (4 : Nat))) + (192 : Nat)) * (8 : Nat)) ≤ (281474976710656 : Nat)))) && (decide ((rules + (List.length [[(C.int Go.IntKind.i64 number)]])) ≤ (9223372036854775807 : Nat)))) <|
        (brE ((intOf (List.getD (List.getD (EC.encL ec_44 s) (Int.toNat i) []) (0 : Nat) C.ne)) == (4 : Int))
          (gdE (EC.isL ec_3 ((EC.encL ec_3 b0) ++ [[(C.int Go.IntKind.i64 number)]])) <|
            (gdE (EC.isL ec_3 (EC.encL ec_3 b1)) <|
              (some (.inl (((rules + (List.length [[(C.int Go.IntKind.i64 number)]])), (acts, true)), ((EC.decL ec_3 ((EC.encL ec_3 b0) ++ [[(C.int Go.IntKind.i64 number)]])), (EC.decL ec_3 (EC.encL ec_3 b1))))))))
          (brE ((intOf (List.getD (List.getD (EC.encL ec_44 s) (Int.toNat i) []) (0 : Nat) C.ne)) == (2 : Int))
            (gdE ((((List.all [[(C.int Go.IntKind.i64 (intOf (List.getD (List.getD (EC.encL ec_44 s) (Int.toNat i) []) (9 : Nat) C.ne)))]] (fun (el : (List C)) => ((List.length el) == (1 : Nat)))) && (List.all (EC.encL ec_3 b1) (fun (el : (List C)) => ((List.length el) == (1 : Nat))))) && (decide (((((acts + (List.length [[(C.int Go.IntKind.i64 (intOf (List.getD (List.getD (EC.encL ec_44 s) (Int.toNat i) []) (9 : Nat) C.ne)))]])) + ((acts + (List.length [[(C.int Go.IntKind.i64 (intOf (List.getD (List.getD (EC.encL ec_44 s) (Int.toNat i) []) (9 : Nat) C.ne)))]])) / (4 : Nat))) + (192 : Nat)) * (8 : Nat)) ≤ (281474976710656 : Nat)))) && (decide ((acts + (List.length [[(C.int Go.IntKind.i64 (intOf (List.getD (List.getD (EC.encL ec_44 s) (Int.toNat i) []) (9 : Nat) C.ne)))]])) ≤ (9223372036854775807 : Nat)))) <|
              (brE ((intOf (List.getD (List.getD (EC.encL ec_44 s) (Int.toNat i) []) (0 : Nat) C.ne)) == (1 : Int))
                (gdE (EC.isL ec_44 (slOf (List.getD (List.getD (EC.encL ec_44 s) (Int.toNat i) []) (7 : Nat) C.ne))) <|
                  (Option.bind (posthouseref6_Count_s (EC.decL ec_44 (slOf (List.getD (List.getD (EC.encL ec_44 s) (Int.toNat i) []) (7 : Nat) C.ne)))) fun r0 =>
                    (gdE (EC.isL ec_42 (EC.encL ec_42 l)) <|
                      (gdE (EC.isL ec_42 (slOf (List.getD (List.getD (EC.encL ec_44 s) (Int.toNat i) []) (2 : Nat) C.ne))) <|
                        (Option.bind (posthouseref6_Holds_s (EC.decL ec_42 (EC.encL ec_42 l)) outcomes (intOf (List.getD (List.getD (EC.encL ec_44 s) (Int.toNat i) []) (1 : Nat) C.ne)) (EC.decL ec_42 (slOf (List.getD (List.getD (EC.encL ec_44 s) (Int.toNat i) []) (2 : Nat) C.ne))) (strOf (List.getD (List.getD (EC.encL ec_44 s) (Int.toNat i) []) (3 : Nat) C.ne)) (intOf (List.getD (List.getD (EC.encL ec_44 s) (Int.toNat i) []) (4 : Nat) C.ne)) (strOf (List.getD (List.getD (EC.encL ec_44 s) (Int.toNat i) []) (5 : Nat) C.ne)) (intOf (List.getD (List.getD (EC.encL ec_44 s) (Int.toNat i) []) (6 : Nat) C.ne))) fun r1 =>
                          (brE r1
                            (gdE (EC.isL ec_42 (EC.encL ec_42 l)) <|
                              (gdE (EC.isL ec_44 (slOf (List.getD (List.getD (EC.encL ec_44 s) (Int.toNat i) []) (7 : Nat) C.ne))) <|
                                (Option.bind (posthouseref6_Path_s (EC.decL ec_42 (EC.encL ec_42 l)) outcomes (EC.decL ec_44 (slOf (List.getD (List.getD (EC.encL ec_44 s) (Int.toNat i) []) (7 : Nat) C.ne))) (Go.IntKind.wrap Go.IntKind.i64 (number + (1 : Int)))) fun r2 =>
                                  (gdE ((((List.all (EC.encL ec_3 (r2).1) (fun (el : (List C)) => ((List.length el) == (1 : Nat)))) && (List.all ((EC.encL ec_3 b0) ++ [[(C.int Go.IntKind.i64 number)]]) (fun (el : (List C)) => ((List.length el) == (1 : Nat))))) && (decide ((((((rules + (List.length [[(C.int Go.IntKind.i64 number)]])) + (List.length (EC.encL ec_3 (r2).1))) + (((rules + (List.length [[(C.int Go.IntKind.i64 number)]])) + (List.length (EC.encL ec_3 (r2).1))) / (4 : Nat))) + (192 : Nat)) * (8 : Nat)) ≤ (281474976710656 : Nat)))) && (decide (((rules + (List.length [[(C.int Go.IntKind.i64 number)]])) + (List.length (EC.encL ec_3 (r2).1))) ≤ (9223372036854775807 : Nat)))) <|
                                    (gdE ((((List.all (EC.encL ec_3 ((r2).2).1) (fun (el : (List C)) => ((List.length el) == (1 : Nat)))) && (List.all ((EC.encL ec_3 b1) ++ [[(C.int Go.IntKind.i64 (intOf (List.getD (List.getD (EC.encL ec_44 s) (Int.toNat i) []) (9 : Nat) C.ne)))]]) (fun (el : (List C)) => ((List.length el) == (1 : Nat))))) && (decide ((((((acts + (List.length [[(C.int Go.IntKind.i64 (intOf (List.getD (List.getD (EC.encL ec_44 s) (Int.toNat i) []) (9 : Nat) C.ne)))]])) + (List.length (EC.encL ec_3 ((r2).2).1))) + (((acts + (List.length [[(C.int Go.IntKind.i64 (intOf (List.getD (List.getD (EC.encL ec_44 s) (Int.toNat i) []) (9 : Nat) C.ne)))]])) + (List.length (EC.encL ec_3 ((r2).2).1))) / (4 : Nat))) + (192 : Nat)) * (8 : Nat)) ≤ (281474976710656 : Nat)))) && (decide (((acts + (List.length [[(C.int Go.IntKind.i64 (intOf (List.getD (List.getD (EC.encL ec_44 s) (Int.toNat i) []) (9 : Nat) C.ne)))]])) + (List.length (EC.encL ec_3 ((r2).2).1))) ≤ (9223372036854775807 : Nat)))) <|
                                      (brE ((r2).2).2
                                        (gdE (EC.isL ec_3 (((EC.encL ec_3 b0) ++ [[(C.int Go.IntKind.i64 number)]]) ++ (EC.encL ec_3 (r2).1))) <|
                                          (gdE (EC.isL ec_3 (((EC.encL ec_3 b1) ++ [[(C.int Go.IntKind.i64 (intOf (List.getD (List.getD (EC.encL ec_44 s) (Int.toNat i) []) (9 : Nat) C.ne)))]]) ++ (EC.encL ec_3 ((r2).2).1))) <|
                                            (some (.inl ((((rules + (List.length [[(C.int Go.IntKind.i64 number)]])) + (List.length (EC.encL ec_3 (r2).1))), (((acts + (List.length [[(C.int Go.IntKind.i64 (intOf (List.getD (List.getD (EC.encL ec_44 s) (Int.toNat i) []) (9 : Nat) C.ne)))]])) + (List.length (EC.encL ec_3 ((r2).2).1))), true)), ((EC.decL ec_3 (((EC.encL ec_3 b0) ++ [[(C.int Go.IntKind.i64 number)]]) ++ (EC.encL ec_3 (r2).1))), (EC.decL ec_3 (((EC.encL ec_3 b1) ++ [[(C.int Go.IntKind.i64 (intOf (List.getD (List.getD (EC.encL ec_44 s) (Int.toNat i) []) (9 : Nat) C.ne)))]]) ++ (EC.encL ec_3 ((r2).2).1)))))))))
                                        (gdE (EC.isL ec_44 (slOf (List.getD (List.getD (EC.encL ec_44 s) (Int.toNat i) []) (7 : Nat) C.ne))) <|
                                          (Option.bind (posthouseref6_Count_s (EC.decL ec_44 (slOf (List.getD (List.getD (EC.encL ec_44 s) (Int.toNat i) []) (7 : Nat) C.ne)))) fun r3 =>
                                            (gdE (EC.isL ec_44 (slOf (List.getD (List.getD (EC.encL ec_44 s) (Int.toNat i) []) (8 : Nat) C.ne))) <|
                                              (Option.bind (posthouseref6_Count_s (EC.decL ec_44 (slOf (List.getD (List.getD (EC.encL ec_44 s) (Int.toNat i) []) (8 : Nat) C.ne)))) fun r4 =>
                                                (gdE (EC.isL ec_42 (EC.encL ec_42 l)) <|
                                                  (gdE (EC.isL ec_44 (EC.encL ec_44 s)) <|
                                                    (gdE (EC.isL ec_3 (((EC.encL ec_3 b0) ++ [[(C.int Go.IntKind.i64 number)]]) ++ (EC.encL ec_3 (r2).1))) <|
                                                      (gdE (EC.isL ec_3 (((EC.encL ec_3 b1) ++ [[(C.int Go.IntKind.i64 (intOf (List.getD (List.getD (EC.encL ec_44 s) (Int.toNat i) []) (9 : Nat) C.ne)))]]) ++ (EC.encL ec_3 ((r2).2).1))) <|
                                                        (posthouseref6_Path_l4 (EC.decL ec_42 (EC.encL ec_42 l)) outcomes (EC.decL ec_44 (EC.encL ec_44 s)) (Go.IntKind.wrap Go.IntKind.i64 (number + (Go.IntKind.wrap Go.IntKind.i64 ((Go.IntKind.wrap Go.IntKind.i64 ((1 : Int) + r3)) + r4)))) ((rules + (List.length [[(C.int Go.IntKind.i64 number)]])) + (List.length (EC.encL ec_3 (r2).1))) ((acts + (List.length [[(C.int Go.IntKind.i64 (intOf (List.getD (List.getD (EC.encL ec_44 s) (Int.toNat i) []) (9 : Nat) C.ne)))]])) + (List.length (EC.encL ec_3 ((r2).2).1))) (Go.IntKind.wrap Go.IntKind.i64 (i + (1 : Int))) (EC.decL ec_3 (((EC.encL ec_3 b0) ++ [[(C.int Go.IntKind.i64 number)]]) ++ (EC.encL ec_3 (r2).1))) (EC.decL ec_3 (((EC.encL ec_3 b1) ++ [[(C.int Go.IntKind.i64 (intOf (List.getD (List.getD (EC.encL ec_44 s) (Int.toNat i) []) (9 : Nat) C.ne)))]]) ++ (EC.encL ec_3 ((r2).2).1))))))))))))))))))
                            (gdE (EC.isL ec_42 (EC.encL ec_42 l)) <|
                              (gdE (EC.isL ec_44 (slOf (List.getD (List.getD (EC.encL ec_44 s) (Int.toNat i) []) (8 : Nat) C.ne))) <|
                                (Option.bind (posthouseref6_Path_s (EC.decL ec_42 (EC.encL ec_42 l)) outcomes (EC.decL ec_44 (slOf (List.getD (List.getD (EC.encL ec_44 s) (Int.toNat i) []) (8 : Nat) C.ne))) (Go.IntKind.wrap Go.IntKind.i64 ((Go.IntKind.wrap Go.IntKind.i64 (number + (1 : Int))) + r0))) fun r2 =>
                                  (gdE ((((List.all (EC.encL ec_3 (r2).1) (fun (el : (List C)) => ((List.length el) == (1 : Nat)))) && (List.all ((EC.encL ec_3 b0) ++ [[(C.int Go.IntKind.i64 number)]]) (fun (el : (List C)) => ((List.length el) == (1 : Nat))))) && (decide ((((((rules + (List.length [[(C.int Go.IntKind.i64 number)]])) + (List.length (EC.encL ec_3 (r2).1))) + (((rules + (List.length [[(C.int Go.IntKind.i64 number)]])) + (List.length (EC.encL ec_3 (r2).1))) / (4 : Nat))) + (192 : Nat)) * (8 : Nat)) ≤ (281474976710656 : Nat)))) && (decide (((rules + (List.length [[(C.int Go.IntKind.i64 number)]])) + (List.length (EC.encL ec_3 (r2).1))) ≤ (9223372036854775807 : Nat)))) <|
                                    (gdE ((((List.all (EC.encL ec_3 ((r2).2).1) (fun (el : (List C)) => ((List.length el) == (1 : Nat)))) && (List.all ((EC.encL ec_3 b1) ++ [[(C.int Go.IntKind.i64 (intOf (List.getD (List.getD (EC.encL ec_44 s) (Int.toNat i) []) (9 : Nat) C.ne)))]]) (fun (el : (List C)) => ((List.length el) == (1 : Nat))))) && (decide ((((((acts + (List.length [[(C.int Go.IntKind.i64 (intOf (List.getD (List.getD (EC.encL ec_44 s) (Int.toNat i) []) (9 : Nat) C.ne)))]])) + (List.length (EC.encL ec_3 ((r2).2).1))) + (((acts + (List.length [[(C.int Go.IntKind.i64 (intOf (List.getD (List.getD (EC.encL ec_44 s) (Int.toNat i) []) (9 : Nat) C.ne)))]])) + (List.length (EC.encL ec_3 ((r2).2).1))) / (4 : Nat))) + (192 : Nat)) * (8 : Nat)) ≤ (281474976710656 : Nat)))) && (decide (((acts + (List.length [[(C.int Go.IntKind.i64 (intOf (List.getD (List.getD (EC.encL ec_44 s) (Int.toNat i) []) (9 : Nat) C.ne)))]])) + (List.length (EC.encL ec_3 ((r2).2).1))) ≤ (9223372036854775807 : Nat)))) <|
                                      (brE ((r2).2).2
                                        (gdE (EC.isL ec_3 (((EC.encL ec_3 b0) ++ [[(C.int Go.IntKind.i64 number)]]) ++ (EC.encL ec_3 (r2).1))) <|
                                          (gdE (EC.isL ec_3 (((EC.encL ec_3 b1) ++ [[(C.int Go.IntKind.i64 (intOf (List.getD (List.getD (EC.encL ec_44 s) (Int.toNat i) []) (9 : Nat) C.ne)))]]) ++ (EC.encL ec_3 ((r2).2).1))) <|
                                            (some (.inl ((((rules + (List.length [[(C.int Go.IntKind.i64 number)]])) + (List.length (EC.encL ec_3 (r2).1))), (((acts + (List.length [[(C.int Go.IntKind.i64 (intOf (List.getD (List.getD (EC.encL ec_44 s) (Int.toNat i) []) (9 : Nat) C.ne)))]])) + (List.length (EC.encL ec_3 ((r2).2).1))), true)), ((EC.decL ec_3 (((EC.encL ec_3 b0) ++ [[(C.int Go.IntKind.i64 number)]]) ++ (EC.encL ec_3 (r2).1))), (EC.decL ec_3 (((EC.encL ec_3 b1) ++ [[(C.int Go.IntKind.i64 (intOf (List.getD (List.getD (EC.encL ec_44 s) (Int.toNat i) []) (9 : Nat) C.ne)))]]) ++ (EC.encL ec_3 ((r2).2).1)))))))))
                                        (gdE (EC.isL ec_44 (slOf (List.getD (List.getD (EC.encL ec_44 s) (Int.toNat i) []) (7 : Nat) C.ne))) <|
                                          (Option.bind (posthouseref6_Count_s (EC.decL ec_44 (slOf (List.getD (List.getD (EC.encL ec_44 s) (Int.toNat i) []) (7 : Nat) C.ne)))) fun r3 =>
                                            (gdE (EC.isL ec_44 (slOf (List.getD (List.getD (EC.encL ec_44 s) (Int.toNat i) []) (8 : Nat) C.ne))) <|
                                              (Option.bind (posthouseref6_Count_s (EC.decL ec_44 (slOf (List.getD (List.getD (EC.encL ec_44 s) (Int.toNat i) []) (8 : Nat) C.ne)))) fun r4 =>
                                                (gdE (EC.isL ec_42 (EC.encL ec_42 l)) <|
                                                  (gdE (EC.isL ec_44 (EC.encL ec_44 s)) <|
                                                    (gdE (EC.isL ec_3 (((EC.encL ec_3 b0) ++ [[(C.int Go.IntKind.i64 number)]]) ++ (EC.encL ec_3 (r2).1))) <|
                                                      (gdE (EC.isL ec_3 (((EC.encL ec_3 b1) ++ [[(C.int Go.IntKind.i64 (intOf (List.getD (List.getD (EC.encL ec_44 s) (Int.toNat i) []) (9 : Nat) C.ne)))]]) ++ (EC.encL ec_3 ((r2).2).1))) <|
                                                        (posthouseref6_Path_l4 (EC.decL ec_42 (EC.encL ec_42 l)) outcomes (EC.decL ec_44 (EC.encL ec_44 s)) (Go.IntKind.wrap Go.IntKind.i64 (number + (Go.IntKind.wrap Go.IntKind.i64 ((Go.IntKind.wrap Go.IntKind.i64 ((1 : Int) + r3)) + r4)))) ((rules + (List.length [[(C.int Go.IntKind.i64 number)]])) + (List.length (EC.encL ec_3 (r2).1))) ((acts + (List.length [[(C.int Go.IntKind.i64 (intOf (List.getD (List.getD (EC.encL ec_44 s) (Int.toNat i) []) (9 : Nat) C.ne)))]])) + (List.length (EC.encL ec_3 ((r2).2).1))) (Go.IntKind.wrap Go.IntKind.i64 (i + (1 : Int))) (EC.decL ec_3 (((EC.encL ec_3 b0) ++ [[(C.int Go.IntKind.i64 number)]]) ++ (EC.encL ec_3 (r2).1))) (EC.decL ec_3 (((EC.encL ec_3 b1) ++ [[(C.int Go.IntKind.i64 (intOf (List.getD (List.getD (EC.encL ec_44 s) (Int.toNat i) []) (9 : Nat) C.ne)))]]) ++ (EC.encL ec_3 ((r2).2).1))))))))))))))))))))))))
                (gdE (EC.isL ec_44 (slOf (List.getD (List.getD (EC.encL ec_44 s) (Int.toNat i) []) (7 : Nat) C.ne))) <|
                  (Option.bind (posthouseref6_Count_s (EC.decL ec_44 (slOf (List.getD (List.getD (EC.encL ec_44 s) (Int.toNat i) []) (7 : Nat) C.ne)))) fun r0 =>
                    (gdE (EC.isL ec_44 (slOf (List.getD (List.getD (EC.encL ec_44 s) (Int.toNat i) []) (8 : Nat) C.ne))) <|
                      (Option.bind (posthouseref6_Count_s (EC.decL ec_44 (slOf (List.getD (List.getD (EC.encL ec_44 s) (Int.toNat i) []) (8 : Nat) C.ne)))) fun r1 =>
                        (gdE (EC.isL ec_42 (EC.encL ec_42 l)) <|
                          (gdE (EC.isL ec_44 (EC.encL ec_44 s)) <|
                            (gdE (EC.isL ec_3 ((EC.encL ec_3 b0) ++ [[(C.int Go.IntKind.i64 number)]])) <|
                              (gdE (EC.isL ec_3 ((EC.encL ec_3 b1) ++ [[(C.int Go.IntKind.i64 (intOf (List.getD (List.getD (EC.encL ec_44 s) (Int.toNat i) []) (9 : Nat) C.ne)))]])) <|
                                (posthouseref6_Path_l4 (EC.decL ec_42 (EC.encL ec_42 l)) outcomes (EC.decL ec_44 (EC.encL ec_44 s)) (Go.IntKind.wrap Go.IntKind.i64 (number + (Go.IntKind.wrap Go.IntKind.i64 ((Go.IntKind.wrap Go.IntKind.i64 ((1 : Int) + r0)) + r1)))) (rules + (List.length [[(C.int Go.IntKind.i64 number)]])) (acts + (List.length [[(C.int Go.IntKind.i64 (intOf (List.getD (List.getD (EC.encL ec_44 s) (Int.toNat i) []) (9 : Nat) C.ne)))]])) (Go.IntKind.wrap Go.IntKind.i64 (i + (1 : Int))) (EC.decL ec_3 ((EC.encL ec_3 b0) ++ [[(C.int Go.IntKind.i64 number)]])) (EC.decL ec_3 ((EC.encL ec_3 b1) ++ [[(C.int Go.IntKind.i64 (intOf (List.getD (List.getD (EC.encL ec_44 s) (Int.toNat i) []) (9 : Nat) C.ne)))]])))))))))))))
            (brE ((intOf (List.getD (List.getD (EC.encL ec_44 s) (Int.toNat i) []) (0 : Nat) C.ne)) == (1 : Int))
              (gdE (EC.isL ec_44 (slOf (List.getD (List.getD (EC.encL ec_44 s) (Int.toNat i) []) (7 : Nat) C.ne))) <|
                (Option.bind (posthouseref6_Count_s (EC.decL ec_44 (slOf (List.getD (List.getD (EC.encL ec_44 s) (Int.toNat i) []) (7 : Nat) C.ne)))) fun r0 =>
                  (gdE (EC.isL ec_42 (EC.encL ec_42 l)) <|
                    (gdE (EC.isL ec_42 (slOf (List.getD (List.getD (EC.encL ec_44 s) (Int.toNat i) []) (2 : Nat) C.ne))) <|
                      (Option.bind (posthouseref6_Holds_s (EC.decL ec_42 (EC.encL ec_42 l)) outcomes (intOf (List.getD (List.getD (EC.encL ec_44 s) (Int.toNat i) []) (1 : Nat) C.ne)) (EC.decL ec_42 (slOf (List.getD (List.getD (EC.encL ec_44 s) (Int.toNat i) []) (2 : Nat) C.ne))) (strOf (List.getD (List.getD (EC.encL ec_44 s) (Int.toNat i) []) (3 : Nat) C.ne)) (intOf (List.getD (List.getD (EC.encL ec_44 s) (Int.toNat i) []) (4 : Nat) C.ne)) (strOf (List.getD (List.getD (EC.encL ec_44 s) (Int.toNat i) []) (5 : Nat) C.ne)) (intOf (List.getD (List.getD (EC.encL ec_44 s) (Int.toNat i) []) (6 : Nat) C.ne))) fun r1 =>
                        (brE r1
                          (gdE (EC.isL ec_42 (EC.encL ec_42 l)) <|
                            (gdE (EC.isL ec_44 (slOf (List.getD (List.getD (EC.encL ec_44 s) (Int.toNat i) []) (7 : Nat) C.ne))) <|
                              (Option.bind (posthouseref6_Path_s (EC.decL ec_42 (EC.encL ec_42 l)) outcomes (EC.decL ec_44 (slOf (List.getD (List.getD (EC.encL ec_44 s) (Int.toNat i) []) (7 : Nat) C.ne))) (Go.IntKind.wrap Go.IntKind.i64 (number + (1 : Int)))) fun r2 =>
                                (gdE ((((List.all (EC.encL ec_3 (r2).1) (fun (el : (List C)) => ((List.length el) == (1 : Nat)))) && (List.all ((EC.encL ec_3 b0) ++ [[(C.int Go.IntKind.i64 number)]]) (fun (el : (List C)) => ((List.length el) == (1 : Nat))))) && (decide ((((((rules + (List.length [[(C.int Go.IntKind.i64 number)]])) + (List.length (EC.encL ec_3 (r2).1))) + (((rules + (List.length [[(C.int Go.IntKind.i64 number)]])) + (List.length (EC.encL ec_3 (r2).1))) / (4 : Nat))) + (192 : Nat)) * (8 : Nat)) ≤ (281474976710656 : Nat)))) && (decide (((rules + (List.length [[(C.int Go.IntKind.i64 number)]])) + (List.length (EC.encL ec_3 (r2).1))) ≤ (9223372036854775807 : Nat)))) <|
                                  (gdE ((((List.all (EC.encL ec_3 ((r2).2).1) (fun (el : (List C)) => ((List.length el) == (1 : Nat)))) && (List.all (EC.encL ec_3 b1) (fun (el : (List C)) => ((List.length el) == (1 : Nat))))) && (decide (((((acts + (List.length (EC.encL ec_3 ((r2).2).1))) + ((acts + (List.length (EC.encL ec_3 ((r2).2).1))) / (4 : Nat))) + (192 : Nat)) * (8 : Nat)) ≤ (281474976710656 : Nat)))) && (decide ((acts + (List.length (EC.encL ec_3 ((r2).2).1))) ≤ (9223372036854775807 : Nat)))) <|
                                    (brE ((r2).2).2
                                      (gdE (EC.isL ec_3 (((EC.encL ec_3 b0) ++ [[(C.int Go.IntKind.i64 number)]]) ++ (EC.encL ec_3 (r2).1))) <|
                                        (gdE (EC.isL ec_3 ((EC.encL ec_3 b1) ++ (EC.encL ec_3 ((r2).2).1))) <|
                                          (some (.inl ((((rules + (List.length [[(C.int Go.IntKind.i64 number)]])) + (List.length (EC.encL ec_3 (r2).1))), ((acts + (List.length (EC.encL ec_3 ((r2).2).1))), true)), ((EC.decL ec_3 (((EC.encL ec_3 b0) ++ [[(C.int Go.IntKind.i64 number)]]) ++ (EC.encL ec_3 (r2).1))), (EC.decL ec_3 ((EC.encL ec_3 b1) ++ (EC.encL ec_3 ((r2).2).1)))))))))
                                      (gdE (EC.isL ec_44 (slOf (List.getD (List.getD (EC.encL ec_44 s) (Int.toNat i) []) (7 : Nat) C.ne))) <|
                                        (Option.bind (posthouseref6_Count_s (EC.decL ec_44 (slOf (List.getD (List.getD (EC.encL ec_44 s) (Int.toNat i) []) (7 : Nat) C.ne)))) fun r3 =>
                                          (gdE (EC.isL ec_44 (slOf (List.getD (List.getD (EC.encL ec_44 s) (Int.toNat i) []) (8 : Nat) C.ne))) <|
                                            (Option.bind (posthouseref6_Count_s (EC.decL ec_44 (slOf (List.getD (List.getD (EC.encL ec_44 s) (Int.toNat i) []) (8 : Nat) C.ne)))) fun r4 =>
                                              (gdE (EC.isL ec_42 (EC.encL ec_42 l)) <|
                                                (gdE (EC.isL ec_44 (EC.encL ec_44 s)) <|
                                                  (gdE (EC.isL ec_3 (((EC.encL ec_3 b0) ++ [[(C.int Go.IntKind.i64 number)]]) ++ (EC.encL ec_3 (r2).1))) <|
                                                    (gdE (EC.isL ec_3 ((EC.encL ec_3 b1) ++ (EC.encL ec_3 ((r2).2).1))) <|
                                                      (posthouseref6_Path_l4 (EC.decL ec_42 (EC.encL ec_42 l)) outcomes (EC.decL ec_44 (EC.encL ec_44 s)) (Go.IntKind.wrap Go.IntKind.i64 (number + (Go.IntKind.wrap Go.IntKind.i64 ((Go.IntKind.wrap Go.IntKind.i64 ((1 : Int) + r3)) + r4)))) ((rules + (List.length [[(C.int Go.IntKind.i64 number)]])) + (List.length (EC.encL ec_3 (r2).1))) (acts + (List.length (EC.encL ec_3 ((r2).2).1))) (Go.IntKind.wrap Go.IntKind.i64 (i + (1 : Int))) (EC.decL ec_3 (((EC.encL ec_3 b0) ++ [[(C.int Go.IntKind.i64 number)]]) ++ (EC.encL ec_3 (r2).1))) (EC.decL ec_3 ((EC.encL ec_3 b1) ++ (EC.encL ec_3 ((r2).2).1))))))))))))))))))
                          (gdE (EC.isL ec_42 (EC.encL ec_42 l)) <|
                            (gdE (EC.isL ec_44 (slOf (List.getD (List.getD (EC.encL ec_44 s) (Int.toNat i) []) (8 : Nat) C.ne))) <|
                              (Option.bind (posthouseref6_Path_s (EC.decL ec_42 (EC.encL ec_42 l)) outcomes (EC.decL ec_44 (slOf (List.getD (List.getD (EC.encL ec_44 s) (Int.toNat i) []) (8 : Nat) C.ne))) (Go.IntKind.wrap Go.IntKind.i64 ((Go.IntKind.wrap Go.IntKind.i64 (number + (1 : Int))) + r0))) fun r2 =>
                                (gdE ((((List.all (EC.encL ec_3 (r2).1) (fun (el : (List C)) => ((List.length el) == (1 : Nat)))) && (List.all ((EC.encL ec_3 b0) ++ [[(C.int Go.IntKind.i64 number)]]) (fun (el : (List C)) => ((List.length el) == (1 : Nat))))) && (decide ((((((rules + (List.length [[(C.int Go.IntKind.i64 number)]])) + (List.length (EC.encL ec_3 (r2).1))) + (((rules + (List.length [[(C.int Go.IntKind.i64 number)]])) + (List.length (EC.encL ec_3 (r2).1))) / (4 : Nat))) + (192 : Nat)) * (8 : Nat)) ≤ (281474976710656 : Nat)))) && (decide (((rules + (List.length [[(C.int Go.IntKind.i64 number)]])) + (List.length (EC.encL ec_3 (r2).1))) ≤ (9223372036854775807 : Nat)))) <|
                                  (gdE ((((List.all (EC.encL ec_3 ((r2).2).1) (fun (el : (List C)) => ((List.length el) == (1 : Nat)))) && (List.all (EC.encL ec_3 b1) (fun (el : (List C)) => ((List.length el) == (1 : Nat))))) && (decide (((((acts + (List.length (EC.encL ec_3 ((r2).2).1))) + ((acts + (List.length (EC.encL ec_3 ((r2).2).1))) / (4 : Nat))) + (192 : Nat)) * (8 : Nat)) ≤ (281474976710656 : Nat)))) && (decide ((acts + (List.length (EC.encL ec_3 ((r2).2).1))) ≤ (9223372036854775807 : Nat)))) <|
                                    (brE ((r2).2).2
                                      (gdE (EC.isL ec_3 (((EC.encL ec_3 b0) ++ [[(C.int Go.IntKind.i64 number)]]) ++ (EC.encL ec_3 (r2).1))) <|
                                        (gdE (EC.isL ec_3 ((EC.encL ec_3 b1) ++ (EC.encL ec_3 ((r2).2).1))) <|
                                          (some (.inl ((((rules + (List.length [[(C.int Go.IntKind.i64 number)]])) + (List.length (EC.encL ec_3 (r2).1))), ((acts + (List.length (EC.encL ec_3 ((r2).2).1))), true)), ((EC.decL ec_3 (((EC.encL ec_3 b0) ++ [[(C.int Go.IntKind.i64 number)]]) ++ (EC.encL ec_3 (r2).1))), (EC.decL ec_3 ((EC.encL ec_3 b1) ++ (EC.encL ec_3 ((r2).2).1)))))))))
                                      (gdE (EC.isL ec_44 (slOf (List.getD (List.getD (EC.encL ec_44 s) (Int.toNat i) []) (7 : Nat) C.ne))) <|
                                        (Option.bind (posthouseref6_Count_s (EC.decL ec_44 (slOf (List.getD (List.getD (EC.encL ec_44 s) (Int.toNat i) []) (7 : Nat) C.ne)))) fun r3 =>
                                          (gdE (EC.isL ec_44 (slOf (List.getD (List.getD (EC.encL ec_44 s) (Int.toNat i) []) (8 : Nat) C.ne))) <|
                                            (Option.bind (posthouseref6_Count_s (EC.decL ec_44 (slOf (List.getD (List.getD (EC.encL ec_44 s) (Int.toNat i) []) (8 : Nat) C.ne)))) fun r4 =>
                                              (gdE (EC.isL ec_42 (EC.encL ec_42 l)) <|
                                                (gdE (EC.isL ec_44 (EC.encL ec_44 s)) <|
                                                  (gdE (EC.isL ec_3 (((EC.encL ec_3 b0) ++ [[(C.int Go.IntKind.i64 number)]]) ++ (EC.encL ec_3 (r2).1))) <|
                                                    (gdE (EC.isL ec_3 ((EC.encL ec_3 b1) ++ (EC.encL ec_3 ((r2).2).1))) <|
                                                      (posthouseref6_Path_l4 (EC.decL ec_42 (EC.encL ec_42 l)) outcomes (EC.decL ec_44 (EC.encL ec_44 s)) (Go.IntKind.wrap Go.IntKind.i64 (number + (Go.IntKind.wrap Go.IntKind.i64 ((Go.IntKind.wrap Go.IntKind.i64 ((1 : Int) + r3)) + r4)))) ((rules + (List.length [[(C.int Go.IntKind.i64 number)]])) + (List.length (EC.encL ec_3 (r2).1))) (acts + (List.length (EC.encL ec_3 ((r2).2).1))) (Go.IntKind.wrap Go.IntKind.i64 (i + (1 : Int))) (EC.decL ec_3 (((EC.encL ec_3 b0) ++ [[(C.int Go.IntKind.i64 number)]]) ++ (EC.encL ec_3 (r2).1))) (EC.decL ec_3 ((EC.encL ec_3 b1) ++ (EC.encL ec_3 ((r2).2).1))))))))))))))))))))))))
              (gdE (EC.isL ec_44 (slOf (List.getD (List.getD (EC.encL ec_44 s) (Int.toNat i) []) (7 : Nat) C.ne))) <|
                (Option.bind (posthouseref6_Count_s (EC.decL ec_44 (slOf (List.getD (List.getD (EC.encL ec_44 s) (Int.toNat i) []) (7 : Nat) C.ne)))) fun r0 =>
                  (gdE (EC.isL ec_44 (slOf (List.getD (List.getD (EC.encL ec_44 s) (Int.toNat i) []) (8 : Nat) C.ne))) <|
                    (Option.bind (posthouseref6_Count_s (EC.decL ec_44 (slOf (List.getD (List.getD (EC.encL ec_44 s) (Int.toNat i) []) (8 : Nat) C.ne)))) fun r1 =>
                      (gdE (EC.isL ec_42 (EC.encL ec_42 l)) <|
                        (gdE (EC.isL ec_44 (EC.encL ec_44 s)) <|
                          (gdE (EC.isL ec_3 ((EC.encL ec_3 b0) ++ [[(C.int Go.IntKind.i64 number)]])) <|
                            (gdE (EC.isL ec_3 (EC.encL ec_3 b1)) <|
                              (posthouseref6_Path_l4 (EC.decL ec_42 (EC.encL ec_42 l)) outcomes (EC.decL ec_44 (EC.encL ec_44 s)) (Go.IntKind.wrap Go.IntKind.i64 (number + (Go.IntKind.wrap Go.IntKind.i64 ((Go.IntKind.wrap Go.IntKind.i64 ((1 : Int) + r0)) + r1)))) (rules + (List.length [[(C.int Go.IntKind.i64 number)]])) acts (Go.IntKind.wrap Go.IntKind.i64 (i + (1 : Int))) (EC.decL ec_3 ((EC.encL ec_3 b0) ++ [[(C.int Go.IntKind.i64 number)]])) (EC.decL ec_3 (EC.encL ec_3 b1)))))))))))))))))
  (gdE (EC.isL ec_42 (EC.encL ec_42 l)) <|
    (gdE (EC.isL ec_44 (EC.encL ec_44 s)) <|
      (gdE (EC.isL ec_3 (EC.encL ec_3 b0)) <|
        (gdE (EC.isL ec_3 (EC.encL ec_3 b1)) <|
          (some (.inr (((EC.decL ec_42 (EC.encL ec_42 l)), (outcomes, ((EC.decL ec_44 (EC.encL ec_44 s)), (number, (rules, (acts, (i, false))))))), ((EC.decL ec_3 (EC.encL ec_3 b0)), (EC.decL ec_3 (EC.encL ec_3 b1)))))))))))
theorem posthouseref6_Path_l4_eq {l : (List S42)} {outcomes : Int} {s : (List S44)} {number : Int} {rules : Nat} {acts : Nat} {i : Int} {b0 : (List Int)} {b1 : (List Int)} {r : (((Nat × Nat × Bool) × ((List Int) × (List Int))) ⊕ (((List S42) × Int × (List S44) × Int × Nat × Nat × Int × Bool) × ((List Int) × (List Int))))} (h : posthouseref6_Path_l4_t l outcomes s number rules acts i b0 b1 = some r) : posthouseref6_Path_l4 l outcomes s number rules acts i b0 b1 = some r :=
  lS_tree (es := tab_posthouseref6_Path) (hs := []) [] (by kernel_rfl) trivial trivial (by kernel_rfl) h
def posthouseref6_Path_l4_e : LEnt Try.prog lv X0 11 97 := lentS Try.prog lv X0 4 (getLoop (cdF Try.f11) 4) posthouseref6_Path_l4_s posthouseref6_Path_l4_o (fun x => posthouseref6_Path_l4 x.1.1 x.1.2.1 x.1.2.2.1 x.1.2.2.2.1 x.1.2.2.2.2.1 x.1.2.2.2.2.2.1 x.1.2.2.2.2.2.2 x.2.1 x.2.2) (fun _ _ h => lS_from h)
def posthouseref6_Path_t (l : (List S42)) (outcomes : Int) (s : (List S44)) (number : Int) : Option ((List Int) × (List Int) × Bool) :=
  (gdE (EC.isL ec_42 (EC.encL ec_42 l)) <|
  (gdE (EC.isL ec_44 (EC.encL ec_44 s)) <|
    (Option.bind (posthouseref6_Path_l4 (EC.decL ec_42 (EC.encL ec_42 l)) outcomes (EC.decL ec_44 (EC.encL ec_44 s)) number (0 : Nat) (0 : Nat) (0 : Int) (EC.decL ec_3 []) (EC.decL ec_3 [])) fun r0 =>
      (Sum.elim (fun r1 => (gdE (EC.isL ec_3 (EC.encL ec_3 ((r1).2).1)) <|
          (gdE (EC.isL ec_3 (EC.encL ec_3 ((r1).2).2)) <|
            (some ((EC.decL ec_3 (EC.encL ec_3 ((r1).2).1)), ((EC.decL ec_3 (EC.encL ec_3 ((r1).2).2)), (((r1).1).2).2))))))
        (fun r1 => (gdE (EC.isL ec_3 (EC.encL ec_3 ((r1).2).1)) <|
          (gdE (EC.isL ec_3 (EC.encL ec_3 ((r1).2).2)) <|
            (some ((EC.decL ec_3 (EC.encL ec_3 ((r1).2).1)), ((EC.decL ec_3 (EC.encL ec_3 ((r1).2).2)), false)))))) r0))))
theorem posthouseref6_Path_eq {l : (List S42)} {outcomes : Int} {s : (List S44)} {number : Int} {r : ((List Int) × (List Int) × Bool)} (h : posthouseref6_Path_t l outcomes s number = some r) : posthouseref6_Path_s l outcomes s number = some r :=
  fS_tree (es := tab_posthouseref6_Path) (hs := []) [posthouseref6_Path_l4_e] Try.func11 rfl (by kernel_rfl) rfl (by kernel_rfl) (by kernel_rfl) ⟨⟨_, rfl, rfl⟩, trivial⟩ trivial (by kernel_rfl) h
def basic_Fault_ca : Cod (List V) (Int × Int) := (lCons (vC (cInt .i64)) (lOne (vC (cInt .i64))))
def basic_Fault_cr : Cod (V × List B) (Int × Int) := (cFstU (cPair (vAgg (lCons (vC (cInt .i64)) (lOne (vC (cInt .i64))))) lNil))
def basic_Fault_s (code : Int) (at_ : Int) : Option (Int × Int) := fS Try.prog lv X0 28 basic_Fault_ca basic_Fault_cr (code, at_)
def basic_Fault_t (code : Int) (at_ : Int) : Option (Int × Int) :=
  (some (code, at_))
theorem basic_Fault_eq {code : Int} {at_ : Int} {r : (Int × Int)} (h : basic_Fault_t code at_ = some r) : basic_Fault_s code at_ = some r :=
  fS_tree (es := tab_posthouseref6_Path) (hs := []) [] Try.func28 rfl (by kernel_rfl) rfl (by kernel_rfl) (by kernel_rfl) trivial trivial (by kernel_rfl) h
def basic_Fault_e : Ent Try.prog lv X0 := entS Try.prog lv X0 28 [] basic_Fault_ca basic_Fault_cr (fun x => basic_Fault_s x.1 x.2) (fun _ _ h => fS_call h)
def tab_basic_Fault : List (Ent Try.prog lv X0) := basic_Fault_e :: tab_posthouseref6_Path
def basic_None_ca : Cod (List V) Unit := lNil
def basic_None_cr : Cod (V × List B) (Int × Int) := (cFstU (cPair (vAgg (lCons (vC (cInt .i64)) (lOne (vC (cInt .i64))))) lNil))
def basic_None_s  : Option (Int × Int) := fS Try.prog lv X0 31 basic_None_ca basic_None_cr ()
def basic_None_t  : Option (Int × Int) :=
  (some ((0 : Int), (0 : Int)))
theorem basic_None_eq {r : (Int × Int)} (h : basic_None_t  = some r) : basic_None_s  = some r :=
  fS_tree (es := tab_basic_Fault) (hs := []) [] Try.func31 rfl (by kernel_rfl) rfl (by kernel_rfl) (by kernel_rfl) trivial trivial (by kernel_rfl) h
def basic_None_e : Ent Try.prog lv X0 := entS Try.prog lv X0 31 [] basic_None_ca basic_None_cr (fun x => basic_None_s ) (fun _ _ h => fS_call h)
def tab_basic_None : List (Ent Try.prog lv X0) := basic_None_e :: tab_basic_Fault
def basic_Failed_ca : Cod (List V) (Int × Int) := (lOne (vAgg (lCons (vC (cInt .i64)) (lOne (vC (cInt .i64))))))
def basic_Failed_cr : Cod (V × List B) Bool := (cFstU (cPair (vC cBool) lNil))
def basic_Failed_s (f_Code : Int) (f_Index : Int) : Option Bool := fS Try.prog lv X0 18 basic_Failed_ca basic_Failed_cr (f_Code, f_Index)
def basic_Failed_t (f_Code : Int) (f_Index : Int) : Option Bool :=
  (some (f_Code != (0 : Int)))
theorem basic_Failed_eq {f_Code : Int} {f_Index : Int} {r : Bool} (h : basic_Failed_t f_Code f_Index = some r) : basic_Failed_s f_Code f_Index = some r :=
  fS_tree (es := tab_basic_None) (hs := []) [] Try.func18 rfl (by kernel_rfl) rfl (by kernel_rfl) (by kernel_rfl) trivial trivial (by kernel_rfl) h
def basic_Failed_e : Ent Try.prog lv X0 := entS Try.prog lv X0 18 [] basic_Failed_ca basic_Failed_cr (fun x => basic_Failed_s x.1 x.2) (fun _ _ h => fS_call h)
def tab_basic_Failed : List (Ent Try.prog lv X0) := basic_Failed_e :: tab_basic_None
def rules_Size_ca : Cod (List V) (List S44) := (lOne (vC (cSl ec_44)))
def rules_Size_cr : Cod (V × List B) Int := (cFstU (cPair (vC (cInt .i64)) lNil))
def rules_Size_s (s : (List S44)) : Option Int := fS Try.prog lv X0 29 rules_Size_ca rules_Size_cr s
def rules_Size_e : Ent Try.prog lv X0 := entS Try.prog lv X0 29 [] rules_Size_ca rules_Size_cr (fun x => rules_Size_s x) (fun _ _ h => fS_call h)
def tab_rules_Size : List (Ent Try.prog lv X0) := rules_Size_e :: tab_basic_Failed
def rules_Size_l3_s : SC ((Int × (List S44) × Int × Int) × Unit) := sLS [3, 6, 7, 8] (lCons (vC (cInt .i64)) (lCons (vC (cSl ec_44)) (lCons (vC (cInt .i64)) (lOne (vC (cInt .i64)))))) lNil [] [] (by decide) (fun _ => rfl)
def rules_Size_l3_o2 : SC ((Int × (List S44) × Int × Int × Bool) × Unit) := sLS [3, 6, 7, 8, 9] (lCons (vC (cInt .i64)) (lCons (vC (cSl ec_44)) (lCons (vC (cInt .i64)) (lCons (vC (cInt .i64)) (lOne (vC cBool)))))) lNil [] [] (by decide) (fun _ => rfl)
def rules_Size_l3_o : OC ((Int × (List S44) × Int × Int × Bool) × Unit) := oAt 2 rules_Size_l3_o2
def rules_Size_l3 (n : Int) (t6 : (List S44)) (t7 : Int) (t8 : Int) : Option ((Int × (List S44) × Int × Int × Bool) × Unit) := lS Try.prog lv X0 29 24 (getLoop (cdF Try.f29) 3) rules_Size_l3_s rules_Size_l3_o ((n, t6, t7, t8), ())
def rules_Size_l3_t (n : Int) (t6 : (List S44)) (t7 : Int) (t8 : Int) : Option ((Int × (List S44) × Int × Int × Bool) × Unit) :=
  (brE (decide (t8 < t7))
  (gdE (decide ((0 : Int) ≤ t8)) <|
    (gdE ((decide ((Int.toNat t8) < (List.length (EC.encL ec_44 t6)))) && (isE [(K1.int Go.IntKind.i64), (K1.int Go.IntKind.i64), K1.sl, K1.str, (K1.int Go.IntKind.i64), K1.str, (K1.int Go.IntKind.i64), K1.sl, K1.sl, (K1.int Go.IntKind.i64), K1.str, K1.str, (K1.int Go.IntKind.i64)] (0 : Nat) (List.getD (EC.encL ec_44 t6) (Int.toNat t8) []))) <|
      (gdE (EC.isL ec_44 (slOf (List.getD (List.getD (EC.encL ec_44 t6) (Int.toNat t8) []) (7 : Nat) C.ne))) <|
        (Option.bind (rules_Size_s (EC.decL ec_44 (slOf (List.getD (List.getD (EC.encL ec_44 t6) (Int.toNat t8) []) (7 : Nat) C.ne)))) fun r0 =>
          (gdE (EC.isL ec_44 (slOf (List.getD (List.getD (EC.encL ec_44 t6) (Int.toNat t8) []) (8 : Nat) C.ne))) <|
            (Option.bind (rules_Size_s (EC.decL ec_44 (slOf (List.getD (List.getD (EC.encL ec_44 t6) (Int.toNat t8) []) (8 : Nat) C.ne)))) fun r1 =>
              (gdE (EC.isL ec_44 (EC.encL ec_44 t6)) <|
                (rules_Size_l3 (Go.IntKind.wrap Go.IntKind.i64 (n + (Go.IntKind.wrap Go.IntKind.i64 ((Go.IntKind.wrap Go.IntKind.i64 ((1 : Int) + r0)) + r1)))) (EC.decL ec_44 (EC.encL ec_44 t6)) t7 (Go.IntKind.wrap Go.IntKind.i64 (t8 + (1 : Int)))))))))))
  (gdE (EC.isL ec_44 (EC.encL ec_44 t6)) <|
    (some ((n, ((EC.decL ec_44 (EC.encL ec_44 t6)), (t7, (t8, false)))), ()))))
theorem rules_Size_l3_eq {n : Int} {t6 : (List S44)} {t7 : Int} {t8 : Int} {r : ((Int × (List S44) × Int × Int × Bool) × Unit)} (h : rules_Size_l3_t n t6 t7 t8 = some r) : rules_Size_l3 n t6 t7 t8 = some r :=
  lS_tree (es := tab_rules_Size) (hs := []) [] (by kernel_rfl) trivial trivial (by kernel_rfl) h
def rules_Size_l3_e : LEnt Try.prog lv X0 29 24 := lentS Try.prog lv X0 3 (getLoop (cdF Try.f29) 3) rules_Size_l3_s rules_Size_l3_o (fun x => rules_Size_l3 x.1.1 x.1.2.1 x.1.2.2.1 x.1.2.2.2) (fun _ _ h => lS_from h)
def rules_Size_t (s : (List S44)) : Option Int :=
  (gdE (EC.isL ec_44 (EC.encL ec_44 s)) <|
  (Option.bind (rules_Size_l3 (0 : Int) (EC.decL ec_44 (EC.encL ec_44 s)) (((List.length (EC.encL ec_44 s)) : Nat) : Int) (0 : Int)) fun r0 =>
    (some ((r0).1).1)))
theorem rules_Size_eq {s : (List S44)} {r : Int} (h : rules_Size_t s = some r) : rules_Size_s s = some r :=
  fS_tree (es := tab_rules_Size) (hs := []) [rules_Size_l3_e] Try.func29 rfl (by kernel_rfl) rfl (by kernel_rfl) (by kernel_rfl) ⟨⟨_, rfl, rfl⟩, trivial⟩ trivial (by kernel_rfl) h
def rules_noTest_ca : Cod (List V) (Int × (List S42) × ByteArray × Int × ByteArray × Int) := (lOne (vAgg (lCons (vC (cInt .i64)) (lCons (vC (cSl ec_42)) (lCons (vC cStr) (lCons (vC (cInt .i64)) (lCons (vC cStr) (lOne (vC (cInt .i64))))))))))
def rules_noTest_cr : Cod (V × List B) Bool := (cFstU (cPair (vC cBool) lNil))
def rules_noTest_s (t_Kind : Int) (t_Tests : (List S42)) (t_Name : ByteArray) (t_Pattern : Int) (t_Text : ByteArray) (t_N : Int) : Option Bool := fS Try.prog lv X0 50 rules_noTest_ca rules_noTest_cr (t_Kind, t_Tests, t_Name, t_Pattern, t_Text, t_N)
def rules_noTest_t (t_Kind : Int) (t_Tests : (List S42)) (t_Name : ByteArray) (t_Pattern : Int) (t_Text : ByteArray) (t_N : Int) : Option Bool :=
  (brE ((t_Kind == (0 : Int)) == true)
  (brE (((((List.length (EC.encL ec_42 t_Tests)) : Nat) : Int) == (0 : Int)) == true)
    (brE (((ByteArray.toList t_Name) == (ByteArray.toList (ByteArray.mk (List.toArray [])))) == true)
      (brE ((t_Pattern == (0 : Int)) == true)
        (brE (((ByteArray.toList t_Text) == (ByteArray.toList (ByteArray.mk (List.toArray [])))) == true)
          (some (t_N == (0 : Int)))
          (some false))
        (some false))
      (some false))
    (some false))
  (some false))
theorem rules_noTest_eq {t_Kind : Int} {t_Tests : (List S42)} {t_Name : ByteArray} {t_Pattern : Int} {t_Text : ByteArray} {t_N : Int} {r : Bool} (h : rules_noTest_t t_Kind t_Tests t_Name t_Pattern t_Text t_N = some r) : rules_noTest_s t_Kind t_Tests t_Name t_Pattern t_Text t_N = some r :=
  fS_tree (es := tab_rules_Size) (hs := []) [] Try.func50 rfl (by kernel_rfl) rfl (by kernel_rfl) (by kernel_rfl) trivial trivial (by kernel_rfl) h
def rules_noTest_e : Ent Try.prog lv X0 := entS Try.prog lv X0 50 [] rules_noTest_ca rules_noTest_cr (fun x => rules_noTest_s x.1 x.2.1 x.2.2.1 x.2.2.2.1 x.2.2.2.2.1 x.2.2.2.2.2) (fun _ _ h => fS_call h)
def tab_rules_noTest : List (Ent Try.prog lv X0) := rules_noTest_e :: tab_rules_Size
def rules_texted_ca : Cod (List V) Int := (lOne (vC (cInt .i64)))
def rules_texted_cr : Cod (V × List B) Bool := (cFstU (cPair (vC cBool) lNil))
def rules_texted_s (act : Int) : Option Bool := fS Try.prog lv X0 51 rules_texted_ca rules_texted_cr act
def rules_texted_t (act : Int) : Option Bool :=
  (brE ((act == (2 : Int)) == false)
  (brE ((act == (4 : Int)) == false)
    (brE ((act == (5 : Int)) == false)
      (some (act == (7 : Int)))
      (some true))
    (some true))
  (some true))
theorem rules_texted_eq {act : Int} {r : Bool} (h : rules_texted_t act = some r) : rules_texted_s act = some r :=
  fS_tree (es := tab_rules_noTest) (hs := []) [] Try.func51 rfl (by kernel_rfl) rfl (by kernel_rfl) (by kernel_rfl) trivial trivial (by kernel_rfl) h
def rules_texted_e : Ent Try.prog lv X0 := entS Try.prog lv X0 51 [] rules_texted_ca rules_texted_cr (fun x => rules_texted_s x) (fun _ _ h => fS_call h)
def tab_rules_texted : List (Ent Try.prog lv X0) := rules_texted_e :: tab_rules_noTest
def rules_used_ca : Cod (List V) Int := (lOne (vC (cInt .i64)))
def rules_used_cr : Cod (V × List B) (Bool × Bool × Bool) := (cFstU (cPair (vTup (lCons (vC cBool) (lCons (vC cBool) (lOne (vC cBool))))) lNil))
def rules_used_s (kind : Int) : Option (Bool × Bool × Bool) := fS Try.prog lv X0 53 rules_used_ca rules_used_cr kind
def rules_used_t (kind : Int) : Option (Bool × Bool × Bool) :=
  (brE (kind == (5 : Int))
  (some (true, (true, false)))
  (brE (kind == (6 : Int))
    (some (false, (true, false)))
    (brE (kind == (7 : Int))
      (some (false, (true, false)))
      (brE (kind == (8 : Int))
        (some (false, (false, true)))
        (brE (kind == (9 : Int))
          (some (true, (false, false)))
          (some (false, (false, false))))))))
theorem rules_used_eq {kind : Int} {r : (Bool × Bool × Bool)} (h : rules_used_t kind = some r) : rules_used_s kind = some r :=
  fS_tree (es := tab_rules_texted) (hs := []) [] Try.func53 rfl (by kernel_rfl) rfl (by kernel_rfl) (by kernel_rfl) trivial trivial (by kernel_rfl) h
def rules_used_e : Ent Try.prog lv X0 := entS Try.prog lv X0 53 [] rules_used_ca rules_used_cr (fun x => rules_used_s x) (fun _ _ h => fS_call h)
def tab_rules_used : List (Ent Try.prog lv X0) := rules_used_e :: tab_rules_texted
def rules_inner_ca : Cod (List V) (Int × (List S42) × ByteArray × Int × ByteArray × Int) := (lOne (vAgg (lCons (vC (cInt .i64)) (lCons (vC (cSl ec_42)) (lCons (vC cStr) (lCons (vC (cInt .i64)) (lCons (vC cStr) (lOne (vC (cInt .i64))))))))))
def rules_inner_cr : Cod (V × List B) Bool := (cFstU (cPair (vC cBool) lNil))
def rules_inner_s (t_Kind : Int) (t_Tests : (List S42)) (t_Name : ByteArray) (t_Pattern : Int) (t_Text : ByteArray) (t_N : Int) : Option Bool := fS Try.prog lv X0 54 rules_inner_ca rules_inner_cr (t_Kind, t_Tests, t_Name, t_Pattern, t_Text, t_N)
def rules_inner_t (t_Kind : Int) (t_Tests : (List S42)) (t_Name : ByteArray) (t_Pattern : Int) (t_Text : ByteArray) (t_N : Int) : Option Bool :=
  (brE (t_Kind == (2 : Int))
  (some ((((List.length (EC.encL ec_42 t_Tests)) : Nat) : Int) == (1 : Int)))
  (brE (t_Kind == (3 : Int))
    (brE ((decide ((((List.length (EC.encL ec_42 t_Tests)) : Nat) : Int) ≥ (1 : Int))) == true)
      (some (decide ((((List.length (EC.encL ec_42 t_Tests)) : Nat) : Int) ≤ (60 : Int))))
      (some false))
    (brE (t_Kind == (4 : Int))
      (brE ((decide ((((List.length (EC.encL ec_42 t_Tests)) : Nat) : Int) ≥ (1 : Int))) == true)
        (some (decide ((((List.length (EC.encL ec_42 t_Tests)) : Nat) : Int) ≤ (60 : Int))))
        (some false))
      (some ((((List.length (EC.encL ec_42 t_Tests)) : Nat) : Int) == (0 : Int))))))
theorem rules_inner_eq {t_Kind : Int} {t_Tests : (List S42)} {t_Name : ByteArray} {t_Pattern : Int} {t_Text : ByteArray} {t_N : Int} {r : Bool} (h : rules_inner_t t_Kind t_Tests t_Name t_Pattern t_Text t_N = some r) : rules_inner_s t_Kind t_Tests t_Name t_Pattern t_Text t_N = some r :=
  fS_tree (es := tab_rules_used) (hs := []) [] Try.func54 rfl (by kernel_rfl) rfl (by kernel_rfl) (by kernel_rfl) trivial trivial (by kernel_rfl) h
def rules_inner_e : Ent Try.prog lv X0 := entS Try.prog lv X0 54 [] rules_inner_ca rules_inner_cr (fun x => rules_inner_s x.1 x.2.1 x.2.2.1 x.2.2.2.1 x.2.2.2.2.1 x.2.2.2.2.2) (fun _ _ h => fS_call h)
def tab_rules_inner : List (Ent Try.prog lv X0) := rules_inner_e :: tab_rules_used
def prove_simple_ca : Cod (List V) (Int × (List S42) × ByteArray × Int × ByteArray × Int) := (lOne (vAgg (lCons (vC (cInt .i64)) (lCons (vC (cSl ec_42)) (lCons (vC cStr) (lCons (vC (cInt .i64)) (lCons (vC cStr) (lOne (vC (cInt .i64))))))))))
def prove_simple_cr : Cod (V × List B) Bool := (cFstU (cPair (vC cBool) lNil))
def prove_simple_s (t_Kind : Int) (t_Tests : (List S42)) (t_Name : ByteArray) (t_Pattern : Int) (t_Text : ByteArray) (t_N : Int) : Option Bool := fS Try.prog lv X0 43 prove_simple_ca prove_simple_cr (t_Kind, t_Tests, t_Name, t_Pattern, t_Text, t_N)
def prove_simple_t (t_Kind : Int) (t_Tests : (List S42)) (t_Name : ByteArray) (t_Pattern : Int) (t_Text : ByteArray) (t_N : Int) : Option Bool :=
  (some (decide (t_Kind > (4 : Int))))
theorem prove_simple_eq {t_Kind : Int} {t_Tests : (List S42)} {t_Name : ByteArray} {t_Pattern : Int} {t_Text : ByteArray} {t_N : Int} {r : Bool} (h : prove_simple_t t_Kind t_Tests t_Name t_Pattern t_Text t_N = some r) : prove_simple_s t_Kind t_Tests t_Name t_Pattern t_Text t_N = some r :=
  fS_tree (es := tab_rules_inner) (hs := []) [] Try.func43 rfl (by kernel_rfl) rfl (by kernel_rfl) (by kernel_rfl) trivial trivial (by kernel_rfl) h
def prove_simple_e : Ent Try.prog lv X0 := entS Try.prog lv X0 43 [] prove_simple_ca prove_simple_cr (fun x => prove_simple_s x.1 x.2.1 x.2.2.1 x.2.2.2.1 x.2.2.2.2.1 x.2.2.2.2.2) (fun _ _ h => fS_call h)
def tab_prove_simple : List (Ent Try.prog lv X0) := prove_simple_e :: tab_rules_inner
def prove_same_ca : Cod (List V) ((Int × (List S42) × ByteArray × Int × ByteArray × Int) × (Int × (List S42) × ByteArray × Int × ByteArray × Int)) := (lCons (vAgg (lCons (vC (cInt .i64)) (lCons (vC (cSl ec_42)) (lCons (vC cStr) (lCons (vC (cInt .i64)) (lCons (vC cStr) (lOne (vC (cInt .i64))))))))) (lOne (vAgg (lCons (vC (cInt .i64)) (lCons (vC (cSl ec_42)) (lCons (vC cStr) (lCons (vC (cInt .i64)) (lCons (vC cStr) (lOne (vC (cInt .i64)))))))))))
def prove_same_cr : Cod (V × List B) Bool := (cFstU (cPair (vC cBool) lNil))
def prove_same_s (a_Kind : Int) (a_Tests : (List S42)) (a_Name : ByteArray) (a_Pattern : Int) (a_Text : ByteArray) (a_N : Int) (b_Kind : Int) (b_Tests : (List S42)) (b_Name : ByteArray) (b_Pattern : Int) (b_Text : ByteArray) (b_N : Int) : Option Bool := fS Try.prog lv X0 57 prove_same_ca prove_same_cr ((a_Kind, a_Tests, a_Name, a_Pattern, a_Text, a_N), (b_Kind, b_Tests, b_Name, b_Pattern, b_Text, b_N))
def prove_same_t (a_Kind : Int) (a_Tests : (List S42)) (a_Name : ByteArray) (a_Pattern : Int) (a_Text : ByteArray) (a_N : Int) (b_Kind : Int) (b_Tests : (List S42)) (b_Name : ByteArray) (b_Pattern : Int) (b_Text : ByteArray) (b_N : Int) : Option Bool :=
  (brE ((a_Kind == b_Kind) == true)
  (brE (((ByteArray.toList a_Name) == (ByteArray.toList b_Name)) == true)
    (brE ((a_Pattern == b_Pattern) == true)
      (brE (((ByteArray.toList a_Text) == (ByteArray.toList b_Text)) == true)
        (some (a_N == b_N))
        (some false))
      (some false))
    (some false))
  (some false))
theorem prove_same_eq {a_Kind : Int} {a_Tests : (List S42)} {a_Name : ByteArray} {a_Pattern : Int} {a_Text : ByteArray} {a_N : Int} {b_Kind : Int} {b_Tests : (List S42)} {b_Name : ByteArray} {b_Pattern : Int} {b_Text : ByteArray} {b_N : Int} {r : Bool} (h : prove_same_t a_Kind a_Tests a_Name a_Pattern a_Text a_N b_Kind b_Tests b_Name b_Pattern b_Text b_N = some r) : prove_same_s a_Kind a_Tests a_Name a_Pattern a_Text a_N b_Kind b_Tests b_Name b_Pattern b_Text b_N = some r :=
  fS_tree (es := tab_prove_simple) (hs := []) [] Try.func57 rfl (by kernel_rfl) rfl (by kernel_rfl) (by kernel_rfl) trivial trivial (by kernel_rfl) h
def prove_same_e : Ent Try.prog lv X0 := entS Try.prog lv X0 57 [] prove_same_ca prove_same_cr (fun x => prove_same_s x.1.1 x.1.2.1 x.1.2.2.1 x.1.2.2.2.1 x.1.2.2.2.2.1 x.1.2.2.2.2.2 x.2.1 x.2.2.1 x.2.2.2.1 x.2.2.2.2.1 x.2.2.2.2.2.1 x.2.2.2.2.2.2) (fun _ _ h => fS_call h)
def tab_prove_same : List (Ent Try.prog lv X0) := prove_same_e :: tab_prove_simple
def find1_ca : Cod (List V) ((Int × (List S42) × ByteArray × Int × ByteArray × Int) × (Int × (List S42) × ByteArray × Int × ByteArray × Int)) := (lCons (vAgg (lCons (vC (cInt .i64)) (lCons (vC (cSl ec_42)) (lCons (vC cStr) (lCons (vC (cInt .i64)) (lCons (vC cStr) (lOne (vC (cInt .i64))))))))) (lOne (vEptr (lCons (cInt .i64) (lCons (cSl ec_42) (lCons cStr (lCons (cInt .i64) (lCons cStr (lOne (cInt .i64))))))) 0)))
def find1_cr : Cod (V × List B) Bool := (cFstU (cPair (vC cBool) lNil))
def find1_s (x_Kind : Int) (x_Tests : (List S42)) (x_Name : ByteArray) (x_Pattern : Int) (x_Text : ByteArray) (x_N : Int) (c1_0 : Int) (c1_1 : (List S42)) (c1_2 : ByteArray) (c1_3 : Int) (c1_4 : ByteArray) (c1_5 : Int) : Option Bool := fS Try.prog lv X0 56 find1_ca find1_cr ((x_Kind, x_Tests, x_Name, x_Pattern, x_Text, x_N), (c1_0, c1_1, c1_2, c1_3, c1_4, c1_5))
def find1_t (x_Kind : Int) (x_Tests : (List S42)) (x_Name : ByteArray) (x_Pattern : Int) (x_Text : ByteArray) (x_N : Int) (c1_0 : Int) (c1_1 : (List S42)) (c1_2 : ByteArray) (c1_3 : Int) (c1_4 : ByteArray) (c1_5 : Int) : Option Bool :=
  (gdE (EC.isL ec_42 (EC.encL ec_42 x_Tests)) <|
  (gdE (EC.isL ec_42 (EC.encL ec_42 c1_1)) <|
    (Option.bind (prove_same_s x_Kind (EC.decL ec_42 (EC.encL ec_42 x_Tests)) x_Name x_Pattern x_Text x_N c1_0 (EC.decL ec_42 (EC.encL ec_42 c1_1)) c1_2 c1_3 c1_4 c1_5) fun r0 =>
      (some r0))))
theorem find1_eq {x_Kind : Int} {x_Tests : (List S42)} {x_Name : ByteArray} {x_Pattern : Int} {x_Text : ByteArray} {x_N : Int} {c1_0 : Int} {c1_1 : (List S42)} {c1_2 : ByteArray} {c1_3 : Int} {c1_4 : ByteArray} {c1_5 : Int} {r : Bool} (h : find1_t x_Kind x_Tests x_Name x_Pattern x_Text x_N c1_0 c1_1 c1_2 c1_3 c1_4 c1_5 = some r) : find1_s x_Kind x_Tests x_Name x_Pattern x_Text x_N c1_0 c1_1 c1_2 c1_3 c1_4 c1_5 = some r :=
  fS_tree (es := tab_prove_same) (hs := []) [] Try.func56 rfl (by kernel_rfl) rfl (by kernel_rfl) (by kernel_rfl) trivial trivial (by kernel_rfl) h
def find1_e : Ent Try.prog lv X0 := entS Try.prog lv X0 56 [] find1_ca find1_cr (fun x => find1_s x.1.1 x.1.2.1 x.1.2.2.1 x.1.2.2.2.1 x.1.2.2.2.2.1 x.1.2.2.2.2.2 x.2.1 x.2.2.1 x.2.2.2.1 x.2.2.2.2.1 x.2.2.2.2.2.1 x.2.2.2.2.2.2) (fun _ _ h => fS_call h)
def tab_find1 : List (Ent Try.prog lv X0) := find1_e :: tab_prove_same
def prove_find_ca : Cod (List V) ((List S42) × (Int × (List S42) × ByteArray × Int × ByteArray × Int)) := (lCons (vC (cSl ec_42)) (lOne (vAgg (lCons (vC (cInt .i64)) (lCons (vC (cSl ec_42)) (lCons (vC cStr) (lCons (vC (cInt .i64)) (lCons (vC cStr) (lOne (vC (cInt .i64)))))))))))
def api_Test__h1_s : SC (((List S42) × Unit) × (Int × (List S42) × ByteArray × Int × ByteArray × Int)) := sLS [0, 1] (lCons (vC (cSl ec_42)) (lOne (vFn 56 (lOne (vPtr 0 0))))) (lOne (oSome (bBox (lCons (vC (cInt .i64)) (lCons (vC (cSl ec_42)) (lCons (vC cStr) (lCons (vC (cInt .i64)) (lCons (vC cStr) (lOne (vC (cInt .i64))))))))))) [false] [0] (by decide) (fun _ => rfl)
def api_Test__h1_l2_s : SC (((List S42) × Unit × Int × Int) × (Int × (List S42) × ByteArray × Int × ByteArray × Int)) := sLS [0, 1, 7, 8] (lCons (vC (cSl ec_42)) (lCons (vFn 56 (lOne (vPtr 0 0))) (lCons (vC (cInt .i64)) (lOne (vC (cInt .i64)))))) (lOne (oSome (bBox (lCons (vC (cInt .i64)) (lCons (vC (cSl ec_42)) (lCons (vC cStr) (lCons (vC (cInt .i64)) (lCons (vC cStr) (lOne (vC (cInt .i64))))))))))) [false] [0] (by decide) (fun _ => rfl)
def api_Test__h1_l2_o2 : SC (((List S42) × Unit × Int × Int × Bool) × (Int × (List S42) × ByteArray × Int × ByteArray × Int)) := sLS [0, 1, 7, 8, 9] (lCons (vC (cSl ec_42)) (lCons (vFn 56 (lOne (vPtr 0 0))) (lCons (vC (cInt .i64)) (lCons (vC (cInt .i64)) (lOne (vC cBool)))))) (lOne (oSome (bBox (lCons (vC (cInt .i64)) (lCons (vC (cSl ec_42)) (lCons (vC cStr) (lCons (vC (cInt .i64)) (lCons (vC cStr) (lOne (vC (cInt .i64))))))))))) [false] [0] (by decide) (fun _ => rfl)
def api_Test__h1_l2_o1 : SC (Int × (Int × (List S42) × ByteArray × Int × ByteArray × Int)) := sLS [4] (lOne (vC (cInt .i64))) (lOne (oSome (bBox (lCons (vC (cInt .i64)) (lCons (vC (cSl ec_42)) (lCons (vC cStr) (lCons (vC (cInt .i64)) (lCons (vC cStr) (lOne (vC (cInt .i64))))))))))) [false] [0] (by decide) (fun _ => rfl)
def api_Test__h1_l2_o : OC ((Int × (Int × (List S42) × ByteArray × Int × ByteArray × Int)) ⊕ (((List S42) × Unit × Int × Int × Bool) × (Int × (List S42) × ByteArray × Int × ByteArray × Int))) := oOr 1 api_Test__h1_l2_o1 (oAt 2 api_Test__h1_l2_o2) (fun x => (by decide : (2 : Nat) ≠ 1))
def api_Test__h1_l2 (s : (List S42)) (t7 : Int) (t8 : Int) (b0 : Int) (b0_1 : (List S42)) (b0_2 : ByteArray) (b0_3 : Int) (b0_4 : ByteArray) (b0_5 : Int) : Option ((Int × (Int × (List S42) × ByteArray × Int × ByteArray × Int)) ⊕ (((List S42) × Unit × Int × Int × Bool) × (Int × (List S42) × ByteArray × Int × ByteArray × Int))) := lS Try.prog lv X0 55 19 (getLoop (cdF Try.f55) 2) api_Test__h1_l2_s api_Test__h1_l2_o ((s, (), t7, t8), (b0, b0_1, b0_2, b0_3, b0_4, b0_5))
def api_Test__h1_l2_t (s : (List S42)) (t7 : Int) (t8 : Int) (b0 : Int) (b0_1 : (List S42)) (b0_2 : ByteArray) (b0_3 : Int) (b0_4 : ByteArray) (b0_5 : Int) : Option ((Int × (Int × (List S42) × ByteArray × Int × ByteArray × Int)) ⊕ (((List S42) × Unit × Int × Int × Bool) × (Int × (List S42) × ByteArray × Int × ByteArray × Int))) :=
  (brE (decide (t8 < t7))
  (gdE (decide ((0 : Int) ≤ t8)) <|
    (gdE ((decide ((Int.toNat t8) < (List.length (EC.encL ec_42 s)))) && (isE [(K1.int Go.IntKind.i64), K1.sl, K1.str, (K1.int Go.IntKind.i64), K1.str, (K1.int Go.IntKind.i64)] (0 : Nat) (List.getD (EC.encL ec_42 s) (Int.toNat t8) []))) <|
      (gdE (EC.isL ec_42 (slOf (List.getD (List.getD (EC.encL ec_42 s) (Int.toNat t8) []) (1 : Nat) C.ne))) <|
        (gdE (EC.isL ec_42 (EC.encL ec_42 b0_1)) <|
          (Option.bind (find1_s (intOf (List.getD (List.getD (EC.encL ec_42 s) (Int.toNat t8) []) (0 : Nat) C.ne)) (EC.decL ec_42 (slOf (List.getD (List.getD (EC.encL ec_42 s) (Int.toNat t8) []) (1 : Nat) C.ne))) (strOf (List.getD (List.getD (EC.encL ec_42 s) (Int.toNat t8) []) (2 : Nat) C.ne)) (intOf (List.getD (List.getD (EC.encL ec_42 s) (Int.toNat t8) []) (3 : Nat) C.ne)) (strOf (List.getD (List.getD (EC.encL ec_42 s) (Int.toNat t8) []) (4 : Nat) C.ne)) (intOf (List.getD (List.getD (EC.encL ec_42 s) (Int.toNat t8) []) (5 : Nat) C.ne)) b0 (EC.decL ec_42 (EC.encL ec_42 b0_1)) b0_2 b0_3 b0_4 b0_5) fun r0 =>
            (brE r0
              (gdE (EC.isL ec_42 (EC.encL ec_42 b0_1)) <|
                (some (.inl (t8, (b0, ((EC.decL ec_42 (EC.encL ec_42 b0_1)), (b0_2, (b0_3, (b0_4, b0_5)))))))))
              (gdE (EC.isL ec_42 (EC.encL ec_42 s)) <|
                (gdE (EC.isL ec_42 (EC.encL ec_42 b0_1)) <|
                  (api_Test__h1_l2 (EC.decL ec_42 (EC.encL ec_42 s)) t7 (Go.IntKind.wrap Go.IntKind.i64 (t8 + (1 : Int))) b0 (EC.decL ec_42 (EC.encL ec_42 b0_1)) b0_2 b0_3 b0_4 b0_5)))))))))
  (gdE (EC.isL ec_42 (EC.encL ec_42 s)) <|
    (gdE (EC.isL ec_42 (EC.encL ec_42 b0_1)) <|
      (some (.inr (((EC.decL ec_42 (EC.encL ec_42 s)), ((), (t7, (t8, false)))), (b0, ((EC.decL ec_42 (EC.encL ec_42 b0_1)), (b0_2, (b0_3, (b0_4, b0_5)))))))))))
theorem api_Test__h1_l2_eq {s : (List S42)} {t7 : Int} {t8 : Int} {b0 : Int} {b0_1 : (List S42)} {b0_2 : ByteArray} {b0_3 : Int} {b0_4 : ByteArray} {b0_5 : Int} {r : ((Int × (Int × (List S42) × ByteArray × Int × ByteArray × Int)) ⊕ (((List S42) × Unit × Int × Int × Bool) × (Int × (List S42) × ByteArray × Int × ByteArray × Int)))} (h : api_Test__h1_l2_t s t7 t8 b0 b0_1 b0_2 b0_3 b0_4 b0_5 = some r) : api_Test__h1_l2 s t7 t8 b0 b0_1 b0_2 b0_3 b0_4 b0_5 = some r :=
  lS_tree (es := tab_find1) (hs := []) [] (by kernel_rfl) trivial trivial (by kernel_rfl) h
def api_Test__h1_l2_e : LEnt Try.prog lv X0 55 19 := lentS Try.prog lv X0 2 (getLoop (cdF Try.f55) 2) api_Test__h1_l2_s api_Test__h1_l2_o (fun x => api_Test__h1_l2 x.1.1 x.1.2.2.1 x.1.2.2.2 x.2.1 x.2.2.1 x.2.2.2.1 x.2.2.2.2.1 x.2.2.2.2.2.1 x.2.2.2.2.2.2) (fun _ _ h => lS_from h)
def api_Test__h1_q : SC (Int × (Int × (List S42) × ByteArray × Int × ByteArray × Int)) := sLS [0] (lOne (vC (cInt .i64))) (lOne (oSome (bBox (lCons (vC (cInt .i64)) (lCons (vC (cSl ec_42)) (lCons (vC cStr) (lCons (vC (cInt .i64)) (lCons (vC cStr) (lOne (vC (cInt .i64))))))))))) [false] [0] (by decide) (fun _ => rfl)
def api_Test__h1_o : HC (Int × (Int × (Int × (List S42) × ByteArray × Int × ByteArray × Int))) := hPair (vC (cInt .i64)) api_Test__h1_q
def api_Test__h1 (s : (List S42)) (b0 : Int) (b0_1 : (List S42)) (b0_2 : ByteArray) (b0_3 : Int) (b0_4 : ByteArray) (b0_5 : Int) : Option (Int × (Int × (Int × (List S42) × ByteArray × Int × ByteArray × Int))) := hS Try.prog lv X0 55 api_Test__h1_s api_Test__h1_o ((s, ()), (b0, b0_1, b0_2, b0_3, b0_4, b0_5))
def api_Test__h1_t (s : (List S42)) (b0 : Int) (b0_1 : (List S42)) (b0_2 : ByteArray) (b0_3 : Int) (b0_4 : ByteArray) (b0_5 : Int) : Option (Int × (Int × (Int × (List S42) × ByteArray × Int × ByteArray × Int))) :=
  (gdE (EC.isL ec_42 (EC.encL ec_42 s)) <|
  (gdE (EC.isL ec_42 (EC.encL ec_42 b0_1)) <|
    (Option.bind (api_Test__h1_l2 (EC.decL ec_42 (EC.encL ec_42 s)) (((List.length (EC.encL ec_42 s)) : Nat) : Int) (0 : Int) b0 (EC.decL ec_42 (EC.encL ec_42 b0_1)) b0_2 b0_3 b0_4 b0_5) fun r0 =>
      (Sum.elim (fun r1 => (gdE (EC.isL ec_42 (EC.encL ec_42 (((r1).2).2).1)) <|
          (some ((r1).1, ((r1).1, (((r1).2).1, ((EC.decL ec_42 (EC.encL ec_42 (((r1).2).2).1)), (((((r1).2).2).2).1, ((((((r1).2).2).2).2).1, (((((((r1).2).2).2).2).2).1, ((((((r1).2).2).2).2).2).2))))))))))
        (fun r1 => (gdE (EC.isL ec_42 (EC.encL ec_42 (((r1).2).2).1)) <|
          (some ((-1 : Int), ((-1 : Int), (((r1).2).1, ((EC.decL ec_42 (EC.encL ec_42 (((r1).2).2).1)), (((((r1).2).2).2).1, ((((((r1).2).2).2).2).1, (((((((r1).2).2).2).2).2).1, ((((((r1).2).2).2).2).2).2)))))))))) r0))))
theorem api_Test__h1_eq {s : (List S42)} {b0 : Int} {b0_1 : (List S42)} {b0_2 : ByteArray} {b0_3 : Int} {b0_4 : ByteArray} {b0_5 : Int} {r : (Int × (Int × (Int × (List S42) × ByteArray × Int × ByteArray × Int)))} (h : api_Test__h1_t s b0 b0_1 b0_2 b0_3 b0_4 b0_5 = some r) : api_Test__h1 s b0 b0_1 b0_2 b0_3 b0_4 b0_5 = some r :=
  hS_tree (fn := Try.f55) (es := tab_find1) (hs := []) [api_Test__h1_l2_e] (by kernel_rfl) rfl (by kernel_rfl) ⟨⟨_, rfl, rfl⟩, trivial⟩ trivial (by kernel_rfl) h
def api_Test__h1_e : HEnt Try.prog lv X0 := hentS Try.prog lv X0 55 [0, 1, 4, 1, 6, 56, 1, 3, 0, 0, 1, 6, 1, 1, 1, 4, 1, 3, 1, 1, 1, 3, 1, 1, 0] api_Test__h1_s api_Test__h1_o (fun x => api_Test__h1 x.1.1 x.2.1 x.2.2.1 x.2.2.2.1 x.2.2.2.2.1 x.2.2.2.2.2.1 x.2.2.2.2.2.2) (fun _ _ h => hS_from h)
def htab_api_Test__h1 : List (HEnt Try.prog lv X0) := api_Test__h1_e :: []
def prove_find_cr : Cod (V × List B) Int := (cFstU (cPair (vC (cInt .i64)) lNil))
def prove_find_s (l : (List S42)) (t_Kind : Int) (t_Tests : (List S42)) (t_Name : ByteArray) (t_Pattern : Int) (t_Text : ByteArray) (t_N : Int) : Option Int := fS Try.prog lv X0 44 prove_find_ca prove_find_cr (l, (t_Kind, t_Tests, t_Name, t_Pattern, t_Text, t_N))
def prove_find_t (l : (List S42)) (t_Kind : Int) (t_Tests : (List S42)) (t_Name : ByteArray) (t_Pattern : Int) (t_Text : ByteArray) (t_N : Int) : Option Int :=
  (gdE (EC.isL ec_42 (EC.encL ec_42 l)) <|
  (gdE (EC.isL ec_42 (EC.encL ec_42 t_Tests)) <|
    (Option.bind (api_Test__h1 (EC.decL ec_42 (EC.encL ec_42 l)) t_Kind (EC.decL ec_42 (EC.encL ec_42 t_Tests)) t_Name t_Pattern t_Text t_N) fun r0 =>
      (some (r0).1))))
theorem prove_find_eq {l : (List S42)} {t_Kind : Int} {t_Tests : (List S42)} {t_Name : ByteArray} {t_Pattern : Int} {t_Text : ByteArray} {t_N : Int} {r : Int} (h : prove_find_t l t_Kind t_Tests t_Name t_Pattern t_Text t_N = some r) : prove_find_s l t_Kind t_Tests t_Name t_Pattern t_Text t_N = some r :=
  fS_tree (es := tab_find1) (hs := htab_api_Test__h1) [] Try.func44 rfl (by kernel_rfl) rfl (by kernel_rfl) (by kernel_rfl) trivial trivial (by kernel_rfl) h
def prove_find_e : Ent Try.prog lv X0 := entS Try.prog lv X0 44 [] prove_find_ca prove_find_cr (fun x => prove_find_s x.1 x.2.1 x.2.2.1 x.2.2.2.1 x.2.2.2.2.1 x.2.2.2.2.2.1 x.2.2.2.2.2.2) (fun _ _ h => fS_call h)
def tab_prove_find : List (Ent Try.prog lv X0) := prove_find_e :: tab_find1
structure S49 where
  Kind : Int
  Text : ByteArray
  N : Int
def ec_49 : EC S49 where
  enc x := [.int .i64 x.Kind, .str x.Text, .int .i64 x.N]
  dec c := ⟨intOf (c.getD 0 .ne), strOf (c.getD 1 .ne), intOf (c.getD 2 .ne)⟩
  is c := isE [.int .i64, .str, .int .i64] 0 c
  enc_dec h := decE_eq h
  dec_enc x := by rfl
  is_enc x := by simp [isE, isK]
theorem enc_49 (x : S49) : ec_49.enc x = [.int .i64 x.Kind, .str x.Text, .int .i64 x.N] := rfl
theorem isE_49 (xs : List S49) (n : Nat) : isE [.int .i64, .str, .int .i64] 0 ((ec_49.encL xs).getD n []) = decide (n < xs.length) := by
  by_cases h : n < xs.length
  · simp only [EC.getD_lt _ _ h]; simp [enc_49, isE, isK, h]
  · simp only [EC.getD_ge _ _ (Nat.not_lt.1 h)]; simp [isE, isK, h]
theorem at_49_0 (xs : List S49) (n : Nat) : intOf (((ec_49.encL xs).getD n []).getD 0 .ne) = (xs.getD n (ec_49.dec [])).Kind := by
  by_cases h : n < xs.length
  · simp only [EC.getD_lt _ _ h]; simp [enc_49, h, intOf, List.getD_eq_getElem?_getD]
  · simp only [EC.getD_ge _ _ (Nat.not_lt.1 h)]; simp [Nat.not_lt.1 h, ec_49, strOf, intOf, List.getD_eq_getElem?_getD]
theorem at_49_1 (xs : List S49) (n : Nat) : strOf (((ec_49.encL xs).getD n []).getD 1 .ne) = (xs.getD n (ec_49.dec [])).Text := by
  by_cases h : n < xs.length
  · simp only [EC.getD_lt _ _ h]; simp [enc_49, h, strOf, List.getD_eq_getElem?_getD]
  · simp only [EC.getD_ge _ _ (Nat.not_lt.1 h)]; simp [Nat.not_lt.1 h, ec_49, strOf, intOf, List.getD_eq_getElem?_getD]
theorem at_49_2 (xs : List S49) (n : Nat) : intOf (((ec_49.encL xs).getD n []).getD 2 .ne) = (xs.getD n (ec_49.dec [])).N := by
  by_cases h : n < xs.length
  · simp only [EC.getD_lt _ _ h]; simp [enc_49, h, intOf, List.getD_eq_getElem?_getD]
  · simp only [EC.getD_ge _ _ (Nat.not_lt.1 h)]; simp [Nat.not_lt.1 h, ec_49, strOf, intOf, List.getD_eq_getElem?_getD]
theorem lit_49 (a0 : Int) (a1 : ByteArray) (a2 : Int) : ([.int .i64 a0, .str a1, .int .i64 a2] : List C) = ec_49.enc (⟨a0, a1, a2⟩ : S49) := rfl
theorem apd_49 (xs : List S49) (a0 : Int) (a1 : ByteArray) (a2 : Int) : ec_49.encL xs ++ [[.int .i64 a0, .str a1, .int .i64 a2]] = ec_49.encL (xs ++ [(⟨a0, a1, a2⟩ : S49)]) := by rw [lit_49]; simp [EC.encL]
theorem len_49 (xs : List S49) (n : Nat) (h : n < xs.length) : ((ec_49.encL xs).getD n []).length = 3 := by rw [EC.getD_lt _ _ h]; rfl
theorem all_49 (xs : List S49) : (ec_49.encL xs).all (fun (el : List C) => el.length == 3) = true := by induction xs with | nil => rfl | cons x xs ih => first | (simp [EC.encL, enc_49]; done) | simpa [EC.encL, enc_49] using ih
theorem set_49_0_3 (xs : List S49) (n : Nat) (a0 : Int) (a1 : ByteArray) (a2 : Int) : (ec_49.encL xs).set n (splice ((ec_49.encL xs).getD n []) 0 [.int .i64 a0, .str a1, .int .i64 a2]) = ec_49.encL (xs.set n ({ xs.getD n (ec_49.dec []) with Kind := a0, Text := a1, N := a2 })) := by
  by_cases h : n < xs.length
  · rw [EC.getD_lt _ _ h]; simp [EC.encL, List.map_set, enc_49, splice]
  · simp [EC.encL, List.set_eq_of_length_le, Nat.not_lt.1 h]
theorem set_49_0_1 (xs : List S49) (n : Nat) (a0 : Int) : (ec_49.encL xs).set n (splice ((ec_49.encL xs).getD n []) 0 [.int .i64 a0]) = ec_49.encL (xs.set n ({ xs.getD n (ec_49.dec []) with Kind := a0 })) := by
  by_cases h : n < xs.length
  · rw [EC.getD_lt _ _ h]; simp [EC.encL, List.map_set, enc_49, splice, List.getD_eq_getElem?_getD, h]
  · simp [EC.encL, List.set_eq_of_length_le, Nat.not_lt.1 h]
theorem set_49_1_1 (xs : List S49) (n : Nat) (a1 : ByteArray) : (ec_49.encL xs).set n (splice ((ec_49.encL xs).getD n []) 1 [.str a1]) = ec_49.encL (xs.set n ({ xs.getD n (ec_49.dec []) with Text := a1 })) := by
  by_cases h : n < xs.length
  · rw [EC.getD_lt _ _ h]; simp [EC.encL, List.map_set, enc_49, splice, List.getD_eq_getElem?_getD, h]
  · simp [EC.encL, List.set_eq_of_length_le, Nat.not_lt.1 h]
theorem set_49_2_1 (xs : List S49) (n : Nat) (a2 : Int) : (ec_49.encL xs).set n (splice ((ec_49.encL xs).getD n []) 2 [.int .i64 a2]) = ec_49.encL (xs.set n ({ xs.getD n (ec_49.dec []) with N := a2 })) := by
  by_cases h : n < xs.length
  · rw [EC.getD_lt _ _ h]; simp [EC.encL, List.map_set, enc_49, splice, List.getD_eq_getElem?_getD, h]
  · simp [EC.encL, List.set_eq_of_length_le, Nat.not_lt.1 h]
def evaluate_Decided_ca : Cod (List V) (List S49) := (lOne (vC (cSl ec_49)))
def evaluate_Decided_l2_s : SC (((List S49) × Int × Int) × Unit) := sLS [5, 6, 7] (lCons (vC (cSl ec_49)) (lCons (vC (cInt .i64)) (lOne (vC (cInt .i64))))) lNil [] [] (by decide) (fun _ => rfl)
def evaluate_Decided_l2_o2 : SC (((List S49) × Int × Int × Bool) × Unit) := sLS [5, 6, 7, 8] (lCons (vC (cSl ec_49)) (lCons (vC (cInt .i64)) (lCons (vC (cInt .i64)) (lOne (vC cBool))))) lNil [] [] (by decide) (fun _ => rfl)
def evaluate_Decided_l2_o1 : SC (Bool × Unit) := sLS [2] (lOne (vC cBool)) lNil [] [] (by decide) (fun _ => rfl)
def evaluate_Decided_l2_o : OC ((Bool × Unit) ⊕ (((List S49) × Int × Int × Bool) × Unit)) := oOr 1 evaluate_Decided_l2_o1 (oAt 2 evaluate_Decided_l2_o2) (fun x => (by decide : (2 : Nat) ≠ 1))
def evaluate_Decided_l2 (t5 : (List S49)) (t6 : Int) (t7 : Int) : Option ((Bool × Unit) ⊕ (((List S49) × Int × Int × Bool) × Unit)) := lS Try.prog lv X0 17 20 (getLoop (cdF Try.f17) 2) evaluate_Decided_l2_s evaluate_Decided_l2_o ((t5, t6, t7), ())
def evaluate_Decided_l2_t (t5 : (List S49)) (t6 : Int) (t7 : Int) : Option ((Bool × Unit) ⊕ (((List S49) × Int × Int × Bool) × Unit)) :=
  (brE (decide (t7 < t6))
  (gdE (decide ((0 : Int) ≤ t7)) <|
    (gdE ((decide ((Int.toNat t7) < (List.length (EC.encL ec_49 t5)))) && (isE [(K1.int Go.IntKind.i64), K1.str, (K1.int Go.IntKind.i64)] (0 : Nat) (List.getD (EC.encL ec_49 t5) (Int.toNat t7) []))) <|
      (brE (((intOf (List.getD (List.getD (EC.encL ec_49 t5) (Int.toNat t7) []) (0 : Nat) C.ne)) != (6 : Int)) == true)
        (brE ((intOf (List.getD (List.getD (EC.encL ec_49 t5) (Int.toNat t7) []) (0 : Nat) C.ne)) != (7 : Int))
          (some (.inl (true, ())))
          (gdE (EC.isL ec_49 (EC.encL ec_49 t5)) <|
            (evaluate_Decided_l2 (EC.decL ec_49 (EC.encL ec_49 t5)) t6 (Go.IntKind.wrap Go.IntKind.i64 (t7 + (1 : Int))))))
        (gdE (EC.isL ec_49 (EC.encL ec_49 t5)) <|
          (evaluate_Decided_l2 (EC.decL ec_49 (EC.encL ec_49 t5)) t6 (Go.IntKind.wrap Go.IntKind.i64 (t7 + (1 : Int))))))))
  (gdE (EC.isL ec_49 (EC.encL ec_49 t5)) <|
    (some (.inr (((EC.decL ec_49 (EC.encL ec_49 t5)), (t6, (t7, false))), ())))))
theorem evaluate_Decided_l2_eq {t5 : (List S49)} {t6 : Int} {t7 : Int} {r : ((Bool × Unit) ⊕ (((List S49) × Int × Int × Bool) × Unit))} (h : evaluate_Decided_l2_t t5 t6 t7 = some r) : evaluate_Decided_l2 t5 t6 t7 = some r :=
  lS_tree (es := tab_prove_find) (hs := htab_api_Test__h1) [] (by kernel_rfl) trivial trivial (by kernel_rfl) h
def evaluate_Decided_l2_e : LEnt Try.prog lv X0 17 20 := lentS Try.prog lv X0 2 (getLoop (cdF Try.f17) 2) evaluate_Decided_l2_s evaluate_Decided_l2_o (fun x => evaluate_Decided_l2 x.1.1 x.1.2.1 x.1.2.2) (fun _ _ h => lS_from h)
def evaluate_Decided_cr : Cod (V × List B) Bool := (cFstU (cPair (vC cBool) lNil))
def evaluate_Decided_s (l : (List S49)) : Option Bool := fS Try.prog lv X0 17 evaluate_Decided_ca evaluate_Decided_cr l
def evaluate_Decided_t (l : (List S49)) : Option Bool :=
  (gdE (EC.isL ec_49 (EC.encL ec_49 l)) <|
  (Option.bind (evaluate_Decided_l2 (EC.decL ec_49 (EC.encL ec_49 l)) (((List.length (EC.encL ec_49 l)) : Nat) : Int) (0 : Int)) fun r0 =>
    (Sum.elim (fun r1 => (some (r1).1))
      (fun r1 => (some false)) r0)))
theorem evaluate_Decided_eq {l : (List S49)} {r : Bool} (h : evaluate_Decided_t l = some r) : evaluate_Decided_s l = some r :=
  fS_tree (es := tab_prove_find) (hs := htab_api_Test__h1) [evaluate_Decided_l2_e] Try.func17 rfl (by kernel_rfl) rfl (by kernel_rfl) (by kernel_rfl) ⟨⟨_, rfl, rfl⟩, trivial⟩ trivial (by kernel_rfl) h
def evaluate_Decided_e : Ent Try.prog lv X0 := entS Try.prog lv X0 17 [] evaluate_Decided_ca evaluate_Decided_cr (fun x => evaluate_Decided_s x) (fun _ _ h => fS_call h)
def tab_evaluate_Decided : List (Ent Try.prog lv X0) := evaluate_Decided_e :: tab_prove_find
end
end Go.Proofs.Ytokahibbkdbndaa
