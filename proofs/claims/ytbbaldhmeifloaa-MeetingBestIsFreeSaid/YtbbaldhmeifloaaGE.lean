/- Functions of the program as plain functions: made by program from the machine. -/
import Derived.Test.YtbbaldhmeifloaaGU
namespace Go.Proofs.Ytbbaldhmeifloaa
open Go.RowKit
set_option maxRecDepth 100000
def ec_45 : EC (List S58) where
  enc x := [.sl (ec_58.encL x)]
  dec c := ec_58.decL (slOf (c.getD 0 .ne))
  is c := isE [.sl] 0 c && ec_58.isL (slOf (c.getD 0 .ne))
  enc_dec h := by
    simp only [Bool.and_eq_true] at h
    have h0 := decE_eq h.1
    simp only [decE, decC] at h0
    simp only [EC.encL_decL _ h.2]
    exact h0
  dec_enc x := by simp [slOf]
  is_enc x := by simp [isE, isK, slOf]
theorem enc_45 (x : (List S58)) : ec_45.enc x = [.sl (ec_58.encL x)] := rfl
theorem isE_45 (xs : List (List S58)) (n : Nat) : isE [.sl] 0 ((ec_45.encL xs).getD n []) = decide (n < xs.length) := by
  by_cases h : n < xs.length
  · simp only [EC.getD_lt _ _ h]; simp [enc_45, isE, isK, h]
  · simp only [EC.getD_ge _ _ (Nat.not_lt.1 h)]; simp [isE, isK, h]
theorem at_45_0 (xs : List (List S58)) (n : Nat) : slOf (((ec_45.encL xs).getD n []).getD 0 .ne) = ec_58.encL (xs.getD n (ec_45.dec [])) := by
  by_cases h : n < xs.length
  · simp only [EC.getD_lt _ _ h]; simp [enc_45, h, slOf, List.getD_eq_getElem?_getD]
  · simp only [EC.getD_ge _ _ (Nat.not_lt.1 h)]; simp [Nat.not_lt.1 h, ec_45, slOf, List.getD_eq_getElem?_getD, EC.decL, EC.encL]
theorem lit_45 (a0 : (List S58)) : ([.sl (ec_58.encL a0)] : List C) = ec_45.enc a0 := rfl
theorem apd_45 (xs : List (List S58)) (a0 : (List S58)) : ec_45.encL xs ++ [[.sl (ec_58.encL a0)]] = ec_45.encL (xs ++ [a0]) := by rw [lit_45]; simp [EC.encL]
theorem len_45 (xs : List (List S58)) (n : Nat) (h : n < xs.length) : ((ec_45.encL xs).getD n []).length = 1 := by rw [EC.getD_lt _ _ h]; rfl
theorem all_45 (xs : List (List S58)) : (ec_45.encL xs).all (fun (el : List C) => el.length == 1) = true := by induction xs with | nil => rfl | cons x xs ih => first | (simp [EC.encL, enc_45]; done) | simpa [EC.encL, enc_45] using ih
theorem set_45_0_1 (xs : List (List S58)) (n : Nat) (a0 : (List S58)) : (ec_45.encL xs).set n (splice ((ec_45.encL xs).getD n []) 0 [.sl (ec_58.encL a0)]) = ec_45.encL (xs.set n (a0)) := by
  by_cases h : n < xs.length
  · rw [EC.getD_lt _ _ h]; simp [EC.encL, List.map_set, enc_45, splice]
  · simp [EC.encL, List.set_eq_of_length_le, Nat.not_lt.1 h]
end Go.Proofs.Ytbbaldhmeifloaa
