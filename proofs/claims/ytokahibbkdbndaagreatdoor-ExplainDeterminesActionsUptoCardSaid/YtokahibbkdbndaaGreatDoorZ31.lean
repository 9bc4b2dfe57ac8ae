/- EvaluateDecides: the plain law. -/
import Derived.Test.YtokahibbkdbndaaGreatDoorZ29
namespace Go.Proofs.YtokahibbkdbndaaGreatDoor
open Go.RowKit
theorem q1a7 (k : Int) : q1be k = some (dB k) := by
 refine q1bd ?_
 simp only [q1bf, brE_if, dB]
 cases (k != 6) <;> rfl
theorem q1aa (a : List S45) : (finA a).length ≤ a.length + 1 := by
 unfold finA
 split <;> simp
end Go.Proofs.YtokahibbkdbndaaGreatDoor
namespace Go.Proofs.YtokahibbkdbndaaGreatDoor
open Go.RowKit
set_option maxRecDepth 100000
noncomputable section
def q1aw := (lCons (vC (cSl ec_50)) (lOne (vC (cInt .i64))))
def q1ax : Cod (V × List B) ((Int × Int × (List S48) × ByteArray × Int × ByteArray × Int × (List S50) × (List S50) × Int × ByteArray × ByteArray × Int) × Bool) := (cFstU (cPair (vTup (lCons (vAgg (lCons (vC (cInt .i64)) (lCons (vC (cInt .i64)) (lCons (vC (cSl ec_48)) (lCons (vC cStr) (lCons (vC (cInt .i64)) (lCons (vC cStr) (lCons (vC (cInt .i64)) (lCons (vC (cSl ec_50)) (lCons (vC (cSl ec_50)) (lCons (vC (cInt .i64)) (lCons (vC cStr) (lCons (vC cStr) (lOne (vC (cInt .i64)))))))))))))))) (lOne (vC cBool)))) lNil))
def q1b8 (s : (List S50)) (number : Int) : Option ((Int × Int × (List S48) × ByteArray × Int × ByteArray × Int × (List S50) × (List S50) × Int × ByteArray × ByteArray × Int) × Bool) := fS Tryz.prog lv X0 26 q1aw q1ax (s, number)
def q1ay := entS Tryz.prog lv X0 26 [] q1aw q1ax (fun x => q1b8 x.1 x.2) (fun _ _ h => qf1 h)
def q1bw := q1ay :: tabk
def q1b6 := sLS [0, 1, 4, 6] (lCons (vC (cSl ec_50)) (lCons (vC (cInt .i64)) (lCons (vPtr 0 0) (lOne (vC (cInt .i64)))))) (lCons (oSome (bBox (lCons (vC (cInt .i64)) (lCons (vC (cInt .i64)) (lCons (vRow 1) (lCons (vC cStr) (lCons (vC (cInt .i64)) (lCons (vC cStr) (lCons (vC (cInt .i64)) (lCons (vRow 2) (lCons (vRow 3) (lCons (vC (cInt .i64)) (lCons (vC cStr) (lCons (vC cStr) (lOne (vC (cInt .i64))))))))))))))))) (lCons (oSome (bRow ec_48)) (lCons (oSome (bRow ec_50)) (lOne (oSome (bRow ec_50)))))) [false, false, false, false] [] (by decide) (fun _ => rfl)
def q1b5 := sLS [0, 1, 4, 6, 12] (lCons (vC (cSl ec_50)) (lCons (vC (cInt .i64)) (lCons (vPtr 0 0) (lCons (vC (cInt .i64)) (lOne (vC cBool)))))) (lCons (oSome (bBox (lCons (vC (cInt .i64)) (lCons (vC (cInt .i64)) (lCons (vRow 1) (lCons (vC cStr) (lCons (vC (cInt .i64)) (lCons (vC cStr) (lCons (vC (cInt .i64)) (lCons (vRow 2) (lCons (vRow 3) (lCons (vC (cInt .i64)) (lCons (vC cStr) (lCons (vC cStr) (lOne (vC (cInt .i64))))))))))))))))) (lCons (oSome (bRow ec_48)) (lCons (oSome (bRow ec_50)) (lOne (oSome (bRow ec_50)))))) [false, false, false, false] [] (by decide) (fun _ => rfl)
def q1b4 := sLS [4, 5] (lCons (vPtr 0 0) (lOne (vC cBool))) (lOne (oSome (bBox (lCons (vC (cInt .i64)) (lCons (vC (cInt .i64)) (lCons (vC (cSl ec_48)) (lCons (vC cStr) (lCons (vC (cInt .i64)) (lCons (vC cStr) (lCons (vC (cInt .i64)) (lCons (vC (cSl ec_50)) (lCons (vC (cSl ec_50)) (lCons (vC (cInt .i64)) (lCons (vC cStr) (lCons (vC cStr) (lOne (vC (cInt .i64)))))))))))))))))) [false] [] (by decide) (fun _ => rfl)
def q1b3 := oOr 1 q1b4 (oAt 2 q1b5) (fun x => (by decide : (2 : Nat) ≠ 1))
def q1b0 (s : (List S50)) (number : Int) (i : Int) (b0 : Int) (b0_1 : Int) (b0_2 : Nat) (b0_3 : ByteArray) (b0_4 : Int) (b0_5 : ByteArray) (b0_6 : Int) (b0_7 : Nat) (b0_8 : Nat) (b0_9 : Int) (b0_10 : ByteArray) (b0_11 : ByteArray) (b0_12 : Int) (b1 : (List S48)) (b2 : (List S50)) (b3 : (List S50)) : Option (((Unit × Bool) × (Int × Int × (List S48) × ByteArray × Int × ByteArray × Int × (List S50) × (List S50) × Int × ByteArray × ByteArray × Int)) ⊕ (((List S50) × Int × Unit × Int × Bool) × ((Int × Int × Nat × ByteArray × Int × ByteArray × Int × Nat × Nat × Int × ByteArray × ByteArray × Int) × (List S48) × (List S50) × (List S50)))) := lS Tryz.prog lv X0 26 66 (getLoop (cdF Tryz.f26) 2) q1b6 q1b3 ((s, number, (), i), ((b0, b0_1, b0_2, b0_3, b0_4, b0_5, b0_6, b0_7, b0_8, b0_9, b0_10, b0_11, b0_12), b1, b2, b3))
def q1b7 (s : (List S50)) (number : Int) (i : Int) (b0 : Int) (b0_1 : Int) (b0_2 : Nat) (b0_3 : ByteArray) (b0_4 : Int) (b0_5 : ByteArray) (b0_6 : Int) (b0_7 : Nat) (b0_8 : Nat) (b0_9 : Int) (b0_10 : ByteArray) (b0_11 : ByteArray) (b0_12 : Int) (b1 : (List S48)) (b2 : (List S50)) (b3 : (List S50)) : Option (((Unit × Bool) × (Int × Int × (List S48) × ByteArray × Int × ByteArray × Int × (List S50) × (List S50) × Int × ByteArray × ByteArray × Int)) ⊕ (((List S50) × Int × Unit × Int × Bool) × ((Int × Int × Nat × ByteArray × Int × ByteArray × Int × Nat × Nat × Int × ByteArray × ByteArray × Int) × (List S48) × (List S50) × (List S50)))) :=
 (brE (decide (i < (List.length (EC.encL ec_50 s) : Int)))
 (brE (number == 0)
 (gdE (decide (0 ≤ i)) <|
 (gdE ((decide ((Int.toNat i) < (List.length (EC.encL ec_50 s)))) && (isE [(K1.int Go.IntKind.i64), (K1.int Go.IntKind.i64), K1.sl, K1.str, (K1.int Go.IntKind.i64), K1.str, (K1.int Go.IntKind.i64), K1.sl, K1.sl, (K1.int Go.IntKind.i64), K1.str, K1.str, (K1.int Go.IntKind.i64)] 0 (List.getD (EC.encL ec_50 s) (Int.toNat i) []))) <|
 (gdE (EC.isL ec_48 (slOf (List.getD (List.getD (EC.encL ec_50 s) (Int.toNat i) []) 2 C.ne))) <|
 (gdE (EC.isL ec_50 (slOf (List.getD (List.getD (EC.encL ec_50 s) (Int.toNat i) []) 7 C.ne))) <|
 (gdE (EC.isL ec_50 (slOf (List.getD (List.getD (EC.encL ec_50 s) (Int.toNat i) []) 8 C.ne))) <|
 (some (.inl (((), true), ((intOf (List.getD (List.getD (EC.encL ec_50 s) (Int.toNat i) []) 0 C.ne)), ((intOf (List.getD (List.getD (EC.encL ec_50 s) (Int.toNat i) []) 1 C.ne)), ((EC.decL ec_48 (slOf (List.getD (List.getD (EC.encL ec_50 s) (Int.toNat i) []) 2 C.ne))), ((strOf (List.getD (List.getD (EC.encL ec_50 s) (Int.toNat i) []) 3 C.ne)), ((intOf (List.getD (List.getD (EC.encL ec_50 s) (Int.toNat i) []) 4 C.ne)), ((strOf (List.getD (List.getD (EC.encL ec_50 s) (Int.toNat i) []) 5 C.ne)), ((intOf (List.getD (List.getD (EC.encL ec_50 s) (Int.toNat i) []) 6 C.ne)), ((EC.decL ec_50 (slOf (List.getD (List.getD (EC.encL ec_50 s) (Int.toNat i) []) 7 C.ne))), ((EC.decL ec_50 (slOf (List.getD (List.getD (EC.encL ec_50 s) (Int.toNat i) []) 8 C.ne))), ((intOf (List.getD (List.getD (EC.encL ec_50 s) (Int.toNat i) []) 9 C.ne)), ((strOf (List.getD (List.getD (EC.encL ec_50 s) (Int.toNat i) []) 10 C.ne)), ((strOf (List.getD (List.getD (EC.encL ec_50 s) (Int.toNat i) []) 11 C.ne)), (intOf (List.getD (List.getD (EC.encL ec_50 s) (Int.toNat i) []) 12 C.ne))))))))))))))))))))))
 (gdE (decide (0 ≤ i)) <|
 (gdE ((decide ((Int.toNat i) < (List.length (EC.encL ec_50 s)))) && (isE [(K1.int Go.IntKind.i64), (K1.int Go.IntKind.i64), K1.sl, K1.str, (K1.int Go.IntKind.i64), K1.str, (K1.int Go.IntKind.i64), K1.sl, K1.sl, (K1.int Go.IntKind.i64), K1.str, K1.str, (K1.int Go.IntKind.i64)] 0 (List.getD (EC.encL ec_50 s) (Int.toNat i) []))) <|
 (gdE (EC.isL ec_50 (slOf (List.getD (List.getD (EC.encL ec_50 s) (Int.toNat i) []) 7 C.ne))) <|
 (Option.bind (qsh (EC.decL ec_50 (slOf (List.getD (List.getD (EC.encL ec_50 s) (Int.toNat i) []) 7 C.ne)))) fun r0 =>
 (brE (decide ((IntKind.wrap .i64 (number - 1)) < r0))
 (gdE (decide (0 ≤ i)) <|
 (gdE ((decide ((Int.toNat i) < (List.length (EC.encL ec_50 s)))) && (isE [(K1.int Go.IntKind.i64), (K1.int Go.IntKind.i64), K1.sl, K1.str, (K1.int Go.IntKind.i64), K1.str, (K1.int Go.IntKind.i64), K1.sl, K1.sl, (K1.int Go.IntKind.i64), K1.str, K1.str, (K1.int Go.IntKind.i64)] 0 (List.getD (EC.encL ec_50 s) (Int.toNat i) []))) <|
 (gdE (EC.isL ec_50 (slOf (List.getD (List.getD (EC.encL ec_50 s) (Int.toNat i) []) 7 C.ne))) <|
 (Option.bind (q1b8 (EC.decL ec_50 (slOf (List.getD (List.getD (EC.encL ec_50 s) (Int.toNat i) []) 7 C.ne))) (IntKind.wrap .i64 (number - 1))) fun r1 =>
 (gdE (EC.isL ec_48 (EC.encL ec_48 r1.1.2.2.1)) <|
 (gdE (EC.isL ec_50 (EC.encL ec_50 r1.1.2.2.2.2.2.2.2.1)) <|
 (gdE (EC.isL ec_50 (EC.encL ec_50 r1.1.2.2.2.2.2.2.2.2.1)) <|
 (some (.inl (((), r1.2), (r1.1.1, (r1.1.2.1, ((EC.decL ec_48 (EC.encL ec_48 r1.1.2.2.1)), (r1.1.2.2.2.1, (r1.1.2.2.2.2.1, (r1.1.2.2.2.2.2.1, (r1.1.2.2.2.2.2.2.1, ((EC.decL ec_50 (EC.encL ec_50 r1.1.2.2.2.2.2.2.2.1)), ((EC.decL ec_50 (EC.encL ec_50 r1.1.2.2.2.2.2.2.2.2.1)), (r1.1.2.2.2.2.2.2.2.2.2.1, (r1.1.2.2.2.2.2.2.2.2.2.2.1, (r1.1.2.2.2.2.2.2.2.2.2.2.2.1, r1.1.2.2.2.2.2.2.2.2.2.2.2.2))))))))))))))))))))))
 (gdE (decide (0 ≤ i)) <|
 (gdE ((decide ((Int.toNat i) < (List.length (EC.encL ec_50 s)))) && (isE [(K1.int Go.IntKind.i64), (K1.int Go.IntKind.i64), K1.sl, K1.str, (K1.int Go.IntKind.i64), K1.str, (K1.int Go.IntKind.i64), K1.sl, K1.sl, (K1.int Go.IntKind.i64), K1.str, K1.str, (K1.int Go.IntKind.i64)] 0 (List.getD (EC.encL ec_50 s) (Int.toNat i) []))) <|
 (gdE (EC.isL ec_50 (slOf (List.getD (List.getD (EC.encL ec_50 s) (Int.toNat i) []) 8 C.ne))) <|
 (Option.bind (qsh (EC.decL ec_50 (slOf (List.getD (List.getD (EC.encL ec_50 s) (Int.toNat i) []) 8 C.ne)))) fun r1 =>
 (brE (decide ((IntKind.wrap .i64 ((IntKind.wrap .i64 (number - 1)) - r0)) < r1))
 (gdE (decide (0 ≤ i)) <|
 (gdE ((decide ((Int.toNat i) < (List.length (EC.encL ec_50 s)))) && (isE [(K1.int Go.IntKind.i64), (K1.int Go.IntKind.i64), K1.sl, K1.str, (K1.int Go.IntKind.i64), K1.str, (K1.int Go.IntKind.i64), K1.sl, K1.sl, (K1.int Go.IntKind.i64), K1.str, K1.str, (K1.int Go.IntKind.i64)] 0 (List.getD (EC.encL ec_50 s) (Int.toNat i) []))) <|
 (gdE (EC.isL ec_50 (slOf (List.getD (List.getD (EC.encL ec_50 s) (Int.toNat i) []) 8 C.ne))) <|
 (Option.bind (q1b8 (EC.decL ec_50 (slOf (List.getD (List.getD (EC.encL ec_50 s) (Int.toNat i) []) 8 C.ne))) (IntKind.wrap .i64 ((IntKind.wrap .i64 (number - 1)) - r0))) fun r2 =>
 (gdE (EC.isL ec_48 (EC.encL ec_48 r2.1.2.2.1)) <|
 (gdE (EC.isL ec_50 (EC.encL ec_50 r2.1.2.2.2.2.2.2.2.1)) <|
 (gdE (EC.isL ec_50 (EC.encL ec_50 r2.1.2.2.2.2.2.2.2.2.1)) <|
 (some (.inl (((), r2.2), (r2.1.1, (r2.1.2.1, ((EC.decL ec_48 (EC.encL ec_48 r2.1.2.2.1)), (r2.1.2.2.2.1, (r2.1.2.2.2.2.1, (r2.1.2.2.2.2.2.1, (r2.1.2.2.2.2.2.2.1, ((EC.decL ec_50 (EC.encL ec_50 r2.1.2.2.2.2.2.2.2.1)), ((EC.decL ec_50 (EC.encL ec_50 r2.1.2.2.2.2.2.2.2.2.1)), (r2.1.2.2.2.2.2.2.2.2.2.1, (r2.1.2.2.2.2.2.2.2.2.2.2.1, (r2.1.2.2.2.2.2.2.2.2.2.2.2.1, r2.1.2.2.2.2.2.2.2.2.2.2.2.2))))))))))))))))))))))
 (gdE (EC.isL ec_50 (EC.encL ec_50 s)) <|
 (gdE (EC.isL ec_48 (EC.encL ec_48 b1)) <|
 (gdE (EC.isL ec_50 (EC.encL ec_50 b2)) <|
 (gdE (EC.isL ec_50 (EC.encL ec_50 b3)) <|
 (q1b0 (EC.decL ec_50 (EC.encL ec_50 s)) (IntKind.wrap .i64 ((IntKind.wrap .i64 ((IntKind.wrap .i64 (number - 1)) - r0)) - r1)) (IntKind.wrap .i64 (i + 1)) b0 b0_1 b0_2 b0_3 b0_4 b0_5 b0_6 b0_7 b0_8 b0_9 b0_10 b0_11 b0_12 (EC.decL ec_48 (EC.encL ec_48 b1)) (EC.decL ec_50 (EC.encL ec_50 b2)) (EC.decL ec_50 (EC.encL ec_50 b3))))))))))))))))))
 (gdE (EC.isL ec_50 (EC.encL ec_50 s)) <|
 (gdE (EC.isL ec_48 (EC.encL ec_48 b1)) <|
 (gdE (EC.isL ec_50 (EC.encL ec_50 b2)) <|
 (gdE (EC.isL ec_50 (EC.encL ec_50 b3)) <|
 (some (.inr (((EC.decL ec_50 (EC.encL ec_50 s)), (number, ((), (i, false)))), ((b0, (b0_1, (b0_2, (b0_3, (b0_4, (b0_5, (b0_6, (b0_7, (b0_8, (b0_9, (b0_10, (b0_11, b0_12)))))))))))), ((EC.decL ec_48 (EC.encL ec_48 b1)), ((EC.decL ec_50 (EC.encL ec_50 b2)), (EC.decL ec_50 (EC.encL ec_50 b3)))))))))))))
theorem q1b2 {s} {number} {i} {b0} {b0_1} {b0_2} {b0_3} {b0_4} {b0_5} {b0_6} {b0_7} {b0_8} {b0_9} {b0_10} {b0_11} {b0_12} {b1} {b2} {b3} {r} (h : q1b7 s number i b0 b0_1 b0_2 b0_3 b0_4 b0_5 b0_6 b0_7 b0_8 b0_9 b0_10 b0_11 b0_12 b1 b2 b3 = some r) : q1b0 s number i b0 b0_1 b0_2 b0_3 b0_4 b0_5 b0_6 b0_7 b0_8 b0_9 b0_10 b0_11 b0_12 b1 b2 b3 = some r :=
 qm5 (es := q1bw) (hs := qkj) [] (by kernel_rfl) trivial trivial (by kernel_rfl) h
def q1b1 := lentS Tryz.prog lv X0 2 (getLoop (cdF Tryz.f26) 2) q1b6 q1b3 (fun x => q1b0 x.1.1 x.1.2.1 x.1.2.2.2 x.2.1.1 x.2.1.2.1 x.2.1.2.2.1 x.2.1.2.2.2.1 x.2.1.2.2.2.2.1 x.2.1.2.2.2.2.2.1 x.2.1.2.2.2.2.2.2.1 x.2.1.2.2.2.2.2.2.2.1 x.2.1.2.2.2.2.2.2.2.2.1 x.2.1.2.2.2.2.2.2.2.2.2.1 x.2.1.2.2.2.2.2.2.2.2.2.2.1 x.2.1.2.2.2.2.2.2.2.2.2.2.2.1 x.2.1.2.2.2.2.2.2.2.2.2.2.2.2 x.2.2.1 x.2.2.2.1 x.2.2.2.2) (fun _ _ h => qm4 h)
def q1b9 (s : (List S50)) (number : Int) : Option ((Int × Int × (List S48) × ByteArray × Int × ByteArray × Int × (List S50) × (List S50) × Int × ByteArray × ByteArray × Int) × Bool) :=
 (gdE (EC.isL ec_50 (EC.encL ec_50 s)) <|
 (Option.bind (q1b0 (EC.decL ec_50 (EC.encL ec_50 s)) number 0 0 0 0 ⟨#[]⟩ 0 ⟨#[]⟩ 0 0 0 0 ⟨#[]⟩ ⟨#[]⟩ 0 (EC.decL ec_48 []) (EC.decL ec_50 []) (EC.decL ec_50 [])) fun r0 =>
 (Sum.elim (fun r1 => (gdE (EC.isL ec_48 (EC.encL ec_48 r1.2.2.2.1)) <|
 (gdE (EC.isL ec_50 (EC.encL ec_50 r1.2.2.2.2.2.2.2.2.1)) <|
 (gdE (EC.isL ec_50 (EC.encL ec_50 r1.2.2.2.2.2.2.2.2.2.1)) <|
 (some ((r1.2.1, (r1.2.2.1, ((EC.decL ec_48 (EC.encL ec_48 r1.2.2.2.1)), (r1.2.2.2.2.1, (r1.2.2.2.2.2.1, (r1.2.2.2.2.2.2.1, (r1.2.2.2.2.2.2.2.1, ((EC.decL ec_50 (EC.encL ec_50 r1.2.2.2.2.2.2.2.2.1)), ((EC.decL ec_50 (EC.encL ec_50 r1.2.2.2.2.2.2.2.2.2.1)), (r1.2.2.2.2.2.2.2.2.2.2.1, (r1.2.2.2.2.2.2.2.2.2.2.2.1, (r1.2.2.2.2.2.2.2.2.2.2.2.2.1, r1.2.2.2.2.2.2.2.2.2.2.2.2.2)))))))))))), r1.1.2))))))
 (fun r1 => (some ((0, (0, ((EC.decL ec_48 []), (⟨#[]⟩, (0, (⟨#[]⟩, (0, ((EC.decL ec_50 []), ((EC.decL ec_50 []), (0, (⟨#[]⟩, (⟨#[]⟩, 0)))))))))))), false))) r0)))
theorem q1az {s} {number} {r} (h : q1b9 s number = some r) : q1b8 s number = some r :=
 qf2 (es := q1bw) (hs := qkj) [q1b1] Tryz.func26 rfl (by kernel_rfl) rfl (by kernel_rfl) (by kernel_rfl) ⟨⟨_, rfl, rfl⟩, trivial⟩ trivial (by kernel_rfl) h
def q1aj := (lCons (vC (cSl ec_50)) (lOne (vAgg (lCons (vC cStr) (lCons (vC (cSl ec_118)) (lCons (vC cStr) (lCons (vC (cSl ec_55)) (lOne (vC (cSl ec_5))))))))))
def q1as := sLS [0, 5, 6, 8, 9] (lCons (vC (cSl ec_50)) (lCons (vRow 0) (lCons (vRow 1) (lCons (vRow 2) (lOne (vC (cInt .i64))))))) (lCons (oSome (bRow ec_62)) (lCons (oSome (bRow ec_45)) (lOne (oSome (bRow ec_45))))) [false, false, false] [] (by decide) (fun _ => rfl)
def q1ar := sLS [0, 5, 6, 8, 9, 26] (lCons (vC (cSl ec_50)) (lCons (vRow 0) (lCons (vRow 1) (lCons (vRow 2) (lCons (vC (cInt .i64)) (lOne (vC cBool))))))) (lCons (oSome (bRow ec_62)) (lCons (oSome (bRow ec_45)) (lOne (oSome (bRow ec_45))))) [false, false, false] [] (by decide) (fun _ => rfl)
def q1aq := sLS [4] (lOne (vC cBool)) lNil [] [] (by decide) (fun _ => rfl)
def q1ap := oOr 1 q1aq (oAt 2 q1ar) (fun x => (by decide : (2 : Nat) ≠ 1))
def q1am (s : (List S50)) (l : Nat) (a : Nat) (want : Nat) (i : Int) (b0 : (List S62)) (b1 : (List S45)) (b2 : (List S45)) : Option ((Bool × Unit) ⊕ (((List S50) × Nat × Nat × Nat × Int × Bool) × ((List S62) × (List S45) × (List S45)))) := lS Tryz.prog lv X0 8 64 (getLoop (cdF Tryz.f8) 6) q1as q1ap ((s, l, a, want, i), (b0, b1, b2))
def q1at (s : (List S50)) (l : Nat) (a : Nat) (want : Nat) (i : Int) (b0 : (List S62)) (b1 : (List S45)) (b2 : (List S45)) : Option ((Bool × Unit) ⊕ (((List S50) × Nat × Nat × Nat × Int × Bool) × ((List S62) × (List S45) × (List S45)))) :=
 (brE (decide (i < ((l : Nat) : Int)))
 (gdE ((decide (0 ≤ i)) && (decide (i < ((l : Nat) : Int)))) <|
 (gdE ((decide ((Int.toNat i) < (List.length (EC.encL ec_62 b0)))) && ((List.length (List.getD (EC.encL ec_62 b0) (Int.toNat i) [])) == 3)) <|
 (gdE (isP [(K1.int Go.IntKind.i64)] 0 (List.getD (EC.encL ec_62 b0) (Int.toNat i) [])) <|
 (gdE (EC.isL ec_50 (EC.encL ec_50 s)) <|
 (Option.bind (q1b8 (EC.decL ec_50 (EC.encL ec_50 s)) (intOf (List.getD (List.getD (EC.encL ec_62 b0) (Int.toNat i) []) 0 C.ne))) fun r0 =>
 (brE (!r0.2)
 (some (.inl (false, ())))
 (brE (r0.1.1 == 2)
 (gdE ((decide (0 ≤ i)) && (decide (i < ((l : Nat) : Int)))) <|
 (gdE ((decide ((Int.toNat i) < (List.length (EC.encL ec_62 b0)))) && ((List.length (List.getD (EC.encL ec_62 b0) (Int.toNat i) [])) == 3)) <|
 (gdE (isP [K1.str] 2 (List.getD (EC.encL ec_62 b0) (Int.toNat i) [])) <|
 (gdE ((((List.all [[(C.int Go.IntKind.i64 r0.1.2.2.2.2.2.2.2.2.2.1), (C.str (strOf (List.getD (List.getD (EC.encL ec_62 b0) (Int.toNat i) []) 2 C.ne))), (C.int Go.IntKind.i64 r0.1.2.2.2.2.2.2.2.2.2.2.2.2)]] (fun (el : (List C)) => ((List.length el) == 3))) && (List.all (EC.encL ec_45 b2) (fun (el : (List C)) => ((List.length el) == 3)))) && (decide (((((want + (List.length [[(C.int Go.IntKind.i64 r0.1.2.2.2.2.2.2.2.2.2.1), (C.str (strOf (List.getD (List.getD (EC.encL ec_62 b0) (Int.toNat i) []) 2 C.ne))), (C.int Go.IntKind.i64 r0.1.2.2.2.2.2.2.2.2.2.2.2.2)]])) + ((want + (List.length [[(C.int Go.IntKind.i64 r0.1.2.2.2.2.2.2.2.2.2.1), (C.str (strOf (List.getD (List.getD (EC.encL ec_62 b0) (Int.toNat i) []) 2 C.ne))), (C.int Go.IntKind.i64 r0.1.2.2.2.2.2.2.2.2.2.2.2.2)]])) / 4)) + 192) * 32) ≤ 281474976710656))) && (decide ((want + (List.length [[(C.int Go.IntKind.i64 r0.1.2.2.2.2.2.2.2.2.2.1), (C.str (strOf (List.getD (List.getD (EC.encL ec_62 b0) (Int.toNat i) []) 2 C.ne))), (C.int Go.IntKind.i64 r0.1.2.2.2.2.2.2.2.2.2.2.2.2)]])) ≤ 9223372036854775807))) <|
 (gdE (EC.isL ec_50 (EC.encL ec_50 s)) <|
 (gdE (EC.isL ec_62 (EC.encL ec_62 b0)) <|
 (gdE (EC.isL ec_45 (EC.encL ec_45 b1)) <|
 (gdE (EC.isL ec_45 ((EC.encL ec_45 b2) ++ [[(C.int Go.IntKind.i64 r0.1.2.2.2.2.2.2.2.2.2.1), (C.str (strOf (List.getD (List.getD (EC.encL ec_62 b0) (Int.toNat i) []) 2 C.ne))), (C.int Go.IntKind.i64 r0.1.2.2.2.2.2.2.2.2.2.2.2.2)]])) <|
 (q1am (EC.decL ec_50 (EC.encL ec_50 s)) l a (want + (List.length [[(C.int Go.IntKind.i64 r0.1.2.2.2.2.2.2.2.2.2.1), (C.str (strOf (List.getD (List.getD (EC.encL ec_62 b0) (Int.toNat i) []) 2 C.ne))), (C.int Go.IntKind.i64 r0.1.2.2.2.2.2.2.2.2.2.2.2.2)]])) (IntKind.wrap .i64 (i + 1)) (EC.decL ec_62 (EC.encL ec_62 b0)) (EC.decL ec_45 (EC.encL ec_45 b1)) (EC.decL ec_45 ((EC.encL ec_45 b2) ++ [[(C.int Go.IntKind.i64 r0.1.2.2.2.2.2.2.2.2.2.1), (C.str (strOf (List.getD (List.getD (EC.encL ec_62 b0) (Int.toNat i) []) 2 C.ne))), (C.int Go.IntKind.i64 r0.1.2.2.2.2.2.2.2.2.2.2.2.2)]])))))))))))
 (gdE (EC.isL ec_50 (EC.encL ec_50 s)) <|
 (gdE (EC.isL ec_62 (EC.encL ec_62 b0)) <|
 (gdE (EC.isL ec_45 (EC.encL ec_45 b1)) <|
 (gdE (EC.isL ec_45 (EC.encL ec_45 b2)) <|
 (q1am (EC.decL ec_50 (EC.encL ec_50 s)) l a want (IntKind.wrap .i64 (i + 1)) (EC.decL ec_62 (EC.encL ec_62 b0)) (EC.decL ec_45 (EC.encL ec_45 b1)) (EC.decL ec_45 (EC.encL ec_45 b2))))))))))))))
 (gdE (EC.isL ec_50 (EC.encL ec_50 s)) <|
 (gdE (EC.isL ec_62 (EC.encL ec_62 b0)) <|
 (gdE (EC.isL ec_45 (EC.encL ec_45 b1)) <|
 (gdE (EC.isL ec_45 (EC.encL ec_45 b2)) <|
 (some (.inr (((EC.decL ec_50 (EC.encL ec_50 s)), (l, (a, (want, (i, false))))), ((EC.decL ec_62 (EC.encL ec_62 b0)), ((EC.decL ec_45 (EC.encL ec_45 b1)), (EC.decL ec_45 (EC.encL ec_45 b2))))))))))))
theorem q1ao {s} {l} {a} {want} {i} {b0} {b1} {b2} {r} (h : q1at s l a want i b0 b1 b2 = some r) : q1am s l a want i b0 b1 b2 = some r :=
 qm5 (es := q1bw) (hs := qkj) [] (by kernel_rfl) trivial trivial (by kernel_rfl) h
def q1an := lentS Tryz.prog lv X0 6 (getLoop (cdF Tryz.f8) 6) q1as q1ap (fun x => q1am x.1.1 x.1.2.1 x.1.2.2.1 x.1.2.2.2.1 x.1.2.2.2.2 x.2.1 x.2.2.1 x.2.2.2) (fun _ _ h => qm4 h)
def q1ak : Cod (V × List B) Bool := (cFstU (cPair (vC cBool) lNil))
def q1au (s : (List S50)) (m_Envelope_From : ByteArray) (m_Envelope_To : (List S118)) (m_Envelope_Id : ByteArray) (m_Message_Fields : (List S55)) (m_Message_Body : (List Int)) : Option Bool := fS Tryz.prog lv X0 8 q1aj q1ak (s, (m_Envelope_From, m_Envelope_To, m_Envelope_Id, m_Message_Fields, m_Message_Body))
def q1av (s : (List S50)) (m_Envelope_From : ByteArray) (m_Envelope_To : (List S118)) (m_Envelope_Id : ByteArray) (m_Message_Fields : (List S55)) (m_Message_Body : (List Int)) : Option Bool :=
 (gdE (EC.isL ec_50 (EC.encL ec_50 s)) <|
 (gdE (EC.isL ec_118 (EC.encL ec_118 m_Envelope_To)) <|
 (gdE (EC.isL ec_55 (EC.encL ec_55 m_Message_Fields)) <|
 (gdE (EC.isL ec_5 (EC.encL ec_5 m_Message_Body)) <|
 (Option.bind (qey (EC.decL ec_50 (EC.encL ec_50 s)) m_Envelope_From (EC.decL ec_118 (EC.encL ec_118 m_Envelope_To)) m_Envelope_Id (EC.decL ec_55 (EC.encL ec_55 m_Message_Fields)) (EC.decL ec_5 (EC.encL ec_5 m_Message_Body))) fun r0 =>
 (brE (r0.1.2.2.1 != 0)
 (some true)
 (gdE (EC.isL ec_50 (EC.encL ec_50 s)) <|
 (gdE (EC.isL ec_62 (EC.encL ec_62 r0.2.1)) <|
 (gdE (EC.isL ec_45 (EC.encL ec_45 r0.2.2)) <|
 (Option.bind (q1am (EC.decL ec_50 (EC.encL ec_50 s)) r0.1.1 r0.1.2.1 0 0 (EC.decL ec_62 (EC.encL ec_62 r0.2.1)) (EC.decL ec_45 (EC.encL ec_45 r0.2.2)) (EC.decL ec_45 [])) fun r1 =>
 (Sum.elim (fun r2 => (some r2.1))
 (fun r2 => (gdE (EC.isL ec_45 (EC.encL ec_45 r2.2.2.2)) <|
 (Option.bind (q1bs (EC.decL ec_45 (EC.encL ec_45 r2.2.2.2))) fun r3 =>
 (gdE (EC.isL ec_45 (EC.encL ec_45 r2.2.2.1)) <|
 (gdE (EC.isL ec_45 (EC.encL ec_45 r3)) <|
 (Option.bind (q17v (EC.decL ec_45 (EC.encL ec_45 r2.2.2.1)) (EC.decL ec_45 (EC.encL ec_45 r3))) fun r4 =>
 (brE (r4 == true)
 (some true)
 (some false)))))))) r1)))))))))))
theorem q1al {s} {m_Envelope_From} {m_Envelope_To} {m_Envelope_Id} {m_Message_Fields} {m_Message_Body} {r} (h : q1av s m_Envelope_From m_Envelope_To m_Envelope_Id m_Message_Fields m_Message_Body = some r) : q1au s m_Envelope_From m_Envelope_To m_Envelope_Id m_Message_Fields m_Message_Body = some r :=
 qf2 (es := q1bw) (hs := qkj) [q1an] Tryz.func8 rfl (by kernel_rfl) rfl (by kernel_rfl) (by kernel_rfl) ⟨⟨_, rfl, rfl⟩, trivial⟩ trivial (by kernel_rfl) h
end
end Go.Proofs.YtokahibbkdbndaaGreatDoor
