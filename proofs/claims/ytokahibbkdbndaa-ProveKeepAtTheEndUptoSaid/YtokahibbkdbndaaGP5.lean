/- Functions of the program as plain functions: made by program from the machine. -/
import Derived.Test.YtokahibbkdbndaaGK
namespace Go.Proofs.Ytokahibbkdbndaa
open Go.RowKit
set_option maxRecDepth 100000
noncomputable section
def posthouselaw6_ProveMatchesSpec_ca : Cod (List V) (List S44) := (lOne (vC (cSl ec_44)))
def posthouselaw6_ProveMatchesSpec_l15_s : SC (((List S44) × Bool × Unit × Nat × Unit × (List S42) × Bool × Nat × Int × (List Int) × Int) × ((Int × Int) × (List Bool) × (Int × Int) × (List Bool))) := sLS [0, 3, 4, 5, 6, 8, 9, 10, 11, 12, 15] (lCons (vC (cSl ec_44)) (lCons (vC cBool) (lCons (vPtr 0 0) (lCons (vRow 1) (lCons (vPtr 2 0) (lCons (vC (cSl ec_42)) (lCons (vC cBool) (lCons (vRow 3) (lCons (vC (cInt .i64)) (lCons (vC (cSl ec_3)) (lOne (vC (cInt .i64))))))))))))) (lCons (oSome (bBox (lCons (vC (cInt .i64)) (lOne (vC (cInt .i64)))))) (lCons (oSome (bRow ec_4)) (lCons (oSome (bBox (lCons (vC (cInt .i64)) (lOne (vC (cInt .i64)))))) (lOne (oSome (bRow ec_4)))))) [false, false, false, false] [] (by decide) (fun _ => rfl)
def posthouselaw6_ProveMatchesSpec_l15_o4 : SC (((List S44) × Bool × Unit × Nat × Unit × (List S42) × Bool × Nat × Int × (List Int) × Int × Bool) × ((Int × Int) × (List Bool) × (Int × Int) × (List Bool))) := sLS [0, 3, 4, 5, 6, 8, 9, 10, 11, 12, 15, 81] (lCons (vC (cSl ec_44)) (lCons (vC cBool) (lCons (vPtr 0 0) (lCons (vRow 1) (lCons (vPtr 2 0) (lCons (vC (cSl ec_42)) (lCons (vC cBool) (lCons (vRow 3) (lCons (vC (cInt .i64)) (lCons (vC (cSl ec_3)) (lCons (vC (cInt .i64)) (lOne (vC cBool))))))))))))) (lCons (oSome (bBox (lCons (vC (cInt .i64)) (lOne (vC (cInt .i64)))))) (lCons (oSome (bRow ec_4)) (lCons (oSome (bBox (lCons (vC (cInt .i64)) (lOne (vC (cInt .i64)))))) (lOne (oSome (bRow ec_4)))))) [false, false, false, false] [] (by decide) (fun _ => rfl)
def posthouselaw6_ProveMatchesSpec_l15_o : OC (((List S44) × Bool × Unit × Nat × Unit × (List S42) × Bool × Nat × Int × (List Int) × Int × Bool) × ((Int × Int) × (List Bool) × (Int × Int) × (List Bool))) := oAt 4 posthouselaw6_ProveMatchesSpec_l15_o4
def posthouselaw6_ProveMatchesSpec_l15 (s : (List S44)) (is_ : Bool) (l : Nat) (tests : (List S42)) (want : Bool) (reached : Nat) (o : Int) (path : (List Int)) (i : Int) (b0 : Int) (b0_1 : Int) (b1 : (List Bool)) (b2 : Int) (b2_1 : Int) (b3 : (List Bool)) : Option (((List S44) × Bool × Unit × Nat × Unit × (List S42) × Bool × Nat × Int × (List Int) × Int × Bool) × ((Int × Int) × (List Bool) × (Int × Int) × (List Bool))) := lS Try.prog lv X0 3 126 (getLoop (cdF Try.f3) 15) posthouselaw6_ProveMatchesSpec_l15_s posthouselaw6_ProveMatchesSpec_l15_o ((s, is_, (), l, (), tests, want, reached, o, path, i), ((b0, b0_1), b1, (b2, b2_1), b3))
def posthouselaw6_ProveMatchesSpec_l15_t (s : (List S44)) (is_ : Bool) (l : Nat) (tests : (List S42)) (want : Bool) (reached : Nat) (o : Int) (path : (List Int)) (i : Int) (b0 : Int) (b0_1 : Int) (b1 : (List Bool)) (b2 : Int) (b2_1 : Int) (b3 : (List Bool)) : Option (((List S44) × Bool × Unit × Nat × Unit × (List S42) × Bool × Nat × Int × (List Int) × Int × Bool) × ((Int × Int) × (List Bool) × (Int × Int) × (List Bool))) :=
  (brE (decide (i < (((List.length (EC.encL ec_3 path)) : Nat) : Int)))
  (gdE (decide ((0 : Int) ≤ i)) <|
    (gdE ((decide ((Int.toNat i) < (List.length (EC.encL ec_3 path)))) && (isE [(K1.int Go.IntKind.i64)] (0 : Nat) (List.getD (EC.encL ec_3 path) (Int.toNat i) []))) <|
      (gdE ((decide ((0 : Int) ≤ (intOf (List.getD (List.getD (EC.encL ec_3 path) (Int.toNat i) []) (0 : Nat) C.ne)))) && (decide ((intOf (List.getD (List.getD (EC.encL ec_3 path) (Int.toNat i) []) (0 : Nat) C.ne)) < ((reached : Nat) : Int)))) <|
        (gdE ((decide ((Int.toNat (intOf (List.getD (List.getD (EC.encL ec_3 path) (Int.toNat i) []) (0 : Nat) C.ne))) < (List.length (EC.encL ec_4 b3)))) && ((List.length (List.getD (EC.encL ec_4 b3) (Int.toNat (intOf (List.getD (List.getD (EC.encL ec_3 path) (Int.toNat i) []) (0 : Nat) C.ne))) [])) == (1 : Nat))) <|
          (gdE (EC.isL ec_44 (EC.encL ec_44 s)) <|
            (gdE (EC.isL ec_42 (EC.encL ec_42 tests)) <|
              (gdE (EC.isL ec_3 (EC.encL ec_3 path)) <|
                (gdE (EC.isL ec_4 (EC.encL ec_4 b1)) <|
                  (gdE (EC.isL ec_4 (List.set (EC.encL ec_4 b3) (Int.toNat (intOf (List.getD (List.getD (EC.encL ec_3 path) (Int.toNat i) []) (0 : Nat) C.ne))) (splice (List.getD (EC.encL ec_4 b3) (Int.toNat (intOf (List.getD (List.getD (EC.encL ec_3 path) (Int.toNat i) []) (0 : Nat) C.ne))) []) (0 : Nat) [(C.bool true)]))) <|
                    (posthouselaw6_ProveMatchesSpec_l15 (EC.decL ec_44 (EC.encL ec_44 s)) is_ l (EC.decL ec_42 (EC.encL ec_42 tests)) want reached o (EC.decL ec_3 (EC.encL ec_3 path)) (Go.IntKind.wrap Go.IntKind.i64 (i + (1 : Int))) b0 b0_1 (EC.decL ec_4 (EC.encL ec_4 b1)) b2 b2_1 (EC.decL ec_4 (List.set (EC.encL ec_4 b3) (Int.toNat (intOf (List.getD (List.getD (EC.encL ec_3 path) (Int.toNat i) []) (0 : Nat) C.ne))) (splice (List.getD (EC.encL ec_4 b3) (Int.toNat (intOf (List.getD (List.getD (EC.encL ec_3 path) (Int.toNat i) []) (0 : Nat) C.ne))) []) (0 : Nat) [(C.bool true)])))))))))))))
  (gdE (EC.isL ec_44 (EC.encL ec_44 s)) <|
    (gdE (EC.isL ec_42 (EC.encL ec_42 tests)) <|
      (gdE (EC.isL ec_3 (EC.encL ec_3 path)) <|
        (gdE (EC.isL ec_4 (EC.encL ec_4 b1)) <|
          (gdE (EC.isL ec_4 (EC.encL ec_4 b3)) <|
            (some (((EC.decL ec_44 (EC.encL ec_44 s)), (is_, ((), (l, ((), ((EC.decL ec_42 (EC.encL ec_42 tests)), (want, (reached, (o, ((EC.decL ec_3 (EC.encL ec_3 path)), (i, false))))))))))), ((b0, b0_1), ((EC.decL ec_4 (EC.encL ec_4 b1)), ((b2, b2_1), (EC.decL ec_4 (EC.encL ec_4 b3)))))))))))))
theorem posthouselaw6_ProveMatchesSpec_l15_eq {s : (List S44)} {is_ : Bool} {l : Nat} {tests : (List S42)} {want : Bool} {reached : Nat} {o : Int} {path : (List Int)} {i : Int} {b0 : Int} {b0_1 : Int} {b1 : (List Bool)} {b2 : Int} {b2_1 : Int} {b3 : (List Bool)} {r : (((List S44) × Bool × Unit × Nat × Unit × (List S42) × Bool × Nat × Int × (List Int) × Int × Bool) × ((Int × Int) × (List Bool) × (Int × Int) × (List Bool)))} (h : posthouselaw6_ProveMatchesSpec_l15_t s is_ l tests want reached o path i b0 b0_1 b1 b2 b2_1 b3 = some r) : posthouselaw6_ProveMatchesSpec_l15 s is_ l tests want reached o path i b0 b0_1 b1 b2 b2_1 b3 = some r :=
  lS_tree (es := tabk) (hs := htab_prove_all_h14) [] (by kernel_rfl) trivial trivial (by kernel_rfl) h
def posthouselaw6_ProveMatchesSpec_l15_e : LEnt Try.prog lv X0 3 126 := lentS Try.prog lv X0 15 (getLoop (cdF Try.f3) 15) posthouselaw6_ProveMatchesSpec_l15_s posthouselaw6_ProveMatchesSpec_l15_o (fun x => posthouselaw6_ProveMatchesSpec_l15 x.1.1 x.1.2.1 x.1.2.2.2.1 x.1.2.2.2.2.2.1 x.1.2.2.2.2.2.2.1 x.1.2.2.2.2.2.2.2.1 x.1.2.2.2.2.2.2.2.2.1 x.1.2.2.2.2.2.2.2.2.2.1 x.1.2.2.2.2.2.2.2.2.2.2 x.2.1.1 x.2.1.2 x.2.2.1 x.2.2.2.1.1 x.2.2.2.1.2 x.2.2.2.2) (fun _ _ h => lS_from h)
def posthouselaw6_ProveMatchesSpec_l10_s : SC (((List S44) × Bool × Unit × Nat × Unit × (List S42) × Bool × Nat × Int) × ((Int × Int) × (List Bool) × (Int × Int) × (List Bool))) := sLS [0, 3, 4, 5, 6, 8, 9, 10, 11] (lCons (vC (cSl ec_44)) (lCons (vC cBool) (lCons (vPtr 0 0) (lCons (vRow 1) (lCons (vPtr 2 0) (lCons (vC (cSl ec_42)) (lCons (vC cBool) (lCons (vRow 3) (lOne (vC (cInt .i64))))))))))) (lCons (oSome (bBox (lCons (vC (cInt .i64)) (lOne (vC (cInt .i64)))))) (lCons (oSome (bRow ec_4)) (lCons (oSome (bBox (lCons (vC (cInt .i64)) (lOne (vC (cInt .i64)))))) (lOne (oSome (bRow ec_4)))))) [false, false, false, false] [] (by decide) (fun _ => rfl)
def posthouselaw6_ProveMatchesSpec_l10_o2 : SC (((List S44) × Bool × Unit × Nat × Unit × (List S42) × Bool × Nat × Int × Bool) × ((Int × Int) × (List Bool) × (Int × Int) × (List Bool))) := sLS [0, 3, 4, 5, 6, 8, 9, 10, 11, 62] (lCons (vC (cSl ec_44)) (lCons (vC cBool) (lCons (vPtr 0 0) (lCons (vRow 1) (lCons (vPtr 2 0) (lCons (vC (cSl ec_42)) (lCons (vC cBool) (lCons (vRow 3) (lCons (vC (cInt .i64)) (lOne (vC cBool))))))))))) (lCons (oSome (bBox (lCons (vC (cInt .i64)) (lOne (vC (cInt .i64)))))) (lCons (oSome (bRow ec_4)) (lCons (oSome (bBox (lCons (vC (cInt .i64)) (lOne (vC (cInt .i64)))))) (lOne (oSome (bRow ec_4)))))) [false, false, false, false] [] (by decide) (fun _ => rfl)
def posthouselaw6_ProveMatchesSpec_l10_o : OC (((List S44) × Bool × Unit × Nat × Unit × (List S42) × Bool × Nat × Int × Bool) × ((Int × Int) × (List Bool) × (Int × Int) × (List Bool))) := oAt 2 posthouselaw6_ProveMatchesSpec_l10_o2
def posthouselaw6_ProveMatchesSpec_l10 (s : (List S44)) (is_ : Bool) (l : Nat) (tests : (List S42)) (want : Bool) (reached : Nat) (o : Int) (b0 : Int) (b0_1 : Int) (b1 : (List Bool)) (b2 : Int) (b2_1 : Int) (b3 : (List Bool)) : Option (((List S44) × Bool × Unit × Nat × Unit × (List S42) × Bool × Nat × Int × Bool) × ((Int × Int) × (List Bool) × (Int × Int) × (List Bool))) := lS Try.prog lv X0 3 126 (getLoop (cdF Try.f3) 10) posthouselaw6_ProveMatchesSpec_l10_s posthouselaw6_ProveMatchesSpec_l10_o ((s, is_, (), l, (), tests, want, reached, o), ((b0, b0_1), b1, (b2, b2_1), b3))
def posthouselaw6_ProveMatchesSpec_l10_t (s : (List S44)) (is_ : Bool) (l : Nat) (tests : (List S42)) (want : Bool) (reached : Nat) (o : Int) (b0 : Int) (b0_1 : Int) (b1 : (List Bool)) (b2 : Int) (b2_1 : Int) (b3 : (List Bool)) : Option (((List S44) × Bool × Unit × Nat × Unit × (List S42) × Bool × Nat × Int × Bool) × ((Int × Int) × (List Bool) × (Int × Int) × (List Bool))) :=
  (brE (decide (o < (Go.IntKind.wrap Go.IntKind.i64 ((1 : Int) * ((2 : Int) ^ (Min.min (Int.toNat (Go.IntKind.wrap Go.IntKind.u64 (((List.length (EC.encL ec_42 tests)) : Nat) : Int))) (Go.IntKind.bits Go.IntKind.i64)))))))
  (gdE (EC.isL ec_42 (EC.encL ec_42 tests)) <|
    (gdE (EC.isL ec_44 (EC.encL ec_44 s)) <|
      (Option.bind (posthouseref6_Path_s (EC.decL ec_42 (EC.encL ec_42 tests)) o (EC.decL ec_44 (EC.encL ec_44 s)) (0 : Int)) fun r0 =>
        (brE (want == true)
          (gdE (EC.isL ec_3 (EC.encL ec_3 ((r0).2).1)) <|
            (Option.bind (posthouseref6_KeptBy_s (EC.decL ec_3 (EC.encL ec_3 ((r0).2).1))) fun r1 =>
              (gdE (EC.isL ec_44 (EC.encL ec_44 s)) <|
                (gdE (EC.isL ec_42 (EC.encL ec_42 tests)) <|
                  (gdE (EC.isL ec_3 (EC.encL ec_3 (r0).1)) <|
                    (gdE (EC.isL ec_4 (EC.encL ec_4 b1)) <|
                      (gdE (EC.isL ec_4 (EC.encL ec_4 b3)) <|
                        (Option.bind (posthouselaw6_ProveMatchesSpec_l15 (EC.decL ec_44 (EC.encL ec_44 s)) is_ l (EC.decL ec_42 (EC.encL ec_42 tests)) r1 reached o (EC.decL ec_3 (EC.encL ec_3 (r0).1)) (0 : Int) b0 b0_1 (EC.decL ec_4 (EC.encL ec_4 b1)) b2 b2_1 (EC.decL ec_4 (EC.encL ec_4 b3))) fun r2 =>
                          (gdE (EC.isL ec_44 (EC.encL ec_44 ((r2).1).1)) <|
                            (gdE (EC.isL ec_42 (EC.encL ec_42 (((((((r2).1).2).2).2).2).2).1)) <|
                              (gdE (EC.isL ec_4 (EC.encL ec_4 (((r2).2).2).1)) <|
                                (gdE (EC.isL ec_4 (EC.encL ec_4 ((((r2).2).2).2).2)) <|
                                  (posthouselaw6_ProveMatchesSpec_l10 (EC.decL ec_44 (EC.encL ec_44 ((r2).1).1)) (((r2).1).2).1 (((((r2).1).2).2).2).1 (EC.decL ec_42 (EC.encL ec_42 (((((((r2).1).2).2).2).2).2).1)) ((((((((r2).1).2).2).2).2).2).2).1 (((((((((r2).1).2).2).2).2).2).2).2).1 (Go.IntKind.wrap Go.IntKind.i64 (((((((((((r2).1).2).2).2).2).2).2).2).2).1 + (1 : Int))) (((r2).2).1).1 (((r2).2).1).2 (EC.decL ec_4 (EC.encL ec_4 (((r2).2).2).1)) (((((r2).2).2).2).1).1 (((((r2).2).2).2).1).2 (EC.decL ec_4 (EC.encL ec_4 ((((r2).2).2).2).2)))))))))))))))
          (gdE (EC.isL ec_44 (EC.encL ec_44 s)) <|
            (gdE (EC.isL ec_42 (EC.encL ec_42 tests)) <|
              (gdE (EC.isL ec_3 (EC.encL ec_3 (r0).1)) <|
                (gdE (EC.isL ec_4 (EC.encL ec_4 b1)) <|
                  (gdE (EC.isL ec_4 (EC.encL ec_4 b3)) <|
                    (Option.bind (posthouselaw6_ProveMatchesSpec_l15 (EC.decL ec_44 (EC.encL ec_44 s)) is_ l (EC.decL ec_42 (EC.encL ec_42 tests)) false reached o (EC.decL ec_3 (EC.encL ec_3 (r0).1)) (0 : Int) b0 b0_1 (EC.decL ec_4 (EC.encL ec_4 b1)) b2 b2_1 (EC.decL ec_4 (EC.encL ec_4 b3))) fun r1 =>
                      (gdE (EC.isL ec_44 (EC.encL ec_44 ((r1).1).1)) <|
                        (gdE (EC.isL ec_42 (EC.encL ec_42 (((((((r1).1).2).2).2).2).2).1)) <|
                          (gdE (EC.isL ec_4 (EC.encL ec_4 (((r1).2).2).1)) <|
                            (gdE (EC.isL ec_4 (EC.encL ec_4 ((((r1).2).2).2).2)) <|
                              (posthouselaw6_ProveMatchesSpec_l10 (EC.decL ec_44 (EC.encL ec_44 ((r1).1).1)) (((r1).1).2).1 (((((r1).1).2).2).2).1 (EC.decL ec_42 (EC.encL ec_42 (((((((r1).1).2).2).2).2).2).1)) ((((((((r1).1).2).2).2).2).2).2).1 (((((((((r1).1).2).2).2).2).2).2).2).1 (Go.IntKind.wrap Go.IntKind.i64 (((((((((((r1).1).2).2).2).2).2).2).2).2).1 + (1 : Int))) (((r1).2).1).1 (((r1).2).1).2 (EC.decL ec_4 (EC.encL ec_4 (((r1).2).2).1)) (((((r1).2).2).2).1).1 (((((r1).2).2).2).1).2 (EC.decL ec_4 (EC.encL ec_4 ((((r1).2).2).2).2)))))))))))))))))
  (gdE (EC.isL ec_44 (EC.encL ec_44 s)) <|
    (gdE (EC.isL ec_42 (EC.encL ec_42 tests)) <|
      (gdE (EC.isL ec_4 (EC.encL ec_4 b1)) <|
        (gdE (EC.isL ec_4 (EC.encL ec_4 b3)) <|
          (some (((EC.decL ec_44 (EC.encL ec_44 s)), (is_, ((), (l, ((), ((EC.decL ec_42 (EC.encL ec_42 tests)), (want, (reached, (o, false))))))))), ((b0, b0_1), ((EC.decL ec_4 (EC.encL ec_4 b1)), ((b2, b2_1), (EC.decL ec_4 (EC.encL ec_4 b3))))))))))))
theorem posthouselaw6_ProveMatchesSpec_l10_eq {s : (List S44)} {is_ : Bool} {l : Nat} {tests : (List S42)} {want : Bool} {reached : Nat} {o : Int} {b0 : Int} {b0_1 : Int} {b1 : (List Bool)} {b2 : Int} {b2_1 : Int} {b3 : (List Bool)} {r : (((List S44) × Bool × Unit × Nat × Unit × (List S42) × Bool × Nat × Int × Bool) × ((Int × Int) × (List Bool) × (Int × Int) × (List Bool)))} (h : posthouselaw6_ProveMatchesSpec_l10_t s is_ l tests want reached o b0 b0_1 b1 b2 b2_1 b3 = some r) : posthouselaw6_ProveMatchesSpec_l10 s is_ l tests want reached o b0 b0_1 b1 b2 b2_1 b3 = some r :=
  lS_tree (es := tabk) (hs := htab_prove_all_h14) [posthouselaw6_ProveMatchesSpec_l15_e] (by kernel_rfl) ⟨⟨_, rfl, rfl⟩, trivial⟩ trivial (by kernel_rfl) h
def posthouselaw6_ProveMatchesSpec_l10_e : LEnt Try.prog lv X0 3 126 := lentS Try.prog lv X0 10 (getLoop (cdF Try.f3) 10) posthouselaw6_ProveMatchesSpec_l10_s posthouselaw6_ProveMatchesSpec_l10_o (fun x => posthouselaw6_ProveMatchesSpec_l10 x.1.1 x.1.2.1 x.1.2.2.2.1 x.1.2.2.2.2.2.1 x.1.2.2.2.2.2.2.1 x.1.2.2.2.2.2.2.2.1 x.1.2.2.2.2.2.2.2.2 x.2.1.1 x.2.1.2 x.2.2.1 x.2.2.2.1.1 x.2.2.2.1.2 x.2.2.2.2) (fun _ _ h => lS_from h)
def posthouselaw6_ProveMatchesSpec_l21_s : SC ((Nat × Nat × Int) × ((List Bool) × (List Bool))) := sLS [5, 10, 16] (lCons (vRow 0) (lCons (vRow 1) (lOne (vC (cInt .i64))))) (lCons (oSome (bRow ec_4)) (lOne (oSome (bRow ec_4)))) [false, false] [] (by decide) (fun _ => rfl)
def posthouselaw6_ProveMatchesSpec_l21_o6 : SC ((Nat × Nat × Int × Bool) × ((List Bool) × (List Bool))) := sLS [5, 10, 16, 113] (lCons (vRow 0) (lCons (vRow 1) (lCons (vC (cInt .i64)) (lOne (vC cBool))))) (lCons (oSome (bRow ec_4)) (lOne (oSome (bRow ec_4)))) [false, false] [] (by decide) (fun _ => rfl)
def posthouselaw6_ProveMatchesSpec_l21_o1 : SC (Bool × Unit) := sLS [2] (lOne (vC cBool)) lNil [] [] (by decide) (fun _ => rfl)
def posthouselaw6_ProveMatchesSpec_l21_o : OC ((Bool × Unit) ⊕ ((Nat × Nat × Int × Bool) × ((List Bool) × (List Bool)))) := oOr 1 posthouselaw6_ProveMatchesSpec_l21_o1 (oAt 6 posthouselaw6_ProveMatchesSpec_l21_o6) (fun x => (by decide : (6 : Nat) ≠ 1))
def posthouselaw6_ProveMatchesSpec_l21 (l : Nat) (reached : Nat) (i : Int) (b0 : (List Bool)) (b1 : (List Bool)) : Option ((Bool × Unit) ⊕ ((Nat × Nat × Int × Bool) × ((List Bool) × (List Bool)))) := lS Try.prog lv X0 3 126 (getLoop (cdF Try.f3) 21) posthouselaw6_ProveMatchesSpec_l21_s posthouselaw6_ProveMatchesSpec_l21_o ((l, reached, i), (b0, b1))
def posthouselaw6_ProveMatchesSpec_l21_t (l : Nat) (reached : Nat) (i : Int) (b0 : (List Bool)) (b1 : (List Bool)) : Option ((Bool × Unit) ⊕ ((Nat × Nat × Int × Bool) × ((List Bool) × (List Bool)))) :=
  (brE (decide (i < ((l : Nat) : Int)))
  (gdE ((decide ((0 : Int) ≤ i)) && (decide (i < ((l : Nat) : Int)))) <|
    (gdE ((decide ((Int.toNat i) < (List.length (EC.encL ec_4 b0)))) && ((List.length (List.getD (EC.encL ec_4 b0) (Int.toNat i) [])) == (1 : Nat))) <|
      (gdE (isP [K1.bool] (0 : Nat) (List.getD (EC.encL ec_4 b0) (Int.toNat i) [])) <|
        (gdE ((decide ((0 : Int) ≤ i)) && (decide (i < ((reached : Nat) : Int)))) <|
          (gdE ((decide ((Int.toNat i) < (List.length (EC.encL ec_4 b1)))) && ((List.length (List.getD (EC.encL ec_4 b1) (Int.toNat i) [])) == (1 : Nat))) <|
            (gdE (isP [K1.bool] (0 : Nat) (List.getD (EC.encL ec_4 b1) (Int.toNat i) [])) <|
              (brE (!((boolOf (List.getD (List.getD (EC.encL ec_4 b0) (Int.toNat i) []) (0 : Nat) C.ne)) == (boolOf (List.getD (List.getD (EC.encL ec_4 b1) (Int.toNat i) []) (0 : Nat) C.ne))))
                (some (.inl (false, ())))
                (gdE (EC.isL ec_4 (EC.encL ec_4 b0)) <|
                  (gdE (EC.isL ec_4 (EC.encL ec_4 b1)) <|
                    (posthouselaw6_ProveMatchesSpec_l21 l reached (Go.IntKind.wrap Go.IntKind.i64 (i + (1 : Int))) (EC.decL ec_4 (EC.encL ec_4 b0)) (EC.decL ec_4 (EC.encL ec_4 b1))))))))))))
  (gdE (EC.isL ec_4 (EC.encL ec_4 b0)) <|
    (gdE (EC.isL ec_4 (EC.encL ec_4 b1)) <|
      (some (.inr ((l, (reached, (i, false))), ((EC.decL ec_4 (EC.encL ec_4 b0)), (EC.decL ec_4 (EC.encL ec_4 b1)))))))))
theorem posthouselaw6_ProveMatchesSpec_l21_eq {l : Nat} {reached : Nat} {i : Int} {b0 : (List Bool)} {b1 : (List Bool)} {r : ((Bool × Unit) ⊕ ((Nat × Nat × Int × Bool) × ((List Bool) × (List Bool))))} (h : posthouselaw6_ProveMatchesSpec_l21_t l reached i b0 b1 = some r) : posthouselaw6_ProveMatchesSpec_l21 l reached i b0 b1 = some r :=
  lS_tree (es := tabk) (hs := htab_prove_all_h14) [] (by kernel_rfl) trivial trivial (by kernel_rfl) h
def posthouselaw6_ProveMatchesSpec_l21_e : LEnt Try.prog lv X0 3 126 := lentS Try.prog lv X0 21 (getLoop (cdF Try.f3) 21) posthouselaw6_ProveMatchesSpec_l21_s posthouselaw6_ProveMatchesSpec_l21_o (fun x => posthouselaw6_ProveMatchesSpec_l21 x.1.1 x.1.2.1 x.1.2.2 x.2.1 x.2.2) (fun _ _ h => lS_from h)
def posthouselaw6_ProveMatchesSpec_cr : Cod (V × List B) Bool := (cFstU (cPair (vC cBool) lNil))
def posthouselaw6_ProveMatchesSpec_s (s : (List S44)) : Option Bool := fS Try.prog lv X0 3 posthouselaw6_ProveMatchesSpec_ca posthouselaw6_ProveMatchesSpec_cr s
def posthouselaw6_ProveMatchesSpec_t (s : (List S44)) : Option Bool :=
  (gdE (EC.isL ec_44 (EC.encL ec_44 s)) <|
  (Option.bind (prove_Keeps_s (EC.decL ec_44 (EC.encL ec_44 s))) fun r0 =>
    (gdE (EC.isL ec_44 (EC.encL ec_44 s)) <|
      (Option.bind (prove_Reachable_s (EC.decL ec_44 (EC.encL ec_44 s))) fun r1 =>
        (gdE (EC.isL ec_44 (EC.encL ec_44 s)) <|
          (Option.bind (posthouseref6_ProveFault_s (EC.decL ec_44 (EC.encL ec_44 s))) fun r2 =>
            (brE ((r2).1 != (0 : Int))
              (brE (((((r0).2).1 == (r2).1) && ((((r0).2).2 == (r2).2) && true)) == true)
                (brE ((((((r1).1).2).1 == (r2).1) && (((((r1).1).2).2 == (r2).2) && true)) == true)
                  (brE ((!(r0).1) == true)
                    (brE ((((((r1).1).1 : Nat) : Int) == (0 : Int)) == true)
                      (some true)
                      (some false))
                    (some false))
                  (some false))
                (some false))
              (gdE (EC.isL ec_44 (EC.encL ec_44 s)) <|
                (Option.bind (posthouseref6_SimpleTests_s (EC.decL ec_42 []) (EC.decL ec_44 (EC.encL ec_44 s))) fun r3 =>
                  (gdE (EC.isL ec_44 (EC.encL ec_44 s)) <|
                    (Option.bind (posthouseref6_Count_s (EC.decL ec_44 (EC.encL ec_44 s))) fun r4 =>
                      (gdE ((((decide (r4 = r4)) && (decide ((0 : Int) ≤ r4))) && (decide ((r4 * (((1 : Nat) : Nat) : Int)) ≤ (140737488355328 : Int)))) && (decide (r4 ≤ (9223372036854775807 : Int)))) <|
                        (gdE (EC.isL ec_44 (EC.encL ec_44 s)) <|
                          (gdE (EC.isL ec_42 (EC.encL ec_42 r3)) <|
                            (gdE (EC.isL ec_4 (EC.encL ec_4 (r1).2)) <|
                              (gdE (EC.isL ec_4 (List.replicate (Int.toNat r4) [(C.bool false)])) <|
                                (Option.bind (posthouselaw6_ProveMatchesSpec_l10 (EC.decL ec_44 (EC.encL ec_44 s)) (r0).1 ((r1).1).1 (EC.decL ec_42 (EC.encL ec_42 r3)) true (Int.toNat r4) (0 : Int) ((r0).2).1 ((r0).2).2 (EC.decL ec_4 (EC.encL ec_4 (r1).2)) (((r1).1).2).1 (((r1).1).2).2 (EC.decL ec_4 (List.replicate (Int.toNat r4) [(C.bool false)]))) fun r5 =>
                                  (brE (((((r5).2).1).1 != (0 : Int)) == false)
                                    (brE (((((((r5).2).2).2).1).1 != (0 : Int)) == false)
                                      (brE ((!((((r5).1).2).1 == ((((((((r5).1).2).2).2).2).2).2).1)) == false)
                                        (brE ((((((((r5).1).2).2).2).1 : Nat) : Int) != (((((((((((r5).1).2).2).2).2).2).2).2).1 : Nat) : Int))
                                          (some false)
                                          (gdE (EC.isL ec_4 (EC.encL ec_4 (((r5).2).2).1)) <|
                                            (gdE (EC.isL ec_4 (EC.encL ec_4 ((((r5).2).2).2).2)) <|
                                              (Option.bind (posthouselaw6_ProveMatchesSpec_l21 (((((r5).1).2).2).2).1 (((((((((r5).1).2).2).2).2).2).2).2).1 (0 : Int) (EC.decL ec_4 (EC.encL ec_4 (((r5).2).2).1)) (EC.decL ec_4 (EC.encL ec_4 ((((r5).2).2).2).2))) fun r6 =>
                                                (Sum.elim (fun r7 => (some (r7).1))
                                                  (fun r7 => (some true)) r6)))))
                                        (some false))
                                      (some false))
                                    (some false)))))))))))))))))))
theorem posthouselaw6_ProveMatchesSpec_eq {s : (List S44)} {r : Bool} (h : posthouselaw6_ProveMatchesSpec_t s = some r) : posthouselaw6_ProveMatchesSpec_s s = some r :=
  fS_tree (es := tabk) (hs := htab_prove_all_h14) [posthouselaw6_ProveMatchesSpec_l10_e, posthouselaw6_ProveMatchesSpec_l21_e] Try.func3 rfl (by kernel_rfl) rfl (by kernel_rfl) (by kernel_rfl) ⟨⟨_, rfl, rfl⟩, ⟨_, rfl, rfl⟩, trivial⟩ trivial (by kernel_rfl) h
def posthouselaw6_ProveMatchesSpec_e : Ent Try.prog lv X0 := entS Try.prog lv X0 3 [] posthouselaw6_ProveMatchesSpec_ca posthouselaw6_ProveMatchesSpec_cr (fun x => posthouselaw6_ProveMatchesSpec_s x) (fun _ _ h => fS_call h)
def tab_posthouselaw6_ProveMatchesSpec : List (Ent Try.prog lv X0) := posthouselaw6_ProveMatchesSpec_e :: tabk
def posthouselaw6_ProveKeepAtTheEnd_ca : Cod (List V) (List S44) := (lOne (vC (cSl ec_44)))
def posthouselaw6_ProveKeepAtTheEnd_l10_s : SC ((Nat × Nat × Int) × ((List Bool) × (List Bool))) := sLS [4, 8, 10] (lCons (vRow 0) (lCons (vRow 1) (lOne (vC (cInt .i64))))) (lCons (oSome (bRow ec_4)) (lOne (oSome (bRow ec_4)))) [false, false] [] (by decide) (fun _ => rfl)
def posthouselaw6_ProveKeepAtTheEnd_l10_o2 : SC ((Nat × Nat × Int × Bool) × ((List Bool) × (List Bool))) := sLS [4, 8, 10, 82] (lCons (vRow 0) (lCons (vRow 1) (lCons (vC (cInt .i64)) (lOne (vC cBool))))) (lCons (oSome (bRow ec_4)) (lOne (oSome (bRow ec_4)))) [false, false] [] (by decide) (fun _ => rfl)
def posthouselaw6_ProveKeepAtTheEnd_l10_o1 : SC (Bool × Unit) := sLS [2] (lOne (vC cBool)) lNil [] [] (by decide) (fun _ => rfl)
def posthouselaw6_ProveKeepAtTheEnd_l10_o : OC ((Bool × Unit) ⊕ ((Nat × Nat × Int × Bool) × ((List Bool) × (List Bool)))) := oOr 1 posthouselaw6_ProveKeepAtTheEnd_l10_o1 (oAt 2 posthouselaw6_ProveKeepAtTheEnd_l10_o2) (fun x => (by decide : (2 : Nat) ≠ 1))
def posthouselaw6_ProveKeepAtTheEnd_l10 (l : Nat) (k : Nat) (i : Int) (b0 : (List Bool)) (b1 : (List Bool)) : Option ((Bool × Unit) ⊕ ((Nat × Nat × Int × Bool) × ((List Bool) × (List Bool)))) := lS Try.prog lv X0 4 96 (getLoop (cdF Try.f4) 10) posthouselaw6_ProveKeepAtTheEnd_l10_s posthouselaw6_ProveKeepAtTheEnd_l10_o ((l, k, i), (b0, b1))
def posthouselaw6_ProveKeepAtTheEnd_l10_t (l : Nat) (k : Nat) (i : Int) (b0 : (List Bool)) (b1 : (List Bool)) : Option ((Bool × Unit) ⊕ ((Nat × Nat × Int × Bool) × ((List Bool) × (List Bool)))) :=
  (brE (decide (i < ((l : Nat) : Int)))
  (gdE ((decide ((0 : Int) ≤ i)) && (decide (i < ((l : Nat) : Int)))) <|
    (gdE ((decide ((Int.toNat i) < (List.length (EC.encL ec_4 b0)))) && ((List.length (List.getD (EC.encL ec_4 b0) (Int.toNat i) [])) == (1 : Nat))) <|
      (gdE (isP [K1.bool] (0 : Nat) (List.getD (EC.encL ec_4 b0) (Int.toNat i) [])) <|
        (gdE ((decide ((0 : Int) ≤ (Go.IntKind.wrap Go.IntKind.i64 (i + (1 : Int))))) && (decide ((Go.IntKind.wrap Go.IntKind.i64 (i + (1 : Int))) < ((k : Nat) : Int)))) <|
          (gdE ((decide ((Int.toNat (Go.IntKind.wrap Go.IntKind.i64 (i + (1 : Int)))) < (List.length (EC.encL ec_4 b1)))) && ((List.length (List.getD (EC.encL ec_4 b1) (Int.toNat (Go.IntKind.wrap Go.IntKind.i64 (i + (1 : Int)))) [])) == (1 : Nat))) <|
            (gdE (isP [K1.bool] (0 : Nat) (List.getD (EC.encL ec_4 b1) (Int.toNat (Go.IntKind.wrap Go.IntKind.i64 (i + (1 : Int)))) [])) <|
              (brE (!((boolOf (List.getD (List.getD (EC.encL ec_4 b0) (Int.toNat i) []) (0 : Nat) C.ne)) == (boolOf (List.getD (List.getD (EC.encL ec_4 b1) (Int.toNat (Go.IntKind.wrap Go.IntKind.i64 (i + (1 : Int)))) []) (0 : Nat) C.ne))))
                (some (.inl (false, ())))
                (gdE (EC.isL ec_4 (EC.encL ec_4 b0)) <|
                  (gdE (EC.isL ec_4 (EC.encL ec_4 b1)) <|
                    (posthouselaw6_ProveKeepAtTheEnd_l10 l k (Go.IntKind.wrap Go.IntKind.i64 (i + (1 : Int))) (EC.decL ec_4 (EC.encL ec_4 b0)) (EC.decL ec_4 (EC.encL ec_4 b1))))))))))))
  (gdE (EC.isL ec_4 (EC.encL ec_4 b0)) <|
    (gdE (EC.isL ec_4 (EC.encL ec_4 b1)) <|
      (some (.inr ((l, (k, (i, false))), ((EC.decL ec_4 (EC.encL ec_4 b0)), (EC.decL ec_4 (EC.encL ec_4 b1)))))))))
theorem posthouselaw6_ProveKeepAtTheEnd_l10_eq {l : Nat} {k : Nat} {i : Int} {b0 : (List Bool)} {b1 : (List Bool)} {r : ((Bool × Unit) ⊕ ((Nat × Nat × Int × Bool) × ((List Bool) × (List Bool))))} (h : posthouselaw6_ProveKeepAtTheEnd_l10_t l k i b0 b1 = some r) : posthouselaw6_ProveKeepAtTheEnd_l10 l k i b0 b1 = some r :=
  lS_tree (es := tab_posthouselaw6_ProveMatchesSpec) (hs := htab_prove_all_h14) [] (by kernel_rfl) trivial trivial (by kernel_rfl) h
def posthouselaw6_ProveKeepAtTheEnd_l10_e : LEnt Try.prog lv X0 4 96 := lentS Try.prog lv X0 10 (getLoop (cdF Try.f4) 10) posthouselaw6_ProveKeepAtTheEnd_l10_s posthouselaw6_ProveKeepAtTheEnd_l10_o (fun x => posthouselaw6_ProveKeepAtTheEnd_l10 x.1.1 x.1.2.1 x.1.2.2 x.2.1 x.2.2) (fun _ _ h => lS_from h)
def posthouselaw6_ProveKeepAtTheEnd_cr : Cod (V × List B) Bool := (cFstU (cPair (vC cBool) lNil))
def posthouselaw6_ProveKeepAtTheEnd_s (s : (List S44)) : Option Bool := fS Try.prog lv X0 4 posthouselaw6_ProveKeepAtTheEnd_ca posthouselaw6_ProveKeepAtTheEnd_cr s
def posthouselaw6_ProveKeepAtTheEnd_t (s : (List S44)) : Option Bool :=
  (gdE ((((List.all (EC.encL ec_44 s) (fun (el : (List C)) => ((List.length el) == (13 : Nat)))) && (List.all [[(C.int Go.IntKind.i64 (2 : Int)), (C.int Go.IntKind.i64 (0 : Int)), (C.sl []), (C.str (ByteArray.mk (List.toArray []))), (C.int Go.IntKind.i64 (0 : Int)), (C.str (ByteArray.mk (List.toArray []))), (C.int Go.IntKind.i64 (0 : Int)), (C.sl []), (C.sl []), (C.int Go.IntKind.i64 (1 : Int)), (C.str (ByteArray.mk (List.toArray []))), (C.str (ByteArray.mk (List.toArray []))), (C.int Go.IntKind.i64 (0 : Int))]] (fun (el : (List C)) => ((List.length el) == (13 : Nat))))) && (decide ((((((1 : Nat) + (List.length (EC.encL ec_44 s))) + (((1 : Nat) + (List.length (EC.encL ec_44 s))) / (4 : Nat))) + (192 : Nat)) * (184 : Nat)) ≤ (281474976710656 : Nat)))) && (decide (((1 : Nat) + (List.length (EC.encL ec_44 s))) ≤ (9223372036854775807 : Nat)))) <|
  (gdE (EC.isL ec_44 (EC.encL ec_44 s)) <|
    (Option.bind (prove_Reachable_s (EC.decL ec_44 (EC.encL ec_44 s))) fun r0 =>
      (gdE (EC.isL ec_44 ([[(C.int Go.IntKind.i64 (2 : Int)), (C.int Go.IntKind.i64 (0 : Int)), (C.sl []), (C.str (ByteArray.mk (List.toArray []))), (C.int Go.IntKind.i64 (0 : Int)), (C.str (ByteArray.mk (List.toArray []))), (C.int Go.IntKind.i64 (0 : Int)), (C.sl []), (C.sl []), (C.int Go.IntKind.i64 (1 : Int)), (C.str (ByteArray.mk (List.toArray []))), (C.str (ByteArray.mk (List.toArray []))), (C.int Go.IntKind.i64 (0 : Int))]] ++ (EC.encL ec_44 s))) <|
        (Option.bind (prove_Keeps_s (EC.decL ec_44 ([[(C.int Go.IntKind.i64 (2 : Int)), (C.int Go.IntKind.i64 (0 : Int)), (C.sl []), (C.str (ByteArray.mk (List.toArray []))), (C.int Go.IntKind.i64 (0 : Int)), (C.str (ByteArray.mk (List.toArray []))), (C.int Go.IntKind.i64 (0 : Int)), (C.sl []), (C.sl []), (C.int Go.IntKind.i64 (1 : Int)), (C.str (ByteArray.mk (List.toArray []))), (C.str (ByteArray.mk (List.toArray []))), (C.int Go.IntKind.i64 (0 : Int))]] ++ (EC.encL ec_44 s)))) fun r1 =>
          (gdE (EC.isL ec_44 ([[(C.int Go.IntKind.i64 (2 : Int)), (C.int Go.IntKind.i64 (0 : Int)), (C.sl []), (C.str (ByteArray.mk (List.toArray []))), (C.int Go.IntKind.i64 (0 : Int)), (C.str (ByteArray.mk (List.toArray []))), (C.int Go.IntKind.i64 (0 : Int)), (C.sl []), (C.sl []), (C.int Go.IntKind.i64 (1 : Int)), (C.str (ByteArray.mk (List.toArray []))), (C.str (ByteArray.mk (List.toArray []))), (C.int Go.IntKind.i64 (0 : Int))]] ++ (EC.encL ec_44 s))) <|
            (Option.bind (prove_Reachable_s (EC.decL ec_44 ([[(C.int Go.IntKind.i64 (2 : Int)), (C.int Go.IntKind.i64 (0 : Int)), (C.sl []), (C.str (ByteArray.mk (List.toArray []))), (C.int Go.IntKind.i64 (0 : Int)), (C.str (ByteArray.mk (List.toArray []))), (C.int Go.IntKind.i64 (0 : Int)), (C.sl []), (C.sl []), (C.int Go.IntKind.i64 (1 : Int)), (C.str (ByteArray.mk (List.toArray []))), (C.str (ByteArray.mk (List.toArray []))), (C.int Go.IntKind.i64 (0 : Int))]] ++ (EC.encL ec_44 s)))) fun r2 =>
              (brE (((((r0).1).2).1 != (0 : Int)) == false)
                (brE ((((r1).2).1 != (0 : Int)) == false)
                  (brE ((((r2).1).2).1 != (0 : Int))
                    (brE ((((((r0).1).2).1 != (0 : Int)) == (((r1).2).1 != (0 : Int))) == true)
                      (brE (((((r1).2).1 == (((r2).1).2).1) && ((((r1).2).2 == (((r2).1).2).2) && true)) == false)
                        (gdE (EC.isL ec_44 (EC.encL ec_44 s)) <|
                          (Option.bind (posthouseref6_Count_s (EC.decL ec_44 (EC.encL ec_44 s))) fun r3 =>
                            (brE ((r3 == (100 : Int)) == true)
                              (some true)
                              (some false))))
                        (some true))
                      (gdE (EC.isL ec_44 (EC.encL ec_44 s)) <|
                        (Option.bind (posthouseref6_Count_s (EC.decL ec_44 (EC.encL ec_44 s))) fun r3 =>
                          (brE ((r3 == (100 : Int)) == true)
                            (some true)
                            (some false)))))
                    (brE ((!(r1).1) == false)
                      (brE ((((((r2).1).1 : Nat) : Int) != (Go.IntKind.wrap Go.IntKind.i64 (((((r0).1).1 : Nat) : Int) + (1 : Int)))) == false)
                        (gdE ((decide ((0 : Int) ≤ (0 : Int))) && (decide ((0 : Int) < ((((r2).1).1 : Nat) : Int)))) <|
                          (gdE ((decide ((Int.toNat (0 : Int)) < (List.length (EC.encL ec_4 (r2).2)))) && ((List.length (List.getD (EC.encL ec_4 (r2).2) (Int.toNat (0 : Int)) [])) == (1 : Nat))) <|
                            (gdE (isP [K1.bool] (0 : Nat) (List.getD (EC.encL ec_4 (r2).2) (Int.toNat (0 : Int)) [])) <|
                              (brE (!(boolOf (List.getD (List.getD (EC.encL ec_4 (r2).2) (Int.toNat (0 : Int)) []) (0 : Nat) C.ne)))
                                (some false)
                                (gdE (EC.isL ec_4 (EC.encL ec_4 (r0).2)) <|
                                  (gdE (EC.isL ec_4 (EC.encL ec_4 (r2).2)) <|
                                    (Option.bind (posthouselaw6_ProveKeepAtTheEnd_l10 ((r0).1).1 ((r2).1).1 (0 : Int) (EC.decL ec_4 (EC.encL ec_4 (r0).2)) (EC.decL ec_4 (EC.encL ec_4 (r2).2))) fun r3 =>
                                      (Sum.elim (fun r4 => (some (r4).1))
                                        (fun r4 => (some true)) r3))))))))
                        (some false))
                      (some false)))
                  (brE ((((((r0).1).2).1 != (0 : Int)) == (((r1).2).1 != (0 : Int))) == true)
                    (brE (((((r1).2).1 == (((r2).1).2).1) && ((((r1).2).2 == (((r2).1).2).2) && true)) == false)
                      (gdE (EC.isL ec_44 (EC.encL ec_44 s)) <|
                        (Option.bind (posthouseref6_Count_s (EC.decL ec_44 (EC.encL ec_44 s))) fun r3 =>
                          (brE ((r3 == (100 : Int)) == true)
                            (some true)
                            (some false))))
                      (some true))
                    (gdE (EC.isL ec_44 (EC.encL ec_44 s)) <|
                      (Option.bind (posthouseref6_Count_s (EC.decL ec_44 (EC.encL ec_44 s))) fun r3 =>
                        (brE ((r3 == (100 : Int)) == true)
                          (some true)
                          (some false))))))
                (brE ((((((r0).1).2).1 != (0 : Int)) == (((r1).2).1 != (0 : Int))) == true)
                  (brE (((((r1).2).1 == (((r2).1).2).1) && ((((r1).2).2 == (((r2).1).2).2) && true)) == false)
                    (gdE (EC.isL ec_44 (EC.encL ec_44 s)) <|
                      (Option.bind (posthouseref6_Count_s (EC.decL ec_44 (EC.encL ec_44 s))) fun r3 =>
                        (brE ((r3 == (100 : Int)) == true)
                          (some true)
                          (some false))))
                    (some true))
                  (gdE (EC.isL ec_44 (EC.encL ec_44 s)) <|
                    (Option.bind (posthouseref6_Count_s (EC.decL ec_44 (EC.encL ec_44 s))) fun r3 =>
                      (brE ((r3 == (100 : Int)) == true)
                        (some true)
                        (some false)))))))))))))
theorem posthouselaw6_ProveKeepAtTheEnd_eq {s : (List S44)} {r : Bool} (h : posthouselaw6_ProveKeepAtTheEnd_t s = some r) : posthouselaw6_ProveKeepAtTheEnd_s s = some r :=
  fS_tree (es := tab_posthouselaw6_ProveMatchesSpec) (hs := htab_prove_all_h14) [posthouselaw6_ProveKeepAtTheEnd_l10_e] Try.func4 rfl (by kernel_rfl) rfl (by kernel_rfl) (by kernel_rfl) ⟨⟨_, rfl, rfl⟩, trivial⟩ trivial (by kernel_rfl) h
def posthouselaw6_ProveKeepAtTheEnd_e : Ent Try.prog lv X0 := entS Try.prog lv X0 4 [] posthouselaw6_ProveKeepAtTheEnd_ca posthouselaw6_ProveKeepAtTheEnd_cr (fun x => posthouselaw6_ProveKeepAtTheEnd_s x) (fun _ _ h => fS_call h)
def tab_posthouselaw6_ProveKeepAtTheEnd : List (Ent Try.prog lv X0) := posthouselaw6_ProveKeepAtTheEnd_e :: tab_posthouselaw6_ProveMatchesSpec
end
end Go.Proofs.Ytokahibbkdbndaa
