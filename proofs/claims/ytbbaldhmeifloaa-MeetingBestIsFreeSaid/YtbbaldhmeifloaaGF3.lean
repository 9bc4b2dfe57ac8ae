/- Functions of the program as plain functions: made by program from the machine. -/
import Derived.Test.YtbbaldhmeifloaaGC
namespace Go.Proofs.Ytbbaldhmeifloaa
open Go.RowKit
set_option maxRecDepth 100000
def basic_Fault_ca : Cod (List V) (Int × Int) := (lCons (vC (cInt .i64)) (lOne (vC (cInt .i64))))
def basic_Fault_cr : Cod (V × List B) (Int × Int) := (cFstU (cPair (vAgg (lCons (vC (cInt .i64)) (lOne (vC (cInt .i64))))) lNil))
noncomputable def basic_Fault_s (code : Int) (at_ : Int) : Option (Int × Int) := fS Try.prog lv X2 50 basic_Fault_ca basic_Fault_cr (code, at_)
noncomputable def basic_Fault_t (code : Int) (at_ : Int) : Option (Int × Int) :=
  (some (code, at_))
theorem basic_Fault_eq {code : Int} {at_ : Int} {r : (Int × Int)} (h : basic_Fault_t code at_ = some r) : basic_Fault_s code at_ = some r :=
  fS_tree (es := tab2) (hs := []) [] Try.func50 rfl (by kernel_rfl) rfl (by kernel_rfl) (by kernel_rfl) trivial trivial (by kernel_rfl) h
noncomputable def basic_Fault_e : Ent Try.prog lv X2 := entS Try.prog lv X2 50 [] basic_Fault_ca basic_Fault_cr (fun x => basic_Fault_s x.1 x.2) (fun _ _ h => fS_call h)
noncomputable def tab_basic_Fault : List (Ent Try.prog lv X2) := basic_Fault_e :: tab2
def basic_None_ca : Cod (List V) Unit := lNil
def basic_None_cr : Cod (V × List B) (Int × Int) := (cFstU (cPair (vAgg (lCons (vC (cInt .i64)) (lOne (vC (cInt .i64))))) lNil))
noncomputable def basic_None_s  : Option (Int × Int) := fS Try.prog lv X2 45 basic_None_ca basic_None_cr ()
noncomputable def basic_None_t  : Option (Int × Int) :=
  (some ((0 : Int), (0 : Int)))
theorem basic_None_eq {r : (Int × Int)} (h : basic_None_t  = some r) : basic_None_s  = some r :=
  fS_tree (es := tab_basic_Fault) (hs := []) [] Try.func45 rfl (by kernel_rfl) rfl (by kernel_rfl) (by kernel_rfl) trivial trivial (by kernel_rfl) h
noncomputable def basic_None_e : Ent Try.prog lv X2 := entS Try.prog lv X2 45 [] basic_None_ca basic_None_cr (fun x => basic_None_s ) (fun _ _ h => fS_call h)
noncomputable def tab_basic_None : List (Ent Try.prog lv X2) := basic_None_e :: tab_basic_Fault
def basic_Failed_ca : Cod (List V) (Int × Int) := (lOne (vAgg (lCons (vC (cInt .i64)) (lOne (vC (cInt .i64))))))
def basic_Failed_cr : Cod (V × List B) Bool := (cFstU (cPair (vC cBool) lNil))
noncomputable def basic_Failed_s (f_Code : Int) (f_Index : Int) : Option Bool := fS Try.prog lv X2 36 basic_Failed_ca basic_Failed_cr (f_Code, f_Index)
noncomputable def basic_Failed_t (f_Code : Int) (f_Index : Int) : Option Bool :=
  (some (f_Code != (0 : Int)))
theorem basic_Failed_eq {f_Code : Int} {f_Index : Int} {r : Bool} (h : basic_Failed_t f_Code f_Index = some r) : basic_Failed_s f_Code f_Index = some r :=
  fS_tree (es := tab_basic_None) (hs := []) [] Try.func36 rfl (by kernel_rfl) rfl (by kernel_rfl) (by kernel_rfl) trivial trivial (by kernel_rfl) h
noncomputable def basic_Failed_e : Ent Try.prog lv X2 := entS Try.prog lv X2 36 [] basic_Failed_ca basic_Failed_cr (fun x => basic_Failed_s x.1 x.2) (fun _ _ h => fS_call h)
noncomputable def tab_basic_Failed : List (Ent Try.prog lv X2) := basic_Failed_e :: tab_basic_None
def basic_Time_ca : Cod (List V) Int := (lOne (vC (cInt .i64)))
def basic_Time_cr : Cod (V × List B) Bool := (cFstU (cPair (vC cBool) lNil))
noncomputable def basic_Time_s (t : Int) : Option Bool := fS Try.prog lv X2 64 basic_Time_ca basic_Time_cr t
noncomputable def basic_Time_t (t : Int) : Option Bool :=
  (brE ((decide (t ≥ (-(68719476736 : Int)))) == true)
  (some (decide (t ≤ (68719476736 : Int))))
  (some false))
theorem basic_Time_eq {t : Int} {r : Bool} (h : basic_Time_t t = some r) : basic_Time_s t = some r :=
  fS_tree (es := tab_basic_Failed) (hs := []) [] Try.func64 rfl (by kernel_rfl) rfl (by kernel_rfl) (by kernel_rfl) trivial trivial (by kernel_rfl) h
noncomputable def basic_Time_e : Ent Try.prog lv X2 := entS Try.prog lv X2 64 [] basic_Time_ca basic_Time_cr (fun x => basic_Time_s x) (fun _ _ h => fS_call h)
noncomputable def tab_basic_Time : List (Ent Try.prog lv X2) := basic_Time_e :: tab_basic_Failed
def freebusy_Check_ca : Cod (List V) (List S58) := (lOne (vC (cSl ec_58)))
def freebusy_Check_l4_s : SC ((Unit × (List S58) × Int × Int) × (Int × Int)) := sLS [2, 9, 10, 11] (lCons (vPtr 0 0) (lCons (vC (cSl ec_58)) (lCons (vC (cInt .i64)) (lOne (vC (cInt .i64)))))) (lOne (oSome (bBox (lCons (vC (cInt .i64)) (lOne (vC (cInt .i64))))))) [false] [] (by decide) (fun _ => rfl)
def freebusy_Check_l4_o2 : SC ((Unit × (List S58) × Int × Int × Bool) × (Int × Int)) := sLS [2, 9, 10, 11, 12] (lCons (vPtr 0 0) (lCons (vC (cSl ec_58)) (lCons (vC (cInt .i64)) (lCons (vC (cInt .i64)) (lOne (vC cBool)))))) (lOne (oSome (bBox (lCons (vC (cInt .i64)) (lOne (vC (cInt .i64))))))) [false] [] (by decide) (fun _ => rfl)
def freebusy_Check_l4_o1 : SC (Unit × (Int × Int)) := sLS [2] (lOne (vPtr 0 0)) (lOne (oSome (bBox (lCons (vC (cInt .i64)) (lOne (vC (cInt .i64))))))) [false] [] (by decide) (fun _ => rfl)
def freebusy_Check_l4_o : OC ((Unit × (Int × Int)) ⊕ ((Unit × (List S58) × Int × Int × Bool) × (Int × Int))) := oOr 1 freebusy_Check_l4_o1 (oAt 2 freebusy_Check_l4_o2) (fun x => (by decide : (2 : Nat) ≠ 1))
noncomputable def freebusy_Check_l4 (t9 : (List S58)) (t10 : Int) (t11 : Int) (b0 : Int) (b0_1 : Int) : Option ((Unit × (Int × Int)) ⊕ ((Unit × (List S58) × Int × Int × Bool) × (Int × Int))) := lS Try.prog lv X2 43 37 (getLoop (cdF Try.f43) 4) freebusy_Check_l4_s freebusy_Check_l4_o (((), t9, t10, t11), (b0, b0_1))
noncomputable def freebusy_Check_l4_t (t9 : (List S58)) (t10 : Int) (t11 : Int) (b0 : Int) (b0_1 : Int) : Option ((Unit × (Int × Int)) ⊕ ((Unit × (List S58) × Int × Int × Bool) × (Int × Int))) :=
  (brE (decide (t11 < t10))
  (gdE (decide ((0 : Int) ≤ t11)) <|
    (gdE ((decide ((Int.toNat t11) < (List.length (EC.encL ec_58 t9)))) && (isE [(K1.int Go.IntKind.i64), (K1.int Go.IntKind.i64)] (0 : Nat) (List.getD (EC.encL ec_58 t9) (Int.toNat t11) []))) <|
      (Option.bind (basic_Time_s (intOf (List.getD (List.getD (EC.encL ec_58 t9) (Int.toNat t11) []) (0 : Nat) C.ne))) fun r0 =>
        (brE ((!r0) == false)
          (Option.bind (basic_Time_s (intOf (List.getD (List.getD (EC.encL ec_58 t9) (Int.toNat t11) []) (1 : Nat) C.ne))) fun r1 =>
            (brE (!r1)
              (Option.bind (basic_Fault_s (3 : Int) t11) fun r2 =>
                (some (.inl ((), ((r2).1, (r2).2)))))
              (brE (decide ((intOf (List.getD (List.getD (EC.encL ec_58 t9) (Int.toNat t11) []) (0 : Nat) C.ne)) > (intOf (List.getD (List.getD (EC.encL ec_58 t9) (Int.toNat t11) []) (1 : Nat) C.ne))))
                (Option.bind (basic_Fault_s (19 : Int) t11) fun r2 =>
                  (some (.inl ((), ((r2).1, (r2).2)))))
                (gdE (EC.isL ec_58 (EC.encL ec_58 t9)) <|
                  (freebusy_Check_l4 (EC.decL ec_58 (EC.encL ec_58 t9)) t10 (Go.IntKind.wrap Go.IntKind.i64 (t11 + (1 : Int))) b0 b0_1)))))
          (Option.bind (basic_Fault_s (3 : Int) t11) fun r1 =>
            (some (.inl ((), ((r1).1, (r1).2)))))))))
  (gdE (EC.isL ec_58 (EC.encL ec_58 t9)) <|
    (some (.inr (((), ((EC.decL ec_58 (EC.encL ec_58 t9)), (t10, (t11, false)))), (b0, b0_1))))))
theorem freebusy_Check_l4_eq {t9 : (List S58)} {t10 : Int} {t11 : Int} {b0 : Int} {b0_1 : Int} {r : ((Unit × (Int × Int)) ⊕ ((Unit × (List S58) × Int × Int × Bool) × (Int × Int)))} (h : freebusy_Check_l4_t t9 t10 t11 b0 b0_1 = some r) : freebusy_Check_l4 t9 t10 t11 b0 b0_1 = some r :=
  lS_tree (es := tab_basic_Time) (hs := []) [] (by kernel_rfl) trivial trivial (by kernel_rfl) h
noncomputable def freebusy_Check_l4_e : LEnt Try.prog lv X2 43 37 := lentS Try.prog lv X2 4 (getLoop (cdF Try.f43) 4) freebusy_Check_l4_s freebusy_Check_l4_o (fun x => freebusy_Check_l4 x.1.2.1 x.1.2.2.1 x.1.2.2.2 x.2.1 x.2.2) (fun _ _ h => lS_from h)
def freebusy_Check_cr : Cod (V × List B) (Int × Int) := (cFstU (cPair (vAgg (lCons (vC (cInt .i64)) (lOne (vC (cInt .i64))))) lNil))
noncomputable def freebusy_Check_s (l : (List S58)) : Option (Int × Int) := fS Try.prog lv X2 43 freebusy_Check_ca freebusy_Check_cr l
noncomputable def freebusy_Check_t (l : (List S58)) : Option (Int × Int) :=
  (brE (decide ((((List.length (EC.encL ec_58 l)) : Nat) : Int) > (500 : Int)))
  (Option.bind (basic_Fault_s (2 : Int) (-(1 : Int))) fun r0 =>
    (some ((r0).1, (r0).2)))
  (gdE (EC.isL ec_58 (EC.encL ec_58 l)) <|
    (Option.bind (freebusy_Check_l4 (EC.decL ec_58 (EC.encL ec_58 l)) (((List.length (EC.encL ec_58 l)) : Nat) : Int) (0 : Int) (0 : Int) (0 : Int)) fun r0 =>
      (Sum.elim (fun r1 => (some (((r1).2).1, ((r1).2).2)))
        (fun r1 => (Option.bind basic_None_s fun r2 =>
          (some ((r2).1, (r2).2)))) r0))))
theorem freebusy_Check_eq {l : (List S58)} {r : (Int × Int)} (h : freebusy_Check_t l = some r) : freebusy_Check_s l = some r :=
  fS_tree (es := tab_basic_Time) (hs := []) [freebusy_Check_l4_e] Try.func43 rfl (by kernel_rfl) rfl (by kernel_rfl) (by kernel_rfl) ⟨⟨_, rfl, rfl⟩, trivial⟩ trivial (by kernel_rfl) h
noncomputable def freebusy_Check_e : Ent Try.prog lv X2 := entS Try.prog lv X2 43 [] freebusy_Check_ca freebusy_Check_cr (fun x => freebusy_Check_s x) (fun _ _ h => fS_call h)
noncomputable def tab_freebusy_Check : List (Ent Try.prog lv X2) := freebusy_Check_e :: tab_basic_Time
def freebusy_Span_ca : Cod (List V) (Int × Int) := (lCons (vC (cInt .i64)) (lOne (vC (cInt .i64))))
def freebusy_Span_cr : Cod (V × List B) (Int × Int) := (cFstU (cPair (vAgg (lCons (vC (cInt .i64)) (lOne (vC (cInt .i64))))) lNil))
noncomputable def freebusy_Span_s (from_ : Int) (to_ : Int) : Option (Int × Int) := fS Try.prog lv X2 49 freebusy_Span_ca freebusy_Span_cr (from_, to_)
noncomputable def freebusy_Span_t (from_ : Int) (to_ : Int) : Option (Int × Int) :=
  (Option.bind (basic_Time_s from_) fun r0 =>
  (brE ((!r0) == false)
    (Option.bind (basic_Time_s to_) fun r1 =>
      (brE (!r1)
        (Option.bind (basic_Fault_s (3 : Int) (-(2 : Int))) fun r2 =>
          (some ((r2).1, (r2).2)))
        (brE (decide (from_ > to_))
          (Option.bind (basic_Fault_s (19 : Int) (-(2 : Int))) fun r2 =>
            (some ((r2).1, (r2).2)))
          (Option.bind basic_None_s fun r2 =>
            (some ((r2).1, (r2).2))))))
    (Option.bind (basic_Fault_s (3 : Int) (-(2 : Int))) fun r1 =>
      (some ((r1).1, (r1).2)))))
theorem freebusy_Span_eq {from_ : Int} {to_ : Int} {r : (Int × Int)} (h : freebusy_Span_t from_ to_ = some r) : freebusy_Span_s from_ to_ = some r :=
  fS_tree (es := tab_freebusy_Check) (hs := []) [] Try.func49 rfl (by kernel_rfl) rfl (by kernel_rfl) (by kernel_rfl) trivial trivial (by kernel_rfl) h
noncomputable def freebusy_Span_e : Ent Try.prog lv X2 := entS Try.prog lv X2 49 [] freebusy_Span_ca freebusy_Span_cr (fun x => freebusy_Span_s x.1 x.2) (fun _ _ h => fS_call h)
noncomputable def tab_freebusy_Span : List (Ent Try.prog lv X2) := freebusy_Span_e :: tab_freebusy_Check
def freebusy_Gaps_ca : Cod (List V) ((List S58) × Int × Int × Int) := (lCons (vC (cSl ec_58)) (lCons (vC (cInt .i64)) (lCons (vC (cInt .i64)) (lOne (vC (cInt .i64))))))
def freebusy_Gaps_l4_s : SC ((Int × Int × Nat × Int × Nat × Int × Int) × ((List S58) × (List S58))) := sLS [2, 3, 9, 10, 21, 22, 23] (lCons (vC (cInt .i64)) (lCons (vC (cInt .i64)) (lCons (vRow 0) (lCons (vC (cInt .i64)) (lCons (vRow 1) (lCons (vC (cInt .i64)) (lOne (vC (cInt .i64))))))))) (lCons (oSome (bRow ec_58)) (lOne (oSome (bRow ec_58)))) [false, false] [] (by decide) (fun _ => rfl)
def freebusy_Gaps_l4_o2 : SC ((Int × Int × Nat × Int × Nat × Int × Int × Bool) × ((List S58) × (List S58))) := sLS [2, 3, 9, 10, 21, 22, 23, 24] (lCons (vC (cInt .i64)) (lCons (vC (cInt .i64)) (lCons (vRow 0) (lCons (vC (cInt .i64)) (lCons (vRow 1) (lCons (vC (cInt .i64)) (lCons (vC (cInt .i64)) (lOne (vC cBool))))))))) (lCons (oSome (bRow ec_58)) (lOne (oSome (bRow ec_58)))) [false, false] [] (by decide) (fun _ => rfl)
def freebusy_Gaps_l4_o : OC ((Int × Int × Nat × Int × Nat × Int × Int × Bool) × ((List S58) × (List S58))) := oAt 2 freebusy_Gaps_l4_o2
noncomputable def freebusy_Gaps_l4 (to_ : Int) (length : Int) (out : Nat) (at_ : Int) (t21 : Nat) (t22 : Int) (t23 : Int) (b0 : (List S58)) (b1 : (List S58)) : Option ((Int × Int × Nat × Int × Nat × Int × Int × Bool) × ((List S58) × (List S58))) := lS Try.prog lv X2 51 48 (getLoop (cdF Try.f51) 4) freebusy_Gaps_l4_s freebusy_Gaps_l4_o ((to_, length, out, at_, t21, t22, t23), (b0, b1))
noncomputable def freebusy_Gaps_l4_t (to_ : Int) (length : Int) (out : Nat) (at_ : Int) (t21 : Nat) (t22 : Int) (t23 : Int) (b0 : (List S58)) (b1 : (List S58)) : Option ((Int × Int × Nat × Int × Nat × Int × Int × Bool) × ((List S58) × (List S58))) :=
  (brE (decide (t23 < t22))
  (gdE ((decide ((0 : Int) ≤ t23)) && (decide (t23 < ((t21 : Nat) : Int)))) <|
    (gdE ((decide ((Int.toNat t23) < (List.length (EC.encL ec_58 b1)))) && ((List.length (List.getD (EC.encL ec_58 b1) (Int.toNat t23) [])) == (2 : Nat))) <|
      (gdE (isP [(K1.int Go.IntKind.i64), (K1.int Go.IntKind.i64)] (0 : Nat) (List.getD (EC.encL ec_58 b1) (Int.toNat t23) [])) <|
        (brE (decide ((Go.IntKind.wrap Go.IntKind.i64 ((ite (false = true) (ite ((intOf (List.getD (List.getD (EC.encL ec_58 b1) (Int.toNat t23) []) (0 : Nat) C.ne)) < to_) to_ (intOf (List.getD (List.getD (EC.encL ec_58 b1) (Int.toNat t23) []) (0 : Nat) C.ne))) (ite (to_ < (intOf (List.getD (List.getD (EC.encL ec_58 b1) (Int.toNat t23) []) (0 : Nat) C.ne))) to_ (intOf (List.getD (List.getD (EC.encL ec_58 b1) (Int.toNat t23) []) (0 : Nat) C.ne)))) - at_)) ≥ length))
          (gdE ((((List.all [[(C.int Go.IntKind.i64 at_), (C.int Go.IntKind.i64 (ite (false = true) (ite ((intOf (List.getD (List.getD (EC.encL ec_58 b1) (Int.toNat t23) []) (0 : Nat) C.ne)) < to_) to_ (intOf (List.getD (List.getD (EC.encL ec_58 b1) (Int.toNat t23) []) (0 : Nat) C.ne))) (ite (to_ < (intOf (List.getD (List.getD (EC.encL ec_58 b1) (Int.toNat t23) []) (0 : Nat) C.ne))) to_ (intOf (List.getD (List.getD (EC.encL ec_58 b1) (Int.toNat t23) []) (0 : Nat) C.ne)))))]] (fun (el : (List C)) => ((List.length el) == (2 : Nat)))) && (List.all (EC.encL ec_58 b0) (fun (el : (List C)) => ((List.length el) == (2 : Nat))))) && (decide (((((out + (List.length [[(C.int Go.IntKind.i64 at_), (C.int Go.IntKind.i64 (ite (false = true) (ite ((intOf (List.getD (List.getD (EC.encL ec_58 b1) (Int.toNat t23) []) (0 : Nat) C.ne)) < to_) to_ (intOf (List.getD (List.getD (EC.encL ec_58 b1) (Int.toNat t23) []) (0 : Nat) C.ne))) (ite (to_ < (intOf (List.getD (List.getD (EC.encL ec_58 b1) (Int.toNat t23) []) (0 : Nat) C.ne))) to_ (intOf (List.getD (List.getD (EC.encL ec_58 b1) (Int.toNat t23) []) (0 : Nat) C.ne)))))]])) + ((out + (List.length [[(C.int Go.IntKind.i64 at_), (C.int Go.IntKind.i64 (ite (false = true) (ite ((intOf (List.getD (List.getD (EC.encL ec_58 b1) (Int.toNat t23) []) (0 : Nat) C.ne)) < to_) to_ (intOf (List.getD (List.getD (EC.encL ec_58 b1) (Int.toNat t23) []) (0 : Nat) C.ne))) (ite (to_ < (intOf (List.getD (List.getD (EC.encL ec_58 b1) (Int.toNat t23) []) (0 : Nat) C.ne))) to_ (intOf (List.getD (List.getD (EC.encL ec_58 b1) (Int.toNat t23) []) (0 : Nat) C.ne)))))]])) / (4 : Nat))) + (192 : Nat)) * (16 : Nat)) ≤ (281474976710656 : Nat)))) && (decide ((out + (List.length [[(C.int Go.IntKind.i64 at_), (C.int Go.IntKind.i64 (ite (false = true) (ite ((intOf (List.getD (List.getD (EC.encL ec_58 b1) (Int.toNat t23) []) (0 : Nat) C.ne)) < to_) to_ (intOf (List.getD (List.getD (EC.encL ec_58 b1) (Int.toNat t23) []) (0 : Nat) C.ne))) (ite (to_ < (intOf (List.getD (List.getD (EC.encL ec_58 b1) (Int.toNat t23) []) (0 : Nat) C.ne))) to_ (intOf (List.getD (List.getD (EC.encL ec_58 b1) (Int.toNat t23) []) (0 : Nat) C.ne)))))]])) ≤ (9223372036854775807 : Nat)))) <|
            (gdE (EC.isL ec_58 ((EC.encL ec_58 b0) ++ [[(C.int Go.IntKind.i64 at_), (C.int Go.IntKind.i64 (ite (false = true) (ite ((intOf (List.getD (List.getD (EC.encL ec_58 b1) (Int.toNat t23) []) (0 : Nat) C.ne)) < to_) to_ (intOf (List.getD (List.getD (EC.encL ec_58 b1) (Int.toNat t23) []) (0 : Nat) C.ne))) (ite (to_ < (intOf (List.getD (List.getD (EC.encL ec_58 b1) (Int.toNat t23) []) (0 : Nat) C.ne))) to_ (intOf (List.getD (List.getD (EC.encL ec_58 b1) (Int.toNat t23) []) (0 : Nat) C.ne)))))]])) <|
              (gdE (EC.isL ec_58 (EC.encL ec_58 b1)) <|
                (freebusy_Gaps_l4 to_ length (out + (List.length [[(C.int Go.IntKind.i64 at_), (C.int Go.IntKind.i64 (ite (false = true) (ite ((intOf (List.getD (List.getD (EC.encL ec_58 b1) (Int.toNat t23) []) (0 : Nat) C.ne)) < to_) to_ (intOf (List.getD (List.getD (EC.encL ec_58 b1) (Int.toNat t23) []) (0 : Nat) C.ne))) (ite (to_ < (intOf (List.getD (List.getD (EC.encL ec_58 b1) (Int.toNat t23) []) (0 : Nat) C.ne))) to_ (intOf (List.getD (List.getD (EC.encL ec_58 b1) (Int.toNat t23) []) (0 : Nat) C.ne)))))]])) (ite (true = true) (ite (at_ < (intOf (List.getD (List.getD (EC.encL ec_58 b1) (Int.toNat t23) []) (1 : Nat) C.ne))) (intOf (List.getD (List.getD (EC.encL ec_58 b1) (Int.toNat t23) []) (1 : Nat) C.ne)) at_) (ite ((intOf (List.getD (List.getD (EC.encL ec_58 b1) (Int.toNat t23) []) (1 : Nat) C.ne)) < at_) (intOf (List.getD (List.getD (EC.encL ec_58 b1) (Int.toNat t23) []) (1 : Nat) C.ne)) at_)) t21 t22 (Go.IntKind.wrap Go.IntKind.i64 (t23 + (1 : Int))) (EC.decL ec_58 ((EC.encL ec_58 b0) ++ [[(C.int Go.IntKind.i64 at_), (C.int Go.IntKind.i64 (ite (false = true) (ite ((intOf (List.getD (List.getD (EC.encL ec_58 b1) (Int.toNat t23) []) (0 : Nat) C.ne)) < to_) to_ (intOf (List.getD (List.getD (EC.encL ec_58 b1) (Int.toNat t23) []) (0 : Nat) C.ne))) (ite (to_ < (intOf (List.getD (List.getD (EC.encL ec_58 b1) (Int.toNat t23) []) (0 : Nat) C.ne))) to_ (intOf (List.getD (List.getD (EC.encL ec_58 b1) (Int.toNat t23) []) (0 : Nat) C.ne)))))]])) (EC.decL ec_58 (EC.encL ec_58 b1))))))
          (gdE (EC.isL ec_58 (EC.encL ec_58 b0)) <|
            (gdE (EC.isL ec_58 (EC.encL ec_58 b1)) <|
              (freebusy_Gaps_l4 to_ length out (ite (true = true) (ite (at_ < (intOf (List.getD (List.getD (EC.encL ec_58 b1) (Int.toNat t23) []) (1 : Nat) C.ne))) (intOf (List.getD (List.getD (EC.encL ec_58 b1) (Int.toNat t23) []) (1 : Nat) C.ne)) at_) (ite ((intOf (List.getD (List.getD (EC.encL ec_58 b1) (Int.toNat t23) []) (1 : Nat) C.ne)) < at_) (intOf (List.getD (List.getD (EC.encL ec_58 b1) (Int.toNat t23) []) (1 : Nat) C.ne)) at_)) t21 t22 (Go.IntKind.wrap Go.IntKind.i64 (t23 + (1 : Int))) (EC.decL ec_58 (EC.encL ec_58 b0)) (EC.decL ec_58 (EC.encL ec_58 b1)))))))))
  (gdE (EC.isL ec_58 (EC.encL ec_58 b0)) <|
    (gdE (EC.isL ec_58 (EC.encL ec_58 b1)) <|
      (some ((to_, (length, (out, (at_, (t21, (t22, (t23, false))))))), ((EC.decL ec_58 (EC.encL ec_58 b0)), (EC.decL ec_58 (EC.encL ec_58 b1))))))))
theorem freebusy_Gaps_l4_eq {to_ : Int} {length : Int} {out : Nat} {at_ : Int} {t21 : Nat} {t22 : Int} {t23 : Int} {b0 : (List S58)} {b1 : (List S58)} {r : ((Int × Int × Nat × Int × Nat × Int × Int × Bool) × ((List S58) × (List S58)))} (h : freebusy_Gaps_l4_t to_ length out at_ t21 t22 t23 b0 b1 = some r) : freebusy_Gaps_l4 to_ length out at_ t21 t22 t23 b0 b1 = some r :=
  lS_tree (es := tab_freebusy_Span) (hs := []) [] (by kernel_rfl) trivial trivial (by kernel_rfl) h
noncomputable def freebusy_Gaps_l4_e : LEnt Try.prog lv X2 51 48 := lentS Try.prog lv X2 4 (getLoop (cdF Try.f51) 4) freebusy_Gaps_l4_s freebusy_Gaps_l4_o (fun x => freebusy_Gaps_l4 x.1.1 x.1.2.1 x.1.2.2.1 x.1.2.2.2.1 x.1.2.2.2.2.1 x.1.2.2.2.2.2.1 x.1.2.2.2.2.2.2 x.2.1 x.2.2) (fun _ _ h => lS_from h)
def freebusy_Gaps_cr : Cod (V × List B) (Nat × (List S58)) := (cPair (vRow 0) (lOne (bRow ec_58)))
noncomputable def freebusy_Gaps_s (l : (List S58)) (from_ : Int) (to_ : Int) (length : Int) : Option (Nat × (List S58)) := fS Try.prog lv X2 51 freebusy_Gaps_ca freebusy_Gaps_cr (l, from_, to_, length)
noncomputable def freebusy_Gaps_t (l : (List S58)) (from_ : Int) (to_ : Int) (length : Int) : Option (Nat × (List S58)) :=
  (gdE (EC.isL ec_58 (EC.encL ec_58 l)) <|
  (Option.bind (unionS (EC.decL ec_58 (EC.encL ec_58 l))) fun r0 =>
    (gdE ((((List.all [[(C.int Go.IntKind.i64 to_), (C.int Go.IntKind.i64 to_)]] (fun (el : (List C)) => ((List.length el) == (2 : Nat)))) && (List.all (EC.encL ec_58 (r0).2) (fun (el : (List C)) => ((List.length el) == (2 : Nat))))) && (decide ((((((r0).1 + (List.length [[(C.int Go.IntKind.i64 to_), (C.int Go.IntKind.i64 to_)]])) + (((r0).1 + (List.length [[(C.int Go.IntKind.i64 to_), (C.int Go.IntKind.i64 to_)]])) / (4 : Nat))) + (192 : Nat)) * (16 : Nat)) ≤ (281474976710656 : Nat)))) && (decide (((r0).1 + (List.length [[(C.int Go.IntKind.i64 to_), (C.int Go.IntKind.i64 to_)]])) ≤ (9223372036854775807 : Nat)))) <|
      (gdE (EC.isL ec_58 ((EC.encL ec_58 (r0).2) ++ [[(C.int Go.IntKind.i64 to_), (C.int Go.IntKind.i64 to_)]])) <|
        (Option.bind (freebusy_Gaps_l4 to_ length (0 : Nat) from_ ((r0).1 + (List.length [[(C.int Go.IntKind.i64 to_), (C.int Go.IntKind.i64 to_)]])) ((((r0).1 + (List.length [[(C.int Go.IntKind.i64 to_), (C.int Go.IntKind.i64 to_)]])) : Nat) : Int) (0 : Int) (EC.decL ec_58 []) (EC.decL ec_58 ((EC.encL ec_58 (r0).2) ++ [[(C.int Go.IntKind.i64 to_), (C.int Go.IntKind.i64 to_)]]))) fun r1 =>
          (gdE (EC.isL ec_58 (EC.encL ec_58 ((r1).2).1)) <|
            (some (((((r1).1).2).2).1, (EC.decL ec_58 (EC.encL ec_58 ((r1).2).1))))))))))
theorem freebusy_Gaps_eq {l : (List S58)} {from_ : Int} {to_ : Int} {length : Int} {r : (Nat × (List S58))} (h : freebusy_Gaps_t l from_ to_ length = some r) : freebusy_Gaps_s l from_ to_ length = some r :=
  fS_tree (es := tab_freebusy_Span) (hs := []) [freebusy_Gaps_l4_e] Try.func51 rfl (by kernel_rfl) rfl (by kernel_rfl) (by kernel_rfl) ⟨⟨_, rfl, rfl⟩, trivial⟩ trivial (by kernel_rfl) h
noncomputable def freebusy_Gaps_e : Ent Try.prog lv X2 := entS Try.prog lv X2 51 [] freebusy_Gaps_ca freebusy_Gaps_cr (fun x => freebusy_Gaps_s x.1 x.2.1 x.2.2.1 x.2.2.2) (fun _ _ h => fS_call h)
noncomputable def tab_freebusy_Gaps : List (Ent Try.prog lv X2) := freebusy_Gaps_e :: tab_freebusy_Span
def freebusy_Free_ca : Cod (List V) ((List S58) × Int × Int × Int) := (lCons (vC (cSl ec_58)) (lCons (vC (cInt .i64)) (lCons (vC (cInt .i64)) (lOne (vC (cInt .i64))))))
def freebusy_Free_cr : Cod (V × List B) ((Nat × (Int × Int)) × (List S58)) := (cPair (vTup (lCons (vRow 0) (lOne (vAgg (lCons (vC (cInt .i64)) (lOne (vC (cInt .i64)))))))) (lOne (bRow ec_58)))
noncomputable def freebusy_Free_s (l : (List S58)) (from_ : Int) (to_ : Int) (length : Int) : Option ((Nat × (Int × Int)) × (List S58)) := fS Try.prog lv X2 24 freebusy_Free_ca freebusy_Free_cr (l, from_, to_, length)
noncomputable def freebusy_Free_t (l : (List S58)) (from_ : Int) (to_ : Int) (length : Int) : Option ((Nat × (Int × Int)) × (List S58)) :=
  (gdE (EC.isL ec_58 (EC.encL ec_58 l)) <|
  (Option.bind (freebusy_Check_s (EC.decL ec_58 (EC.encL ec_58 l))) fun r0 =>
    (Option.bind (basic_Failed_s (r0).1 (r0).2) fun r1 =>
      (brE r1
        (some (((0 : Nat), ((r0).1, (r0).2)), (EC.decL ec_58 [])))
        (Option.bind (freebusy_Span_s from_ to_) fun r2 =>
          (Option.bind (basic_Failed_s (r2).1 (r2).2) fun r3 =>
            (brE r3
              (some (((0 : Nat), ((r2).1, (r2).2)), (EC.decL ec_58 [])))
              (brE ((decide (length < (1 : Int))) == false)
                (brE (decide (length > (68719476736 : Int)))
                  (Option.bind (basic_Fault_s (3 : Int) (-(3 : Int))) fun r4 =>
                    (some (((0 : Nat), ((r4).1, (r4).2)), (EC.decL ec_58 []))))
                  (gdE (EC.isL ec_58 (EC.encL ec_58 l)) <|
                    (Option.bind (freebusy_Gaps_s (EC.decL ec_58 (EC.encL ec_58 l)) from_ to_ length) fun r4 =>
                      (Option.bind basic_None_s fun r5 =>
                        (gdE (EC.isL ec_58 (EC.encL ec_58 (r4).2)) <|
                          (some (((r4).1, ((r5).1, (r5).2)), (EC.decL ec_58 (EC.encL ec_58 (r4).2)))))))))
                (Option.bind (basic_Fault_s (3 : Int) (-(3 : Int))) fun r4 =>
                  (some (((0 : Nat), ((r4).1, (r4).2)), (EC.decL ec_58 []))))))))))))
theorem freebusy_Free_eq {l : (List S58)} {from_ : Int} {to_ : Int} {length : Int} {r : ((Nat × (Int × Int)) × (List S58))} (h : freebusy_Free_t l from_ to_ length = some r) : freebusy_Free_s l from_ to_ length = some r :=
  fS_tree (es := tab_freebusy_Gaps) (hs := []) [] Try.func24 rfl (by kernel_rfl) rfl (by kernel_rfl) (by kernel_rfl) trivial trivial (by kernel_rfl) h
noncomputable def freebusy_Free_e : Ent Try.prog lv X2 := entS Try.prog lv X2 24 [] freebusy_Free_ca freebusy_Free_cr (fun x => freebusy_Free_s x.1 x.2.1 x.2.2.1 x.2.2.2) (fun _ _ h => fS_call h)
noncomputable def tab_freebusy_Free : List (Ent Try.prog lv X2) := freebusy_Free_e :: tab_freebusy_Gaps
def posthouseref5_In_ca : Cod (List V) (Int × Int × Int) := (lCons (vC (cInt .i64)) (lCons (vC (cInt .i64)) (lOne (vC (cInt .i64)))))
def posthouseref5_In_cr : Cod (V × List B) Bool := (cFstU (cPair (vC cBool) lNil))
noncomputable def posthouseref5_In_s (n : Int) (low : Int) (high : Int) : Option Bool := fS Try.prog lv X2 26 posthouseref5_In_ca posthouseref5_In_cr (n, low, high)
noncomputable def posthouseref5_In_t (n : Int) (low : Int) (high : Int) : Option Bool :=
  (brE ((decide (low ≤ n)) == true)
  (some (decide (n ≤ high)))
  (some false))
theorem posthouseref5_In_eq {n : Int} {low : Int} {high : Int} {r : Bool} (h : posthouseref5_In_t n low high = some r) : posthouseref5_In_s n low high = some r :=
  fS_tree (es := tab_freebusy_Free) (hs := []) [] Try.func26 rfl (by kernel_rfl) rfl (by kernel_rfl) (by kernel_rfl) trivial trivial (by kernel_rfl) h
noncomputable def posthouseref5_In_e : Ent Try.prog lv X2 := entS Try.prog lv X2 26 [] posthouseref5_In_ca posthouseref5_In_cr (fun x => posthouseref5_In_s x.1 x.2.1 x.2.2) (fun _ _ h => fS_call h)
noncomputable def tab_posthouseref5_In : List (Ent Try.prog lv X2) := posthouseref5_In_e :: tab_freebusy_Free
def posthouseref5_At_ca : Cod (List V) (Int × Int) := (lCons (vC (cInt .i64)) (lOne (vC (cInt .i64))))
def posthouseref5_At_cr : Cod (V × List B) (Int × Int) := (cFstU (cPair (vAgg (lCons (vC (cInt .i64)) (lOne (vC (cInt .i64))))) lNil))
noncomputable def posthouseref5_At_s (code : Int) (index : Int) : Option (Int × Int) := fS Try.prog lv X2 27 posthouseref5_At_ca posthouseref5_At_cr (code, index)
noncomputable def posthouseref5_At_t (code : Int) (index : Int) : Option (Int × Int) :=
  (some (code, index))
theorem posthouseref5_At_eq {code : Int} {index : Int} {r : (Int × Int)} (h : posthouseref5_At_t code index = some r) : posthouseref5_At_s code index = some r :=
  fS_tree (es := tab_posthouseref5_In) (hs := []) [] Try.func27 rfl (by kernel_rfl) rfl (by kernel_rfl) (by kernel_rfl) trivial trivial (by kernel_rfl) h
noncomputable def posthouseref5_At_e : Ent Try.prog lv X2 := entS Try.prog lv X2 27 [] posthouseref5_At_ca posthouseref5_At_cr (fun x => posthouseref5_At_s x.1 x.2) (fun _ _ h => fS_call h)
noncomputable def tab_posthouseref5_At : List (Ent Try.prog lv X2) := posthouseref5_At_e :: tab_posthouseref5_In
def posthouseref5_Instant_ca : Cod (List V) Int := (lOne (vC (cInt .i64)))
def posthouseref5_Instant_cr : Cod (V × List B) Bool := (cFstU (cPair (vC cBool) lNil))
noncomputable def posthouseref5_Instant_s (n : Int) : Option Bool := fS Try.prog lv X2 46 posthouseref5_Instant_ca posthouseref5_Instant_cr n
noncomputable def posthouseref5_Instant_t (n : Int) : Option Bool :=
  (Option.bind (posthouseref5_In_s n (-(68719476736 : Int)) (68719476736 : Int)) fun r0 =>
  (some r0))
theorem posthouseref5_Instant_eq {n : Int} {r : Bool} (h : posthouseref5_Instant_t n = some r) : posthouseref5_Instant_s n = some r :=
  fS_tree (es := tab_posthouseref5_At) (hs := []) [] Try.func46 rfl (by kernel_rfl) rfl (by kernel_rfl) (by kernel_rfl) trivial trivial (by kernel_rfl) h
noncomputable def posthouseref5_Instant_e : Ent Try.prog lv X2 := entS Try.prog lv X2 46 [] posthouseref5_Instant_ca posthouseref5_Instant_cr (fun x => posthouseref5_Instant_s x) (fun _ _ h => fS_call h)
noncomputable def tab_posthouseref5_Instant : List (Ent Try.prog lv X2) := posthouseref5_Instant_e :: tab_posthouseref5_At
def posthouseref6_PeriodsFault_ca : Cod (List V) (List S58) := (lOne (vC (cSl ec_58)))
def posthouseref6_PeriodsFault_l4_s : SC (((List S58) × Unit × Int) × (Int × Int)) := sLS [0, 2, 3] (lCons (vC (cSl ec_58)) (lCons (vPtr 0 0) (lOne (vC (cInt .i64))))) (lOne (oSome (bBox (lCons (vC (cInt .i64)) (lOne (vC (cInt .i64))))))) [false] [] (by decide) (fun _ => rfl)
def posthouseref6_PeriodsFault_l4_o2 : SC (((List S58) × Unit × Int × Bool) × (Int × Int)) := sLS [0, 2, 3, 11] (lCons (vC (cSl ec_58)) (lCons (vPtr 0 0) (lCons (vC (cInt .i64)) (lOne (vC cBool))))) (lOne (oSome (bBox (lCons (vC (cInt .i64)) (lOne (vC (cInt .i64))))))) [false] [] (by decide) (fun _ => rfl)
def posthouseref6_PeriodsFault_l4_o1 : SC (Unit × (Int × Int)) := sLS [2] (lOne (vPtr 0 0)) (lOne (oSome (bBox (lCons (vC (cInt .i64)) (lOne (vC (cInt .i64))))))) [false] [] (by decide) (fun _ => rfl)
def posthouseref6_PeriodsFault_l4_o : OC ((Unit × (Int × Int)) ⊕ (((List S58) × Unit × Int × Bool) × (Int × Int))) := oOr 1 posthouseref6_PeriodsFault_l4_o1 (oAt 2 posthouseref6_PeriodsFault_l4_o2) (fun x => (by decide : (2 : Nat) ≠ 1))
noncomputable def posthouseref6_PeriodsFault_l4 (l : (List S58)) (i : Int) (b0 : Int) (b0_1 : Int) : Option ((Unit × (Int × Int)) ⊕ (((List S58) × Unit × Int × Bool) × (Int × Int))) := lS Try.prog lv X2 20 46 (getLoop (cdF Try.f20) 4) posthouseref6_PeriodsFault_l4_s posthouseref6_PeriodsFault_l4_o ((l, (), i), (b0, b0_1))
noncomputable def posthouseref6_PeriodsFault_l4_t (l : (List S58)) (i : Int) (b0 : Int) (b0_1 : Int) : Option ((Unit × (Int × Int)) ⊕ (((List S58) × Unit × Int × Bool) × (Int × Int))) :=
  (brE (decide (i < (((List.length (EC.encL ec_58 l)) : Nat) : Int)))
  (gdE (decide ((0 : Int) ≤ i)) <|
    (gdE ((decide ((Int.toNat i) < (List.length (EC.encL ec_58 l)))) && (isE [(K1.int Go.IntKind.i64), (K1.int Go.IntKind.i64)] (0 : Nat) (List.getD (EC.encL ec_58 l) (Int.toNat i) []))) <|
      (Option.bind (posthouseref5_Instant_s (intOf (List.getD (List.getD (EC.encL ec_58 l) (Int.toNat i) []) (0 : Nat) C.ne))) fun r0 =>
        (brE ((!r0) == false)
          (gdE (decide ((0 : Int) ≤ i)) <|
            (gdE ((decide ((Int.toNat i) < (List.length (EC.encL ec_58 l)))) && (isE [(K1.int Go.IntKind.i64), (K1.int Go.IntKind.i64)] (0 : Nat) (List.getD (EC.encL ec_58 l) (Int.toNat i) []))) <|
              (Option.bind (posthouseref5_Instant_s (intOf (List.getD (List.getD (EC.encL ec_58 l) (Int.toNat i) []) (1 : Nat) C.ne))) fun r1 =>
                (brE (!r1)
                  (Option.bind (posthouseref5_At_s (3 : Int) i) fun r2 =>
                    (some (.inl ((), ((r2).1, (r2).2)))))
                  (gdE (decide ((0 : Int) ≤ i)) <|
                    (gdE ((decide ((Int.toNat i) < (List.length (EC.encL ec_58 l)))) && (isE [(K1.int Go.IntKind.i64), (K1.int Go.IntKind.i64)] (0 : Nat) (List.getD (EC.encL ec_58 l) (Int.toNat i) []))) <|
                      (gdE (decide ((0 : Int) ≤ i)) <|
                        (gdE ((decide ((Int.toNat i) < (List.length (EC.encL ec_58 l)))) && (isE [(K1.int Go.IntKind.i64), (K1.int Go.IntKind.i64)] (0 : Nat) (List.getD (EC.encL ec_58 l) (Int.toNat i) []))) <|
                          (brE (decide ((intOf (List.getD (List.getD (EC.encL ec_58 l) (Int.toNat i) []) (0 : Nat) C.ne)) > (intOf (List.getD (List.getD (EC.encL ec_58 l) (Int.toNat i) []) (1 : Nat) C.ne))))
                            (Option.bind (posthouseref5_At_s (19 : Int) i) fun r2 =>
                              (some (.inl ((), ((r2).1, (r2).2)))))
                            (gdE (EC.isL ec_58 (EC.encL ec_58 l)) <|
                              (posthouseref6_PeriodsFault_l4 (EC.decL ec_58 (EC.encL ec_58 l)) (Go.IntKind.wrap Go.IntKind.i64 (i + (1 : Int))) b0 b0_1)))))))))))
          (Option.bind (posthouseref5_At_s (3 : Int) i) fun r1 =>
            (some (.inl ((), ((r1).1, (r1).2)))))))))
  (gdE (EC.isL ec_58 (EC.encL ec_58 l)) <|
    (some (.inr (((EC.decL ec_58 (EC.encL ec_58 l)), ((), (i, false))), (b0, b0_1))))))
theorem posthouseref6_PeriodsFault_l4_eq {l : (List S58)} {i : Int} {b0 : Int} {b0_1 : Int} {r : ((Unit × (Int × Int)) ⊕ (((List S58) × Unit × Int × Bool) × (Int × Int)))} (h : posthouseref6_PeriodsFault_l4_t l i b0 b0_1 = some r) : posthouseref6_PeriodsFault_l4 l i b0 b0_1 = some r :=
  lS_tree (es := tab_posthouseref5_Instant) (hs := []) [] (by kernel_rfl) trivial trivial (by kernel_rfl) h
noncomputable def posthouseref6_PeriodsFault_l4_e : LEnt Try.prog lv X2 20 46 := lentS Try.prog lv X2 4 (getLoop (cdF Try.f20) 4) posthouseref6_PeriodsFault_l4_s posthouseref6_PeriodsFault_l4_o (fun x => posthouseref6_PeriodsFault_l4 x.1.1 x.1.2.2 x.2.1 x.2.2) (fun _ _ h => lS_from h)
def posthouseref6_PeriodsFault_cr : Cod (V × List B) (Int × Int) := (cFstU (cPair (vAgg (lCons (vC (cInt .i64)) (lOne (vC (cInt .i64))))) lNil))
noncomputable def posthouseref6_PeriodsFault_s (l : (List S58)) : Option (Int × Int) := fS Try.prog lv X2 20 posthouseref6_PeriodsFault_ca posthouseref6_PeriodsFault_cr l
noncomputable def posthouseref6_PeriodsFault_t (l : (List S58)) : Option (Int × Int) :=
  (brE (decide ((((List.length (EC.encL ec_58 l)) : Nat) : Int) > (500 : Int)))
  (Option.bind (posthouseref5_At_s (2 : Int) (-(1 : Int))) fun r0 =>
    (some ((r0).1, (r0).2)))
  (gdE (EC.isL ec_58 (EC.encL ec_58 l)) <|
    (Option.bind (posthouseref6_PeriodsFault_l4 (EC.decL ec_58 (EC.encL ec_58 l)) (0 : Int) (0 : Int) (0 : Int)) fun r0 =>
      (Sum.elim (fun r1 => (some (((r1).2).1, ((r1).2).2)))
        (fun r1 => (some ((0 : Int), (0 : Int)))) r0))))
theorem posthouseref6_PeriodsFault_eq {l : (List S58)} {r : (Int × Int)} (h : posthouseref6_PeriodsFault_t l = some r) : posthouseref6_PeriodsFault_s l = some r :=
  fS_tree (es := tab_posthouseref5_Instant) (hs := []) [posthouseref6_PeriodsFault_l4_e] Try.func20 rfl (by kernel_rfl) rfl (by kernel_rfl) (by kernel_rfl) ⟨⟨_, rfl, rfl⟩, trivial⟩ trivial (by kernel_rfl) h
noncomputable def posthouseref6_PeriodsFault_e : Ent Try.prog lv X2 := entS Try.prog lv X2 20 [] posthouseref6_PeriodsFault_ca posthouseref6_PeriodsFault_cr (fun x => posthouseref6_PeriodsFault_s x) (fun _ _ h => fS_call h)
noncomputable def tab_posthouseref6_PeriodsFault : List (Ent Try.prog lv X2) := posthouseref6_PeriodsFault_e :: tab_posthouseref5_Instant
def posthouseref6_SpanFault_ca : Cod (List V) (Int × Int) := (lCons (vC (cInt .i64)) (lOne (vC (cInt .i64))))
def posthouseref6_SpanFault_cr : Cod (V × List B) (Int × Int) := (cFstU (cPair (vAgg (lCons (vC (cInt .i64)) (lOne (vC (cInt .i64))))) lNil))
noncomputable def posthouseref6_SpanFault_s (from_ : Int) (to_ : Int) : Option (Int × Int) := fS Try.prog lv X2 25 posthouseref6_SpanFault_ca posthouseref6_SpanFault_cr (from_, to_)
noncomputable def posthouseref6_SpanFault_t (from_ : Int) (to_ : Int) : Option (Int × Int) :=
  (Option.bind (posthouseref5_Instant_s from_) fun r0 =>
  (brE ((!r0) == false)
    (Option.bind (posthouseref5_Instant_s to_) fun r1 =>
      (brE (!r1)
        (Option.bind (posthouseref5_At_s (3 : Int) (-(2 : Int))) fun r2 =>
          (some ((r2).1, (r2).2)))
        (brE (decide (from_ > to_))
          (Option.bind (posthouseref5_At_s (19 : Int) (-(2 : Int))) fun r2 =>
            (some ((r2).1, (r2).2)))
          (some ((0 : Int), (0 : Int))))))
    (Option.bind (posthouseref5_At_s (3 : Int) (-(2 : Int))) fun r1 =>
      (some ((r1).1, (r1).2)))))
theorem posthouseref6_SpanFault_eq {from_ : Int} {to_ : Int} {r : (Int × Int)} (h : posthouseref6_SpanFault_t from_ to_ = some r) : posthouseref6_SpanFault_s from_ to_ = some r :=
  fS_tree (es := tab_posthouseref6_PeriodsFault) (hs := []) [] Try.func25 rfl (by kernel_rfl) rfl (by kernel_rfl) (by kernel_rfl) trivial trivial (by kernel_rfl) h
noncomputable def posthouseref6_SpanFault_e : Ent Try.prog lv X2 := entS Try.prog lv X2 25 [] posthouseref6_SpanFault_ca posthouseref6_SpanFault_cr (fun x => posthouseref6_SpanFault_s x.1 x.2) (fun _ _ h => fS_call h)
noncomputable def tab_posthouseref6_SpanFault : List (Ent Try.prog lv X2) := posthouseref6_SpanFault_e :: tab_posthouseref6_PeriodsFault
def posthouseref6_Busy_ca : Cod (List V) ((List S58) × Int) := (lCons (vC (cSl ec_58)) (lOne (vC (cInt .i64))))
def posthouseref6_Busy_l2_s : SC (((List S58) × Int × Int) × Unit) := sLS [0, 1, 5] (lCons (vC (cSl ec_58)) (lCons (vC (cInt .i64)) (lOne (vC (cInt .i64))))) lNil [] [] (by decide) (fun _ => rfl)
def posthouseref6_Busy_l2_o2 : SC (((List S58) × Int × Int × Bool) × Unit) := sLS [0, 1, 5, 9] (lCons (vC (cSl ec_58)) (lCons (vC (cInt .i64)) (lCons (vC (cInt .i64)) (lOne (vC cBool))))) lNil [] [] (by decide) (fun _ => rfl)
def posthouseref6_Busy_l2_o1 : SC (Bool × Unit) := sLS [4] (lOne (vC cBool)) lNil [] [] (by decide) (fun _ => rfl)
def posthouseref6_Busy_l2_o : OC ((Bool × Unit) ⊕ (((List S58) × Int × Int × Bool) × Unit)) := oOr 1 posthouseref6_Busy_l2_o1 (oAt 2 posthouseref6_Busy_l2_o2) (fun x => (by decide : (2 : Nat) ≠ 1))
noncomputable def posthouseref6_Busy_l2 (l : (List S58)) (at_ : Int) (i : Int) : Option ((Bool × Unit) ⊕ (((List S58) × Int × Int × Bool) × Unit)) := lS Try.prog lv X2 48 28 (getLoop (cdF Try.f48) 2) posthouseref6_Busy_l2_s posthouseref6_Busy_l2_o ((l, at_, i), ())
noncomputable def posthouseref6_Busy_l2_t (l : (List S58)) (at_ : Int) (i : Int) : Option ((Bool × Unit) ⊕ (((List S58) × Int × Int × Bool) × Unit)) :=
  (brE (decide (i < (((List.length (EC.encL ec_58 l)) : Nat) : Int)))
  (gdE (decide ((0 : Int) ≤ i)) <|
    (gdE ((decide ((Int.toNat i) < (List.length (EC.encL ec_58 l)))) && (isE [(K1.int Go.IntKind.i64), (K1.int Go.IntKind.i64)] (0 : Nat) (List.getD (EC.encL ec_58 l) (Int.toNat i) []))) <|
      (brE ((decide ((intOf (List.getD (List.getD (EC.encL ec_58 l) (Int.toNat i) []) (0 : Nat) C.ne)) ≤ at_)) == true)
        (gdE (decide ((0 : Int) ≤ i)) <|
          (gdE ((decide ((Int.toNat i) < (List.length (EC.encL ec_58 l)))) && (isE [(K1.int Go.IntKind.i64), (K1.int Go.IntKind.i64)] (0 : Nat) (List.getD (EC.encL ec_58 l) (Int.toNat i) []))) <|
            (brE (decide (at_ < (intOf (List.getD (List.getD (EC.encL ec_58 l) (Int.toNat i) []) (1 : Nat) C.ne))))
              (some (.inl (true, ())))
              (gdE (EC.isL ec_58 (EC.encL ec_58 l)) <|
                (posthouseref6_Busy_l2 (EC.decL ec_58 (EC.encL ec_58 l)) at_ (Go.IntKind.wrap Go.IntKind.i64 (i + (1 : Int))))))))
        (gdE (EC.isL ec_58 (EC.encL ec_58 l)) <|
          (posthouseref6_Busy_l2 (EC.decL ec_58 (EC.encL ec_58 l)) at_ (Go.IntKind.wrap Go.IntKind.i64 (i + (1 : Int))))))))
  (gdE (EC.isL ec_58 (EC.encL ec_58 l)) <|
    (some (.inr (((EC.decL ec_58 (EC.encL ec_58 l)), (at_, (i, false))), ())))))
theorem posthouseref6_Busy_l2_eq {l : (List S58)} {at_ : Int} {i : Int} {r : ((Bool × Unit) ⊕ (((List S58) × Int × Int × Bool) × Unit))} (h : posthouseref6_Busy_l2_t l at_ i = some r) : posthouseref6_Busy_l2 l at_ i = some r :=
  lS_tree (es := tab_posthouseref6_SpanFault) (hs := []) [] (by kernel_rfl) trivial trivial (by kernel_rfl) h
noncomputable def posthouseref6_Busy_l2_e : LEnt Try.prog lv X2 48 28 := lentS Try.prog lv X2 2 (getLoop (cdF Try.f48) 2) posthouseref6_Busy_l2_s posthouseref6_Busy_l2_o (fun x => posthouseref6_Busy_l2 x.1.1 x.1.2.1 x.1.2.2) (fun _ _ h => lS_from h)
def posthouseref6_Busy_cr : Cod (V × List B) Bool := (cFstU (cPair (vC cBool) lNil))
noncomputable def posthouseref6_Busy_s (l : (List S58)) (at_ : Int) : Option Bool := fS Try.prog lv X2 48 posthouseref6_Busy_ca posthouseref6_Busy_cr (l, at_)
noncomputable def posthouseref6_Busy_t (l : (List S58)) (at_ : Int) : Option Bool :=
  (gdE (EC.isL ec_58 (EC.encL ec_58 l)) <|
  (Option.bind (posthouseref6_Busy_l2 (EC.decL ec_58 (EC.encL ec_58 l)) at_ (0 : Int)) fun r0 =>
    (Sum.elim (fun r1 => (some (r1).1))
      (fun r1 => (some false)) r0)))
theorem posthouseref6_Busy_eq {l : (List S58)} {at_ : Int} {r : Bool} (h : posthouseref6_Busy_t l at_ = some r) : posthouseref6_Busy_s l at_ = some r :=
  fS_tree (es := tab_posthouseref6_SpanFault) (hs := []) [posthouseref6_Busy_l2_e] Try.func48 rfl (by kernel_rfl) rfl (by kernel_rfl) (by kernel_rfl) ⟨⟨_, rfl, rfl⟩, trivial⟩ trivial (by kernel_rfl) h
noncomputable def posthouseref6_Busy_e : Ent Try.prog lv X2 := entS Try.prog lv X2 48 [] posthouseref6_Busy_ca posthouseref6_Busy_cr (fun x => posthouseref6_Busy_s x.1 x.2) (fun _ _ h => fS_call h)
noncomputable def tab_posthouseref6_Busy : List (Ent Try.prog lv X2) := posthouseref6_Busy_e :: tab_posthouseref6_SpanFault
def ec_3 : EC Int where
  enc x := [.int .i64 x]
  dec c := intOf (c.getD 0 .ne)
  is c := isE [.int .i64] 0 c
  enc_dec h := decE_eq h
  dec_enc x := by rfl
  is_enc x := by simp [isE, isK]
theorem enc_3 (x : Int) : ec_3.enc x = [.int .i64 x] := rfl
theorem isE_3 (xs : List Int) (n : Nat) : isE [.int .i64] 0 ((ec_3.encL xs).getD n []) = decide (n < xs.length) := by
  by_cases h : n < xs.length
  · simp only [EC.getD_lt _ _ h]; simp [enc_3, isE, isK, h]
  · simp only [EC.getD_ge _ _ (Nat.not_lt.1 h)]; simp [isE, isK, h]
theorem at_3_0 (xs : List Int) (n : Nat) : intOf (((ec_3.encL xs).getD n []).getD 0 .ne) = (xs.getD n (ec_3.dec [])) := by
  by_cases h : n < xs.length
  · simp only [EC.getD_lt _ _ h]; simp [enc_3, h, intOf, List.getD_eq_getElem?_getD]
  · simp only [EC.getD_ge _ _ (Nat.not_lt.1 h)]; simp [Nat.not_lt.1 h, ec_3, intOf, List.getD_eq_getElem?_getD]
theorem lit_3 (a0 : Int) : ([.int .i64 a0] : List C) = ec_3.enc a0 := rfl
theorem apd_3 (xs : List Int) (a0 : Int) : ec_3.encL xs ++ [[.int .i64 a0]] = ec_3.encL (xs ++ [a0]) := by rw [lit_3]; simp [EC.encL]
theorem len_3 (xs : List Int) (n : Nat) (h : n < xs.length) : ((ec_3.encL xs).getD n []).length = 1 := by rw [EC.getD_lt _ _ h]; rfl
theorem all_3 (xs : List Int) : (ec_3.encL xs).all (fun (el : List C) => el.length == 1) = true := by induction xs with | nil => rfl | cons x xs ih => first | (simp [EC.encL, enc_3]; done) | simpa [EC.encL, enc_3] using ih
theorem set_3_0_1 (xs : List Int) (n : Nat) (a0 : Int) : (ec_3.encL xs).set n (splice ((ec_3.encL xs).getD n []) 0 [.int .i64 a0]) = ec_3.encL (xs.set n (a0)) := by
  by_cases h : n < xs.length
  · rw [EC.getD_lt _ _ h]; simp [EC.encL, List.map_set, enc_3, splice]
  · simp [EC.encL, List.set_eq_of_length_le, Nat.not_lt.1 h]
def posthouseref6_bounds_ca : Cod (List V) ((List S58) × Int × Int) := (lCons (vC (cSl ec_58)) (lCons (vC (cInt .i64)) (lOne (vC (cInt .i64)))))
def posthouseref6_bounds_l3_s : SC (((List S58) × Int × Int × Nat × Int) × (List Int)) := sLS [0, 1, 2, 7, 8] (lCons (vC (cSl ec_58)) (lCons (vC (cInt .i64)) (lCons (vC (cInt .i64)) (lCons (vRow 0) (lOne (vC (cInt .i64))))))) (lOne (oSome (bRow ec_3))) [false] [] (by decide) (fun _ => rfl)
def posthouseref6_bounds_l3_o2 : SC (((List S58) × Int × Int × Nat × Int × Bool) × (List Int)) := sLS [0, 1, 2, 7, 8, 19] (lCons (vC (cSl ec_58)) (lCons (vC (cInt .i64)) (lCons (vC (cInt .i64)) (lCons (vRow 0) (lCons (vC (cInt .i64)) (lOne (vC cBool))))))) (lOne (oSome (bRow ec_3))) [false] [] (by decide) (fun _ => rfl)
def posthouseref6_bounds_l3_o : OC (((List S58) × Int × Int × Nat × Int × Bool) × (List Int)) := oAt 2 posthouseref6_bounds_l3_o2
noncomputable def posthouseref6_bounds_l3 (l : (List S58)) (from_ : Int) (to_ : Int) (all : Nat) (i : Int) (b0 : (List Int)) : Option (((List S58) × Int × Int × Nat × Int × Bool) × (List Int)) := lS Try.prog lv X2 47 72 (getLoop (cdF Try.f47) 3) posthouseref6_bounds_l3_s posthouseref6_bounds_l3_o ((l, from_, to_, all, i), b0)
noncomputable def posthouseref6_bounds_l3_t (l : (List S58)) (from_ : Int) (to_ : Int) (all : Nat) (i : Int) (b0 : (List Int)) : Option (((List S58) × Int × Int × Nat × Int × Bool) × (List Int)) :=
  (brE (decide (i < (((List.length (EC.encL ec_58 l)) : Nat) : Int)))
  (gdE (decide ((0 : Int) ≤ i)) <|
    (gdE ((decide ((Int.toNat i) < (List.length (EC.encL ec_58 l)))) && (isE [(K1.int Go.IntKind.i64), (K1.int Go.IntKind.i64)] (0 : Nat) (List.getD (EC.encL ec_58 l) (Int.toNat i) []))) <|
      (gdE (decide ((0 : Int) ≤ i)) <|
        (gdE ((decide ((Int.toNat i) < (List.length (EC.encL ec_58 l)))) && (isE [(K1.int Go.IntKind.i64), (K1.int Go.IntKind.i64)] (0 : Nat) (List.getD (EC.encL ec_58 l) (Int.toNat i) []))) <|
          (gdE ((((List.all [[(C.int Go.IntKind.i64 (intOf (List.getD (List.getD (EC.encL ec_58 l) (Int.toNat i) []) (0 : Nat) C.ne)))], [(C.int Go.IntKind.i64 (intOf (List.getD (List.getD (EC.encL ec_58 l) (Int.toNat i) []) (1 : Nat) C.ne)))]] (fun (el : (List C)) => ((List.length el) == (1 : Nat)))) && (List.all (EC.encL ec_3 b0) (fun (el : (List C)) => ((List.length el) == (1 : Nat))))) && (decide (((((all + (List.length [[(C.int Go.IntKind.i64 (intOf (List.getD (List.getD (EC.encL ec_58 l) (Int.toNat i) []) (0 : Nat) C.ne)))], [(C.int Go.IntKind.i64 (intOf (List.getD (List.getD (EC.encL ec_58 l) (Int.toNat i) []) (1 : Nat) C.ne)))]])) + ((all + (List.length [[(C.int Go.IntKind.i64 (intOf (List.getD (List.getD (EC.encL ec_58 l) (Int.toNat i) []) (0 : Nat) C.ne)))], [(C.int Go.IntKind.i64 (intOf (List.getD (List.getD (EC.encL ec_58 l) (Int.toNat i) []) (1 : Nat) C.ne)))]])) / (4 : Nat))) + (192 : Nat)) * (8 : Nat)) ≤ (281474976710656 : Nat)))) && (decide ((all + (List.length [[(C.int Go.IntKind.i64 (intOf (List.getD (List.getD (EC.encL ec_58 l) (Int.toNat i) []) (0 : Nat) C.ne)))], [(C.int Go.IntKind.i64 (intOf (List.getD (List.getD (EC.encL ec_58 l) (Int.toNat i) []) (1 : Nat) C.ne)))]])) ≤ (9223372036854775807 : Nat)))) <|
            (gdE (EC.isL ec_58 (EC.encL ec_58 l)) <|
              (gdE (EC.isL ec_3 ((EC.encL ec_3 b0) ++ [[(C.int Go.IntKind.i64 (intOf (List.getD (List.getD (EC.encL ec_58 l) (Int.toNat i) []) (0 : Nat) C.ne)))], [(C.int Go.IntKind.i64 (intOf (List.getD (List.getD (EC.encL ec_58 l) (Int.toNat i) []) (1 : Nat) C.ne)))]])) <|
                (posthouseref6_bounds_l3 (EC.decL ec_58 (EC.encL ec_58 l)) from_ to_ (all + (List.length [[(C.int Go.IntKind.i64 (intOf (List.getD (List.getD (EC.encL ec_58 l) (Int.toNat i) []) (0 : Nat) C.ne)))], [(C.int Go.IntKind.i64 (intOf (List.getD (List.getD (EC.encL ec_58 l) (Int.toNat i) []) (1 : Nat) C.ne)))]])) (Go.IntKind.wrap Go.IntKind.i64 (i + (1 : Int))) (EC.decL ec_3 ((EC.encL ec_3 b0) ++ [[(C.int Go.IntKind.i64 (intOf (List.getD (List.getD (EC.encL ec_58 l) (Int.toNat i) []) (0 : Nat) C.ne)))], [(C.int Go.IntKind.i64 (intOf (List.getD (List.getD (EC.encL ec_58 l) (Int.toNat i) []) (1 : Nat) C.ne)))]]))))))))))
  (gdE (EC.isL ec_58 (EC.encL ec_58 l)) <|
    (gdE (EC.isL ec_3 (EC.encL ec_3 b0)) <|
      (some (((EC.decL ec_58 (EC.encL ec_58 l)), (from_, (to_, (all, (i, false))))), (EC.decL ec_3 (EC.encL ec_3 b0)))))))
theorem posthouseref6_bounds_l3_eq {l : (List S58)} {from_ : Int} {to_ : Int} {all : Nat} {i : Int} {b0 : (List Int)} {r : (((List S58) × Int × Int × Nat × Int × Bool) × (List Int))} (h : posthouseref6_bounds_l3_t l from_ to_ all i b0 = some r) : posthouseref6_bounds_l3 l from_ to_ all i b0 = some r :=
  lS_tree (es := tab_posthouseref6_Busy) (hs := []) [] (by kernel_rfl) trivial trivial (by kernel_rfl) h
noncomputable def posthouseref6_bounds_l3_e : LEnt Try.prog lv X2 47 72 := lentS Try.prog lv X2 3 (getLoop (cdF Try.f47) 3) posthouseref6_bounds_l3_s posthouseref6_bounds_l3_o (fun x => posthouseref6_bounds_l3 x.1.1 x.1.2.1 x.1.2.2.1 x.1.2.2.2.1 x.1.2.2.2.2 x.2) (fun _ _ h => lS_from h)
def posthouseref6_bounds_l10_s : SC ((Int × Nat × Nat × Int × Int × Int) × ((List Int) × (List Int))) := sLS [2, 7, 9, 10, 11, 12] (lCons (vC (cInt .i64)) (lCons (vRow 0) (lCons (vRow 1) (lCons (vC (cInt .i64)) (lCons (vC (cInt .i64)) (lOne (vC (cInt .i64)))))))) (lCons (oSome (bRow ec_3)) (lOne (oSome (bRow ec_3)))) [false, false] [] (by decide) (fun _ => rfl)
def posthouseref6_bounds_l10_o6 : SC ((Int × Nat × Nat × Int × Int × Int × Bool) × ((List Int) × (List Int))) := sLS [2, 7, 9, 10, 11, 12, 42] (lCons (vC (cInt .i64)) (lCons (vRow 0) (lCons (vRow 1) (lCons (vC (cInt .i64)) (lCons (vC (cInt .i64)) (lCons (vC (cInt .i64)) (lOne (vC cBool)))))))) (lCons (oSome (bRow ec_3)) (lOne (oSome (bRow ec_3)))) [false, false] [] (by decide) (fun _ => rfl)
def posthouseref6_bounds_l10_o : OC ((Int × Nat × Nat × Int × Int × Int × Bool) × ((List Int) × (List Int))) := oAt 6 posthouseref6_bounds_l10_o6
noncomputable def posthouseref6_bounds_l10 (to_ : Int) (all : Nat) (out : Nat) (last : Int) (next_ : Int) (i : Int) (b0 : (List Int)) (b1 : (List Int)) : Option ((Int × Nat × Nat × Int × Int × Int × Bool) × ((List Int) × (List Int))) := lS Try.prog lv X2 47 72 (getLoop (cdF Try.f47) 10) posthouseref6_bounds_l10_s posthouseref6_bounds_l10_o ((to_, all, out, last, next_, i), (b0, b1))
noncomputable def posthouseref6_bounds_l10_t (to_ : Int) (all : Nat) (out : Nat) (last : Int) (next_ : Int) (i : Int) (b0 : (List Int)) (b1 : (List Int)) : Option ((Int × Nat × Nat × Int × Int × Int × Bool) × ((List Int) × (List Int))) :=
  (brE (decide (i < ((all : Nat) : Int)))
  (gdE ((decide ((0 : Int) ≤ i)) && (decide (i < ((all : Nat) : Int)))) <|
    (gdE ((decide ((Int.toNat i) < (List.length (EC.encL ec_3 b0)))) && ((List.length (List.getD (EC.encL ec_3 b0) (Int.toNat i) [])) == (1 : Nat))) <|
      (gdE (isP [(K1.int Go.IntKind.i64)] (0 : Nat) (List.getD (EC.encL ec_3 b0) (Int.toNat i) [])) <|
        (brE ((decide ((intOf (List.getD (List.getD (EC.encL ec_3 b0) (Int.toNat i) []) (0 : Nat) C.ne)) > last)) == true)
          (gdE ((decide ((0 : Int) ≤ i)) && (decide (i < ((all : Nat) : Int)))) <|
            (gdE ((decide ((Int.toNat i) < (List.length (EC.encL ec_3 b0)))) && ((List.length (List.getD (EC.encL ec_3 b0) (Int.toNat i) [])) == (1 : Nat))) <|
              (gdE (isP [(K1.int Go.IntKind.i64)] (0 : Nat) (List.getD (EC.encL ec_3 b0) (Int.toNat i) [])) <|
                (brE (decide ((intOf (List.getD (List.getD (EC.encL ec_3 b0) (Int.toNat i) []) (0 : Nat) C.ne)) < next_))
                  (gdE ((decide ((0 : Int) ≤ i)) && (decide (i < ((all : Nat) : Int)))) <|
                    (gdE ((decide ((Int.toNat i) < (List.length (EC.encL ec_3 b0)))) && ((List.length (List.getD (EC.encL ec_3 b0) (Int.toNat i) [])) == (1 : Nat))) <|
                      (gdE (isP [(K1.int Go.IntKind.i64)] (0 : Nat) (List.getD (EC.encL ec_3 b0) (Int.toNat i) [])) <|
                        (gdE (EC.isL ec_3 (EC.encL ec_3 b0)) <|
                          (gdE (EC.isL ec_3 (EC.encL ec_3 b1)) <|
                            (posthouseref6_bounds_l10 to_ all out last (intOf (List.getD (List.getD (EC.encL ec_3 b0) (Int.toNat i) []) (0 : Nat) C.ne)) (Go.IntKind.wrap Go.IntKind.i64 (i + (1 : Int))) (EC.decL ec_3 (EC.encL ec_3 b0)) (EC.decL ec_3 (EC.encL ec_3 b1))))))))
                  (gdE (EC.isL ec_3 (EC.encL ec_3 b0)) <|
                    (gdE (EC.isL ec_3 (EC.encL ec_3 b1)) <|
                      (posthouseref6_bounds_l10 to_ all out last next_ (Go.IntKind.wrap Go.IntKind.i64 (i + (1 : Int))) (EC.decL ec_3 (EC.encL ec_3 b0)) (EC.decL ec_3 (EC.encL ec_3 b1)))))))))
          (gdE (EC.isL ec_3 (EC.encL ec_3 b0)) <|
            (gdE (EC.isL ec_3 (EC.encL ec_3 b1)) <|
              (posthouseref6_bounds_l10 to_ all out last next_ (Go.IntKind.wrap Go.IntKind.i64 (i + (1 : Int))) (EC.decL ec_3 (EC.encL ec_3 b0)) (EC.decL ec_3 (EC.encL ec_3 b1)))))))))
  (gdE (EC.isL ec_3 (EC.encL ec_3 b0)) <|
    (gdE (EC.isL ec_3 (EC.encL ec_3 b1)) <|
      (some ((to_, (all, (out, (last, (next_, (i, false)))))), ((EC.decL ec_3 (EC.encL ec_3 b0)), (EC.decL ec_3 (EC.encL ec_3 b1))))))))
theorem posthouseref6_bounds_l10_eq {to_ : Int} {all : Nat} {out : Nat} {last : Int} {next_ : Int} {i : Int} {b0 : (List Int)} {b1 : (List Int)} {r : ((Int × Nat × Nat × Int × Int × Int × Bool) × ((List Int) × (List Int)))} (h : posthouseref6_bounds_l10_t to_ all out last next_ i b0 b1 = some r) : posthouseref6_bounds_l10 to_ all out last next_ i b0 b1 = some r :=
  lS_tree (es := tab_posthouseref6_Busy) (hs := []) [] (by kernel_rfl) trivial trivial (by kernel_rfl) h
noncomputable def posthouseref6_bounds_l10_e : LEnt Try.prog lv X2 47 72 := lentS Try.prog lv X2 10 (getLoop (cdF Try.f47) 10) posthouseref6_bounds_l10_s posthouseref6_bounds_l10_o (fun x => posthouseref6_bounds_l10 x.1.1 x.1.2.1 x.1.2.2.1 x.1.2.2.2.1 x.1.2.2.2.2.1 x.1.2.2.2.2.2 x.2.1 x.2.2) (fun _ _ h => lS_from h)
def posthouseref6_bounds_l8_s : SC ((Int × Nat × Nat × Int) × ((List Int) × (List Int))) := sLS [2, 7, 9, 10] (lCons (vC (cInt .i64)) (lCons (vRow 0) (lCons (vRow 1) (lOne (vC (cInt .i64)))))) (lCons (oSome (bRow ec_3)) (lOne (oSome (bRow ec_3)))) [false, false] [] (by decide) (fun _ => rfl)
def posthouseref6_bounds_l8_o1 : SC (Nat × (List Int)) := sLS [6] (lOne (vRow 0)) (lOne (oSome (bRow ec_3))) [false] [] (by decide) (fun _ => rfl)
def posthouseref6_bounds_l8_o : OC (Nat × (List Int)) := oAt 1 posthouseref6_bounds_l8_o1
noncomputable def posthouseref6_bounds_l8 (to_ : Int) (all : Nat) (out : Nat) (last : Int) (b0 : (List Int)) (b1 : (List Int)) : Option (Nat × (List Int)) := lS Try.prog lv X2 47 72 (getLoop (cdF Try.f47) 8) posthouseref6_bounds_l8_s posthouseref6_bounds_l8_o ((to_, all, out, last), (b0, b1))
noncomputable def posthouseref6_bounds_l8_t (to_ : Int) (all : Nat) (out : Nat) (last : Int) (b0 : (List Int)) (b1 : (List Int)) : Option (Nat × (List Int)) :=
  (gdE (EC.isL ec_3 (EC.encL ec_3 b0)) <|
  (gdE (EC.isL ec_3 (EC.encL ec_3 b1)) <|
    (Option.bind (posthouseref6_bounds_l10 to_ all out last (Go.IntKind.wrap Go.IntKind.i64 (to_ + (1 : Int))) (0 : Int) (EC.decL ec_3 (EC.encL ec_3 b0)) (EC.decL ec_3 (EC.encL ec_3 b1))) fun r0 =>
      (brE (decide (((((((r0).1).2).2).2).2).1 > ((r0).1).1))
        (gdE (EC.isL ec_3 (EC.encL ec_3 ((r0).2).2)) <|
          (some (((((r0).1).2).2).1, (EC.decL ec_3 (EC.encL ec_3 ((r0).2).2)))))
        (gdE ((((List.all [[(C.int Go.IntKind.i64 ((((((r0).1).2).2).2).2).1)]] (fun (el : (List C)) => ((List.length el) == (1 : Nat)))) && (List.all (EC.encL ec_3 ((r0).2).2) (fun (el : (List C)) => ((List.length el) == (1 : Nat))))) && (decide (((((((((r0).1).2).2).1 + (List.length [[(C.int Go.IntKind.i64 ((((((r0).1).2).2).2).2).1)]])) + ((((((r0).1).2).2).1 + (List.length [[(C.int Go.IntKind.i64 ((((((r0).1).2).2).2).2).1)]])) / (4 : Nat))) + (192 : Nat)) * (8 : Nat)) ≤ (281474976710656 : Nat)))) && (decide ((((((r0).1).2).2).1 + (List.length [[(C.int Go.IntKind.i64 ((((((r0).1).2).2).2).2).1)]])) ≤ (9223372036854775807 : Nat)))) <|
          (gdE (EC.isL ec_3 (EC.encL ec_3 ((r0).2).1)) <|
            (gdE (EC.isL ec_3 ((EC.encL ec_3 ((r0).2).2) ++ [[(C.int Go.IntKind.i64 ((((((r0).1).2).2).2).2).1)]])) <|
              (posthouseref6_bounds_l8 ((r0).1).1 (((r0).1).2).1 (((((r0).1).2).2).1 + (List.length [[(C.int Go.IntKind.i64 ((((((r0).1).2).2).2).2).1)]])) ((((((r0).1).2).2).2).2).1 (EC.decL ec_3 (EC.encL ec_3 ((r0).2).1)) (EC.decL ec_3 ((EC.encL ec_3 ((r0).2).2) ++ [[(C.int Go.IntKind.i64 ((((((r0).1).2).2).2).2).1)]]))))))))))
theorem posthouseref6_bounds_l8_eq {to_ : Int} {all : Nat} {out : Nat} {last : Int} {b0 : (List Int)} {b1 : (List Int)} {r : (Nat × (List Int))} (h : posthouseref6_bounds_l8_t to_ all out last b0 b1 = some r) : posthouseref6_bounds_l8 to_ all out last b0 b1 = some r :=
  lS_tree (es := tab_posthouseref6_Busy) (hs := []) [posthouseref6_bounds_l10_e] (by kernel_rfl) ⟨⟨_, rfl, rfl⟩, trivial⟩ trivial (by kernel_rfl) h
noncomputable def posthouseref6_bounds_l8_e : LEnt Try.prog lv X2 47 72 := lentS Try.prog lv X2 8 (getLoop (cdF Try.f47) 8) posthouseref6_bounds_l8_s posthouseref6_bounds_l8_o (fun x => posthouseref6_bounds_l8 x.1.1 x.1.2.1 x.1.2.2.1 x.1.2.2.2 x.2.1 x.2.2) (fun _ _ h => lS_from h)
def posthouseref6_bounds_cr : Cod (V × List B) (Nat × (List Int)) := (cPair (vRow 0) (lOne (bRow ec_3)))
noncomputable def posthouseref6_bounds_s (l : (List S58)) (from_ : Int) (to_ : Int) : Option (Nat × (List Int)) := fS Try.prog lv X2 47 posthouseref6_bounds_ca posthouseref6_bounds_cr (l, from_, to_)
noncomputable def posthouseref6_bounds_t (l : (List S58)) (from_ : Int) (to_ : Int) : Option (Nat × (List Int)) :=
  (gdE (EC.isL ec_58 (EC.encL ec_58 l)) <|
  (Option.bind (posthouseref6_bounds_l3 (EC.decL ec_58 (EC.encL ec_58 l)) from_ to_ (2 : Nat) (0 : Int) (EC.decL ec_3 [[(C.int Go.IntKind.i64 from_)], [(C.int Go.IntKind.i64 to_)]])) fun r0 =>
    (gdE (EC.isL ec_3 (EC.encL ec_3 (r0).2)) <|
      (Option.bind (posthouseref6_bounds_l8 ((((r0).1).2).2).1 (((((r0).1).2).2).2).1 (0 : Nat) (Go.IntKind.wrap Go.IntKind.i64 ((((r0).1).2).1 - (1 : Int))) (EC.decL ec_3 (EC.encL ec_3 (r0).2)) (EC.decL ec_3 [])) fun r1 =>
        (gdE (EC.isL ec_3 (EC.encL ec_3 (r1).2)) <|
          (some ((r1).1, (EC.decL ec_3 (EC.encL ec_3 (r1).2)))))))))
theorem posthouseref6_bounds_eq {l : (List S58)} {from_ : Int} {to_ : Int} {r : (Nat × (List Int))} (h : posthouseref6_bounds_t l from_ to_ = some r) : posthouseref6_bounds_s l from_ to_ = some r :=
  fS_tree (es := tab_posthouseref6_Busy) (hs := []) [posthouseref6_bounds_l3_e, posthouseref6_bounds_l8_e] Try.func47 rfl (by kernel_rfl) rfl (by kernel_rfl) (by kernel_rfl) ⟨⟨_, rfl, rfl⟩, ⟨_, rfl, rfl⟩, trivial⟩ trivial (by kernel_rfl) h
noncomputable def posthouseref6_bounds_e : Ent Try.prog lv X2 := entS Try.prog lv X2 47 [] posthouseref6_bounds_ca posthouseref6_bounds_cr (fun x => posthouseref6_bounds_s x.1 x.2.1 x.2.2) (fun _ _ h => fS_call h)
noncomputable def tab_posthouseref6_bounds : List (Ent Try.prog lv X2) := posthouseref6_bounds_e :: tab_posthouseref6_Busy
def posthouseref6_Within_ca : Cod (List V) ((List S58) × Int × Int × Bool) := (lCons (vC (cSl ec_58)) (lCons (vC (cInt .i64)) (lCons (vC (cInt .i64)) (lOne (vC cBool)))))
def posthouseref6_Within_l4_s : SC (((List S58) × Bool × Nat × Nat × Int) × ((List Int) × (List S58))) := sLS [0, 3, 9, 10, 11] (lCons (vC (cSl ec_58)) (lCons (vC cBool) (lCons (vRow 0) (lCons (vRow 1) (lOne (vC (cInt .i64))))))) (lCons (oSome (bRow ec_3)) (lOne (oSome (bRow ec_58)))) [false, false] [] (by decide) (fun _ => rfl)
def posthouseref6_Within_l4_o2 : SC (((List S58) × Bool × Nat × Nat × Int × Bool) × ((List Int) × (List S58))) := sLS [0, 3, 9, 10, 11, 20] (lCons (vC (cSl ec_58)) (lCons (vC cBool) (lCons (vRow 0) (lCons (vRow 1) (lCons (vC (cInt .i64)) (lOne (vC cBool))))))) (lCons (oSome (bRow ec_3)) (lOne (oSome (bRow ec_58)))) [false, false] [] (by decide) (fun _ => rfl)
def posthouseref6_Within_l4_o : OC (((List S58) × Bool × Nat × Nat × Int × Bool) × ((List Int) × (List S58))) := oAt 2 posthouseref6_Within_l4_o2
noncomputable def posthouseref6_Within_l4 (l : (List S58)) (busy : Bool) (b : Nat) (out : Nat) (i : Int) (b0 : (List Int)) (b1 : (List S58)) : Option (((List S58) × Bool × Nat × Nat × Int × Bool) × ((List Int) × (List S58))) := lS Try.prog lv X2 23 73 (getLoop (cdF Try.f23) 4) posthouseref6_Within_l4_s posthouseref6_Within_l4_o ((l, busy, b, out, i), (b0, b1))
noncomputable def posthouseref6_Within_l4_t (l : (List S58)) (busy : Bool) (b : Nat) (out : Nat) (i : Int) (b0 : (List Int)) (b1 : (List S58)) : Option (((List S58) × Bool × Nat × Nat × Int × Bool) × ((List Int) × (List S58))) :=
  (brE (decide ((Go.IntKind.wrap Go.IntKind.i64 (i + (1 : Int))) < ((b : Nat) : Int)))
  (gdE ((decide ((0 : Int) ≤ i)) && (decide (i < ((b : Nat) : Int)))) <|
    (gdE ((decide ((Int.toNat i) < (List.length (EC.encL ec_3 b0)))) && ((List.length (List.getD (EC.encL ec_3 b0) (Int.toNat i) [])) == (1 : Nat))) <|
      (gdE (isP [(K1.int Go.IntKind.i64)] (0 : Nat) (List.getD (EC.encL ec_3 b0) (Int.toNat i) [])) <|
        (gdE (EC.isL ec_58 (EC.encL ec_58 l)) <|
          (Option.bind (posthouseref6_Busy_s (EC.decL ec_58 (EC.encL ec_58 l)) (intOf (List.getD (List.getD (EC.encL ec_3 b0) (Int.toNat i) []) (0 : Nat) C.ne))) fun r0 =>
            (brE (!(r0 == busy))
              (gdE (EC.isL ec_58 (EC.encL ec_58 l)) <|
                (gdE (EC.isL ec_3 (EC.encL ec_3 b0)) <|
                  (gdE (EC.isL ec_58 (EC.encL ec_58 b1)) <|
                    (posthouseref6_Within_l4 (EC.decL ec_58 (EC.encL ec_58 l)) busy b out (Go.IntKind.wrap Go.IntKind.i64 (i + (1 : Int))) (EC.decL ec_3 (EC.encL ec_3 b0)) (EC.decL ec_58 (EC.encL ec_58 b1))))))
              (brE ((decide (((out : Nat) : Int) > (0 : Int))) == true)
                (gdE ((decide ((0 : Int) ≤ (Go.IntKind.wrap Go.IntKind.i64 (((out : Nat) : Int) - (1 : Int))))) && (decide ((Go.IntKind.wrap Go.IntKind.i64 (((out : Nat) : Int) - (1 : Int))) < ((out : Nat) : Int)))) <|
                  (gdE ((decide ((Int.toNat (Go.IntKind.wrap Go.IntKind.i64 (((out : Nat) : Int) - (1 : Int)))) < (List.length (EC.encL ec_58 b1)))) && ((List.length (List.getD (EC.encL ec_58 b1) (Int.toNat (Go.IntKind.wrap Go.IntKind.i64 (((out : Nat) : Int) - (1 : Int)))) [])) == (2 : Nat))) <|
                    (gdE (isP [(K1.int Go.IntKind.i64)] (1 : Nat) (List.getD (EC.encL ec_58 b1) (Int.toNat (Go.IntKind.wrap Go.IntKind.i64 (((out : Nat) : Int) - (1 : Int)))) [])) <|
                      (gdE ((decide ((0 : Int) ≤ i)) && (decide (i < ((b : Nat) : Int)))) <|
                        (gdE ((decide ((Int.toNat i) < (List.length (EC.encL ec_3 b0)))) && ((List.length (List.getD (EC.encL ec_3 b0) (Int.toNat i) [])) == (1 : Nat))) <|
                          (gdE (isP [(K1.int Go.IntKind.i64)] (0 : Nat) (List.getD (EC.encL ec_3 b0) (Int.toNat i) [])) <|
                            (brE ((intOf (List.getD (List.getD (EC.encL ec_58 b1) (Int.toNat (Go.IntKind.wrap Go.IntKind.i64 (((out : Nat) : Int) - (1 : Int)))) []) (1 : Nat) C.ne)) == (intOf (List.getD (List.getD (EC.encL ec_3 b0) (Int.toNat i) []) (0 : Nat) C.ne)))
                              (gdE ((decide ((0 : Int) ≤ (Go.IntKind.wrap Go.IntKind.i64 (i + (1 : Int))))) && (decide ((Go.IntKind.wrap Go.IntKind.i64 (i + (1 : Int))) < ((b : Nat) : Int)))) <|
                                (gdE ((decide ((Int.toNat (Go.IntKind.wrap Go.IntKind.i64 (i + (1 : Int)))) < (List.length (EC.encL ec_3 b0)))) && ((List.length (List.getD (EC.encL ec_3 b0) (Int.toNat (Go.IntKind.wrap Go.IntKind.i64 (i + (1 : Int)))) [])) == (1 : Nat))) <|
                                  (gdE (isP [(K1.int Go.IntKind.i64)] (0 : Nat) (List.getD (EC.encL ec_3 b0) (Int.toNat (Go.IntKind.wrap Go.IntKind.i64 (i + (1 : Int)))) [])) <|
                                    (gdE ((decide ((0 : Int) ≤ (Go.IntKind.wrap Go.IntKind.i64 (((out : Nat) : Int) - (1 : Int))))) && (decide ((Go.IntKind.wrap Go.IntKind.i64 (((out : Nat) : Int) - (1 : Int))) < ((out : Nat) : Int)))) <|
                                      (gdE ((decide ((Int.toNat (Go.IntKind.wrap Go.IntKind.i64 (((out : Nat) : Int) - (1 : Int)))) < (List.length (EC.encL ec_58 b1)))) && ((List.length (List.getD (EC.encL ec_58 b1) (Int.toNat (Go.IntKind.wrap Go.IntKind.i64 (((out : Nat) : Int) - (1 : Int)))) [])) == (2 : Nat))) <|
                                        (gdE (EC.isL ec_58 (EC.encL ec_58 l)) <|
                                          (gdE (EC.isL ec_3 (EC.encL ec_3 b0)) <|
                                            (gdE (EC.isL ec_58 (List.set (EC.encL ec_58 b1) (Int.toNat (Go.IntKind.wrap Go.IntKind.i64 (((out : Nat) : Int) - (1 : Int)))) (splice (List.getD (EC.encL ec_58 b1) (Int.toNat (Go.IntKind.wrap Go.IntKind.i64 (((out : Nat) : Int) - (1 : Int)))) []) (1 : Nat) [(C.int Go.IntKind.i64 (intOf (List.getD (List.getD (EC.encL ec_3 b0) (Int.toNat (Go.IntKind.wrap Go.IntKind.i64 (i + (1 : Int)))) []) (0 : Nat) C.ne)))]))) <|
                                              (posthouseref6_Within_l4 (EC.decL ec_58 (EC.encL ec_58 l)) busy b out (Go.IntKind.wrap Go.IntKind.i64 (i + (1 : Int))) (EC.decL ec_3 (EC.encL ec_3 b0)) (EC.decL ec_58 (List.set (EC.encL ec_58 b1) (Int.toNat (Go.IntKind.wrap Go.IntKind.i64 (((out : Nat) : Int) - (1 : Int)))) (splice (List.getD (EC.encL ec_58 b1) (Int.toNat (Go.IntKind.wrap Go.IntKind.i64 (((out : Nat) : Int) - (1 : Int)))) []) (1 : Nat) [(C.int Go.IntKind.i64 (intOf (List.getD (List.getD (EC.encL ec_3 b0) (Int.toNat (Go.IntKind.wrap Go.IntKind.i64 (i + (1 : Int)))) []) (0 : Nat) C.ne)))]))))))))))))
                              (gdE ((decide ((0 : Int) ≤ i)) && (decide (i < ((b : Nat) : Int)))) <|
                                (gdE ((decide ((Int.toNat i) < (List.length (EC.encL ec_3 b0)))) && ((List.length (List.getD (EC.encL ec_3 b0) (Int.toNat i) [])) == (1 : Nat))) <|
                                  (gdE (isP [(K1.int Go.IntKind.i64)] (0 : Nat) (List.getD (EC.encL ec_3 b0) (Int.toNat i) [])) <|
                                    (gdE ((decide ((0 : Int) ≤ (Go.IntKind.wrap Go.IntKind.i64 (i + (1 : Int))))) && (decide ((Go.IntKind.wrap Go.IntKind.i64 (i + (1 : Int))) < ((b : Nat) : Int)))) <|
                                      (gdE ((decide ((Int.toNat (Go.IntKind.wrap Go.IntKind.i64 (i + (1 : Int)))) < (List.length (EC.encL ec_3 b0)))) && ((List.length (List.getD (EC.encL ec_3 b0) (Int.toNat (Go.IntKind.wrap Go.IntKind.i64 (i + (1 : Int)))) [])) == (1 : Nat))) <|
                                        (gdE (isP [(K1.int Go.IntKind.i64)] (0 : Nat) (List.getD (EC.encL ec_3 b0) (Int.toNat (Go.IntKind.wrap Go.IntKind.i64 (i + (1 : Int)))) [])) <|
                                          (gdE ((((List.all [[(C.int Go.IntKind.i64 (intOf (List.getD (List.getD (EC.encL ec_3 b0) (Int.toNat i) []) (0 : Nat) C.ne))), (C.int Go.IntKind.i64 (intOf (List.getD (List.getD (EC.encL ec_3 b0) (Int.toNat (Go.IntKind.wrap Go.IntKind.i64 (i + (1 : Int)))) []) (0 : Nat) C.ne)))]] (fun (el : (List C)) => ((List.length el) == (2 : Nat)))) && (List.all (EC.encL ec_58 b1) (fun (el : (List C)) => ((List.length el) == (2 : Nat))))) && (decide (((((out + (List.length [[(C.int Go.IntKind.i64 (intOf (List.getD (List.getD (EC.encL ec_3 b0) (Int.toNat i) []) (0 : Nat) C.ne))), (C.int Go.IntKind.i64 (intOf (List.getD (List.getD (EC.encL ec_3 b0) (Int.toNat (Go.IntKind.wrap Go.IntKind.i64 (i + (1 : Int)))) []) (0 : Nat) C.ne)))]])) + ((out + (List.length [[(C.int Go.IntKind.i64 (intOf (List.getD (List.getD (EC.encL ec_3 b0) (Int.toNat i) []) (0 : Nat) C.ne))), (C.int Go.IntKind.i64 (intOf (List.getD (List.getD (EC.encL ec_3 b0) (Int.toNat (Go.IntKind.wrap Go.IntKind.i64 (i + (1 : Int)))) []) (0 : Nat) C.ne)))]])) / (4 : Nat))) + (192 : Nat)) * (16 : Nat)) ≤ (281474976710656 : Nat)))) && (decide ((out + (List.length [[(C.int Go.IntKind.i64 (intOf (List.getD (List.getD (EC.encL ec_3 b0) (Int.toNat i) []) (0 : Nat) C.ne))), (C.int Go.IntKind.i64 (intOf (List.getD (List.getD (EC.encL ec_3 b0) (Int.toNat (Go.IntKind.wrap Go.IntKind.i64 (i + (1 : Int)))) []) (0 : Nat) C.ne)))]])) ≤ (9223372036854775807 : Nat)))) <|
                                            (gdE (EC.isL ec_58 (EC.encL ec_58 l)) <|
                                              (gdE (EC.isL ec_3 (EC.encL ec_3 b0)) <|
                                                (gdE (EC.isL ec_58 ((EC.encL ec_58 b1) ++ [[(C.int Go.IntKind.i64 (intOf (List.getD (List.getD (EC.encL ec_3 b0) (Int.toNat i) []) (0 : Nat) C.ne))), (C.int Go.IntKind.i64 (intOf (List.getD (List.getD (EC.encL ec_3 b0) (Int.toNat (Go.IntKind.wrap Go.IntKind.i64 (i + (1 : Int)))) []) (0 : Nat) C.ne)))]])) <|
                                                  (posthouseref6_Within_l4 (EC.decL ec_58 (EC.encL ec_58 l)) busy b (out + (List.length [[(C.int Go.IntKind.i64 (intOf (List.getD (List.getD (EC.encL ec_3 b0) (Int.toNat i) []) (0 : Nat) C.ne))), (C.int Go.IntKind.i64 (intOf (List.getD (List.getD (EC.encL ec_3 b0) (Int.toNat (Go.IntKind.wrap Go.IntKind.i64 (i + (1 : Int)))) []) (0 : Nat) C.ne)))]])) (Go.IntKind.wrap Go.IntKind.i64 (i + (1 : Int))) (EC.decL ec_3 (EC.encL ec_3 b0)) (EC.decL ec_58 ((EC.encL ec_58 b1) ++ [[(C.int Go.IntKind.i64 (intOf (List.getD (List.getD (EC.encL ec_3 b0) (Int.toNat i) []) (0 : Nat) C.ne))), (C.int Go.IntKind.i64 (intOf (List.getD (List.getD (EC.encL ec_3 b0) (Int.toNat (Go.IntKind.wrap Go.IntKind.i64 (i + (1 : Int)))) []) (0 : Nat) C.ne)))]]))))))))))))))))))))
                (gdE ((decide ((0 : Int) ≤ i)) && (decide (i < ((b : Nat) : Int)))) <|
                  (gdE ((decide ((Int.toNat i) < (List.length (EC.encL ec_3 b0)))) && ((List.length (List.getD (EC.encL ec_3 b0) (Int.toNat i) [])) == (1 : Nat))) <|
                    (gdE (isP [(K1.int Go.IntKind.i64)] (0 : Nat) (List.getD (EC.encL ec_3 b0) (Int.toNat i) [])) <|
                      (gdE ((decide ((0 : Int) ≤ (Go.IntKind.wrap Go.IntKind.i64 (i + (1 : Int))))) && (decide ((Go.IntKind.wrap Go.IntKind.i64 (i + (1 : Int))) < ((b : Nat) : Int)))) <|
                        (gdE ((decide ((Int.toNat (Go.IntKind.wrap Go.IntKind.i64 (i + (1 : Int)))) < (List.length (EC.encL ec_3 b0)))) && ((List.length (List.getD (EC.encL ec_3 b0) (Int.toNat (Go.IntKind.wrap Go.IntKind.i64 (i + (1 : Int)))) [])) == (1 : Nat))) <|
                          (gdE (isP [(K1.int Go.IntKind.i64)] (0 : Nat) (List.getD (EC.encL ec_3 b0) (Int.toNat (Go.IntKind.wrap Go.IntKind.i64 (i + (1 : Int)))) [])) <|
                            (gdE ((((List.all [[(C.int Go.IntKind.i64 (intOf (List.getD (List.getD (EC.encL ec_3 b0) (Int.toNat i) []) (0 : Nat) C.ne))), (C.int Go.IntKind.i64 (intOf (List.getD (List.getD (EC.encL ec_3 b0) (Int.toNat (Go.IntKind.wrap Go.IntKind.i64 (i + (1 : Int)))) []) (0 : Nat) C.ne)))]] (fun (el : (List C)) => ((List.length el) == (2 : Nat)))) && (List.all (EC.encL ec_58 b1) (fun (el : (List C)) => ((List.length el) == (2 : Nat))))) && (decide (((((out + (List.length [[(C.int Go.IntKind.i64 (intOf (List.getD (List.getD (EC.encL ec_3 b0) (Int.toNat i) []) (0 : Nat) C.ne))), (C.int Go.IntKind.i64 (intOf (List.getD (List.getD (EC.encL ec_3 b0) (Int.toNat (Go.IntKind.wrap Go.IntKind.i64 (i + (1 : Int)))) []) (0 : Nat) C.ne)))]])) + ((out + (List.length [[(C.int Go.IntKind.i64 (intOf (List.getD (List.getD (EC.encL ec_3 b0) (Int.toNat i) []) (0 : Nat) C.ne))), (C.int Go.IntKind.i64 (intOf (List.getD (List.getD (EC.encL ec_3 b0) (Int.toNat (Go.IntKind.wrap Go.IntKind.i64 (i + (1 : Int)))) []) (0 : Nat) C.ne)))]])) / (4 : Nat))) + (192 : Nat)) * (16 : Nat)) ≤ (281474976710656 : Nat)))) && (decide ((out + (List.length [[(C.int Go.IntKind.i64 (intOf (List.getD (List.getD (EC.encL ec_3 b0) (Int.toNat i) []) (0 : Nat) C.ne))), (C.int Go.IntKind.i64 (intOf (List.getD (List.getD (EC.encL ec_3 b0) (Int.toNat (Go.IntKind.wrap Go.IntKind.i64 (i + (1 : Int)))) []) (0 : Nat) C.ne)))]])) ≤ (9223372036854775807 : Nat)))) <|
                              (gdE (EC.isL ec_58 (EC.encL ec_58 l)) <|
                                (gdE (EC.isL ec_3 (EC.encL ec_3 b0)) <|
                                  (gdE (EC.isL ec_58 ((EC.encL ec_58 b1) ++ [[(C.int Go.IntKind.i64 (intOf (List.getD (List.getD (EC.encL ec_3 b0) (Int.toNat i) []) (0 : Nat) C.ne))), (C.int Go.IntKind.i64 (intOf (List.getD (List.getD (EC.encL ec_3 b0) (Int.toNat (Go.IntKind.wrap Go.IntKind.i64 (i + (1 : Int)))) []) (0 : Nat) C.ne)))]])) <|
                                    (posthouseref6_Within_l4 (EC.decL ec_58 (EC.encL ec_58 l)) busy b (out + (List.length [[(C.int Go.IntKind.i64 (intOf (List.getD (List.getD (EC.encL ec_3 b0) (Int.toNat i) []) (0 : Nat) C.ne))), (C.int Go.IntKind.i64 (intOf (List.getD (List.getD (EC.encL ec_3 b0) (Int.toNat (Go.IntKind.wrap Go.IntKind.i64 (i + (1 : Int)))) []) (0 : Nat) C.ne)))]])) (Go.IntKind.wrap Go.IntKind.i64 (i + (1 : Int))) (EC.decL ec_3 (EC.encL ec_3 b0)) (EC.decL ec_58 ((EC.encL ec_58 b1) ++ [[(C.int Go.IntKind.i64 (intOf (List.getD (List.getD (EC.encL ec_3 b0) (Int.toNat i) []) (0 : Nat) C.ne))), (C.int Go.IntKind.i64 (intOf (List.getD (List.getD (EC.encL ec_3 b0) (Int.toNat (Go.IntKind.wrap Go.IntKind.i64 (i + (1 : Int)))) []) (0 : Nat) C.ne)))]]))))))))))))))))))))
  (gdE (EC.isL ec_58 (EC.encL ec_58 l)) <|
    (gdE (EC.isL ec_3 (EC.encL ec_3 b0)) <|
      (gdE (EC.isL ec_58 (EC.encL ec_58 b1)) <|
        (some (((EC.decL ec_58 (EC.encL ec_58 l)), (busy, (b, (out, (i, false))))), ((EC.decL ec_3 (EC.encL ec_3 b0)), (EC.decL ec_58 (EC.encL ec_58 b1)))))))))
theorem posthouseref6_Within_l4_eq {l : (List S58)} {busy : Bool} {b : Nat} {out : Nat} {i : Int} {b0 : (List Int)} {b1 : (List S58)} {r : (((List S58) × Bool × Nat × Nat × Int × Bool) × ((List Int) × (List S58)))} (h : posthouseref6_Within_l4_t l busy b out i b0 b1 = some r) : posthouseref6_Within_l4 l busy b out i b0 b1 = some r :=
  lS_tree (es := tab_posthouseref6_bounds) (hs := []) [] (by kernel_rfl) trivial trivial (by kernel_rfl) h
noncomputable def posthouseref6_Within_l4_e : LEnt Try.prog lv X2 23 73 := lentS Try.prog lv X2 4 (getLoop (cdF Try.f23) 4) posthouseref6_Within_l4_s posthouseref6_Within_l4_o (fun x => posthouseref6_Within_l4 x.1.1 x.1.2.1 x.1.2.2.1 x.1.2.2.2.1 x.1.2.2.2.2 x.2.1 x.2.2) (fun _ _ h => lS_from h)
def posthouseref6_Within_cr : Cod (V × List B) (Nat × (List S58)) := (cPair (vRow 0) (lOne (bRow ec_58)))
noncomputable def posthouseref6_Within_s (l : (List S58)) (from_ : Int) (to_ : Int) (busy : Bool) : Option (Nat × (List S58)) := fS Try.prog lv X2 23 posthouseref6_Within_ca posthouseref6_Within_cr (l, from_, to_, busy)
noncomputable def posthouseref6_Within_t (l : (List S58)) (from_ : Int) (to_ : Int) (busy : Bool) : Option (Nat × (List S58)) :=
  (gdE (EC.isL ec_58 (EC.encL ec_58 l)) <|
  (Option.bind (posthouseref6_bounds_s (EC.decL ec_58 (EC.encL ec_58 l)) from_ to_) fun r0 =>
    (gdE (EC.isL ec_58 (EC.encL ec_58 l)) <|
      (gdE (EC.isL ec_3 (EC.encL ec_3 (r0).2)) <|
        (Option.bind (posthouseref6_Within_l4 (EC.decL ec_58 (EC.encL ec_58 l)) busy (r0).1 (0 : Nat) (0 : Int) (EC.decL ec_3 (EC.encL ec_3 (r0).2)) (EC.decL ec_58 [])) fun r1 =>
          (gdE (EC.isL ec_58 (EC.encL ec_58 ((r1).2).2)) <|
            (some ((((((r1).1).2).2).2).1, (EC.decL ec_58 (EC.encL ec_58 ((r1).2).2))))))))))
theorem posthouseref6_Within_eq {l : (List S58)} {from_ : Int} {to_ : Int} {busy : Bool} {r : (Nat × (List S58))} (h : posthouseref6_Within_t l from_ to_ busy = some r) : posthouseref6_Within_s l from_ to_ busy = some r :=
  fS_tree (es := tab_posthouseref6_bounds) (hs := []) [posthouseref6_Within_l4_e] Try.func23 rfl (by kernel_rfl) rfl (by kernel_rfl) (by kernel_rfl) ⟨⟨_, rfl, rfl⟩, trivial⟩ trivial (by kernel_rfl) h
noncomputable def posthouseref6_Within_e : Ent Try.prog lv X2 := entS Try.prog lv X2 23 [] posthouseref6_Within_ca posthouseref6_Within_cr (fun x => posthouseref6_Within_s x.1 x.2.1 x.2.2.1 x.2.2.2) (fun _ _ h => fS_call h)
noncomputable def tab_posthouseref6_Within : List (Ent Try.prog lv X2) := posthouseref6_Within_e :: tab_posthouseref6_bounds
def posthouseref6_Long_ca : Cod (List V) ((List S58) × Int) := (lCons (vC (cSl ec_58)) (lOne (vC (cInt .i64))))
def posthouseref6_Long_l3_s : SC (((List S58) × Int × Nat × Int) × (List S58)) := sLS [0, 1, 5, 6] (lCons (vC (cSl ec_58)) (lCons (vC (cInt .i64)) (lCons (vRow 0) (lOne (vC (cInt .i64)))))) (lOne (oSome (bRow ec_58))) [false] [] (by decide) (fun _ => rfl)
def posthouseref6_Long_l3_o2 : SC (((List S58) × Int × Nat × Int × Bool) × (List S58)) := sLS [0, 1, 5, 6, 10] (lCons (vC (cSl ec_58)) (lCons (vC (cInt .i64)) (lCons (vRow 0) (lCons (vC (cInt .i64)) (lOne (vC cBool)))))) (lOne (oSome (bRow ec_58))) [false] [] (by decide) (fun _ => rfl)
def posthouseref6_Long_l3_o : OC (((List S58) × Int × Nat × Int × Bool) × (List S58)) := oAt 2 posthouseref6_Long_l3_o2
noncomputable def posthouseref6_Long_l3 (l : (List S58)) (length : Int) (out : Nat) (i : Int) (b0 : (List S58)) : Option (((List S58) × Int × Nat × Int × Bool) × (List S58)) := lS Try.prog lv X2 28 34 (getLoop (cdF Try.f28) 3) posthouseref6_Long_l3_s posthouseref6_Long_l3_o ((l, length, out, i), b0)
noncomputable def posthouseref6_Long_l3_t (l : (List S58)) (length : Int) (out : Nat) (i : Int) (b0 : (List S58)) : Option (((List S58) × Int × Nat × Int × Bool) × (List S58)) :=
  (brE (decide (i < (((List.length (EC.encL ec_58 l)) : Nat) : Int)))
  (gdE (decide ((0 : Int) ≤ i)) <|
    (gdE ((decide ((Int.toNat i) < (List.length (EC.encL ec_58 l)))) && (isE [(K1.int Go.IntKind.i64), (K1.int Go.IntKind.i64)] (0 : Nat) (List.getD (EC.encL ec_58 l) (Int.toNat i) []))) <|
      (gdE (decide ((0 : Int) ≤ i)) <|
        (gdE ((decide ((Int.toNat i) < (List.length (EC.encL ec_58 l)))) && (isE [(K1.int Go.IntKind.i64), (K1.int Go.IntKind.i64)] (0 : Nat) (List.getD (EC.encL ec_58 l) (Int.toNat i) []))) <|
          (brE (decide ((Go.IntKind.wrap Go.IntKind.i64 ((intOf (List.getD (List.getD (EC.encL ec_58 l) (Int.toNat i) []) (1 : Nat) C.ne)) - (intOf (List.getD (List.getD (EC.encL ec_58 l) (Int.toNat i) []) (0 : Nat) C.ne)))) ≥ length))
            (gdE (decide ((0 : Int) ≤ i)) <|
              (gdE ((decide ((Int.toNat i) < (List.length (EC.encL ec_58 l)))) && (isE [(K1.int Go.IntKind.i64), (K1.int Go.IntKind.i64)] (0 : Nat) (List.getD (EC.encL ec_58 l) (Int.toNat i) []))) <|
                (gdE ((((List.all [[(C.int Go.IntKind.i64 (intOf (List.getD (List.getD (EC.encL ec_58 l) (Int.toNat i) []) (0 : Nat) C.ne))), (C.int Go.IntKind.i64 (intOf (List.getD (List.getD (EC.encL ec_58 l) (Int.toNat i) []) (1 : Nat) C.ne)))]] (fun (el : (List C)) => ((List.length el) == (2 : Nat)))) && (List.all (EC.encL ec_58 b0) (fun (el : (List C)) => ((List.length el) == (2 : Nat))))) && (decide (((((out + (List.length [[(C.int Go.IntKind.i64 (intOf (List.getD (List.getD (EC.encL ec_58 l) (Int.toNat i) []) (0 : Nat) C.ne))), (C.int Go.IntKind.i64 (intOf (List.getD (List.getD (EC.encL ec_58 l) (Int.toNat i) []) (1 : Nat) C.ne)))]])) + ((out + (List.length [[(C.int Go.IntKind.i64 (intOf (List.getD (List.getD (EC.encL ec_58 l) (Int.toNat i) []) (0 : Nat) C.ne))), (C.int Go.IntKind.i64 (intOf (List.getD (List.getD (EC.encL ec_58 l) (Int.toNat i) []) (1 : Nat) C.ne)))]])) / (4 : Nat))) + (192 : Nat)) * (16 : Nat)) ≤ (281474976710656 : Nat)))) && (decide ((out + (List.length [[(C.int Go.IntKind.i64 (intOf (List.getD (List.getD (EC.encL ec_58 l) (Int.toNat i) []) (0 : Nat) C.ne))), (C.int Go.IntKind.i64 (intOf (List.getD (List.getD (EC.encL ec_58 l) (Int.toNat i) []) (1 : Nat) C.ne)))]])) ≤ (9223372036854775807 : Nat)))) <|
                  (gdE (EC.isL ec_58 (EC.encL ec_58 l)) <|
                    (gdE (EC.isL ec_58 ((EC.encL ec_58 b0) ++ [[(C.int Go.IntKind.i64 (intOf (List.getD (List.getD (EC.encL ec_58 l) (Int.toNat i) []) (0 : Nat) C.ne))), (C.int Go.IntKind.i64 (intOf (List.getD (List.getD (EC.encL ec_58 l) (Int.toNat i) []) (1 : Nat) C.ne)))]])) <|
                      (posthouseref6_Long_l3 (EC.decL ec_58 (EC.encL ec_58 l)) length (out + (List.length [[(C.int Go.IntKind.i64 (intOf (List.getD (List.getD (EC.encL ec_58 l) (Int.toNat i) []) (0 : Nat) C.ne))), (C.int Go.IntKind.i64 (intOf (List.getD (List.getD (EC.encL ec_58 l) (Int.toNat i) []) (1 : Nat) C.ne)))]])) (Go.IntKind.wrap Go.IntKind.i64 (i + (1 : Int))) (EC.decL ec_58 ((EC.encL ec_58 b0) ++ [[(C.int Go.IntKind.i64 (intOf (List.getD (List.getD (EC.encL ec_58 l) (Int.toNat i) []) (0 : Nat) C.ne))), (C.int Go.IntKind.i64 (intOf (List.getD (List.getD (EC.encL ec_58 l) (Int.toNat i) []) (1 : Nat) C.ne)))]]))))))))
            (gdE (EC.isL ec_58 (EC.encL ec_58 l)) <|
              (gdE (EC.isL ec_58 (EC.encL ec_58 b0)) <|
                (posthouseref6_Long_l3 (EC.decL ec_58 (EC.encL ec_58 l)) length out (Go.IntKind.wrap Go.IntKind.i64 (i + (1 : Int))) (EC.decL ec_58 (EC.encL ec_58 b0))))))))))
  (gdE (EC.isL ec_58 (EC.encL ec_58 l)) <|
    (gdE (EC.isL ec_58 (EC.encL ec_58 b0)) <|
      (some (((EC.decL ec_58 (EC.encL ec_58 l)), (length, (out, (i, false)))), (EC.decL ec_58 (EC.encL ec_58 b0)))))))
theorem posthouseref6_Long_l3_eq {l : (List S58)} {length : Int} {out : Nat} {i : Int} {b0 : (List S58)} {r : (((List S58) × Int × Nat × Int × Bool) × (List S58))} (h : posthouseref6_Long_l3_t l length out i b0 = some r) : posthouseref6_Long_l3 l length out i b0 = some r :=
  lS_tree (es := tab_posthouseref6_Within) (hs := []) [] (by kernel_rfl) trivial trivial (by kernel_rfl) h
noncomputable def posthouseref6_Long_l3_e : LEnt Try.prog lv X2 28 34 := lentS Try.prog lv X2 3 (getLoop (cdF Try.f28) 3) posthouseref6_Long_l3_s posthouseref6_Long_l3_o (fun x => posthouseref6_Long_l3 x.1.1 x.1.2.1 x.1.2.2.1 x.1.2.2.2 x.2) (fun _ _ h => lS_from h)
def posthouseref6_Long_cr : Cod (V × List B) (Nat × (List S58)) := (cPair (vRow 0) (lOne (bRow ec_58)))
noncomputable def posthouseref6_Long_s (l : (List S58)) (length : Int) : Option (Nat × (List S58)) := fS Try.prog lv X2 28 posthouseref6_Long_ca posthouseref6_Long_cr (l, length)
noncomputable def posthouseref6_Long_t (l : (List S58)) (length : Int) : Option (Nat × (List S58)) :=
  (gdE (EC.isL ec_58 (EC.encL ec_58 l)) <|
  (Option.bind (posthouseref6_Long_l3 (EC.decL ec_58 (EC.encL ec_58 l)) length (0 : Nat) (0 : Int) (EC.decL ec_58 [])) fun r0 =>
    (gdE (EC.isL ec_58 (EC.encL ec_58 (r0).2)) <|
      (some (((((r0).1).2).2).1, (EC.decL ec_58 (EC.encL ec_58 (r0).2)))))))
theorem posthouseref6_Long_eq {l : (List S58)} {length : Int} {r : (Nat × (List S58))} (h : posthouseref6_Long_t l length = some r) : posthouseref6_Long_s l length = some r :=
  fS_tree (es := tab_posthouseref6_Within) (hs := []) [posthouseref6_Long_l3_e] Try.func28 rfl (by kernel_rfl) rfl (by kernel_rfl) (by kernel_rfl) ⟨⟨_, rfl, rfl⟩, trivial⟩ trivial (by kernel_rfl) h
noncomputable def posthouseref6_Long_e : Ent Try.prog lv X2 := entS Try.prog lv X2 28 [] posthouseref6_Long_ca posthouseref6_Long_cr (fun x => posthouseref6_Long_s x.1 x.2) (fun _ _ h => fS_call h)
noncomputable def tab_posthouseref6_Long : List (Ent Try.prog lv X2) := posthouseref6_Long_e :: tab_posthouseref6_Within
def posthouseref6_SamePeriods_ca : Cod (List V) ((List S58) × (List S58)) := (lCons (vC (cSl ec_58)) (lOne (vC (cSl ec_58))))
def posthouseref6_SamePeriods_l4_s : SC (((List S58) × (List S58) × Int) × Unit) := sLS [0, 1, 5] (lCons (vC (cSl ec_58)) (lCons (vC (cSl ec_58)) (lOne (vC (cInt .i64))))) lNil [] [] (by decide) (fun _ => rfl)
def posthouseref6_SamePeriods_l4_o2 : SC (((List S58) × (List S58) × Int × Bool) × Unit) := sLS [0, 1, 5, 14] (lCons (vC (cSl ec_58)) (lCons (vC (cSl ec_58)) (lCons (vC (cInt .i64)) (lOne (vC cBool))))) lNil [] [] (by decide) (fun _ => rfl)
def posthouseref6_SamePeriods_l4_o1 : SC (Bool × Unit) := sLS [4] (lOne (vC cBool)) lNil [] [] (by decide) (fun _ => rfl)
def posthouseref6_SamePeriods_l4_o : OC ((Bool × Unit) ⊕ (((List S58) × (List S58) × Int × Bool) × Unit)) := oOr 1 posthouseref6_SamePeriods_l4_o1 (oAt 2 posthouseref6_SamePeriods_l4_o2) (fun x => (by decide : (2 : Nat) ≠ 1))
noncomputable def posthouseref6_SamePeriods_l4 (a : (List S58)) (b : (List S58)) (i : Int) : Option ((Bool × Unit) ⊕ (((List S58) × (List S58) × Int × Bool) × Unit)) := lS Try.prog lv X2 22 26 (getLoop (cdF Try.f22) 4) posthouseref6_SamePeriods_l4_s posthouseref6_SamePeriods_l4_o ((a, b, i), ())
noncomputable def posthouseref6_SamePeriods_l4_t (a : (List S58)) (b : (List S58)) (i : Int) : Option ((Bool × Unit) ⊕ (((List S58) × (List S58) × Int × Bool) × Unit)) :=
  (brE (decide (i < (((List.length (EC.encL ec_58 a)) : Nat) : Int)))
  (gdE (decide ((0 : Int) ≤ i)) <|
    (gdE ((decide ((Int.toNat i) < (List.length (EC.encL ec_58 a)))) && (isE [(K1.int Go.IntKind.i64), (K1.int Go.IntKind.i64)] (0 : Nat) (List.getD (EC.encL ec_58 a) (Int.toNat i) []))) <|
      (gdE (decide ((0 : Int) ≤ i)) <|
        (gdE ((decide ((Int.toNat i) < (List.length (EC.encL ec_58 b)))) && (isE [(K1.int Go.IntKind.i64), (K1.int Go.IntKind.i64)] (0 : Nat) (List.getD (EC.encL ec_58 b) (Int.toNat i) []))) <|
          (brE (!(((intOf (List.getD (List.getD (EC.encL ec_58 a) (Int.toNat i) []) (0 : Nat) C.ne)) == (intOf (List.getD (List.getD (EC.encL ec_58 b) (Int.toNat i) []) (0 : Nat) C.ne))) && (((intOf (List.getD (List.getD (EC.encL ec_58 a) (Int.toNat i) []) (1 : Nat) C.ne)) == (intOf (List.getD (List.getD (EC.encL ec_58 b) (Int.toNat i) []) (1 : Nat) C.ne))) && true)))
            (some (.inl (false, ())))
            (gdE (EC.isL ec_58 (EC.encL ec_58 a)) <|
              (gdE (EC.isL ec_58 (EC.encL ec_58 b)) <|
                (posthouseref6_SamePeriods_l4 (EC.decL ec_58 (EC.encL ec_58 a)) (EC.decL ec_58 (EC.encL ec_58 b)) (Go.IntKind.wrap Go.IntKind.i64 (i + (1 : Int)))))))))))
  (gdE (EC.isL ec_58 (EC.encL ec_58 a)) <|
    (gdE (EC.isL ec_58 (EC.encL ec_58 b)) <|
      (some (.inr (((EC.decL ec_58 (EC.encL ec_58 a)), ((EC.decL ec_58 (EC.encL ec_58 b)), (i, false))), ()))))))
theorem posthouseref6_SamePeriods_l4_eq {a : (List S58)} {b : (List S58)} {i : Int} {r : ((Bool × Unit) ⊕ (((List S58) × (List S58) × Int × Bool) × Unit))} (h : posthouseref6_SamePeriods_l4_t a b i = some r) : posthouseref6_SamePeriods_l4 a b i = some r :=
  lS_tree (es := tab_posthouseref6_Long) (hs := []) [] (by kernel_rfl) trivial trivial (by kernel_rfl) h
noncomputable def posthouseref6_SamePeriods_l4_e : LEnt Try.prog lv X2 22 26 := lentS Try.prog lv X2 4 (getLoop (cdF Try.f22) 4) posthouseref6_SamePeriods_l4_s posthouseref6_SamePeriods_l4_o (fun x => posthouseref6_SamePeriods_l4 x.1.1 x.1.2.1 x.1.2.2) (fun _ _ h => lS_from h)
def posthouseref6_SamePeriods_cr : Cod (V × List B) Bool := (cFstU (cPair (vC cBool) lNil))
noncomputable def posthouseref6_SamePeriods_s (a : (List S58)) (b : (List S58)) : Option Bool := fS Try.prog lv X2 22 posthouseref6_SamePeriods_ca posthouseref6_SamePeriods_cr (a, b)
noncomputable def posthouseref6_SamePeriods_t (a : (List S58)) (b : (List S58)) : Option Bool :=
  (brE ((((List.length (EC.encL ec_58 a)) : Nat) : Int) != (((List.length (EC.encL ec_58 b)) : Nat) : Int))
  (some false)
  (gdE (EC.isL ec_58 (EC.encL ec_58 a)) <|
    (gdE (EC.isL ec_58 (EC.encL ec_58 b)) <|
      (Option.bind (posthouseref6_SamePeriods_l4 (EC.decL ec_58 (EC.encL ec_58 a)) (EC.decL ec_58 (EC.encL ec_58 b)) (0 : Int)) fun r0 =>
        (Sum.elim (fun r1 => (some (r1).1))
          (fun r1 => (some true)) r0)))))
theorem posthouseref6_SamePeriods_eq {a : (List S58)} {b : (List S58)} {r : Bool} (h : posthouseref6_SamePeriods_t a b = some r) : posthouseref6_SamePeriods_s a b = some r :=
  fS_tree (es := tab_posthouseref6_Long) (hs := []) [posthouseref6_SamePeriods_l4_e] Try.func22 rfl (by kernel_rfl) rfl (by kernel_rfl) (by kernel_rfl) ⟨⟨_, rfl, rfl⟩, trivial⟩ trivial (by kernel_rfl) h
noncomputable def posthouseref6_SamePeriods_e : Ent Try.prog lv X2 := entS Try.prog lv X2 22 [] posthouseref6_SamePeriods_ca posthouseref6_SamePeriods_cr (fun x => posthouseref6_SamePeriods_s x.1 x.2) (fun _ _ h => fS_call h)
noncomputable def tab_posthouseref6_SamePeriods : List (Ent Try.prog lv X2) := posthouseref6_SamePeriods_e :: tab_posthouseref6_Long
def meeting_Best_ca : Cod (List V) ((List (List S58)) × Int × Int × Int) := (lCons (vC (cSl ec_45)) (lCons (vC (cInt .i64)) (lCons (vC (cInt .i64)) (lOne (vC (cInt .i64))))))
def meeting_Best_l4_s : SC (((List (List S58)) × Int × Int × Int × Unit × Unit × (List (List S58)) × Int × Int) × ((Int × Int) × (Int × Int))) := sLS [0, 1, 2, 3, 8, 10, 21, 22, 23] (lCons (vC (cSl ec_45)) (lCons (vC (cInt .i64)) (lCons (vC (cInt .i64)) (lCons (vC (cInt .i64)) (lCons (vPtr 0 0) (lCons (vPtr 1 0) (lCons (vC (cSl ec_45)) (lCons (vC (cInt .i64)) (lOne (vC (cInt .i64))))))))))) (lCons (oSome (bBox (lCons (vC (cInt .i64)) (lOne (vC (cInt .i64)))))) (lOne (oSome (bBox (lCons (vC (cInt .i64)) (lOne (vC (cInt .i64)))))))) [false, false] [] (by decide) (fun _ => rfl)
def meeting_Best_l4_o2 : SC (((List (List S58)) × Int × Int × Int × Unit × Unit × (List (List S58)) × Int × Int × Bool) × ((Int × Int) × (Int × Int))) := sLS [0, 1, 2, 3, 8, 10, 21, 22, 23, 24] (lCons (vC (cSl ec_45)) (lCons (vC (cInt .i64)) (lCons (vC (cInt .i64)) (lCons (vC (cInt .i64)) (lCons (vPtr 0 0) (lCons (vPtr 1 0) (lCons (vC (cSl ec_45)) (lCons (vC (cInt .i64)) (lCons (vC (cInt .i64)) (lOne (vC cBool))))))))))) (lCons (oSome (bBox (lCons (vC (cInt .i64)) (lOne (vC (cInt .i64)))))) (lOne (oSome (bBox (lCons (vC (cInt .i64)) (lOne (vC (cInt .i64)))))))) [false, false] [] (by decide) (fun _ => rfl)
def meeting_Best_l4_o1 : SC ((Unit × Bool × Unit) × ((Int × Int) × (Int × Int))) := sLS [8, 9, 10] (lCons (vPtr 0 0) (lCons (vC cBool) (lOne (vPtr 1 0)))) (lCons (oSome (bBox (lCons (vC (cInt .i64)) (lOne (vC (cInt .i64)))))) (lOne (oSome (bBox (lCons (vC (cInt .i64)) (lOne (vC (cInt .i64)))))))) [false, false] [] (by decide) (fun _ => rfl)
def meeting_Best_l4_o : OC (((Unit × Bool × Unit) × ((Int × Int) × (Int × Int))) ⊕ (((List (List S58)) × Int × Int × Int × Unit × Unit × (List (List S58)) × Int × Int × Bool) × ((Int × Int) × (Int × Int)))) := oOr 1 meeting_Best_l4_o1 (oAt 2 meeting_Best_l4_o2) (fun x => (by decide : (2 : Nat) ≠ 1))
noncomputable def meeting_Best_l4 (calendars : (List (List S58))) (length : Int) (from_ : Int) (to_ : Int) (t21 : (List (List S58))) (t22 : Int) (t23 : Int) (b0 : Int) (b0_1 : Int) (b1 : Int) (b1_1 : Int) : Option (((Unit × Bool × Unit) × ((Int × Int) × (Int × Int))) ⊕ (((List (List S58)) × Int × Int × Int × Unit × Unit × (List (List S58)) × Int × Int × Bool) × ((Int × Int) × (Int × Int)))) := lS Try.prog lv X2 29 76 (getLoop (cdF Try.f29) 4) meeting_Best_l4_s meeting_Best_l4_o ((calendars, length, from_, to_, (), (), t21, t22, t23), ((b0, b0_1), (b1, b1_1)))
noncomputable def meeting_Best_l4_t (calendars : (List (List S58))) (length : Int) (from_ : Int) (to_ : Int) (t21 : (List (List S58))) (t22 : Int) (t23 : Int) (b0 : Int) (b0_1 : Int) (b1 : Int) (b1_1 : Int) : Option (((Unit × Bool × Unit) × ((Int × Int) × (Int × Int))) ⊕ (((List (List S58)) × Int × Int × Int × Unit × Unit × (List (List S58)) × Int × Int × Bool) × ((Int × Int) × (Int × Int)))) :=
  (brE (decide (t23 < t22))
  (gdE (decide ((0 : Int) ≤ t23)) <|
    (gdE ((decide ((Int.toNat t23) < (List.length (EC.encL ec_45 t21)))) && (isE [K1.sl] (0 : Nat) (List.getD (EC.encL ec_45 t21) (Int.toNat t23) []))) <|
      (gdE (EC.isL ec_58 (slOf (List.getD (List.getD (EC.encL ec_45 t21) (Int.toNat t23) []) (0 : Nat) C.ne))) <|
        (Option.bind (freebusy_Check_s (EC.decL ec_58 (slOf (List.getD (List.getD (EC.encL ec_45 t21) (Int.toNat t23) []) (0 : Nat) C.ne)))) fun r0 =>
          (Option.bind (basic_Failed_s (r0).1 (r0).2) fun r1 =>
            (brE r1
              (Option.bind (basic_Fault_s (r0).1 t23) fun r2 =>
                (some (.inl (((), (false, ())), (((0 : Int), (0 : Int)), ((r2).1, (r2).2))))))
              (gdE (EC.isL ec_45 (EC.encL ec_45 calendars)) <|
                (gdE (EC.isL ec_45 (EC.encL ec_45 t21)) <|
                  (meeting_Best_l4 (EC.decL ec_45 (EC.encL ec_45 calendars)) length from_ to_ (EC.decL ec_45 (EC.encL ec_45 t21)) t22 (Go.IntKind.wrap Go.IntKind.i64 (t23 + (1 : Int))) b0 b0_1 b1 b1_1)))))))))
  (gdE (EC.isL ec_45 (EC.encL ec_45 calendars)) <|
    (gdE (EC.isL ec_45 (EC.encL ec_45 t21)) <|
      (some (.inr (((EC.decL ec_45 (EC.encL ec_45 calendars)), (length, (from_, (to_, ((), ((), ((EC.decL ec_45 (EC.encL ec_45 t21)), (t22, (t23, false))))))))), ((b0, b0_1), (b1, b1_1))))))))
theorem meeting_Best_l4_eq {calendars : (List (List S58))} {length : Int} {from_ : Int} {to_ : Int} {t21 : (List (List S58))} {t22 : Int} {t23 : Int} {b0 : Int} {b0_1 : Int} {b1 : Int} {b1_1 : Int} {r : (((Unit × Bool × Unit) × ((Int × Int) × (Int × Int))) ⊕ (((List (List S58)) × Int × Int × Int × Unit × Unit × (List (List S58)) × Int × Int × Bool) × ((Int × Int) × (Int × Int))))} (h : meeting_Best_l4_t calendars length from_ to_ t21 t22 t23 b0 b0_1 b1 b1_1 = some r) : meeting_Best_l4 calendars length from_ to_ t21 t22 t23 b0 b0_1 b1 b1_1 = some r :=
  lS_tree (es := tab_posthouseref6_SamePeriods) (hs := []) [] (by kernel_rfl) trivial trivial (by kernel_rfl) h
noncomputable def meeting_Best_l4_e : LEnt Try.prog lv X2 29 76 := lentS Try.prog lv X2 4 (getLoop (cdF Try.f29) 4) meeting_Best_l4_s meeting_Best_l4_o (fun x => meeting_Best_l4 x.1.1 x.1.2.1 x.1.2.2.1 x.1.2.2.2.1 x.1.2.2.2.2.2.2.1 x.1.2.2.2.2.2.2.2.1 x.1.2.2.2.2.2.2.2.2 x.2.1.1 x.2.1.2 x.2.2.1 x.2.2.2) (fun _ _ h => lS_from h)
def meeting_Best_cr : Cod (V × List B) ((Int × Int) × Bool × (Int × Int)) := (cFstU (cPair (vTup (lCons (vAgg (lCons (vC (cInt .i64)) (lOne (vC (cInt .i64))))) (lCons (vC cBool) (lOne (vAgg (lCons (vC (cInt .i64)) (lOne (vC (cInt .i64))))))))) lNil))
noncomputable def meeting_Best_s (calendars : (List (List S58))) (length : Int) (from_ : Int) (to_ : Int) : Option ((Int × Int) × Bool × (Int × Int)) := fS Try.prog lv X2 29 meeting_Best_ca meeting_Best_cr (calendars, length, from_, to_)
noncomputable def meeting_Best_t (calendars : (List (List S58))) (length : Int) (from_ : Int) (to_ : Int) : Option ((Int × Int) × Bool × (Int × Int)) :=
  (brE (decide ((((List.length (EC.encL ec_45 calendars)) : Nat) : Int) > (30 : Int)))
  (Option.bind (basic_Fault_s (2 : Int) (-(1 : Int))) fun r0 =>
    (some (((0 : Int), (0 : Int)), (false, ((r0).1, (r0).2)))))
  (gdE (EC.isL ec_45 (EC.encL ec_45 calendars)) <|
    (gdE (EC.isL ec_45 (EC.encL ec_45 calendars)) <|
      (Option.bind (meeting_Best_l4 (EC.decL ec_45 (EC.encL ec_45 calendars)) length from_ to_ (EC.decL ec_45 (EC.encL ec_45 calendars)) (((List.length (EC.encL ec_45 calendars)) : Nat) : Int) (0 : Int) (0 : Int) (0 : Int) (0 : Int) (0 : Int)) fun r0 =>
        (Sum.elim (fun r1 => (some (((((r1).2).1).1, (((r1).2).1).2), ((((r1).1).2).1, ((((r1).2).2).1, (((r1).2).2).2)))))
          (fun r1 => (Option.bind (freebusy_Span_s ((((r1).1).2).2).1 (((((r1).1).2).2).2).1) fun r2 =>
            (Option.bind (basic_Failed_s (r2).1 (r2).2) fun r3 =>
              (brE r3
                (some (((0 : Int), (0 : Int)), (false, ((r2).1, (r2).2))))
                (brE ((decide ((((r1).1).2).1 < (1 : Int))) == false)
                  (brE (decide ((((r1).1).2).1 > (68719476736 : Int)))
                    (Option.bind (basic_Fault_s (3 : Int) (-(3 : Int))) fun r4 =>
                      (some (((0 : Int), (0 : Int)), (false, ((r4).1, (r4).2)))))
                    (gdE (EC.isL ec_45 (EC.encL ec_45 ((r1).1).1)) <|
                      (Option.bind (catS (EC.decL ec_45 (EC.encL ec_45 ((r1).1).1))) fun r4 =>
                        (gdE (EC.isL ec_58 (EC.encL ec_58 (r4).2)) <|
                          (Option.bind (freebusy_Gaps_s (EC.decL ec_58 (EC.encL ec_58 (r4).2)) ((((r1).1).2).2).1 (((((r1).1).2).2).2).1 (((r1).1).2).1) fun r5 =>
                            (brE ((((r5).1 : Nat) : Int) == (0 : Int))
                              (Option.bind basic_None_s fun r6 =>
                                (some (((0 : Int), (0 : Int)), (false, ((r6).1, (r6).2)))))
                              (gdE ((decide ((0 : Int) ≤ (0 : Int))) && (decide ((0 : Int) < (((r5).1 : Nat) : Int)))) <|
                                (gdE ((decide ((Int.toNat (0 : Int)) < (List.length (EC.encL ec_58 (r5).2)))) && ((List.length (List.getD (EC.encL ec_58 (r5).2) (Int.toNat (0 : Int)) [])) == (2 : Nat))) <|
                                  (gdE (isP [(K1.int Go.IntKind.i64)] (0 : Nat) (List.getD (EC.encL ec_58 (r5).2) (Int.toNat (0 : Int)) [])) <|
                                    (gdE ((decide ((0 : Int) ≤ (0 : Int))) && (decide ((0 : Int) < (((r5).1 : Nat) : Int)))) <|
                                      (gdE ((decide ((Int.toNat (0 : Int)) < (List.length (EC.encL ec_58 (r5).2)))) && ((List.length (List.getD (EC.encL ec_58 (r5).2) (Int.toNat (0 : Int)) [])) == (2 : Nat))) <|
                                        (gdE (isP [(K1.int Go.IntKind.i64)] (0 : Nat) (List.getD (EC.encL ec_58 (r5).2) (Int.toNat (0 : Int)) [])) <|
                                          (Option.bind basic_None_s fun r6 =>
                                            (some (((intOf (List.getD (List.getD (EC.encL ec_58 (r5).2) (Int.toNat (0 : Int)) []) (0 : Nat) C.ne)), (Go.IntKind.wrap Go.IntKind.i64 ((intOf (List.getD (List.getD (EC.encL ec_58 (r5).2) (Int.toNat (0 : Int)) []) (0 : Nat) C.ne)) + (((r1).1).2).1))), (true, ((r6).1, (r6).2)))))))))))))))))
                  (Option.bind (basic_Fault_s (3 : Int) (-(3 : Int))) fun r4 =>
                    (some (((0 : Int), (0 : Int)), (false, ((r4).1, (r4).2)))))))))) r0)))))
theorem meeting_Best_eq {calendars : (List (List S58))} {length : Int} {from_ : Int} {to_ : Int} {r : ((Int × Int) × Bool × (Int × Int))} (h : meeting_Best_t calendars length from_ to_ = some r) : meeting_Best_s calendars length from_ to_ = some r :=
  fS_tree (es := tab_posthouseref6_SamePeriods) (hs := []) [meeting_Best_l4_e] Try.func29 rfl (by kernel_rfl) rfl (by kernel_rfl) (by kernel_rfl) ⟨⟨_, rfl, rfl⟩, trivial⟩ trivial (by kernel_rfl) h
noncomputable def meeting_Best_e : Ent Try.prog lv X2 := entS Try.prog lv X2 29 [] meeting_Best_ca meeting_Best_cr (fun x => meeting_Best_s x.1 x.2.1 x.2.2.1 x.2.2.2) (fun _ _ h => fS_call h)
noncomputable def tab_meeting_Best : List (Ent Try.prog lv X2) := meeting_Best_e :: tab_posthouseref6_SamePeriods
def posthouselaw6_MeetingBestMatchesSpec_ca : Cod (List V) ((List (List S58)) × Int × Int × Int) := (lCons (vC (cSl ec_45)) (lCons (vC (cInt .i64)) (lCons (vC (cInt .i64)) (lOne (vC (cInt .i64))))))
def posthouselaw6_MeetingBestMatchesSpec_l7_s : SC (((List (List S58)) × Int × Int × Int × Unit × Bool × Unit × Unit × Nat × Int) × ((Int × Int) × (Int × Int) × (Int × Int) × (List S58))) := sLS [0, 1, 2, 3, 9, 10, 11, 12, 13, 14] (lCons (vC (cSl ec_45)) (lCons (vC (cInt .i64)) (lCons (vC (cInt .i64)) (lCons (vC (cInt .i64)) (lCons (vPtr 0 0) (lCons (vC cBool) (lCons (vPtr 1 0) (lCons (vPtr 2 0) (lCons (vRow 3) (lOne (vC (cInt .i64)))))))))))) (lCons (oSome (bBox (lCons (vC (cInt .i64)) (lOne (vC (cInt .i64)))))) (lCons (oSome (bBox (lCons (vC (cInt .i64)) (lOne (vC (cInt .i64)))))) (lCons (oSome (bBox (lCons (vC (cInt .i64)) (lOne (vC (cInt .i64)))))) (lOne (oSome (bRow ec_58)))))) [false, false, false, false] [] (by decide) (fun _ => rfl)
def posthouselaw6_MeetingBestMatchesSpec_l7_o2 : SC (((List (List S58)) × Int × Int × Int × Unit × Bool × Unit × Unit × Nat × Int × Bool) × ((Int × Int) × (Int × Int) × (Int × Int) × (List S58))) := sLS [0, 1, 2, 3, 9, 10, 11, 12, 13, 14, 38] (lCons (vC (cSl ec_45)) (lCons (vC (cInt .i64)) (lCons (vC (cInt .i64)) (lCons (vC (cInt .i64)) (lCons (vPtr 0 0) (lCons (vC cBool) (lCons (vPtr 1 0) (lCons (vPtr 2 0) (lCons (vRow 3) (lCons (vC (cInt .i64)) (lOne (vC cBool)))))))))))) (lCons (oSome (bBox (lCons (vC (cInt .i64)) (lOne (vC (cInt .i64)))))) (lCons (oSome (bBox (lCons (vC (cInt .i64)) (lOne (vC (cInt .i64)))))) (lCons (oSome (bBox (lCons (vC (cInt .i64)) (lOne (vC (cInt .i64)))))) (lOne (oSome (bRow ec_58)))))) [false, false, false, false] [] (by decide) (fun _ => rfl)
def posthouselaw6_MeetingBestMatchesSpec_l7_o : OC (((List (List S58)) × Int × Int × Int × Unit × Bool × Unit × Unit × Nat × Int × Bool) × ((Int × Int) × (Int × Int) × (Int × Int) × (List S58))) := oAt 2 posthouselaw6_MeetingBestMatchesSpec_l7_o2
noncomputable def posthouselaw6_MeetingBestMatchesSpec_l7 (calendars : (List (List S58))) (length : Int) (from_ : Int) (to_ : Int) (is_ : Bool) (all : Nat) (i : Int) (b0 : Int) (b0_1 : Int) (b1 : Int) (b1_1 : Int) (b2 : Int) (b2_1 : Int) (b3 : (List S58)) : Option (((List (List S58)) × Int × Int × Int × Unit × Bool × Unit × Unit × Nat × Int × Bool) × ((Int × Int) × (Int × Int) × (Int × Int) × (List S58))) := lS Try.prog lv X2 9 149 (getLoop (cdF Try.f9) 7) posthouselaw6_MeetingBestMatchesSpec_l7_s posthouselaw6_MeetingBestMatchesSpec_l7_o ((calendars, length, from_, to_, (), is_, (), (), all, i), ((b0, b0_1), (b1, b1_1), (b2, b2_1), b3))
noncomputable def posthouselaw6_MeetingBestMatchesSpec_l7_t (calendars : (List (List S58))) (length : Int) (from_ : Int) (to_ : Int) (is_ : Bool) (all : Nat) (i : Int) (b0 : Int) (b0_1 : Int) (b1 : Int) (b1_1 : Int) (b2 : Int) (b2_1 : Int) (b3 : (List S58)) : Option (((List (List S58)) × Int × Int × Int × Unit × Bool × Unit × Unit × Nat × Int × Bool) × ((Int × Int) × (Int × Int) × (Int × Int) × (List S58))) :=
  (brE ((decide (i < (((List.length (EC.encL ec_45 calendars)) : Nat) : Int))) == true)
  (brE (b2 == (0 : Int))
    (gdE (decide ((0 : Int) ≤ i)) <|
      (gdE ((decide ((Int.toNat i) < (List.length (EC.encL ec_45 calendars)))) && (isE [K1.sl] (0 : Nat) (List.getD (EC.encL ec_45 calendars) (Int.toNat i) []))) <|
        (gdE (EC.isL ec_58 (slOf (List.getD (List.getD (EC.encL ec_45 calendars) (Int.toNat i) []) (0 : Nat) C.ne))) <|
          (Option.bind (posthouseref6_PeriodsFault_s (EC.decL ec_58 (slOf (List.getD (List.getD (EC.encL ec_45 calendars) (Int.toNat i) []) (0 : Nat) C.ne)))) fun r0 =>
            (brE ((r0).1 != (0 : Int))
              (Option.bind (posthouseref5_At_s (r0).1 i) fun r1 =>
                (gdE (decide ((0 : Int) ≤ i)) <|
                  (gdE ((decide ((Int.toNat i) < (List.length (EC.encL ec_45 calendars)))) && (isE [K1.sl] (0 : Nat) (List.getD (EC.encL ec_45 calendars) (Int.toNat i) []))) <|
                    (gdE ((((List.all (slOf (List.getD (List.getD (EC.encL ec_45 calendars) (Int.toNat i) []) (0 : Nat) C.ne)) (fun (el : (List C)) => ((List.length el) == (2 : Nat)))) && (List.all (EC.encL ec_58 b3) (fun (el : (List C)) => ((List.length el) == (2 : Nat))))) && (decide (((((all + (List.length (slOf (List.getD (List.getD (EC.encL ec_45 calendars) (Int.toNat i) []) (0 : Nat) C.ne)))) + ((all + (List.length (slOf (List.getD (List.getD (EC.encL ec_45 calendars) (Int.toNat i) []) (0 : Nat) C.ne)))) / (4 : Nat))) + (192 : Nat)) * (16 : Nat)) ≤ (281474976710656 : Nat)))) && (decide ((all + (List.length (slOf (List.getD (List.getD (EC.encL ec_45 calendars) (Int.toNat i) []) (0 : Nat) C.ne)))) ≤ (9223372036854775807 : Nat)))) <|
                      (gdE (EC.isL ec_45 (EC.encL ec_45 calendars)) <|
                        (gdE (EC.isL ec_58 ((EC.encL ec_58 b3) ++ (slOf (List.getD (List.getD (EC.encL ec_45 calendars) (Int.toNat i) []) (0 : Nat) C.ne)))) <|
                          (posthouselaw6_MeetingBestMatchesSpec_l7 (EC.decL ec_45 (EC.encL ec_45 calendars)) length from_ to_ is_ (all + (List.length (slOf (List.getD (List.getD (EC.encL ec_45 calendars) (Int.toNat i) []) (0 : Nat) C.ne)))) (Go.IntKind.wrap Go.IntKind.i64 (i + (1 : Int))) b0 b0_1 b1 b1_1 (r1).1 (r1).2 (EC.decL ec_58 ((EC.encL ec_58 b3) ++ (slOf (List.getD (List.getD (EC.encL ec_45 calendars) (Int.toNat i) []) (0 : Nat) C.ne)))))))))))
              (gdE (decide ((0 : Int) ≤ i)) <|
                (gdE ((decide ((Int.toNat i) < (List.length (EC.encL ec_45 calendars)))) && (isE [K1.sl] (0 : Nat) (List.getD (EC.encL ec_45 calendars) (Int.toNat i) []))) <|
                  (gdE ((((List.all (slOf (List.getD (List.getD (EC.encL ec_45 calendars) (Int.toNat i) []) (0 : Nat) C.ne)) (fun (el : (List C)) => ((List.length el) == (2 : Nat)))) && (List.all (EC.encL ec_58 b3) (fun (el : (List C)) => ((List.length el) == (2 : Nat))))) && (decide (((((all + (List.length (slOf (List.getD (List.getD (EC.encL ec_45 calendars) (Int.toNat i) []) (0 : Nat) C.ne)))) + ((all + (List.length (slOf (List.getD (List.getD (EC.encL ec_45 calendars) (Int.toNat i) []) (0 : Nat) C.ne)))) / (4 : Nat))) + (192 : Nat)) * (16 : Nat)) ≤ (281474976710656 : Nat)))) && (decide ((all + (List.length (slOf (List.getD (List.getD (EC.encL ec_45 calendars) (Int.toNat i) []) (0 : Nat) C.ne)))) ≤ (9223372036854775807 : Nat)))) <|
                    (gdE (EC.isL ec_45 (EC.encL ec_45 calendars)) <|
                      (gdE (EC.isL ec_58 ((EC.encL ec_58 b3) ++ (slOf (List.getD (List.getD (EC.encL ec_45 calendars) (Int.toNat i) []) (0 : Nat) C.ne)))) <|
                        (posthouselaw6_MeetingBestMatchesSpec_l7 (EC.decL ec_45 (EC.encL ec_45 calendars)) length from_ to_ is_ (all + (List.length (slOf (List.getD (List.getD (EC.encL ec_45 calendars) (Int.toNat i) []) (0 : Nat) C.ne)))) (Go.IntKind.wrap Go.IntKind.i64 (i + (1 : Int))) b0 b0_1 b1 b1_1 b2 b2_1 (EC.decL ec_58 ((EC.encL ec_58 b3) ++ (slOf (List.getD (List.getD (EC.encL ec_45 calendars) (Int.toNat i) []) (0 : Nat) C.ne)))))))))))))))
    (gdE (EC.isL ec_45 (EC.encL ec_45 calendars)) <|
      (gdE (EC.isL ec_58 (EC.encL ec_58 b3)) <|
        (some (((EC.decL ec_45 (EC.encL ec_45 calendars)), (length, (from_, (to_, ((), (is_, ((), ((), (all, (i, false)))))))))), ((b0, b0_1), ((b1, b1_1), ((b2, b2_1), (EC.decL ec_58 (EC.encL ec_58 b3))))))))))
  (gdE (EC.isL ec_45 (EC.encL ec_45 calendars)) <|
    (gdE (EC.isL ec_58 (EC.encL ec_58 b3)) <|
      (some (((EC.decL ec_45 (EC.encL ec_45 calendars)), (length, (from_, (to_, ((), (is_, ((), ((), (all, (i, false)))))))))), ((b0, b0_1), ((b1, b1_1), ((b2, b2_1), (EC.decL ec_58 (EC.encL ec_58 b3))))))))))
theorem posthouselaw6_MeetingBestMatchesSpec_l7_eq {calendars : (List (List S58))} {length : Int} {from_ : Int} {to_ : Int} {is_ : Bool} {all : Nat} {i : Int} {b0 : Int} {b0_1 : Int} {b1 : Int} {b1_1 : Int} {b2 : Int} {b2_1 : Int} {b3 : (List S58)} {r : (((List (List S58)) × Int × Int × Int × Unit × Bool × Unit × Unit × Nat × Int × Bool) × ((Int × Int) × (Int × Int) × (Int × Int) × (List S58)))} (h : posthouselaw6_MeetingBestMatchesSpec_l7_t calendars length from_ to_ is_ all i b0 b0_1 b1 b1_1 b2 b2_1 b3 = some r) : posthouselaw6_MeetingBestMatchesSpec_l7 calendars length from_ to_ is_ all i b0 b0_1 b1 b1_1 b2 b2_1 b3 = some r :=
  lS_tree (es := tab_meeting_Best) (hs := []) [] (by kernel_rfl) trivial trivial (by kernel_rfl) h
noncomputable def posthouselaw6_MeetingBestMatchesSpec_l7_e : LEnt Try.prog lv X2 9 149 := lentS Try.prog lv X2 7 (getLoop (cdF Try.f9) 7) posthouselaw6_MeetingBestMatchesSpec_l7_s posthouselaw6_MeetingBestMatchesSpec_l7_o (fun x => posthouselaw6_MeetingBestMatchesSpec_l7 x.1.1 x.1.2.1 x.1.2.2.1 x.1.2.2.2.1 x.1.2.2.2.2.2.1 x.1.2.2.2.2.2.2.2.2.1 x.1.2.2.2.2.2.2.2.2.2 x.2.1.1 x.2.1.2 x.2.2.1.1 x.2.2.1.2 x.2.2.2.1.1 x.2.2.2.1.2 x.2.2.2.2) (fun _ _ h => lS_from h)
def posthouselaw6_MeetingBestMatchesSpec_cr : Cod (V × List B) Bool := (cFstU (cPair (vC cBool) lNil))
noncomputable def posthouselaw6_MeetingBestMatchesSpec_s (calendars : (List (List S58))) (length : Int) (from_ : Int) (to_ : Int) : Option Bool := fS Try.prog lv X2 9 posthouselaw6_MeetingBestMatchesSpec_ca posthouselaw6_MeetingBestMatchesSpec_cr (calendars, length, from_, to_)
noncomputable def posthouselaw6_MeetingBestMatchesSpec_t (calendars : (List (List S58))) (length : Int) (from_ : Int) (to_ : Int) : Option Bool :=
  (gdE (EC.isL ec_45 (EC.encL ec_45 calendars)) <|
  (Option.bind (meeting_Best_s (EC.decL ec_45 (EC.encL ec_45 calendars)) length from_ to_) fun r0 =>
    (brE (decide ((((List.length (EC.encL ec_45 calendars)) : Nat) : Int) > (30 : Int)))
      (Option.bind (posthouseref5_At_s (2 : Int) (-(1 : Int))) fun r1 =>
        (gdE (EC.isL ec_45 (EC.encL ec_45 calendars)) <|
          (Option.bind (posthouselaw6_MeetingBestMatchesSpec_l7 (EC.decL ec_45 (EC.encL ec_45 calendars)) length from_ to_ ((r0).2).1 (0 : Nat) (0 : Int) ((r0).1).1 ((r0).1).2 (((r0).2).2).1 (((r0).2).2).2 (r1).1 (r1).2 (EC.decL ec_58 [])) fun r2 =>
            (brE ((((((r2).2).2).2).1).1 == (0 : Int))
              (Option.bind (posthouseref6_SpanFault_s ((((r2).1).2).2).1 (((((r2).1).2).2).2).1) fun r3 =>
                (brE (((r3).1 == (0 : Int)) == true)
                  (Option.bind (posthouseref5_In_s (((r2).1).2).1 (1 : Int) (68719476736 : Int)) fun r4 =>
                    (brE (!r4)
                      (Option.bind (posthouseref5_At_s (3 : Int) (-(3 : Int))) fun r5 =>
                        (brE ((r5).1 != (0 : Int))
                          (brE (((((((r2).2).2).1).1 == (r5).1) && ((((((r2).2).2).1).2 == (r5).2) && true)) == true)
                            (brE ((!(((((((r2).1).2).2).2).2).2).1) == true)
                              (brE ((((((r2).2).1).1 == (0 : Int)) && (((((r2).2).1).2 == (0 : Int)) && true)) == true)
                                (some true)
                                (some false))
                              (some false))
                            (some false))
                          (brE (decide (((((((((((((r2).1).2).2).2).2).2).2).2).2).1 : Nat) : Int) > (60 : Int)))
                            (brE ((((((r2).2).2).1).1 == (0 : Int)) == true)
                              (some true)
                              (some false))
                            (gdE (EC.isL ec_58 (EC.encL ec_58 ((((r2).2).2).2).2)) <|
                              (Option.bind (posthouseref6_Within_s (EC.decL ec_58 (EC.encL ec_58 ((((r2).2).2).2).2)) ((((r2).1).2).2).1 (((((r2).1).2).2).2).1 false) fun r6 =>
                                (gdE (EC.isL ec_58 (EC.encL ec_58 (r6).2)) <|
                                  (Option.bind (posthouseref6_Long_s (EC.decL ec_58 (EC.encL ec_58 (r6).2)) (((r2).1).2).1) fun r7 =>
                                    (brE ((((r7).1 : Nat) : Int) == (0 : Int))
                                      (brE ((((((r2).2).2).1).1 == (0 : Int)) == true)
                                        (brE ((!(((((((r2).1).2).2).2).2).2).1) == true)
                                          (brE ((((((r2).2).1).1 == (0 : Int)) && (((((r2).2).1).2 == (0 : Int)) && true)) == true)
                                            (some true)
                                            (some false))
                                          (some false))
                                        (some false))
                                      (brE ((((((r2).2).2).1).1 == (0 : Int)) == true)
                                        (brE ((((((((r2).1).2).2).2).2).2).1 == true)
                                          (gdE ((decide ((0 : Int) ≤ (0 : Int))) && (decide ((0 : Int) < (((r7).1 : Nat) : Int)))) <|
                                            (gdE ((decide ((Int.toNat (0 : Int)) < (List.length (EC.encL ec_58 (r7).2)))) && ((List.length (List.getD (EC.encL ec_58 (r7).2) (Int.toNat (0 : Int)) [])) == (2 : Nat))) <|
                                              (gdE (isP [(K1.int Go.IntKind.i64)] (0 : Nat) (List.getD (EC.encL ec_58 (r7).2) (Int.toNat (0 : Int)) [])) <|
                                                (gdE ((decide ((0 : Int) ≤ (0 : Int))) && (decide ((0 : Int) < (((r7).1 : Nat) : Int)))) <|
                                                  (gdE ((decide ((Int.toNat (0 : Int)) < (List.length (EC.encL ec_58 (r7).2)))) && ((List.length (List.getD (EC.encL ec_58 (r7).2) (Int.toNat (0 : Int)) [])) == (2 : Nat))) <|
                                                    (gdE (isP [(K1.int Go.IntKind.i64)] (0 : Nat) (List.getD (EC.encL ec_58 (r7).2) (Int.toNat (0 : Int)) [])) <|
                                                      (brE ((((((r2).2).1).1 == (intOf (List.getD (List.getD (EC.encL ec_58 (r7).2) (Int.toNat (0 : Int)) []) (0 : Nat) C.ne))) && (((((r2).2).1).2 == (Go.IntKind.wrap Go.IntKind.i64 ((intOf (List.getD (List.getD (EC.encL ec_58 (r7).2) (Int.toNat (0 : Int)) []) (0 : Nat) C.ne)) + (((r2).1).2).1))) && true)) == true)
                                                        (some true)
                                                        (some false))))))))
                                          (some false))
                                        (some false))))))))))
                      (brE ((r3).1 != (0 : Int))
                        (brE (((((((r2).2).2).1).1 == (r3).1) && ((((((r2).2).2).1).2 == (r3).2) && true)) == true)
                          (brE ((!(((((((r2).1).2).2).2).2).2).1) == true)
                            (brE ((((((r2).2).1).1 == (0 : Int)) && (((((r2).2).1).2 == (0 : Int)) && true)) == true)
                              (some true)
                              (some false))
                            (some false))
                          (some false))
                        (brE (decide (((((((((((((r2).1).2).2).2).2).2).2).2).2).1 : Nat) : Int) > (60 : Int)))
                          (brE ((((((r2).2).2).1).1 == (0 : Int)) == true)
                            (some true)
                            (some false))
                          (gdE (EC.isL ec_58 (EC.encL ec_58 ((((r2).2).2).2).2)) <|
                            (Option.bind (posthouseref6_Within_s (EC.decL ec_58 (EC.encL ec_58 ((((r2).2).2).2).2)) ((((r2).1).2).2).1 (((((r2).1).2).2).2).1 false) fun r5 =>
                              (gdE (EC.isL ec_58 (EC.encL ec_58 (r5).2)) <|
                                (Option.bind (posthouseref6_Long_s (EC.decL ec_58 (EC.encL ec_58 (r5).2)) (((r2).1).2).1) fun r6 =>
                                  (brE ((((r6).1 : Nat) : Int) == (0 : Int))
                                    (brE ((((((r2).2).2).1).1 == (0 : Int)) == true)
                                      (brE ((!(((((((r2).1).2).2).2).2).2).1) == true)
                                        (brE ((((((r2).2).1).1 == (0 : Int)) && (((((r2).2).1).2 == (0 : Int)) && true)) == true)
                                          (some true)
                                          (some false))
                                        (some false))
                                      (some false))
                                    (brE ((((((r2).2).2).1).1 == (0 : Int)) == true)
                                      (brE ((((((((r2).1).2).2).2).2).2).1 == true)
                                        (gdE ((decide ((0 : Int) ≤ (0 : Int))) && (decide ((0 : Int) < (((r6).1 : Nat) : Int)))) <|
                                          (gdE ((decide ((Int.toNat (0 : Int)) < (List.length (EC.encL ec_58 (r6).2)))) && ((List.length (List.getD (EC.encL ec_58 (r6).2) (Int.toNat (0 : Int)) [])) == (2 : Nat))) <|
                                            (gdE (isP [(K1.int Go.IntKind.i64)] (0 : Nat) (List.getD (EC.encL ec_58 (r6).2) (Int.toNat (0 : Int)) [])) <|
                                              (gdE ((decide ((0 : Int) ≤ (0 : Int))) && (decide ((0 : Int) < (((r6).1 : Nat) : Int)))) <|
                                                (gdE ((decide ((Int.toNat (0 : Int)) < (List.length (EC.encL ec_58 (r6).2)))) && ((List.length (List.getD (EC.encL ec_58 (r6).2) (Int.toNat (0 : Int)) [])) == (2 : Nat))) <|
                                                  (gdE (isP [(K1.int Go.IntKind.i64)] (0 : Nat) (List.getD (EC.encL ec_58 (r6).2) (Int.toNat (0 : Int)) [])) <|
                                                    (brE ((((((r2).2).1).1 == (intOf (List.getD (List.getD (EC.encL ec_58 (r6).2) (Int.toNat (0 : Int)) []) (0 : Nat) C.ne))) && (((((r2).2).1).2 == (Go.IntKind.wrap Go.IntKind.i64 ((intOf (List.getD (List.getD (EC.encL ec_58 (r6).2) (Int.toNat (0 : Int)) []) (0 : Nat) C.ne)) + (((r2).1).2).1))) && true)) == true)
                                                      (some true)
                                                      (some false))))))))
                                        (some false))
                                      (some false)))))))))))
                  (brE ((r3).1 != (0 : Int))
                    (brE (((((((r2).2).2).1).1 == (r3).1) && ((((((r2).2).2).1).2 == (r3).2) && true)) == true)
                      (brE ((!(((((((r2).1).2).2).2).2).2).1) == true)
                        (brE ((((((r2).2).1).1 == (0 : Int)) && (((((r2).2).1).2 == (0 : Int)) && true)) == true)
                          (some true)
                          (some false))
                        (some false))
                      (some false))
                    (brE (decide (((((((((((((r2).1).2).2).2).2).2).2).2).2).1 : Nat) : Int) > (60 : Int)))
                      (brE ((((((r2).2).2).1).1 == (0 : Int)) == true)
                        (some true)
                        (some false))
                      (gdE (EC.isL ec_58 (EC.encL ec_58 ((((r2).2).2).2).2)) <|
                        (Option.bind (posthouseref6_Within_s (EC.decL ec_58 (EC.encL ec_58 ((((r2).2).2).2).2)) ((((r2).1).2).2).1 (((((r2).1).2).2).2).1 false) fun r4 =>
                          (gdE (EC.isL ec_58 (EC.encL ec_58 (r4).2)) <|
                            (Option.bind (posthouseref6_Long_s (EC.decL ec_58 (EC.encL ec_58 (r4).2)) (((r2).1).2).1) fun r5 =>
                              (brE ((((r5).1 : Nat) : Int) == (0 : Int))
                                (brE ((((((r2).2).2).1).1 == (0 : Int)) == true)
                                  (brE ((!(((((((r2).1).2).2).2).2).2).1) == true)
                                    (brE ((((((r2).2).1).1 == (0 : Int)) && (((((r2).2).1).2 == (0 : Int)) && true)) == true)
                                      (some true)
                                      (some false))
                                    (some false))
                                  (some false))
                                (brE ((((((r2).2).2).1).1 == (0 : Int)) == true)
                                  (brE ((((((((r2).1).2).2).2).2).2).1 == true)
                                    (gdE ((decide ((0 : Int) ≤ (0 : Int))) && (decide ((0 : Int) < (((r5).1 : Nat) : Int)))) <|
                                      (gdE ((decide ((Int.toNat (0 : Int)) < (List.length (EC.encL ec_58 (r5).2)))) && ((List.length (List.getD (EC.encL ec_58 (r5).2) (Int.toNat (0 : Int)) [])) == (2 : Nat))) <|
                                        (gdE (isP [(K1.int Go.IntKind.i64)] (0 : Nat) (List.getD (EC.encL ec_58 (r5).2) (Int.toNat (0 : Int)) [])) <|
                                          (gdE ((decide ((0 : Int) ≤ (0 : Int))) && (decide ((0 : Int) < (((r5).1 : Nat) : Int)))) <|
                                            (gdE ((decide ((Int.toNat (0 : Int)) < (List.length (EC.encL ec_58 (r5).2)))) && ((List.length (List.getD (EC.encL ec_58 (r5).2) (Int.toNat (0 : Int)) [])) == (2 : Nat))) <|
                                              (gdE (isP [(K1.int Go.IntKind.i64)] (0 : Nat) (List.getD (EC.encL ec_58 (r5).2) (Int.toNat (0 : Int)) [])) <|
                                                (brE ((((((r2).2).1).1 == (intOf (List.getD (List.getD (EC.encL ec_58 (r5).2) (Int.toNat (0 : Int)) []) (0 : Nat) C.ne))) && (((((r2).2).1).2 == (Go.IntKind.wrap Go.IntKind.i64 ((intOf (List.getD (List.getD (EC.encL ec_58 (r5).2) (Int.toNat (0 : Int)) []) (0 : Nat) C.ne)) + (((r2).1).2).1))) && true)) == true)
                                                  (some true)
                                                  (some false))))))))
                                    (some false))
                                  (some false)))))))))))
              (brE (((((((r2).2).2).2).1).1 == (0 : Int)) == true)
                (Option.bind (posthouseref5_In_s (((r2).1).2).1 (1 : Int) (68719476736 : Int)) fun r3 =>
                  (brE (!r3)
                    (Option.bind (posthouseref5_At_s (3 : Int) (-(3 : Int))) fun r4 =>
                      (brE ((r4).1 != (0 : Int))
                        (brE (((((((r2).2).2).1).1 == (r4).1) && ((((((r2).2).2).1).2 == (r4).2) && true)) == true)
                          (brE ((!(((((((r2).1).2).2).2).2).2).1) == true)
                            (brE ((((((r2).2).1).1 == (0 : Int)) && (((((r2).2).1).2 == (0 : Int)) && true)) == true)
                              (some true)
                              (some false))
                            (some false))
                          (some false))
                        (brE (decide (((((((((((((r2).1).2).2).2).2).2).2).2).2).1 : Nat) : Int) > (60 : Int)))
                          (brE ((((((r2).2).2).1).1 == (0 : Int)) == true)
                            (some true)
                            (some false))
                          (gdE (EC.isL ec_58 (EC.encL ec_58 ((((r2).2).2).2).2)) <|
                            (Option.bind (posthouseref6_Within_s (EC.decL ec_58 (EC.encL ec_58 ((((r2).2).2).2).2)) ((((r2).1).2).2).1 (((((r2).1).2).2).2).1 false) fun r5 =>
                              (gdE (EC.isL ec_58 (EC.encL ec_58 (r5).2)) <|
                                (Option.bind (posthouseref6_Long_s (EC.decL ec_58 (EC.encL ec_58 (r5).2)) (((r2).1).2).1) fun r6 =>
                                  (brE ((((r6).1 : Nat) : Int) == (0 : Int))
                                    (brE ((((((r2).2).2).1).1 == (0 : Int)) == true)
                                      (brE ((!(((((((r2).1).2).2).2).2).2).1) == true)
                                        (brE ((((((r2).2).1).1 == (0 : Int)) && (((((r2).2).1).2 == (0 : Int)) && true)) == true)
                                          (some true)
                                          (some false))
                                        (some false))
                                      (some false))
                                    (brE ((((((r2).2).2).1).1 == (0 : Int)) == true)
                                      (brE ((((((((r2).1).2).2).2).2).2).1 == true)
                                        (gdE ((decide ((0 : Int) ≤ (0 : Int))) && (decide ((0 : Int) < (((r6).1 : Nat) : Int)))) <|
                                          (gdE ((decide ((Int.toNat (0 : Int)) < (List.length (EC.encL ec_58 (r6).2)))) && ((List.length (List.getD (EC.encL ec_58 (r6).2) (Int.toNat (0 : Int)) [])) == (2 : Nat))) <|
                                            (gdE (isP [(K1.int Go.IntKind.i64)] (0 : Nat) (List.getD (EC.encL ec_58 (r6).2) (Int.toNat (0 : Int)) [])) <|
                                              (gdE ((decide ((0 : Int) ≤ (0 : Int))) && (decide ((0 : Int) < (((r6).1 : Nat) : Int)))) <|
                                                (gdE ((decide ((Int.toNat (0 : Int)) < (List.length (EC.encL ec_58 (r6).2)))) && ((List.length (List.getD (EC.encL ec_58 (r6).2) (Int.toNat (0 : Int)) [])) == (2 : Nat))) <|
                                                  (gdE (isP [(K1.int Go.IntKind.i64)] (0 : Nat) (List.getD (EC.encL ec_58 (r6).2) (Int.toNat (0 : Int)) [])) <|
                                                    (brE ((((((r2).2).1).1 == (intOf (List.getD (List.getD (EC.encL ec_58 (r6).2) (Int.toNat (0 : Int)) []) (0 : Nat) C.ne))) && (((((r2).2).1).2 == (Go.IntKind.wrap Go.IntKind.i64 ((intOf (List.getD (List.getD (EC.encL ec_58 (r6).2) (Int.toNat (0 : Int)) []) (0 : Nat) C.ne)) + (((r2).1).2).1))) && true)) == true)
                                                      (some true)
                                                      (some false))))))))
                                        (some false))
                                      (some false))))))))))
                    (brE ((((((r2).2).2).2).1).1 != (0 : Int))
                      (brE (((((((r2).2).2).1).1 == (((((r2).2).2).2).1).1) && ((((((r2).2).2).1).2 == (((((r2).2).2).2).1).2) && true)) == true)
                        (brE ((!(((((((r2).1).2).2).2).2).2).1) == true)
                          (brE ((((((r2).2).1).1 == (0 : Int)) && (((((r2).2).1).2 == (0 : Int)) && true)) == true)
                            (some true)
                            (some false))
                          (some false))
                        (some false))
                      (brE (decide (((((((((((((r2).1).2).2).2).2).2).2).2).2).1 : Nat) : Int) > (60 : Int)))
                        (brE ((((((r2).2).2).1).1 == (0 : Int)) == true)
                          (some true)
                          (some false))
                        (gdE (EC.isL ec_58 (EC.encL ec_58 ((((r2).2).2).2).2)) <|
                          (Option.bind (posthouseref6_Within_s (EC.decL ec_58 (EC.encL ec_58 ((((r2).2).2).2).2)) ((((r2).1).2).2).1 (((((r2).1).2).2).2).1 false) fun r4 =>
                            (gdE (EC.isL ec_58 (EC.encL ec_58 (r4).2)) <|
                              (Option.bind (posthouseref6_Long_s (EC.decL ec_58 (EC.encL ec_58 (r4).2)) (((r2).1).2).1) fun r5 =>
                                (brE ((((r5).1 : Nat) : Int) == (0 : Int))
                                  (brE ((((((r2).2).2).1).1 == (0 : Int)) == true)
                                    (brE ((!(((((((r2).1).2).2).2).2).2).1) == true)
                                      (brE ((((((r2).2).1).1 == (0 : Int)) && (((((r2).2).1).2 == (0 : Int)) && true)) == true)
                                        (some true)
                                        (some false))
                                      (some false))
                                    (some false))
                                  (brE ((((((r2).2).2).1).1 == (0 : Int)) == true)
                                    (brE ((((((((r2).1).2).2).2).2).2).1 == true)
                                      (gdE ((decide ((0 : Int) ≤ (0 : Int))) && (decide ((0 : Int) < (((r5).1 : Nat) : Int)))) <|
                                        (gdE ((decide ((Int.toNat (0 : Int)) < (List.length (EC.encL ec_58 (r5).2)))) && ((List.length (List.getD (EC.encL ec_58 (r5).2) (Int.toNat (0 : Int)) [])) == (2 : Nat))) <|
                                          (gdE (isP [(K1.int Go.IntKind.i64)] (0 : Nat) (List.getD (EC.encL ec_58 (r5).2) (Int.toNat (0 : Int)) [])) <|
                                            (gdE ((decide ((0 : Int) ≤ (0 : Int))) && (decide ((0 : Int) < (((r5).1 : Nat) : Int)))) <|
                                              (gdE ((decide ((Int.toNat (0 : Int)) < (List.length (EC.encL ec_58 (r5).2)))) && ((List.length (List.getD (EC.encL ec_58 (r5).2) (Int.toNat (0 : Int)) [])) == (2 : Nat))) <|
                                                (gdE (isP [(K1.int Go.IntKind.i64)] (0 : Nat) (List.getD (EC.encL ec_58 (r5).2) (Int.toNat (0 : Int)) [])) <|
                                                  (brE ((((((r2).2).1).1 == (intOf (List.getD (List.getD (EC.encL ec_58 (r5).2) (Int.toNat (0 : Int)) []) (0 : Nat) C.ne))) && (((((r2).2).1).2 == (Go.IntKind.wrap Go.IntKind.i64 ((intOf (List.getD (List.getD (EC.encL ec_58 (r5).2) (Int.toNat (0 : Int)) []) (0 : Nat) C.ne)) + (((r2).1).2).1))) && true)) == true)
                                                    (some true)
                                                    (some false))))))))
                                      (some false))
                                    (some false)))))))))))
                (brE ((((((r2).2).2).2).1).1 != (0 : Int))
                  (brE (((((((r2).2).2).1).1 == (((((r2).2).2).2).1).1) && ((((((r2).2).2).1).2 == (((((r2).2).2).2).1).2) && true)) == true)
                    (brE ((!(((((((r2).1).2).2).2).2).2).1) == true)
                      (brE ((((((r2).2).1).1 == (0 : Int)) && (((((r2).2).1).2 == (0 : Int)) && true)) == true)
                        (some true)
                        (some false))
                      (some false))
                    (some false))
                  (brE (decide (((((((((((((r2).1).2).2).2).2).2).2).2).2).1 : Nat) : Int) > (60 : Int)))
                    (brE ((((((r2).2).2).1).1 == (0 : Int)) == true)
                      (some true)
                      (some false))
                    (gdE (EC.isL ec_58 (EC.encL ec_58 ((((r2).2).2).2).2)) <|
                      (Option.bind (posthouseref6_Within_s (EC.decL ec_58 (EC.encL ec_58 ((((r2).2).2).2).2)) ((((r2).1).2).2).1 (((((r2).1).2).2).2).1 false) fun r3 =>
                        (gdE (EC.isL ec_58 (EC.encL ec_58 (r3).2)) <|
                          (Option.bind (posthouseref6_Long_s (EC.decL ec_58 (EC.encL ec_58 (r3).2)) (((r2).1).2).1) fun r4 =>
                            (brE ((((r4).1 : Nat) : Int) == (0 : Int))
                              (brE ((((((r2).2).2).1).1 == (0 : Int)) == true)
                                (brE ((!(((((((r2).1).2).2).2).2).2).1) == true)
                                  (brE ((((((r2).2).1).1 == (0 : Int)) && (((((r2).2).1).2 == (0 : Int)) && true)) == true)
                                    (some true)
                                    (some false))
                                  (some false))
                                (some false))
                              (brE ((((((r2).2).2).1).1 == (0 : Int)) == true)
                                (brE ((((((((r2).1).2).2).2).2).2).1 == true)
                                  (gdE ((decide ((0 : Int) ≤ (0 : Int))) && (decide ((0 : Int) < (((r4).1 : Nat) : Int)))) <|
                                    (gdE ((decide ((Int.toNat (0 : Int)) < (List.length (EC.encL ec_58 (r4).2)))) && ((List.length (List.getD (EC.encL ec_58 (r4).2) (Int.toNat (0 : Int)) [])) == (2 : Nat))) <|
                                      (gdE (isP [(K1.int Go.IntKind.i64)] (0 : Nat) (List.getD (EC.encL ec_58 (r4).2) (Int.toNat (0 : Int)) [])) <|
                                        (gdE ((decide ((0 : Int) ≤ (0 : Int))) && (decide ((0 : Int) < (((r4).1 : Nat) : Int)))) <|
                                          (gdE ((decide ((Int.toNat (0 : Int)) < (List.length (EC.encL ec_58 (r4).2)))) && ((List.length (List.getD (EC.encL ec_58 (r4).2) (Int.toNat (0 : Int)) [])) == (2 : Nat))) <|
                                            (gdE (isP [(K1.int Go.IntKind.i64)] (0 : Nat) (List.getD (EC.encL ec_58 (r4).2) (Int.toNat (0 : Int)) [])) <|
                                              (brE ((((((r2).2).1).1 == (intOf (List.getD (List.getD (EC.encL ec_58 (r4).2) (Int.toNat (0 : Int)) []) (0 : Nat) C.ne))) && (((((r2).2).1).2 == (Go.IntKind.wrap Go.IntKind.i64 ((intOf (List.getD (List.getD (EC.encL ec_58 (r4).2) (Int.toNat (0 : Int)) []) (0 : Nat) C.ne)) + (((r2).1).2).1))) && true)) == true)
                                                (some true)
                                                (some false))))))))
                                  (some false))
                                (some false))))))))))))))
      (gdE (EC.isL ec_45 (EC.encL ec_45 calendars)) <|
        (Option.bind (posthouselaw6_MeetingBestMatchesSpec_l7 (EC.decL ec_45 (EC.encL ec_45 calendars)) length from_ to_ ((r0).2).1 (0 : Nat) (0 : Int) ((r0).1).1 ((r0).1).2 (((r0).2).2).1 (((r0).2).2).2 (0 : Int) (0 : Int) (EC.decL ec_58 [])) fun r1 =>
          (brE ((((((r1).2).2).2).1).1 == (0 : Int))
            (Option.bind (posthouseref6_SpanFault_s ((((r1).1).2).2).1 (((((r1).1).2).2).2).1) fun r2 =>
              (brE (((r2).1 == (0 : Int)) == true)
                (Option.bind (posthouseref5_In_s (((r1).1).2).1 (1 : Int) (68719476736 : Int)) fun r3 =>
                  (brE (!r3)
                    (Option.bind (posthouseref5_At_s (3 : Int) (-(3 : Int))) fun r4 =>
                      (brE ((r4).1 != (0 : Int))
                        (brE (((((((r1).2).2).1).1 == (r4).1) && ((((((r1).2).2).1).2 == (r4).2) && true)) == true)
                          (brE ((!(((((((r1).1).2).2).2).2).2).1) == true)
                            (brE ((((((r1).2).1).1 == (0 : Int)) && (((((r1).2).1).2 == (0 : Int)) && true)) == true)
                              (some true)
                              (some false))
                            (some false))
                          (some false))
                        (brE (decide (((((((((((((r1).1).2).2).2).2).2).2).2).2).1 : Nat) : Int) > (60 : Int)))
                          (brE ((((((r1).2).2).1).1 == (0 : Int)) == true)
                            (some true)
                            (some false))
                          (gdE (EC.isL ec_58 (EC.encL ec_58 ((((r1).2).2).2).2)) <|
                            (Option.bind (posthouseref6_Within_s (EC.decL ec_58 (EC.encL ec_58 ((((r1).2).2).2).2)) ((((r1).1).2).2).1 (((((r1).1).2).2).2).1 false) fun r5 =>
                              (gdE (EC.isL ec_58 (EC.encL ec_58 (r5).2)) <|
                                (Option.bind (posthouseref6_Long_s (EC.decL ec_58 (EC.encL ec_58 (r5).2)) (((r1).1).2).1) fun r6 =>
                                  (brE ((((r6).1 : Nat) : Int) == (0 : Int))
                                    (brE ((((((r1).2).2).1).1 == (0 : Int)) == true)
                                      (brE ((!(((((((r1).1).2).2).2).2).2).1) == true)
                                        (brE ((((((r1).2).1).1 == (0 : Int)) && (((((r1).2).1).2 == (0 : Int)) && true)) == true)
                                          (some true)
                                          (some false))
                                        (some false))
                                      (some false))
                                    (brE ((((((r1).2).2).1).1 == (0 : Int)) == true)
                                      (brE ((((((((r1).1).2).2).2).2).2).1 == true)
                                        (gdE ((decide ((0 : Int) ≤ (0 : Int))) && (decide ((0 : Int) < (((r6).1 : Nat) : Int)))) <|
                                          (gdE ((decide ((Int.toNat (0 : Int)) < (List.length (EC.encL ec_58 (r6).2)))) && ((List.length (List.getD (EC.encL ec_58 (r6).2) (Int.toNat (0 : Int)) [])) == (2 : Nat))) <|
                                            (gdE (isP [(K1.int Go.IntKind.i64)] (0 : Nat) (List.getD (EC.encL ec_58 (r6).2) (Int.toNat (0 : Int)) [])) <|
                                              (gdE ((decide ((0 : Int) ≤ (0 : Int))) && (decide ((0 : Int) < (((r6).1 : Nat) : Int)))) <|
                                                (gdE ((decide ((Int.toNat (0 : Int)) < (List.length (EC.encL ec_58 (r6).2)))) && ((List.length (List.getD (EC.encL ec_58 (r6).2) (Int.toNat (0 : Int)) [])) == (2 : Nat))) <|
                                                  (gdE (isP [(K1.int Go.IntKind.i64)] (0 : Nat) (List.getD (EC.encL ec_58 (r6).2) (Int.toNat (0 : Int)) [])) <|
                                                    (brE ((((((r1).2).1).1 == (intOf (List.getD (List.getD (EC.encL ec_58 (r6).2) (Int.toNat (0 : Int)) []) (0 : Nat) C.ne))) && (((((r1).2).1).2 == (Go.IntKind.wrap Go.IntKind.i64 ((intOf (List.getD (List.getD (EC.encL ec_58 (r6).2) (Int.toNat (0 : Int)) []) (0 : Nat) C.ne)) + (((r1).1).2).1))) && true)) == true)
                                                      (some true)
                                                      (some false))))))))
                                        (some false))
                                      (some false))))))))))
                    (brE ((r2).1 != (0 : Int))
                      (brE (((((((r1).2).2).1).1 == (r2).1) && ((((((r1).2).2).1).2 == (r2).2) && true)) == true)
                        (brE ((!(((((((r1).1).2).2).2).2).2).1) == true)
                          (brE ((((((r1).2).1).1 == (0 : Int)) && (((((r1).2).1).2 == (0 : Int)) && true)) == true)
                            (some true)
                            (some false))
                          (some false))
                        (some false))
                      (brE (decide (((((((((((((r1).1).2).2).2).2).2).2).2).2).1 : Nat) : Int) > (60 : Int)))
                        (brE ((((((r1).2).2).1).1 == (0 : Int)) == true)
                          (some true)
                          (some false))
                        (gdE (EC.isL ec_58 (EC.encL ec_58 ((((r1).2).2).2).2)) <|
                          (Option.bind (posthouseref6_Within_s (EC.decL ec_58 (EC.encL ec_58 ((((r1).2).2).2).2)) ((((r1).1).2).2).1 (((((r1).1).2).2).2).1 false) fun r4 =>
                            (gdE (EC.isL ec_58 (EC.encL ec_58 (r4).2)) <|
                              (Option.bind (posthouseref6_Long_s (EC.decL ec_58 (EC.encL ec_58 (r4).2)) (((r1).1).2).1) fun r5 =>
                                (brE ((((r5).1 : Nat) : Int) == (0 : Int))
                                  (brE ((((((r1).2).2).1).1 == (0 : Int)) == true)
                                    (brE ((!(((((((r1).1).2).2).2).2).2).1) == true)
                                      (brE ((((((r1).2).1).1 == (0 : Int)) && (((((r1).2).1).2 == (0 : Int)) && true)) == true)
                                        (some true)
                                        (some false))
                                      (some false))
                                    (some false))
                                  (brE ((((((r1).2).2).1).1 == (0 : Int)) == true)
                                    (brE ((((((((r1).1).2).2).2).2).2).1 == true)
                                      (gdE ((decide ((0 : Int) ≤ (0 : Int))) && (decide ((0 : Int) < (((r5).1 : Nat) : Int)))) <|
                                        (gdE ((decide ((Int.toNat (0 : Int)) < (List.length (EC.encL ec_58 (r5).2)))) && ((List.length (List.getD (EC.encL ec_58 (r5).2) (Int.toNat (0 : Int)) [])) == (2 : Nat))) <|
                                          (gdE (isP [(K1.int Go.IntKind.i64)] (0 : Nat) (List.getD (EC.encL ec_58 (r5).2) (Int.toNat (0 : Int)) [])) <|
                                            (gdE ((decide ((0 : Int) ≤ (0 : Int))) && (decide ((0 : Int) < (((r5).1 : Nat) : Int)))) <|
                                              (gdE ((decide ((Int.toNat (0 : Int)) < (List.length (EC.encL ec_58 (r5).2)))) && ((List.length (List.getD (EC.encL ec_58 (r5).2) (Int.toNat (0 : Int)) [])) == (2 : Nat))) <|
                                                (gdE (isP [(K1.int Go.IntKind.i64)] (0 : Nat) (List.getD (EC.encL ec_58 (r5).2) (Int.toNat (0 : Int)) [])) <|
                                                  (brE ((((((r1).2).1).1 == (intOf (List.getD (List.getD (EC.encL ec_58 (r5).2) (Int.toNat (0 : Int)) []) (0 : Nat) C.ne))) && (((((r1).2).1).2 == (Go.IntKind.wrap Go.IntKind.i64 ((intOf (List.getD (List.getD (EC.encL ec_58 (r5).2) (Int.toNat (0 : Int)) []) (0 : Nat) C.ne)) + (((r1).1).2).1))) && true)) == true)
                                                    (some true)
                                                    (some false))))))))
                                      (some false))
                                    (some false)))))))))))
                (brE ((r2).1 != (0 : Int))
                  (brE (((((((r1).2).2).1).1 == (r2).1) && ((((((r1).2).2).1).2 == (r2).2) && true)) == true)
                    (brE ((!(((((((r1).1).2).2).2).2).2).1) == true)
                      (brE ((((((r1).2).1).1 == (0 : Int)) && (((((r1).2).1).2 == (0 : Int)) && true)) == true)
                        (some true)
                        (some false))
                      (some false))
                    (some false))
                  (brE (decide (((((((((((((r1).1).2).2).2).2).2).2).2).2).1 : Nat) : Int) > (60 : Int)))
                    (brE ((((((r1).2).2).1).1 == (0 : Int)) == true)
                      (some true)
                      (some false))
                    (gdE (EC.isL ec_58 (EC.encL ec_58 ((((r1).2).2).2).2)) <|
                      (Option.bind (posthouseref6_Within_s (EC.decL ec_58 (EC.encL ec_58 ((((r1).2).2).2).2)) ((((r1).1).2).2).1 (((((r1).1).2).2).2).1 false) fun r3 =>
                        (gdE (EC.isL ec_58 (EC.encL ec_58 (r3).2)) <|
                          (Option.bind (posthouseref6_Long_s (EC.decL ec_58 (EC.encL ec_58 (r3).2)) (((r1).1).2).1) fun r4 =>
                            (brE ((((r4).1 : Nat) : Int) == (0 : Int))
                              (brE ((((((r1).2).2).1).1 == (0 : Int)) == true)
                                (brE ((!(((((((r1).1).2).2).2).2).2).1) == true)
                                  (brE ((((((r1).2).1).1 == (0 : Int)) && (((((r1).2).1).2 == (0 : Int)) && true)) == true)
                                    (some true)
                                    (some false))
                                  (some false))
                                (some false))
                              (brE ((((((r1).2).2).1).1 == (0 : Int)) == true)
                                (brE ((((((((r1).1).2).2).2).2).2).1 == true)
                                  (gdE ((decide ((0 : Int) ≤ (0 : Int))) && (decide ((0 : Int) < (((r4).1 : Nat) : Int)))) <|
                                    (gdE ((decide ((Int.toNat (0 : Int)) < (List.length (EC.encL ec_58 (r4).2)))) && ((List.length (List.getD (EC.encL ec_58 (r4).2) (Int.toNat (0 : Int)) [])) == (2 : Nat))) <|
                                      (gdE (isP [(K1.int Go.IntKind.i64)] (0 : Nat) (List.getD (EC.encL ec_58 (r4).2) (Int.toNat (0 : Int)) [])) <|
                                        (gdE ((decide ((0 : Int) ≤ (0 : Int))) && (decide ((0 : Int) < (((r4).1 : Nat) : Int)))) <|
                                          (gdE ((decide ((Int.toNat (0 : Int)) < (List.length (EC.encL ec_58 (r4).2)))) && ((List.length (List.getD (EC.encL ec_58 (r4).2) (Int.toNat (0 : Int)) [])) == (2 : Nat))) <|
                                            (gdE (isP [(K1.int Go.IntKind.i64)] (0 : Nat) (List.getD (EC.encL ec_58 (r4).2) (Int.toNat (0 : Int)) [])) <|
                                              (brE ((((((r1).2).1).1 == (intOf (List.getD (List.getD (EC.encL ec_58 (r4).2) (Int.toNat (0 : Int)) []) (0 : Nat) C.ne))) && (((((r1).2).1).2 == (Go.IntKind.wrap Go.IntKind.i64 ((intOf (List.getD (List.getD (EC.encL ec_58 (r4).2) (Int.toNat (0 : Int)) []) (0 : Nat) C.ne)) + (((r1).1).2).1))) && true)) == true)
                                                (some true)
                                                (some false))))))))
                                  (some false))
                                (some false)))))))))))
            (brE (((((((r1).2).2).2).1).1 == (0 : Int)) == true)
              (Option.bind (posthouseref5_In_s (((r1).1).2).1 (1 : Int) (68719476736 : Int)) fun r2 =>
                (brE (!r2)
                  (Option.bind (posthouseref5_At_s (3 : Int) (-(3 : Int))) fun r3 =>
                    (brE ((r3).1 != (0 : Int))
                      (brE (((((((r1).2).2).1).1 == (r3).1) && ((((((r1).2).2).1).2 == (r3).2) && true)) == true)
                        (brE ((!(((((((r1).1).2).2).2).2).2).1) == true)
                          (brE ((((((r1).2).1).1 == (0 : Int)) && (((((r1).2).1).2 == (0 : Int)) && true)) == true)
                            (some true)
                            (some false))
                          (some false))
                        (some false))
                      (brE (decide (((((((((((((r1).1).2).2).2).2).2).2).2).2).1 : Nat) : Int) > (60 : Int)))
                        (brE ((((((r1).2).2).1).1 == (0 : Int)) == true)
                          (some true)
                          (some false))
                        (gdE (EC.isL ec_58 (EC.encL ec_58 ((((r1).2).2).2).2)) <|
                          (Option.bind (posthouseref6_Within_s (EC.decL ec_58 (EC.encL ec_58 ((((r1).2).2).2).2)) ((((r1).1).2).2).1 (((((r1).1).2).2).2).1 false) fun r4 =>
                            (gdE (EC.isL ec_58 (EC.encL ec_58 (r4).2)) <|
                              (Option.bind (posthouseref6_Long_s (EC.decL ec_58 (EC.encL ec_58 (r4).2)) (((r1).1).2).1) fun r5 =>
                                (brE ((((r5).1 : Nat) : Int) == (0 : Int))
                                  (brE ((((((r1).2).2).1).1 == (0 : Int)) == true)
                                    (brE ((!(((((((r1).1).2).2).2).2).2).1) == true)
                                      (brE ((((((r1).2).1).1 == (0 : Int)) && (((((r1).2).1).2 == (0 : Int)) && true)) == true)
                                        (some true)
                                        (some false))
                                      (some false))
                                    (some false))
                                  (brE ((((((r1).2).2).1).1 == (0 : Int)) == true)
                                    (brE ((((((((r1).1).2).2).2).2).2).1 == true)
                                      (gdE ((decide ((0 : Int) ≤ (0 : Int))) && (decide ((0 : Int) < (((r5).1 : Nat) : Int)))) <|
                                        (gdE ((decide ((Int.toNat (0 : Int)) < (List.length (EC.encL ec_58 (r5).2)))) && ((List.length (List.getD (EC.encL ec_58 (r5).2) (Int.toNat (0 : Int)) [])) == (2 : Nat))) <|
                                          (gdE (isP [(K1.int Go.IntKind.i64)] (0 : Nat) (List.getD (EC.encL ec_58 (r5).2) (Int.toNat (0 : Int)) [])) <|
                                            (gdE ((decide ((0 : Int) ≤ (0 : Int))) && (decide ((0 : Int) < (((r5).1 : Nat) : Int)))) <|
                                              (gdE ((decide ((Int.toNat (0 : Int)) < (List.length (EC.encL ec_58 (r5).2)))) && ((List.length (List.getD (EC.encL ec_58 (r5).2) (Int.toNat (0 : Int)) [])) == (2 : Nat))) <|
                                                (gdE (isP [(K1.int Go.IntKind.i64)] (0 : Nat) (List.getD (EC.encL ec_58 (r5).2) (Int.toNat (0 : Int)) [])) <|
                                                  (brE ((((((r1).2).1).1 == (intOf (List.getD (List.getD (EC.encL ec_58 (r5).2) (Int.toNat (0 : Int)) []) (0 : Nat) C.ne))) && (((((r1).2).1).2 == (Go.IntKind.wrap Go.IntKind.i64 ((intOf (List.getD (List.getD (EC.encL ec_58 (r5).2) (Int.toNat (0 : Int)) []) (0 : Nat) C.ne)) + (((r1).1).2).1))) && true)) == true)
                                                    (some true)
                                                    (some false))))))))
                                      (some false))
                                    (some false))))))))))
                  (brE ((((((r1).2).2).2).1).1 != (0 : Int))
                    (brE (((((((r1).2).2).1).1 == (((((r1).2).2).2).1).1) && ((((((r1).2).2).1).2 == (((((r1).2).2).2).1).2) && true)) == true)
                      (brE ((!(((((((r1).1).2).2).2).2).2).1) == true)
                        (brE ((((((r1).2).1).1 == (0 : Int)) && (((((r1).2).1).2 == (0 : Int)) && true)) == true)
                          (some true)
                          (some false))
                        (some false))
                      (some false))
                    (brE (decide (((((((((((((r1).1).2).2).2).2).2).2).2).2).1 : Nat) : Int) > (60 : Int)))
                      (brE ((((((r1).2).2).1).1 == (0 : Int)) == true)
                        (some true)
                        (some false))
                      (gdE (EC.isL ec_58 (EC.encL ec_58 ((((r1).2).2).2).2)) <|
                        (Option.bind (posthouseref6_Within_s (EC.decL ec_58 (EC.encL ec_58 ((((r1).2).2).2).2)) ((((r1).1).2).2).1 (((((r1).1).2).2).2).1 false) fun r3 =>
                          (gdE (EC.isL ec_58 (EC.encL ec_58 (r3).2)) <|
                            (Option.bind (posthouseref6_Long_s (EC.decL ec_58 (EC.encL ec_58 (r3).2)) (((r1).1).2).1) fun r4 =>
                              (brE ((((r4).1 : Nat) : Int) == (0 : Int))
                                (brE ((((((r1).2).2).1).1 == (0 : Int)) == true)
                                  (brE ((!(((((((r1).1).2).2).2).2).2).1) == true)
                                    (brE ((((((r1).2).1).1 == (0 : Int)) && (((((r1).2).1).2 == (0 : Int)) && true)) == true)
                                      (some true)
                                      (some false))
                                    (some false))
                                  (some false))
                                (brE ((((((r1).2).2).1).1 == (0 : Int)) == true)
                                  (brE ((((((((r1).1).2).2).2).2).2).1 == true)
                                    (gdE ((decide ((0 : Int) ≤ (0 : Int))) && (decide ((0 : Int) < (((r4).1 : Nat) : Int)))) <|
                                      (gdE ((decide ((Int.toNat (0 : Int)) < (List.length (EC.encL ec_58 (r4).2)))) && ((List.length (List.getD (EC.encL ec_58 (r4).2) (Int.toNat (0 : Int)) [])) == (2 : Nat))) <|
                                        (gdE (isP [(K1.int Go.IntKind.i64)] (0 : Nat) (List.getD (EC.encL ec_58 (r4).2) (Int.toNat (0 : Int)) [])) <|
                                          (gdE ((decide ((0 : Int) ≤ (0 : Int))) && (decide ((0 : Int) < (((r4).1 : Nat) : Int)))) <|
                                            (gdE ((decide ((Int.toNat (0 : Int)) < (List.length (EC.encL ec_58 (r4).2)))) && ((List.length (List.getD (EC.encL ec_58 (r4).2) (Int.toNat (0 : Int)) [])) == (2 : Nat))) <|
                                              (gdE (isP [(K1.int Go.IntKind.i64)] (0 : Nat) (List.getD (EC.encL ec_58 (r4).2) (Int.toNat (0 : Int)) [])) <|
                                                (brE ((((((r1).2).1).1 == (intOf (List.getD (List.getD (EC.encL ec_58 (r4).2) (Int.toNat (0 : Int)) []) (0 : Nat) C.ne))) && (((((r1).2).1).2 == (Go.IntKind.wrap Go.IntKind.i64 ((intOf (List.getD (List.getD (EC.encL ec_58 (r4).2) (Int.toNat (0 : Int)) []) (0 : Nat) C.ne)) + (((r1).1).2).1))) && true)) == true)
                                                  (some true)
                                                  (some false))))))))
                                    (some false))
                                  (some false)))))))))))
              (brE ((((((r1).2).2).2).1).1 != (0 : Int))
                (brE (((((((r1).2).2).1).1 == (((((r1).2).2).2).1).1) && ((((((r1).2).2).1).2 == (((((r1).2).2).2).1).2) && true)) == true)
                  (brE ((!(((((((r1).1).2).2).2).2).2).1) == true)
                    (brE ((((((r1).2).1).1 == (0 : Int)) && (((((r1).2).1).2 == (0 : Int)) && true)) == true)
                      (some true)
                      (some false))
                    (some false))
                  (some false))
                (brE (decide (((((((((((((r1).1).2).2).2).2).2).2).2).2).1 : Nat) : Int) > (60 : Int)))
                  (brE ((((((r1).2).2).1).1 == (0 : Int)) == true)
                    (some true)
                    (some false))
                  (gdE (EC.isL ec_58 (EC.encL ec_58 ((((r1).2).2).2).2)) <|
                    (Option.bind (posthouseref6_Within_s (EC.decL ec_58 (EC.encL ec_58 ((((r1).2).2).2).2)) ((((r1).1).2).2).1 (((((r1).1).2).2).2).1 false) fun r2 =>
                      (gdE (EC.isL ec_58 (EC.encL ec_58 (r2).2)) <|
                        (Option.bind (posthouseref6_Long_s (EC.decL ec_58 (EC.encL ec_58 (r2).2)) (((r1).1).2).1) fun r3 =>
                          (brE ((((r3).1 : Nat) : Int) == (0 : Int))
                            (brE ((((((r1).2).2).1).1 == (0 : Int)) == true)
                              (brE ((!(((((((r1).1).2).2).2).2).2).1) == true)
                                (brE ((((((r1).2).1).1 == (0 : Int)) && (((((r1).2).1).2 == (0 : Int)) && true)) == true)
                                  (some true)
                                  (some false))
                                (some false))
                              (some false))
                            (brE ((((((r1).2).2).1).1 == (0 : Int)) == true)
                              (brE ((((((((r1).1).2).2).2).2).2).1 == true)
                                (gdE ((decide ((0 : Int) ≤ (0 : Int))) && (decide ((0 : Int) < (((r3).1 : Nat) : Int)))) <|
                                  (gdE ((decide ((Int.toNat (0 : Int)) < (List.length (EC.encL ec_58 (r3).2)))) && ((List.length (List.getD (EC.encL ec_58 (r3).2) (Int.toNat (0 : Int)) [])) == (2 : Nat))) <|
                                    (gdE (isP [(K1.int Go.IntKind.i64)] (0 : Nat) (List.getD (EC.encL ec_58 (r3).2) (Int.toNat (0 : Int)) [])) <|
                                      (gdE ((decide ((0 : Int) ≤ (0 : Int))) && (decide ((0 : Int) < (((r3).1 : Nat) : Int)))) <|
                                        (gdE ((decide ((Int.toNat (0 : Int)) < (List.length (EC.encL ec_58 (r3).2)))) && ((List.length (List.getD (EC.encL ec_58 (r3).2) (Int.toNat (0 : Int)) [])) == (2 : Nat))) <|
                                          (gdE (isP [(K1.int Go.IntKind.i64)] (0 : Nat) (List.getD (EC.encL ec_58 (r3).2) (Int.toNat (0 : Int)) [])) <|
                                            (brE ((((((r1).2).1).1 == (intOf (List.getD (List.getD (EC.encL ec_58 (r3).2) (Int.toNat (0 : Int)) []) (0 : Nat) C.ne))) && (((((r1).2).1).2 == (Go.IntKind.wrap Go.IntKind.i64 ((intOf (List.getD (List.getD (EC.encL ec_58 (r3).2) (Int.toNat (0 : Int)) []) (0 : Nat) C.ne)) + (((r1).1).2).1))) && true)) == true)
                                              (some true)
                                              (some false))))))))
                                (some false))
                              (some false))))))))))))))))
theorem posthouselaw6_MeetingBestMatchesSpec_eq {calendars : (List (List S58))} {length : Int} {from_ : Int} {to_ : Int} {r : Bool} (h : posthouselaw6_MeetingBestMatchesSpec_t calendars length from_ to_ = some r) : posthouselaw6_MeetingBestMatchesSpec_s calendars length from_ to_ = some r :=
  fS_tree (es := tab_meeting_Best) (hs := []) [posthouselaw6_MeetingBestMatchesSpec_l7_e] Try.func9 rfl (by kernel_rfl) rfl (by kernel_rfl) (by kernel_rfl) ⟨⟨_, rfl, rfl⟩, trivial⟩ trivial (by kernel_rfl) h
noncomputable def posthouselaw6_MeetingBestMatchesSpec_e : Ent Try.prog lv X2 := entS Try.prog lv X2 9 [] posthouselaw6_MeetingBestMatchesSpec_ca posthouselaw6_MeetingBestMatchesSpec_cr (fun x => posthouselaw6_MeetingBestMatchesSpec_s x.1 x.2.1 x.2.2.1 x.2.2.2) (fun _ _ h => fS_call h)
noncomputable def tab_posthouselaw6_MeetingBestMatchesSpec : List (Ent Try.prog lv X2) := posthouselaw6_MeetingBestMatchesSpec_e :: tab_meeting_Best
def posthouselaw6_MeetingBestIsFree_ca : Cod (List V) ((List (List S58)) × Int × Int × Int) := (lCons (vC (cSl ec_45)) (lCons (vC (cInt .i64)) (lCons (vC (cInt .i64)) (lOne (vC (cInt .i64))))))
def posthouselaw6_MeetingBestIsFree_l9_s : SC (((List (List S58)) × Int × Int × Unit × Int) × (Int × Int)) := sLS [0, 1, 2, 9, 12] (lCons (vC (cSl ec_45)) (lCons (vC (cInt .i64)) (lCons (vC (cInt .i64)) (lCons (vPtr 0 0) (lOne (vC (cInt .i64))))))) (lOne (oSome (bBox (lCons (vC (cInt .i64)) (lOne (vC (cInt .i64))))))) [false] [] (by decide) (fun _ => rfl)
def posthouselaw6_MeetingBestIsFree_l9_o2 : SC (((List (List S58)) × Int × Int × Unit × Int × Bool) × (Int × Int)) := sLS [0, 1, 2, 9, 12, 61] (lCons (vC (cSl ec_45)) (lCons (vC (cInt .i64)) (lCons (vC (cInt .i64)) (lCons (vPtr 0 0) (lCons (vC (cInt .i64)) (lOne (vC cBool))))))) (lOne (oSome (bBox (lCons (vC (cInt .i64)) (lOne (vC (cInt .i64))))))) [false] [] (by decide) (fun _ => rfl)
def posthouselaw6_MeetingBestIsFree_l9_o1 : SC (Bool × Unit) := sLS [8] (lOne (vC cBool)) lNil [] [] (by decide) (fun _ => rfl)
def posthouselaw6_MeetingBestIsFree_l9_o : OC ((Bool × Unit) ⊕ (((List (List S58)) × Int × Int × Unit × Int × Bool) × (Int × Int))) := oOr 1 posthouselaw6_MeetingBestIsFree_l9_o1 (oAt 2 posthouselaw6_MeetingBestIsFree_l9_o2) (fun x => (by decide : (2 : Nat) ≠ 1))
noncomputable def posthouselaw6_MeetingBestIsFree_l9 (calendars : (List (List S58))) (length : Int) (from_ : Int) (i : Int) (b0 : Int) (b0_1 : Int) : Option ((Bool × Unit) ⊕ (((List (List S58)) × Int × Int × Unit × Int × Bool) × (Int × Int))) := lS Try.prog lv X2 10 108 (getLoop (cdF Try.f10) 9) posthouselaw6_MeetingBestIsFree_l9_s posthouselaw6_MeetingBestIsFree_l9_o ((calendars, length, from_, (), i), (b0, b0_1))
noncomputable def posthouselaw6_MeetingBestIsFree_l9_t (calendars : (List (List S58))) (length : Int) (from_ : Int) (i : Int) (b0 : Int) (b0_1 : Int) : Option ((Bool × Unit) ⊕ (((List (List S58)) × Int × Int × Unit × Int × Bool) × (Int × Int))) :=
  (brE (decide (i < (((List.length (EC.encL ec_45 calendars)) : Nat) : Int)))
  (gdE (decide ((0 : Int) ≤ i)) <|
    (gdE ((decide ((Int.toNat i) < (List.length (EC.encL ec_45 calendars)))) && (isE [K1.sl] (0 : Nat) (List.getD (EC.encL ec_45 calendars) (Int.toNat i) []))) <|
      (gdE (EC.isL ec_58 (slOf (List.getD (List.getD (EC.encL ec_45 calendars) (Int.toNat i) []) (0 : Nat) C.ne))) <|
        (Option.bind (freebusy_Free_s (EC.decL ec_58 (slOf (List.getD (List.getD (EC.encL ec_45 calendars) (Int.toNat i) []) (0 : Nat) C.ne))) b0 b0_1 length) fun r0 =>
          (brE (((((r0).1).2).1 != (0 : Int)) == false)
            (gdE (EC.isL ec_58 (EC.encL ec_58 (r0).2)) <|
              (Option.bind (posthouseref6_SamePeriods_s (EC.decL ec_58 (EC.encL ec_58 (r0).2)) (EC.decL ec_58 [[(C.int Go.IntKind.i64 b0), (C.int Go.IntKind.i64 b0_1)]])) fun r1 =>
                (brE (!r1)
                  (some (.inl (false, ())))
                  (gdE (EC.isL ec_45 (EC.encL ec_45 calendars)) <|
                    (posthouselaw6_MeetingBestIsFree_l9 (EC.decL ec_45 (EC.encL ec_45 calendars)) length from_ (Go.IntKind.wrap Go.IntKind.i64 (i + (1 : Int))) b0 b0_1)))))
            (some (.inl (false, ()))))))))
  (gdE (EC.isL ec_45 (EC.encL ec_45 calendars)) <|
    (some (.inr (((EC.decL ec_45 (EC.encL ec_45 calendars)), (length, (from_, ((), (i, false))))), (b0, b0_1))))))
theorem posthouselaw6_MeetingBestIsFree_l9_eq {calendars : (List (List S58))} {length : Int} {from_ : Int} {i : Int} {b0 : Int} {b0_1 : Int} {r : ((Bool × Unit) ⊕ (((List (List S58)) × Int × Int × Unit × Int × Bool) × (Int × Int)))} (h : posthouselaw6_MeetingBestIsFree_l9_t calendars length from_ i b0 b0_1 = some r) : posthouselaw6_MeetingBestIsFree_l9 calendars length from_ i b0 b0_1 = some r :=
  lS_tree (es := tab_posthouselaw6_MeetingBestMatchesSpec) (hs := []) [] (by kernel_rfl) trivial trivial (by kernel_rfl) h
noncomputable def posthouselaw6_MeetingBestIsFree_l9_e : LEnt Try.prog lv X2 10 108 := lentS Try.prog lv X2 9 (getLoop (cdF Try.f10) 9) posthouselaw6_MeetingBestIsFree_l9_s posthouselaw6_MeetingBestIsFree_l9_o (fun x => posthouselaw6_MeetingBestIsFree_l9 x.1.1 x.1.2.1 x.1.2.2.1 x.1.2.2.2.2 x.2.1 x.2.2) (fun _ _ h => lS_from h)
def posthouselaw6_MeetingBestIsFree_cr : Cod (V × List B) Bool := (cFstU (cPair (vC cBool) lNil))
noncomputable def posthouselaw6_MeetingBestIsFree_s (calendars : (List (List S58))) (length : Int) (from_ : Int) (to_ : Int) : Option Bool := fS Try.prog lv X2 10 posthouselaw6_MeetingBestIsFree_ca posthouselaw6_MeetingBestIsFree_cr (calendars, length, from_, to_)
noncomputable def posthouselaw6_MeetingBestIsFree_t (calendars : (List (List S58))) (length : Int) (from_ : Int) (to_ : Int) : Option Bool :=
  (gdE (EC.isL ec_45 (EC.encL ec_45 calendars)) <|
  (Option.bind (meeting_Best_s (EC.decL ec_45 (EC.encL ec_45 calendars)) length from_ to_) fun r0 =>
    (brE ((((r0).2).2).1 != (0 : Int))
      (some true)
      (brE (!((r0).2).1)
        (brE (((((r0).1).1 == (0 : Int)) && ((((r0).1).2 == (0 : Int)) && true)) == true)
          (some true)
          (some false))
        (brE ((decide (((r0).1).1 < from_)) == false)
          (brE ((decide (((r0).1).2 > to_)) == false)
            (brE ((Go.IntKind.wrap Go.IntKind.i64 (((r0).1).2 - ((r0).1).1)) != length)
              (some false)
              (gdE (EC.isL ec_45 (EC.encL ec_45 calendars)) <|
                (Option.bind (posthouselaw6_MeetingBestIsFree_l9 (EC.decL ec_45 (EC.encL ec_45 calendars)) length from_ (0 : Int) ((r0).1).1 ((r0).1).2) fun r1 =>
                  (Sum.elim (fun r2 => (some (r2).1))
                    (fun r2 => (gdE (EC.isL ec_45 (EC.encL ec_45 ((r2).1).1)) <|
                      (Option.bind (meeting_Best_s (EC.decL ec_45 (EC.encL ec_45 ((r2).1).1)) (((r2).1).2).1 ((((r2).1).2).2).1 (Go.IntKind.wrap Go.IntKind.i64 (((r2).2).2 - (1 : Int)))) fun r3 =>
                        (brE (((((r3).2).2).1 != (0 : Int)) == false)
                          (brE ((!((r3).2).1) == true)
                            (some true)
                            (some false))
                          (some true))))) r1))))
            (some false))
          (some false))))))
theorem posthouselaw6_MeetingBestIsFree_eq {calendars : (List (List S58))} {length : Int} {from_ : Int} {to_ : Int} {r : Bool} (h : posthouselaw6_MeetingBestIsFree_t calendars length from_ to_ = some r) : posthouselaw6_MeetingBestIsFree_s calendars length from_ to_ = some r :=
  fS_tree (es := tab_posthouselaw6_MeetingBestMatchesSpec) (hs := []) [posthouselaw6_MeetingBestIsFree_l9_e] Try.func10 rfl (by kernel_rfl) rfl (by kernel_rfl) (by kernel_rfl) ⟨⟨_, rfl, rfl⟩, trivial⟩ trivial (by kernel_rfl) h
noncomputable def posthouselaw6_MeetingBestIsFree_e : Ent Try.prog lv X2 := entS Try.prog lv X2 10 [] posthouselaw6_MeetingBestIsFree_ca posthouselaw6_MeetingBestIsFree_cr (fun x => posthouselaw6_MeetingBestIsFree_s x.1 x.2.1 x.2.2.1 x.2.2.2) (fun _ _ h => fS_call h)
noncomputable def tab_posthouselaw6_MeetingBestIsFree : List (Ent Try.prog lv X2) := posthouselaw6_MeetingBestIsFree_e :: tab_posthouselaw6_MeetingBestMatchesSpec
end Go.Proofs.Ytbbaldhmeifloaa
