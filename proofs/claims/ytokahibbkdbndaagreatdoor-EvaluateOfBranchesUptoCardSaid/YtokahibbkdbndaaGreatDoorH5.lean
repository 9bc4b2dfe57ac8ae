/- Functions of the program as plain functions: made by program from the machine. -/
import Derived.Test.YtokahibbkdbndaaGreatDoorZ22
namespace Go.Proofs.YtokahibbkdbndaaGreatDoor
open Go.RowKit
set_option maxRecDepth 100000
noncomputable section
def q13u:=(q279 (vC (cSl q26r)) (q27b (vAgg (q279 (vC cStr) (q279 (vC (cSl q26k)) (q279 (vC cStr) (q279 (vC (cSl q26s)) (q27b (vC (cSl q26q))))))))))
def q13l:=sLS [0,1,2] (q279 (vC (cSl q26r)) (q279 (vAgg (q279 (vC cStr) (q279 (vC (cSl q26k)) (q279 (vC cStr) (q279 (vC (cSl q26s)) (q27b (vC (cSl q26q)))))))) (q27b (vFn 38 q27a)))) q27a [] [] (by decide) (fun _=>rfl)
def q13k:SC ((Nat × (Int × Int)) × (List S45)):=sLS [0,1] (q279 (vRow 0) (q27b (vAgg (q279 (vC (cInt .i64)) (q27b (vC (cInt .i64))))))) (q27b (q27g (bRow q26o))) [false] [] (by decide) (fun _=>rfl)
def q13j:HC ((Nat × (Int × Int)) × ((Nat × (Int × Int)) × (List S45))):=hPair (vTup (q279 (vRow 0) (q27b (vAgg (q279 (vC (cInt .i64)) (q27b (vC (cInt .i64)))))))) q13k
def q13g (s:(List S50)) (m_:ByteArray) (m__1:(List S118)) (m__2:ByteArray) (m__3:(List S55)) (m__4:(List Int)):Option ((Nat × (Int × Int)) × ((Nat × (Int × Int)) × (List S45))):=hS Tryz.prog lv X0 37 q13l q13j ((s,(m_,m__1,m__2,m__3,m__4),()),())
def q13h:=hentS Tryz.prog lv X0 37 [0,1,4,1,7,5,1,3,1,4,1,3,1,4,1,4,2,6,38,0] q13l q13j (fun x=>q13g x.1.1 x.1.2.1.1 x.1.2.1.2.1 x.1.2.1.2.2.1 x.1.2.1.2.2.2.1 x.1.2.1.2.2.2.2) (fun _ _ h=>qir h)
def q160:=q13h::qkk
def q14d:=sLS [0,1,2] (q279 (vPtr 0 0) (q279 (vC (cSl q26r)) (q27b (vC (cInt .i64))))) (q279 (q27g (bBox (q279 (vC cStr) (q279 (vC (cSl q26k)) (q279 (vC cStr) (q279 (vC (cSl q26s)) (q279 (vC (cSl q26q)) (q279 (vC (cInt .i64)) (q279 (vMp 1) (q279 (vRow 2) (q27b (vFn 38 q27a)))))))))))) (q279 (q27g bMap) (q27b (q27g (bRow q26o))))) [false,false,false] [0,1] (by decide) (fun _=>rfl)
def q14c:SC (Bool × ((ByteArray × (List S118) × ByteArray × (List S55) × (List Int) × Int × Unit × Nat × Unit) × (List (ByteArray × ByteArray)) × (List S45))):=sLS [0] (q27b (vC cBool)) (q279 (q27g (bBox (q279 (vC cStr) (q279 (vC (cSl q26k)) (q279 (vC cStr) (q279 (vC (cSl q26s)) (q279 (vC (cSl q26q)) (q279 (vC (cInt .i64)) (q279 (vMp 1) (q279 (vRow 2) (q27b (vFn 38 q27a)))))))))))) (q279 (q27g bMap) (q27b (q27g (bRow q26o))))) [false,false,false] [0,1] (by decide) (fun _=>rfl)
def q14b:HC (Bool × (Bool × ((ByteArray × (List S118) × ByteArray × (List S55) × (List Int) × Int × Unit × Nat × Unit) × (List (ByteArray × ByteArray)) × (List S45)))):=hPair (vC cBool) q14c
def q140 (s:(List S50)) (number:Int) (b0:ByteArray) (b0_1:(List S118)) (b0_2:ByteArray) (b0_3:(List S55)) (b0_4:(List Int)) (b0_5:Int) (b0_6:Nat) (b1:(List (ByteArray × ByteArray))) (b2:(List S45)):Option (Bool × (Bool × ((ByteArray × (List S118) × ByteArray × (List S55) × (List Int) × Int × Unit × Nat × Unit) × (List (ByteArray × ByteArray)) × (List S45)))):=hS Tryz.prog lv X0 61 q14d q14b (((),s,number),((b0,b0_1,b0_2,b0_3,b0_4,b0_5,(),b0_6,()),b1,b2))
def q141:=hentS Tryz.prog lv X0 61 [0,3,0,0,1,1,4,2,1,1,1,9,1,3,1,4,1,3,1,4,1,4,1,1,8,1,2,2,6,38,0,4,2,0,1] q14d q14b (fun x=>q140 x.1.2.1 x.1.2.2 x.2.1.1 x.2.1.2.1 x.2.1.2.2.1 x.2.1.2.2.2.1 x.2.1.2.2.2.2.1 x.2.1.2.2.2.2.2.1 x.2.1.2.2.2.2.2.2.2.1 x.2.2.1 x.2.2.2) (fun _ _ h=>qir h)
def q162:=q141::q160
def q15s:=sLS [0,1] (q279 (vPtr 0 0) (q27b (vAgg (q279 (vC (cInt .i64)) (q279 (vC (cSl q26p)) (q279 (vC cStr) (q279 (vC (cInt .i64)) (q279 (vC cStr) (q27b (vC (cInt .i64))))))))))) (q279 (q27g (bBox (q279 (vC cStr) (q279 (vC (cSl q26k)) (q279 (vC cStr) (q279 (vC (cSl q26s)) (q279 (vC (cSl q26q)) (q279 (vC (cInt .i64)) (q279 (vMp 1) (q279 (vRow 2) (q27b (vFn 38 q27a)))))))))))) (q279 (q27g bMap) (q27b (q27g (bRow q26o))))) [false,false,false] [0,1] (by decide) (fun _=>rfl)
def q15r:SC (Bool × ((ByteArray × (List S118) × ByteArray × (List S55) × (List Int) × Int × Unit × Nat × Unit) × (List (ByteArray × ByteArray)) × (List S45))):=sLS [0] (q27b (vC cBool)) (q279 (q27g (bBox (q279 (vC cStr) (q279 (vC (cSl q26k)) (q279 (vC cStr) (q279 (vC (cSl q26s)) (q279 (vC (cSl q26q)) (q279 (vC (cInt .i64)) (q279 (vMp 1) (q279 (vRow 2) (q27b (vFn 38 q27a)))))))))))) (q279 (q27g bMap) (q27b (q27g (bRow q26o))))) [false,false,false] [0,1] (by decide) (fun _=>rfl)
def q15q:HC (Bool × (Bool × ((ByteArray × (List S118) × ByteArray × (List S55) × (List Int) × Int × Unit × Nat × Unit) × (List (ByteArray × ByteArray)) × (List S45)))):=hPair (vC cBool) q15r
def q158 (t:Int) (t_1:(List S48)) (t_2:ByteArray) (t_3:Int) (t_4:ByteArray) (t_5:Int) (b0:ByteArray) (b0_1:(List S118)) (b0_2:ByteArray) (b0_3:(List S55)) (b0_4:(List Int)) (b0_5:Int) (b0_6:Nat) (b1:(List (ByteArray × ByteArray))) (b2:(List S45)):Option (Bool × (Bool × ((ByteArray × (List S118) × ByteArray × (List S55) × (List Int) × Int × Unit × Nat × Unit) × (List (ByteArray × ByteArray)) × (List S45)))):=hS Tryz.prog lv X0 80 q15s q15q (((),(t,t_1,t_2,t_3,t_4,t_5)),((b0,b0_1,b0_2,b0_3,b0_4,b0_5,(),b0_6,()),b1,b2))
def q159:=hentS Tryz.prog lv X0 80 [0,3,0,0,1,7,6,1,1,1,4,1,3,1,1,1,3,1,1,1,9,1,3,1,4,1,3,1,4,1,4,1,1,8,1,2,2,6,38,0,4,2,0,1] q15s q15q (fun x=>q158 x.1.2.1 x.1.2.2.1 x.1.2.2.2.1 x.1.2.2.2.2.1 x.1.2.2.2.2.2.1 x.1.2.2.2.2.2.2 x.2.1.1 x.2.1.2.1 x.2.1.2.2.1 x.2.1.2.2.2.1 x.2.1.2.2.2.2.1 x.2.1.2.2.2.2.2.1 x.2.1.2.2.2.2.2.2.2.1 x.2.2.1 x.2.2.2) (fun _ _ h=>qir h)
def q165:=q159::q162
def q14k:=sLS [0,1] (q279 (vPtr 0 0) (q27b (vC cStr))) (q279 (q27g (bBox (q279 (vC cStr) (q279 (vC (cSl q26k)) (q279 (vC cStr) (q279 (vC (cSl q26s)) (q279 (vC (cSl q26q)) (q279 (vC (cInt .i64)) (q279 (vMp 1) (q279 (vRow 2) (q27b (vFn 38 q27a)))))))))))) (q279 (q27g bMap) (q27b (q27g (bRow q26o))))) [false,false,false] [0,1] (by decide) (fun _=>rfl)
def q14j:SC (Nat × ((List ByteArray) × (ByteArray × (List S118) × ByteArray × (List S55) × (List Int) × Int × Unit × Nat × Unit) × (List (ByteArray × ByteArray)) × (List S45))):=sLS [0] (q27b (vRow 0)) (q279 (q27g (bRow q26v)) (q279 (q27g (bBox (q279 (vC cStr) (q279 (vC (cSl q26k)) (q279 (vC cStr) (q279 (vC (cSl q26s)) (q279 (vC (cSl q26q)) (q279 (vC (cInt .i64)) (q279 (vMp 2) (q279 (vRow 3) (q27b (vFn 38 q27a)))))))))))) (q279 (q27g bMap) (q27b (q27g (bRow q26o)))))) [false,false,false,false] [1,2] (by decide) (fun _=>rfl)
def q14i:HC (Nat × (Nat × ((List ByteArray) × (ByteArray × (List S118) × ByteArray × (List S55) × (List Int) × Int × Unit × Nat × Unit) × (List (ByteArray × ByteArray)) × (List S45)))):=hPair (vRow 0) q14j
def q14f (name:ByteArray) (b0:ByteArray) (b0_1:(List S118)) (b0_2:ByteArray) (b0_3:(List S55)) (b0_4:(List Int)) (b0_5:Int) (b0_6:Nat) (b1:(List (ByteArray × ByteArray))) (b2:(List S45)):Option (Nat × (Nat × ((List ByteArray) × (ByteArray × (List S118) × ByteArray × (List S55) × (List Int) × Int × Unit × Nat × Unit) × (List (ByteArray × ByteArray)) × (List S45)))):=hS Tryz.prog lv X0 104 q14k q14i (((),name),((b0,b0_1,b0_2,b0_3,b0_4,b0_5,(),b0_6,()),b1,b2))
def q14l (name:ByteArray) (b0:ByteArray) (b0_1:(List S118)) (b0_2:ByteArray) (b0_3:(List S55)) (b0_4:(List Int)) (b0_5:Int) (b0_6:Nat) (b1:(List (ByteArray × ByteArray))) (b2:(List S45)):Option (Nat × (Nat × ((List ByteArray) × (ByteArray × (List S118) × ByteArray × (List S55) × (List Int) × Int × Unit × Nat × Unit) × (List (ByteArray × ByteArray)) × (List S45)))) :=
 (gdE (EC.isL q26s (EC.encL q26s b0_3)) <|
 (Option.bind (qjf (EC.decL q26s (EC.encL q26s b0_3)) name) fun r0 =>
 (gdE (EC.isL q26v (EC.encL q26v r0.2)) <|
 (gdE (EC.isL q26k (EC.encL q26k b0_1)) <|
 (gdE (EC.isL q26s (EC.encL q26s b0_3)) <|
 (gdE (EC.isL q26q (EC.encL q26q b0_4)) <|
 (gdE (EC.isL q26o (EC.encL q26o b2)) <|
 (some (r0.1.1,(r0.1.1,((EC.decL q26v (EC.encL q26v r0.2)),((b0,((EC.decL q26k (EC.encL q26k b0_1)),(b0_2,((EC.decL q26s (EC.encL q26s b0_3)),((EC.decL q26q (EC.encL q26q b0_4)),(b0_5,((),(b0_6,())))))))),(b1,(EC.decL q26o (EC.encL q26o b2)))))))))))))))
theorem q14h {name} {b0} {b0_1} {b0_2} {b0_3} {b0_4} {b0_5} {b0_6} {b1} {b2} {r} (h:q14l name b0 b0_1 b0_2 b0_3 b0_4 b0_5 b0_6 b1 b2=some r):q14f name b0 b0_1 b0_2 b0_3 b0_4 b0_5 b0_6 b1 b2=some r :=
 qis (fn:=Tryz.f104) (es:=q10j) (hs:=q165) [] (by kernel_rfl) rfl (by kernel_rfl) trivial trivial (by kernel_rfl) h
def q14g:=hentS Tryz.prog lv X0 104 [0,3,0,0,1,1,3,1,9,1,3,1,4,1,3,1,4,1,4,1,1,8,1,2,2,6,38,0,4,2,0,1] q14k q14i (fun x=>q14f x.1.2 x.2.1.1 x.2.1.2.1 x.2.1.2.2.1 x.2.1.2.2.2.1 x.2.1.2.2.2.2.1 x.2.1.2.2.2.2.2.1 x.2.1.2.2.2.2.2.2.2.1 x.2.2.1 x.2.2.2) (fun _ _ h=>qir h)
def q163:=q14g::q165
def q156:=sLS [0,1,2] (q279 (vPtr 0 0) (q279 (vAgg (q279 (vC (cInt .i64)) (q279 (vC (cSl q26p)) (q279 (vC cStr) (q279 (vC (cInt .i64)) (q279 (vC cStr) (q27b (vC (cInt .i64))))))))) (q27b (vRow 1)))) (q279 (q27g (bBox (q279 (vC cStr) (q279 (vC (cSl q26k)) (q279 (vC cStr) (q279 (vC (cSl q26s)) (q279 (vC (cSl q26q)) (q279 (vC (cInt .i64)) (q279 (vMp 2) (q279 (vRow 3) (q27b (vFn 38 q27a)))))))))))) (q279 (q27g (bRow q26v)) (q279 (q27g bMap) (q27b (q27g (bRow q26o)))))) [false,false,false,false] [0,2] (by decide) (fun _=>rfl)
def q152:=sLS [0,44,45,46] (q279 (vPtr 0 0) (q279 (vRow 1) (q279 (vC (cInt .i64)) (q27b (vC (cInt .i64)))))) (q279 (q27g (bBox (q279 (vC cStr) (q279 (vC (cSl q26k)) (q279 (vC cStr) (q279 (vC (cSl q26s)) (q279 (vC (cSl q26q)) (q279 (vC (cInt .i64)) (q279 (vMp 2) (q279 (vRow 3) (q27b (vFn 38 q27a)))))))))))) (q279 (q27g (bRow q26v)) (q279 (q27g bMap) (q27b (q27g (bRow q26o)))))) [false,false,false,false] [0,2] (by decide) (fun _=>rfl)
def q151:=sLS [0,44,45,46,47] (q279 (vPtr 0 0) (q279 (vRow 1) (q279 (vC (cInt .i64)) (q279 (vC (cInt .i64)) (q27b (vC cBool)))))) (q279 (q27g (bBox (q279 (vC cStr) (q279 (vC (cSl q26k)) (q279 (vC cStr) (q279 (vC (cSl q26s)) (q279 (vC (cSl q26q)) (q279 (vC (cInt .i64)) (q279 (vMp 2) (q279 (vRow 3) (q27b (vFn 38 q27a)))))))))))) (q279 (q27g (bRow q26v)) (q279 (q27g bMap) (q27b (q27g (bRow q26o)))))) [false,false,false,false] [0,2] (by decide) (fun _=>rfl)
def q150:=oAt 4 q151
def q14x (t44:Nat) (t45:Int) (t46:Int) (b0:ByteArray) (b0_1:(List S118)) (b0_2:ByteArray) (b0_3:(List S55)) (b0_4:(List Int)) (b0_5:Int) (b0_6:Nat) (b1:(List ByteArray)) (b2:(List (ByteArray × ByteArray))) (b3:(List S45)):Option ((Unit × Nat × Int × Int × Bool) × ((ByteArray × (List S118) × ByteArray × (List S55) × (List Int) × Int × Unit × Nat × Unit) × (List ByteArray) × (List (ByteArray × ByteArray)) × (List S45))):=lS Tryz.prog lv X0 103 61 (q270 (cdF Tryz.f103) 9) q152 q150 (((),t44,t45,t46),((b0,b0_1,b0_2,b0_3,b0_4,b0_5,(),b0_6,()),b1,b2,b3))
def q153 (t44:Nat) (t45:Int) (t46:Int) (b0:ByteArray) (b0_1:(List S118)) (b0_2:ByteArray) (b0_3:(List S55)) (b0_4:(List Int)) (b0_5:Int) (b0_6:Nat) (b1:(List ByteArray)) (b2:(List (ByteArray × ByteArray))) (b3:(List S45)):Option ((Unit × Nat × Int × Int × Bool) × ((ByteArray × (List S118) × ByteArray × (List S55) × (List Int) × Int × Unit × Nat × Unit) × (List ByteArray) × (List (ByteArray × ByteArray)) × (List S45))) :=
 (brE (decide (t46<t45))
 (gdE ((decide (0≤t46))&&(decide (t46<((t44:Nat):Int)))) <|
 (gdE ((decide ((Int.toNat t46)<(List.length (EC.encL q26v b1))))&&((List.length (List.getD (EC.encL q26v b1) (Int.toNat t46) []))==1)) <|
 (gdE (isP [K1.str] 0 (List.getD (EC.encL q26v b1) (Int.toNat t46) [])) <|
 (Option.bind (itoaP (IntKind.wrap .i64 (t46+1))) fun r0 =>
 (gdE (((decide ((ByteArray.size r0)≤Go.maxLen))&&(decide ((ByteArray.size (q27s (List.getD (List.getD (EC.encL q26v b1) (Int.toNat t46) []) 0 C.ne)))≤Go.maxLen)))&&(decide ((List.length b2)<Go.maxLen))) <|
 (gdE (EC.isL q26k (EC.encL q26k b0_1)) <|
 (gdE (EC.isL q26s (EC.encL q26s b0_3)) <|
 (gdE (EC.isL q26q (EC.encL q26q b0_4)) <|
 (gdE (EC.isL q26v (EC.encL q26v b1)) <|
 (gdE (EC.isL q26o (EC.encL q26o b3)) <|
 (q14x t44 t45 (IntKind.wrap .i64 (t46+1)) b0 (EC.decL q26k (EC.encL q26k b0_1)) b0_2 (EC.decL q26s (EC.encL q26s b0_3)) (EC.decL q26q (EC.encL q26q b0_4)) b0_5 b0_6 (EC.decL q26v (EC.encL q26v b1)) (putM b2 r0 (q27s (List.getD (List.getD (EC.encL q26v b1) (Int.toNat t46) []) 0 C.ne))) (EC.decL q26o (EC.encL q26o b3)))))))))))))
 (gdE (EC.isL q26k (EC.encL q26k b0_1)) <|
 (gdE (EC.isL q26s (EC.encL q26s b0_3)) <|
 (gdE (EC.isL q26q (EC.encL q26q b0_4)) <|
 (gdE (EC.isL q26v (EC.encL q26v b1)) <|
 (gdE (EC.isL q26o (EC.encL q26o b3)) <|
 (some (((),(t44,(t45,(t46,false)))),((b0,((EC.decL q26k (EC.encL q26k b0_1)),(b0_2,((EC.decL q26s (EC.encL q26s b0_3)),((EC.decL q26q (EC.encL q26q b0_4)),(b0_5,((),(b0_6,())))))))),((EC.decL q26v (EC.encL q26v b1)),(b2,(EC.decL q26o (EC.encL q26o b3)))))))))))))
theorem q14z {t44} {t45} {t46} {b0} {b0_1} {b0_2} {b0_3} {b0_4} {b0_5} {b0_6} {b1} {b2} {b3} {r} (h:q153 t44 t45 t46 b0 b0_1 b0_2 b0_3 b0_4 b0_5 b0_6 b1 b2 b3=some r):q14x t44 t45 t46 b0 b0_1 b0_2 b0_3 b0_4 b0_5 b0_6 b1 b2 b3=some r :=
 qm5 (es:=q10j) (hs:=q163) [] (by kernel_rfl) trivial trivial (by kernel_rfl) h
def q14y:=q27d Tryz.prog lv X0 9 (q270 (cdF Tryz.f103) 9) q152 q150 (fun x=>q14x x.1.2.1 x.1.2.2.1 x.1.2.2.2 x.2.1.1 x.2.1.2.1 x.2.1.2.2.1 x.2.1.2.2.2.1 x.2.1.2.2.2.2.1 x.2.1.2.2.2.2.2.1 x.2.1.2.2.2.2.2.2.2.1 x.2.2.1 x.2.2.2.1 x.2.2.2.2) (fun _ _ h=>qm4 h)
def q14v:=sLS [0,4,14,15,16] (q279 (vPtr 0 0) (q279 (vPtr 1 0) (q279 (vRow 2) (q279 (vC (cInt .i64)) (q27b (vC (cInt .i64))))))) (q279 (q27g (bBox (q279 (vC cStr) (q279 (vC (cSl q26k)) (q279 (vC cStr) (q279 (vC (cSl q26s)) (q279 (vC (cSl q26q)) (q279 (vC (cInt .i64)) (q279 (vMp 3) (q279 (vRow 4) (q27b (vFn 38 q27a)))))))))))) (q279 (q27g (bBox (q279 (vC (cInt .i64)) (q279 (vC (cSl q26p)) (q279 (vC cStr) (q279 (vC (cInt .i64)) (q279 (vC cStr) (q27b (vC (cInt .i64)))))))))) (q279 (q27g (bRow q26v)) (q279 (q27g bMap) (q27b (q27g (bRow q26o))))))) [false,false,false,false,false] [0,3] (by decide) (fun _=>rfl)
def q14u:=sLS [0,4,14,15,16,17] (q279 (vPtr 0 0) (q279 (vPtr 1 0) (q279 (vRow 2) (q279 (vC (cInt .i64)) (q279 (vC (cInt .i64)) (q27b (vC cBool))))))) (q279 (q27g (bBox (q279 (vC cStr) (q279 (vC (cSl q26k)) (q279 (vC cStr) (q279 (vC (cSl q26s)) (q279 (vC (cSl q26q)) (q279 (vC (cInt .i64)) (q279 (vMp 3) (q279 (vRow 4) (q27b (vFn 38 q27a)))))))))))) (q279 (q27g (bBox (q279 (vC (cInt .i64)) (q279 (vC (cSl q26p)) (q279 (vC cStr) (q279 (vC (cInt .i64)) (q279 (vC cStr) (q27b (vC (cInt .i64)))))))))) (q279 (q27g (bRow q26v)) (q279 (q27g bMap) (q27b (q27g (bRow q26o))))))) [false,false,false,false,false] [0,3] (by decide) (fun _=>rfl)
def q14t:=sLS [6] (q27b (vC cBool)) (q279 (q27g (bBox (q279 (vC cStr) (q279 (vC (cSl q26k)) (q279 (vC cStr) (q279 (vC (cSl q26s)) (q279 (vC (cSl q26q)) (q279 (vC (cInt .i64)) (q279 (vMp 1) (q279 (vRow 2) (q27b (vFn 38 q27a)))))))))))) (q279 (q27g bMap) (q27b (q27g (bRow q26o))))) [false,false,false] [0,1] (by decide) (fun _=>rfl)
def q14s:=oOr 1 q14t (oAt 2 q14u) (fun x=>(by decide:(2:Nat)≠1))
def q14p (t14:Nat) (t15:Int) (t16:Int) (b0:ByteArray) (b0_1:(List S118)) (b0_2:ByteArray) (b0_3:(List S55)) (b0_4:(List Int)) (b0_5:Int) (b0_6:Nat) (b1:Int) (b1_1:(List S48)) (b1_2:ByteArray) (b1_3:Int) (b1_4:ByteArray) (b1_5:Int) (b2:(List ByteArray)) (b3:(List (ByteArray × ByteArray))) (b4:(List S45)):Option ((Bool × ((ByteArray × (List S118) × ByteArray × (List S55) × (List Int) × Int × Unit × Nat × Unit) × (List (ByteArray × ByteArray)) × (List S45))) ⊕ ((Unit × Unit × Nat × Int × Int × Bool) × ((ByteArray × (List S118) × ByteArray × (List S55) × (List Int) × Int × Unit × Nat × Unit) × (Int × (List S48) × ByteArray × Int × ByteArray × Int) × (List ByteArray) × (List (ByteArray × ByteArray)) × (List S45)))):=lS Tryz.prog lv X0 103 61 (q270 (cdF Tryz.f103) 2) q14v q14s (((),(),t14,t15,t16),((b0,b0_1,b0_2,b0_3,b0_4,b0_5,(),b0_6,()),(b1,b1_1,b1_2,b1_3,b1_4,b1_5),b2,b3,b4))
def q14w (t14:Nat) (t15:Int) (t16:Int) (b0:ByteArray) (b0_1:(List S118)) (b0_2:ByteArray) (b0_3:(List S55)) (b0_4:(List Int)) (b0_5:Int) (b0_6:Nat) (b1:Int) (b1_1:(List S48)) (b1_2:ByteArray) (b1_3:Int) (b1_4:ByteArray) (b1_5:Int) (b2:(List ByteArray)) (b3:(List (ByteArray × ByteArray))) (b4:(List S45)):Option ((Bool × ((ByteArray × (List S118) × ByteArray × (List S55) × (List Int) × Int × Unit × Nat × Unit) × (List (ByteArray × ByteArray)) × (List S45))) ⊕ ((Unit × Unit × Nat × Int × Int × Bool) × ((ByteArray × (List S118) × ByteArray × (List S55) × (List Int) × Int × Unit × Nat × Unit) × (Int × (List S48) × ByteArray × Int × ByteArray × Int) × (List ByteArray) × (List (ByteArray × ByteArray)) × (List S45)))) :=
 (brE (decide (t16<t15))
 (gdE ((decide (0≤t16))&&(decide (t16<((t14:Nat):Int)))) <|
 (gdE ((decide ((Int.toNat t16)<(List.length (EC.encL q26v b2))))&&((List.length (List.getD (EC.encL q26v b2) (Int.toNat t16) []))==1)) <|
 (gdE (isP [K1.str] 0 (List.getD (EC.encL q26v b2) (Int.toNat t16) [])) <|
 (Option.bind (qq0 b1_3 b1_4 (q27s (List.getD (List.getD (EC.encL q26v b2) (Int.toNat t16) []) 0 C.ne))) fun r0 =>
 (Option.bind (q57 r0.1.2.2.1 r0.1.2.2.2) fun r1 =>
 (brE (r1==false)
 (brE (!r0.1.1)
 (gdE (EC.isL q26k (EC.encL q26k b0_1)) <|
 (gdE (EC.isL q26s (EC.encL q26s b0_3)) <|
 (gdE (EC.isL q26q (EC.encL q26q b0_4)) <|
 (gdE (EC.isL q26p (EC.encL q26p b1_1)) <|
 (gdE (EC.isL q26v (EC.encL q26v b2)) <|
 (gdE (EC.isL q26o (EC.encL q26o b4)) <|
 (q14p t14 t15 (IntKind.wrap .i64 (t16+1)) b0 (EC.decL q26k (EC.encL q26k b0_1)) b0_2 (EC.decL q26s (EC.encL q26s b0_3)) (EC.decL q26q (EC.encL q26q b0_4)) b0_5 b0_6 b1 (EC.decL q26p (EC.encL q26p b1_1)) b1_2 b1_3 b1_4 b1_5 (EC.decL q26v (EC.encL q26v b2)) b3 (EC.decL q26o (EC.encL q26o b4)))))))))
 (brE (b1_3==3)
 (Option.bind (delP b3) fun r2 =>
 (gdE (EC.isL q26k (EC.encL q26k b0_1)) <|
 (gdE (EC.isL q26s (EC.encL q26s b0_3)) <|
 (gdE (EC.isL q26q (EC.encL q26q b0_4)) <|
 (gdE (EC.isL q26v (EC.encL q26v r0.2)) <|
 (gdE (EC.isL q26o (EC.encL q26o b4)) <|
 (Option.bind (q14x r0.1.2.1 ((r0.1.2.1:Nat):Int) 0 b0 (EC.decL q26k (EC.encL q26k b0_1)) b0_2 (EC.decL q26s (EC.encL q26s b0_3)) (EC.decL q26q (EC.encL q26q b0_4)) b0_5 b0_6 (EC.decL q26v (EC.encL q26v r0.2)) r2 (EC.decL q26o (EC.encL q26o b4))) fun r3 =>
 (gdE (EC.isL q26k (EC.encL q26k r3.2.1.2.1)) <|
 (gdE (EC.isL q26s (EC.encL q26s r3.2.1.2.2.2.1)) <|
 (gdE (EC.isL q26q (EC.encL q26q r3.2.1.2.2.2.2.1)) <|
 (gdE (EC.isL q26o (EC.encL q26o r3.2.2.2.2)) <|
 (some (.inl (true,((r3.2.1.1,((EC.decL q26k (EC.encL q26k r3.2.1.2.1)),(r3.2.1.2.2.1,((EC.decL q26s (EC.encL q26s r3.2.1.2.2.2.1)),((EC.decL q26q (EC.encL q26q r3.2.1.2.2.2.2.1)),(r3.2.1.2.2.2.2.2.1,((),(r3.2.1.2.2.2.2.2.2.2.1,())))))))),(r3.2.2.2.1,(EC.decL q26o (EC.encL q26o r3.2.2.2.2))))))))))))))))))
 (gdE (EC.isL q26k (EC.encL q26k b0_1)) <|
 (gdE (EC.isL q26s (EC.encL q26s b0_3)) <|
 (gdE (EC.isL q26q (EC.encL q26q b0_4)) <|
 (gdE (EC.isL q26o (EC.encL q26o b4)) <|
 (some (.inl (true,((b0,((EC.decL q26k (EC.encL q26k b0_1)),(b0_2,((EC.decL q26s (EC.encL q26s b0_3)),((EC.decL q26q (EC.encL q26q b0_4)),(b0_5,((),(b0_6,())))))))),(b3,(EC.decL q26o (EC.encL q26o b4)))))))))))))
 (gdE (EC.isL q26k (EC.encL q26k b0_1)) <|
 (gdE (EC.isL q26s (EC.encL q26s b0_3)) <|
 (gdE (EC.isL q26q (EC.encL q26q b0_4)) <|
 (gdE (EC.isL q26p (EC.encL q26p b1_1)) <|
 (gdE (EC.isL q26v (EC.encL q26v b2)) <|
 (gdE (EC.isL q26o (EC.encL q26o b4)) <|
 (q14p t14 t15 (IntKind.wrap .i64 (t16+1)) b0 (EC.decL q26k (EC.encL q26k b0_1)) b0_2 (EC.decL q26s (EC.encL q26s b0_3)) (EC.decL q26q (EC.encL q26q b0_4)) b0_5 b0_6 b1 (EC.decL q26p (EC.encL q26p b1_1)) b1_2 b1_3 b1_4 b1_5 (EC.decL q26v (EC.encL q26v b2)) b3 (EC.decL q26o (EC.encL q26o b4)))))))))))))))
 (gdE (EC.isL q26k (EC.encL q26k b0_1)) <|
 (gdE (EC.isL q26s (EC.encL q26s b0_3)) <|
 (gdE (EC.isL q26q (EC.encL q26q b0_4)) <|
 (gdE (EC.isL q26p (EC.encL q26p b1_1)) <|
 (gdE (EC.isL q26v (EC.encL q26v b2)) <|
 (gdE (EC.isL q26o (EC.encL q26o b4)) <|
 (some (.inr (((),((),(t14,(t15,(t16,false))))),((b0,((EC.decL q26k (EC.encL q26k b0_1)),(b0_2,((EC.decL q26s (EC.encL q26s b0_3)),((EC.decL q26q (EC.encL q26q b0_4)),(b0_5,((),(b0_6,())))))))),((b1,((EC.decL q26p (EC.encL q26p b1_1)),(b1_2,(b1_3,(b1_4,b1_5))))),((EC.decL q26v (EC.encL q26v b2)),(b3,(EC.decL q26o (EC.encL q26o b4))))))))))))))))
theorem q14r {t14} {t15} {t16} {b0} {b0_1} {b0_2} {b0_3} {b0_4} {b0_5} {b0_6} {b1} {b1_1} {b1_2} {b1_3} {b1_4} {b1_5} {b2} {b3} {b4} {r} (h:q14w t14 t15 t16 b0 b0_1 b0_2 b0_3 b0_4 b0_5 b0_6 b1 b1_1 b1_2 b1_3 b1_4 b1_5 b2 b3 b4=some r):q14p t14 t15 t16 b0 b0_1 b0_2 b0_3 b0_4 b0_5 b0_6 b1 b1_1 b1_2 b1_3 b1_4 b1_5 b2 b3 b4=some r :=
 qm5 (es:=q10j) (hs:=q163) [q14y] (by kernel_rfl) ⟨⟨_,rfl,rfl⟩,trivial⟩ trivial (by kernel_rfl) h
def q14q:=q27d Tryz.prog lv X0 2 (q270 (cdF Tryz.f103) 2) q14v q14s (fun x=>q14p x.1.2.2.1 x.1.2.2.2.1 x.1.2.2.2.2 x.2.1.1 x.2.1.2.1 x.2.1.2.2.1 x.2.1.2.2.2.1 x.2.1.2.2.2.2.1 x.2.1.2.2.2.2.2.1 x.2.1.2.2.2.2.2.2.2.1 x.2.2.1.1 x.2.2.1.2.1 x.2.2.1.2.2.1 x.2.2.1.2.2.2.1 x.2.2.1.2.2.2.2.1 x.2.2.1.2.2.2.2.2 x.2.2.2.1 x.2.2.2.2.1 x.2.2.2.2.2) (fun _ _ h=>qm4 h)
def q155:SC (Bool × ((ByteArray × (List S118) × ByteArray × (List S55) × (List Int) × Int × Unit × Nat × Unit) × (List (ByteArray × ByteArray)) × (List S45))):=sLS [0] (q27b (vC cBool)) (q279 (q27g (bBox (q279 (vC cStr) (q279 (vC (cSl q26k)) (q279 (vC cStr) (q279 (vC (cSl q26s)) (q279 (vC (cSl q26q)) (q279 (vC (cInt .i64)) (q279 (vMp 1) (q279 (vRow 2) (q27b (vFn 38 q27a)))))))))))) (q279 (q27g bMap) (q27b (q27g (bRow q26o))))) [false,false,false] [0,1] (by decide) (fun _=>rfl)
def q154:HC (Bool × (Bool × ((ByteArray × (List S118) × ByteArray × (List S55) × (List Int) × Int × Unit × Nat × Unit) × (List (ByteArray × ByteArray)) × (List S45)))):=hPair (vC cBool) q155
def q14m (t:Int) (t_1:(List S48)) (t_2:ByteArray) (t_3:Int) (t_4:ByteArray) (t_5:Int) (l:Nat) (b0:ByteArray) (b0_1:(List S118)) (b0_2:ByteArray) (b0_3:(List S55)) (b0_4:(List Int)) (b0_5:Int) (b0_6:Nat) (b1:(List ByteArray)) (b2:(List (ByteArray × ByteArray))) (b3:(List S45)):Option (Bool × (Bool × ((ByteArray × (List S118) × ByteArray × (List S55) × (List Int) × Int × Unit × Nat × Unit) × (List (ByteArray × ByteArray)) × (List S45)))):=hS Tryz.prog lv X0 103 q156 q154 (((),(t,t_1,t_2,t_3,t_4,t_5),l),((b0,b0_1,b0_2,b0_3,b0_4,b0_5,(),b0_6,()),b1,b2,b3))
def q157 (t:Int) (t_1:(List S48)) (t_2:ByteArray) (t_3:Int) (t_4:ByteArray) (t_5:Int) (l:Nat) (b0:ByteArray) (b0_1:(List S118)) (b0_2:ByteArray) (b0_3:(List S55)) (b0_4:(List Int)) (b0_5:Int) (b0_6:Nat) (b1:(List ByteArray)) (b2:(List (ByteArray × ByteArray))) (b3:(List S45)):Option (Bool × (Bool × ((ByteArray × (List S118) × ByteArray × (List S55) × (List Int) × Int × Unit × Nat × Unit) × (List (ByteArray × ByteArray)) × (List S45)))) :=
 (gdE (EC.isL q26k (EC.encL q26k b0_1)) <|
 (gdE (EC.isL q26s (EC.encL q26s b0_3)) <|
 (gdE (EC.isL q26q (EC.encL q26q b0_4)) <|
 (gdE (EC.isL q26p (EC.encL q26p t_1)) <|
 (gdE (EC.isL q26v (EC.encL q26v b1)) <|
 (gdE (EC.isL q26o (EC.encL q26o b3)) <|
 (Option.bind (q14p l ((l:Nat):Int) 0 b0 (EC.decL q26k (EC.encL q26k b0_1)) b0_2 (EC.decL q26s (EC.encL q26s b0_3)) (EC.decL q26q (EC.encL q26q b0_4)) b0_5 b0_6 t (EC.decL q26p (EC.encL q26p t_1)) t_2 t_3 t_4 t_5 (EC.decL q26v (EC.encL q26v b1)) b2 (EC.decL q26o (EC.encL q26o b3))) fun r0 =>
 (Sum.elim (fun r1=>(gdE (EC.isL q26k (EC.encL q26k r1.2.1.2.1)) <|
 (gdE (EC.isL q26s (EC.encL q26s r1.2.1.2.2.2.1)) <|
 (gdE (EC.isL q26q (EC.encL q26q r1.2.1.2.2.2.2.1)) <|
 (gdE (EC.isL q26o (EC.encL q26o r1.2.2.2)) <|
 (some (r1.1,(r1.1,((r1.2.1.1,((EC.decL q26k (EC.encL q26k r1.2.1.2.1)),(r1.2.1.2.2.1,((EC.decL q26s (EC.encL q26s r1.2.1.2.2.2.1)),((EC.decL q26q (EC.encL q26q r1.2.1.2.2.2.2.1)),(r1.2.1.2.2.2.2.2.1,((),(r1.2.1.2.2.2.2.2.2.2.1,())))))))),(r1.2.2.1,(EC.decL q26o (EC.encL q26o r1.2.2.2))))))))))))
 (fun r1=>(gdE (EC.isL q26k (EC.encL q26k r1.2.1.2.1)) <|
 (gdE (EC.isL q26s (EC.encL q26s r1.2.1.2.2.2.1)) <|
 (gdE (EC.isL q26q (EC.encL q26q r1.2.1.2.2.2.2.1)) <|
 (gdE (EC.isL q26o (EC.encL q26o r1.2.2.2.2.2)) <|
 (some (false,(false,((r1.2.1.1,((EC.decL q26k (EC.encL q26k r1.2.1.2.1)),(r1.2.1.2.2.1,((EC.decL q26s (EC.encL q26s r1.2.1.2.2.2.1)),((EC.decL q26q (EC.encL q26q r1.2.1.2.2.2.2.1)),(r1.2.1.2.2.2.2.2.1,((),(r1.2.1.2.2.2.2.2.2.2.1,())))))))),(r1.2.2.2.2.1,(EC.decL q26o (EC.encL q26o r1.2.2.2.2.2)))))))))))) r0))))))))
theorem q14o {t} {t_1} {t_2} {t_3} {t_4} {t_5} {l} {b0} {b0_1} {b0_2} {b0_3} {b0_4} {b0_5} {b0_6} {b1} {b2} {b3} {r} (h:q157 t t_1 t_2 t_3 t_4 t_5 l b0 b0_1 b0_2 b0_3 b0_4 b0_5 b0_6 b1 b2 b3=some r):q14m t t_1 t_2 t_3 t_4 t_5 l b0 b0_1 b0_2 b0_3 b0_4 b0_5 b0_6 b1 b2 b3=some r :=
 qis (fn:=Tryz.f103) (es:=q10j) (hs:=q163) [q14q] (by kernel_rfl) rfl (by kernel_rfl) ⟨⟨_,rfl,rfl⟩,trivial⟩ trivial (by kernel_rfl) h
def q14n:=hentS Tryz.prog lv X0 103 [0,3,0,0,1,7,6,1,1,1,4,1,3,1,1,1,3,1,1,2,2,1,1,9,1,3,1,4,1,3,1,4,1,4,1,1,8,2,2,3,6,38,0,2,4,2,0,2] q156 q154 (fun x=>q14m x.1.2.1.1 x.1.2.1.2.1 x.1.2.1.2.2.1 x.1.2.1.2.2.2.1 x.1.2.1.2.2.2.2.1 x.1.2.1.2.2.2.2.2 x.1.2.2 x.2.1.1 x.2.1.2.1 x.2.1.2.2.1 x.2.1.2.2.2.1 x.2.1.2.2.2.2.1 x.2.1.2.2.2.2.2.1 x.2.1.2.2.2.2.2.2.2.1 x.2.2.1 x.2.2.2.1 x.2.2.2.2) (fun _ _ h=>qir h)
def q164:=q14n::q163
def q15o:=sLS [0,3,25,26,27] (q279 (vPtr 0 0) (q279 (vPtr 1 0) (q279 (vC (cSl q26p)) (q279 (vC (cInt .i64)) (q27b (vC (cInt .i64))))))) (q279 (q27g (bBox (q279 (vC cStr) (q279 (vC (cSl q26k)) (q279 (vC cStr) (q279 (vC (cSl q26s)) (q279 (vC (cSl q26q)) (q279 (vC (cInt .i64)) (q279 (vMp 2) (q279 (vRow 3) (q27b (vFn 38 q27a)))))))))))) (q279 (q27g (bBox (q279 (vC (cInt .i64)) (q279 (vC (cSl q26p)) (q279 (vC cStr) (q279 (vC (cInt .i64)) (q279 (vC cStr) (q27b (vC (cInt .i64)))))))))) (q279 (q27g bMap) (q27b (q27g (bRow q26o)))))) [false,false,false,false] [0,2] (by decide) (fun _=>rfl)
def q15n:=sLS [0,3,25,26,27,28] (q279 (vPtr 0 0) (q279 (vPtr 1 0) (q279 (vC (cSl q26p)) (q279 (vC (cInt .i64)) (q279 (vC (cInt .i64)) (q27b (vC cBool))))))) (q279 (q27g (bBox (q279 (vC cStr) (q279 (vC (cSl q26k)) (q279 (vC cStr) (q279 (vC (cSl q26s)) (q279 (vC (cSl q26q)) (q279 (vC (cInt .i64)) (q279 (vMp 2) (q279 (vRow 3) (q27b (vFn 38 q27a)))))))))))) (q279 (q27g (bBox (q279 (vC (cInt .i64)) (q279 (vC (cSl q26p)) (q279 (vC cStr) (q279 (vC (cInt .i64)) (q279 (vC cStr) (q27b (vC (cInt .i64)))))))))) (q279 (q27g bMap) (q27b (q27g (bRow q26o)))))) [false,false,false,false] [0,2] (by decide) (fun _=>rfl)
def q15m:=sLS [4] (q27b (vC cBool)) (q279 (q27g (bBox (q279 (vC cStr) (q279 (vC (cSl q26k)) (q279 (vC cStr) (q279 (vC (cSl q26s)) (q279 (vC (cSl q26q)) (q279 (vC (cInt .i64)) (q279 (vMp 1) (q279 (vRow 2) (q27b (vFn 38 q27a)))))))))))) (q279 (q27g bMap) (q27b (q27g (bRow q26o))))) [false,false,false] [0,1] (by decide) (fun _=>rfl)
def q15l:=oOr 1 q15m (oAt 3 q15n) (fun x=>(by decide:(3:Nat)≠1))
def q15i (t25:(List S48)) (t26:Int) (t27:Int) (b0:ByteArray) (b0_1:(List S118)) (b0_2:ByteArray) (b0_3:(List S55)) (b0_4:(List Int)) (b0_5:Int) (b0_6:Nat) (b1:Int) (b1_1:(List S48)) (b1_2:ByteArray) (b1_3:Int) (b1_4:ByteArray) (b1_5:Int) (b2:(List (ByteArray × ByteArray))) (b3:(List S45)):Option ((Bool × ((ByteArray × (List S118) × ByteArray × (List S55) × (List Int) × Int × Unit × Nat × Unit) × (List (ByteArray × ByteArray)) × (List S45))) ⊕ ((Unit × Unit × (List S48) × Int × Int × Bool) × ((ByteArray × (List S118) × ByteArray × (List S55) × (List Int) × Int × Unit × Nat × Unit) × (Int × (List S48) × ByteArray × Int × ByteArray × Int) × (List (ByteArray × ByteArray)) × (List S45)))):=lS Tryz.prog lv X0 80 106 (q270 (cdF Tryz.f80) 7) q15o q15l (((),(),t25,t26,t27),((b0,b0_1,b0_2,b0_3,b0_4,b0_5,(),b0_6,()),(b1,b1_1,b1_2,b1_3,b1_4,b1_5),b2,b3))
def q15p (t25:(List S48)) (t26:Int) (t27:Int) (b0:ByteArray) (b0_1:(List S118)) (b0_2:ByteArray) (b0_3:(List S55)) (b0_4:(List Int)) (b0_5:Int) (b0_6:Nat) (b1:Int) (b1_1:(List S48)) (b1_2:ByteArray) (b1_3:Int) (b1_4:ByteArray) (b1_5:Int) (b2:(List (ByteArray × ByteArray))) (b3:(List S45)):Option ((Bool × ((ByteArray × (List S118) × ByteArray × (List S55) × (List Int) × Int × Unit × Nat × Unit) × (List (ByteArray × ByteArray)) × (List S45))) ⊕ ((Unit × Unit × (List S48) × Int × Int × Bool) × ((ByteArray × (List S118) × ByteArray × (List S55) × (List Int) × Int × Unit × Nat × Unit) × (Int × (List S48) × ByteArray × Int × ByteArray × Int) × (List (ByteArray × ByteArray)) × (List S45)))) :=
 (brE (decide (t27<t26))
 (gdE (decide (0≤t27)) <|
 (gdE ((decide ((Int.toNat t27)<(List.length (EC.encL q26p t25))))&&(isE [(K1.int Go.IntKind.i64),K1.sl,K1.str,(K1.int Go.IntKind.i64),K1.str,(K1.int Go.IntKind.i64)] 0 (List.getD (EC.encL q26p t25) (Int.toNat t27) []))) <|
 (gdE (EC.isL q26p (slOf (List.getD (List.getD (EC.encL q26p t25) (Int.toNat t27) []) 1 C.ne))) <|
 (gdE (EC.isL q26k (EC.encL q26k b0_1)) <|
 (gdE (EC.isL q26s (EC.encL q26s b0_3)) <|
 (gdE (EC.isL q26q (EC.encL q26q b0_4)) <|
 (gdE (EC.isL q26o (EC.encL q26o b3)) <|
 (Option.bind (q158 (q273 (List.getD (List.getD (EC.encL q26p t25) (Int.toNat t27) []) 0 C.ne)) (EC.decL q26p (slOf (List.getD (List.getD (EC.encL q26p t25) (Int.toNat t27) []) 1 C.ne))) (q27s (List.getD (List.getD (EC.encL q26p t25) (Int.toNat t27) []) 2 C.ne)) (q273 (List.getD (List.getD (EC.encL q26p t25) (Int.toNat t27) []) 3 C.ne)) (q27s (List.getD (List.getD (EC.encL q26p t25) (Int.toNat t27) []) 4 C.ne)) (q273 (List.getD (List.getD (EC.encL q26p t25) (Int.toNat t27) []) 5 C.ne)) b0 (EC.decL q26k (EC.encL q26k b0_1)) b0_2 (EC.decL q26s (EC.encL q26s b0_3)) (EC.decL q26q (EC.encL q26q b0_4)) b0_5 b0_6 b2 (EC.decL q26o (EC.encL q26o b3))) fun r0 =>
 (brE (r0.1==(b1==4))
 (gdE (EC.isL q26k (EC.encL q26k r0.2.2.1.2.1)) <|
 (gdE (EC.isL q26s (EC.encL q26s r0.2.2.1.2.2.2.1)) <|
 (gdE (EC.isL q26q (EC.encL q26q r0.2.2.1.2.2.2.2.1)) <|
 (gdE (EC.isL q26o (EC.encL q26o r0.2.2.2.2)) <|
 (some (.inl ((b1==4),((r0.2.2.1.1,((EC.decL q26k (EC.encL q26k r0.2.2.1.2.1)),(r0.2.2.1.2.2.1,((EC.decL q26s (EC.encL q26s r0.2.2.1.2.2.2.1)),((EC.decL q26q (EC.encL q26q r0.2.2.1.2.2.2.2.1)),(r0.2.2.1.2.2.2.2.2.1,((),(r0.2.2.1.2.2.2.2.2.2.2.1,())))))))),(r0.2.2.2.1,(EC.decL q26o (EC.encL q26o r0.2.2.2.2)))))))))))
 (gdE (EC.isL q26p (EC.encL q26p t25)) <|
 (gdE (EC.isL q26k (EC.encL q26k r0.2.2.1.2.1)) <|
 (gdE (EC.isL q26s (EC.encL q26s r0.2.2.1.2.2.2.1)) <|
 (gdE (EC.isL q26q (EC.encL q26q r0.2.2.1.2.2.2.2.1)) <|
 (gdE (EC.isL q26p (EC.encL q26p b1_1)) <|
 (gdE (EC.isL q26o (EC.encL q26o r0.2.2.2.2)) <|
 (q15i (EC.decL q26p (EC.encL q26p t25)) t26 (IntKind.wrap .i64 (t27+1)) r0.2.2.1.1 (EC.decL q26k (EC.encL q26k r0.2.2.1.2.1)) r0.2.2.1.2.2.1 (EC.decL q26s (EC.encL q26s r0.2.2.1.2.2.2.1)) (EC.decL q26q (EC.encL q26q r0.2.2.1.2.2.2.2.1)) r0.2.2.1.2.2.2.2.2.1 r0.2.2.1.2.2.2.2.2.2.2.1 b1 (EC.decL q26p (EC.encL q26p b1_1)) b1_2 b1_3 b1_4 b1_5 r0.2.2.2.1 (EC.decL q26o (EC.encL q26o r0.2.2.2.2))))))))))))))))))
 (gdE (EC.isL q26p (EC.encL q26p t25)) <|
 (gdE (EC.isL q26k (EC.encL q26k b0_1)) <|
 (gdE (EC.isL q26s (EC.encL q26s b0_3)) <|
 (gdE (EC.isL q26q (EC.encL q26q b0_4)) <|
 (gdE (EC.isL q26p (EC.encL q26p b1_1)) <|
 (gdE (EC.isL q26o (EC.encL q26o b3)) <|
 (some (.inr (((),((),((EC.decL q26p (EC.encL q26p t25)),(t26,(t27,false))))),((b0,((EC.decL q26k (EC.encL q26k b0_1)),(b0_2,((EC.decL q26s (EC.encL q26s b0_3)),((EC.decL q26q (EC.encL q26q b0_4)),(b0_5,((),(b0_6,())))))))),((b1,((EC.decL q26p (EC.encL q26p b1_1)),(b1_2,(b1_3,(b1_4,b1_5))))),(b2,(EC.decL q26o (EC.encL q26o b3)))))))))))))))
theorem q15k {t25} {t26} {t27} {b0} {b0_1} {b0_2} {b0_3} {b0_4} {b0_5} {b0_6} {b1} {b1_1} {b1_2} {b1_3} {b1_4} {b1_5} {b2} {b3} {r} (h:q15p t25 t26 t27 b0 b0_1 b0_2 b0_3 b0_4 b0_5 b0_6 b1 b1_1 b1_2 b1_3 b1_4 b1_5 b2 b3=some r):q15i t25 t26 t27 b0 b0_1 b0_2 b0_3 b0_4 b0_5 b0_6 b1 b1_1 b1_2 b1_3 b1_4 b1_5 b2 b3=some r :=
 qm5 (es:=q10j) (hs:=q164) [] (by kernel_rfl) trivial trivial (by kernel_rfl) h
def q15j:=q27d Tryz.prog lv X0 7 (q270 (cdF Tryz.f80) 7) q15o q15l (fun x=>q15i x.1.2.2.1 x.1.2.2.2.1 x.1.2.2.2.2 x.2.1.1 x.2.1.2.1 x.2.1.2.2.1 x.2.1.2.2.2.1 x.2.1.2.2.2.2.1 x.2.1.2.2.2.2.2.1 x.2.1.2.2.2.2.2.2.2.1 x.2.2.1.1 x.2.2.1.2.1 x.2.2.1.2.2.1 x.2.2.1.2.2.2.1 x.2.2.1.2.2.2.2.1 x.2.2.1.2.2.2.2.2 x.2.2.2.1 x.2.2.2.2) (fun _ _ h=>qm4 h)
def q15g:=sLS [0,3,7,73,74,75] (q279 (vPtr 0 0) (q279 (vPtr 1 0) (q279 (vRow 2) (q279 (vC (cSl q26k)) (q279 (vC (cInt .i64)) (q27b (vC (cInt .i64)))))))) (q279 (q27g (bBox (q279 (vC cStr) (q279 (vC (cSl q26k)) (q279 (vC cStr) (q279 (vC (cSl q26s)) (q279 (vC (cSl q26q)) (q279 (vC (cInt .i64)) (q279 (vMp 3) (q279 (vRow 4) (q27b (vFn 38 q27a)))))))))))) (q279 (q27g (bBox (q279 (vC (cInt .i64)) (q279 (vC (cSl q26p)) (q279 (vC cStr) (q279 (vC (cInt .i64)) (q279 (vC cStr) (q27b (vC (cInt .i64)))))))))) (q279 (q27g (bRow q26v)) (q279 (q27g bMap) (q27b (q27g (bRow q26o))))))) [false,false,false,false,false] [0,3] (by decide) (fun _=>rfl)
def q15f:=sLS [0,3,7,73,74,75,76] (q279 (vPtr 0 0) (q279 (vPtr 1 0) (q279 (vRow 2) (q279 (vC (cSl q26k)) (q279 (vC (cInt .i64)) (q279 (vC (cInt .i64)) (q27b (vC cBool)))))))) (q279 (q27g (bBox (q279 (vC cStr) (q279 (vC (cSl q26k)) (q279 (vC cStr) (q279 (vC (cSl q26s)) (q279 (vC (cSl q26q)) (q279 (vC (cInt .i64)) (q279 (vMp 3) (q279 (vRow 4) (q27b (vFn 38 q27a)))))))))))) (q279 (q27g (bBox (q279 (vC (cInt .i64)) (q279 (vC (cSl q26p)) (q279 (vC cStr) (q279 (vC (cInt .i64)) (q279 (vC cStr) (q27b (vC (cInt .i64)))))))))) (q279 (q27g (bRow q26v)) (q279 (q27g bMap) (q27b (q27g (bRow q26o))))))) [false,false,false,false,false] [0,3] (by decide) (fun _=>rfl)
def q15e:=oAt 5 q15f
def q15b (l:Nat) (t73:(List S118)) (t74:Int) (t75:Int) (b0:ByteArray) (b0_1:(List S118)) (b0_2:ByteArray) (b0_3:(List S55)) (b0_4:(List Int)) (b0_5:Int) (b0_6:Nat) (b1:Int) (b1_1:(List S48)) (b1_2:ByteArray) (b1_3:Int) (b1_4:ByteArray) (b1_5:Int) (b2:(List ByteArray)) (b3:(List (ByteArray × ByteArray))) (b4:(List S45)):Option ((Unit × Unit × Nat × (List S118) × Int × Int × Bool) × ((ByteArray × (List S118) × ByteArray × (List S55) × (List Int) × Int × Unit × Nat × Unit) × (Int × (List S48) × ByteArray × Int × ByteArray × Int) × (List ByteArray) × (List (ByteArray × ByteArray)) × (List S45))):=lS Tryz.prog lv X0 80 106 (q270 (cdF Tryz.f80) 20) q15g q15e (((),(),l,t73,t74,t75),((b0,b0_1,b0_2,b0_3,b0_4,b0_5,(),b0_6,()),(b1,b1_1,b1_2,b1_3,b1_4,b1_5),b2,b3,b4))
def q15h (l:Nat) (t73:(List S118)) (t74:Int) (t75:Int) (b0:ByteArray) (b0_1:(List S118)) (b0_2:ByteArray) (b0_3:(List S55)) (b0_4:(List Int)) (b0_5:Int) (b0_6:Nat) (b1:Int) (b1_1:(List S48)) (b1_2:ByteArray) (b1_3:Int) (b1_4:ByteArray) (b1_5:Int) (b2:(List ByteArray)) (b3:(List (ByteArray × ByteArray))) (b4:(List S45)):Option ((Unit × Unit × Nat × (List S118) × Int × Int × Bool) × ((ByteArray × (List S118) × ByteArray × (List S55) × (List Int) × Int × Unit × Nat × Unit) × (Int × (List S48) × ByteArray × Int × ByteArray × Int) × (List ByteArray) × (List (ByteArray × ByteArray)) × (List S45))) :=
 (brE (decide (t75<t74))
 (gdE (decide (0≤t75)) <|
 (gdE ((decide ((Int.toNat t75)<(List.length (EC.encL q26k t73))))&&(isE [K1.str,(K1.int Go.IntKind.i64)] 0 (List.getD (EC.encL q26k t73) (Int.toNat t75) []))) <|
 (gdE ((((List.all [[(C.str (q27s (List.getD (List.getD (EC.encL q26k t73) (Int.toNat t75) []) 0 C.ne)))]] (fun (el:(List C))=>((List.length el)==1)))&&(List.all (EC.encL q26v b2) (fun (el:(List C))=>((List.length el)==1))))&&(decide (((((l+(List.length [[(C.str (q27s (List.getD (List.getD (EC.encL q26k t73) (Int.toNat t75) []) 0 C.ne)))]]))+((l+(List.length [[(C.str (q27s (List.getD (List.getD (EC.encL q26k t73) (Int.toNat t75) []) 0 C.ne)))]])) / 4))+192)*16)≤281474976710656)))&&(decide ((l+(List.length [[(C.str (q27s (List.getD (List.getD (EC.encL q26k t73) (Int.toNat t75) []) 0 C.ne)))]]))≤9223372036854775807))) <|
 (gdE (EC.isL q26k (EC.encL q26k t73)) <|
 (gdE (EC.isL q26k (EC.encL q26k b0_1)) <|
 (gdE (EC.isL q26s (EC.encL q26s b0_3)) <|
 (gdE (EC.isL q26q (EC.encL q26q b0_4)) <|
 (gdE (EC.isL q26p (EC.encL q26p b1_1)) <|
 (gdE (EC.isL q26v ((EC.encL q26v b2)++[[(C.str (q27s (List.getD (List.getD (EC.encL q26k t73) (Int.toNat t75) []) 0 C.ne)))]])) <|
 (gdE (EC.isL q26o (EC.encL q26o b4)) <|
 (q15b (l+(List.length [[(C.str (q27s (List.getD (List.getD (EC.encL q26k t73) (Int.toNat t75) []) 0 C.ne)))]])) (EC.decL q26k (EC.encL q26k t73)) t74 (IntKind.wrap .i64 (t75+1)) b0 (EC.decL q26k (EC.encL q26k b0_1)) b0_2 (EC.decL q26s (EC.encL q26s b0_3)) (EC.decL q26q (EC.encL q26q b0_4)) b0_5 b0_6 b1 (EC.decL q26p (EC.encL q26p b1_1)) b1_2 b1_3 b1_4 b1_5 (EC.decL q26v ((EC.encL q26v b2)++[[(C.str (q27s (List.getD (List.getD (EC.encL q26k t73) (Int.toNat t75) []) 0 C.ne)))]])) b3 (EC.decL q26o (EC.encL q26o b4)))))))))))))
 (gdE (EC.isL q26k (EC.encL q26k t73)) <|
 (gdE (EC.isL q26k (EC.encL q26k b0_1)) <|
 (gdE (EC.isL q26s (EC.encL q26s b0_3)) <|
 (gdE (EC.isL q26q (EC.encL q26q b0_4)) <|
 (gdE (EC.isL q26p (EC.encL q26p b1_1)) <|
 (gdE (EC.isL q26v (EC.encL q26v b2)) <|
 (gdE (EC.isL q26o (EC.encL q26o b4)) <|
 (some (((),((),(l,((EC.decL q26k (EC.encL q26k t73)),(t74,(t75,false)))))),((b0,((EC.decL q26k (EC.encL q26k b0_1)),(b0_2,((EC.decL q26s (EC.encL q26s b0_3)),((EC.decL q26q (EC.encL q26q b0_4)),(b0_5,((),(b0_6,())))))))),((b1,((EC.decL q26p (EC.encL q26p b1_1)),(b1_2,(b1_3,(b1_4,b1_5))))),((EC.decL q26v (EC.encL q26v b2)),(b3,(EC.decL q26o (EC.encL q26o b4))))))))))))))))
theorem q15d {l} {t73} {t74} {t75} {b0} {b0_1} {b0_2} {b0_3} {b0_4} {b0_5} {b0_6} {b1} {b1_1} {b1_2} {b1_3} {b1_4} {b1_5} {b2} {b3} {b4} {r} (h:q15h l t73 t74 t75 b0 b0_1 b0_2 b0_3 b0_4 b0_5 b0_6 b1 b1_1 b1_2 b1_3 b1_4 b1_5 b2 b3 b4=some r):q15b l t73 t74 t75 b0 b0_1 b0_2 b0_3 b0_4 b0_5 b0_6 b1 b1_1 b1_2 b1_3 b1_4 b1_5 b2 b3 b4=some r :=
 qm5 (es:=q10j) (hs:=q164) [] (by kernel_rfl) trivial trivial (by kernel_rfl) h
def q15c:=q27d Tryz.prog lv X0 20 (q270 (cdF Tryz.f80) 20) q15g q15e (fun x=>q15b x.1.2.2.1 x.1.2.2.2.1 x.1.2.2.2.2.1 x.1.2.2.2.2.2 x.2.1.1 x.2.1.2.1 x.2.1.2.2.1 x.2.1.2.2.2.1 x.2.1.2.2.2.2.1 x.2.1.2.2.2.2.2.1 x.2.1.2.2.2.2.2.2.2.1 x.2.2.1.1 x.2.2.1.2.1 x.2.2.1.2.2.1 x.2.2.1.2.2.2.1 x.2.2.1.2.2.2.2.1 x.2.2.1.2.2.2.2.2 x.2.2.2.1 x.2.2.2.2.1 x.2.2.2.2.2) (fun _ _ h=>qm4 h)
def q15t (t:Int) (t_1:(List S48)) (t_2:ByteArray) (t_3:Int) (t_4:ByteArray) (t_5:Int) (b0:ByteArray) (b0_1:(List S118)) (b0_2:ByteArray) (b0_3:(List S55)) (b0_4:(List Int)) (b0_5:Int) (b0_6:Nat) (b1:(List (ByteArray × ByteArray))) (b2:(List S45)):Option (Bool × (Bool × ((ByteArray × (List S118) × ByteArray × (List S55) × (List Int) × Int × Unit × Nat × Unit) × (List (ByteArray × ByteArray)) × (List S45)))) :=
 (brE (t==2)
 (gdE ((decide ((Int.toNat 0)<(List.length (EC.encL q26p t_1))))&&(isE [(K1.int Go.IntKind.i64),K1.sl,K1.str,(K1.int Go.IntKind.i64),K1.str,(K1.int Go.IntKind.i64)] 0 (List.getD (EC.encL q26p t_1) (Int.toNat 0) []))) <|
 (gdE (EC.isL q26p (slOf (List.getD (List.getD (EC.encL q26p t_1) (Int.toNat 0) []) 1 C.ne))) <|
 (gdE (EC.isL q26k (EC.encL q26k b0_1)) <|
 (gdE (EC.isL q26s (EC.encL q26s b0_3)) <|
 (gdE (EC.isL q26q (EC.encL q26q b0_4)) <|
 (gdE (EC.isL q26o (EC.encL q26o b2)) <|
 (Option.bind (q158 (q273 (List.getD (List.getD (EC.encL q26p t_1) (Int.toNat 0) []) 0 C.ne)) (EC.decL q26p (slOf (List.getD (List.getD (EC.encL q26p t_1) (Int.toNat 0) []) 1 C.ne))) (q27s (List.getD (List.getD (EC.encL q26p t_1) (Int.toNat 0) []) 2 C.ne)) (q273 (List.getD (List.getD (EC.encL q26p t_1) (Int.toNat 0) []) 3 C.ne)) (q27s (List.getD (List.getD (EC.encL q26p t_1) (Int.toNat 0) []) 4 C.ne)) (q273 (List.getD (List.getD (EC.encL q26p t_1) (Int.toNat 0) []) 5 C.ne)) b0 (EC.decL q26k (EC.encL q26k b0_1)) b0_2 (EC.decL q26s (EC.encL q26s b0_3)) (EC.decL q26q (EC.encL q26q b0_4)) b0_5 b0_6 b1 (EC.decL q26o (EC.encL q26o b2))) fun r0 =>
 (gdE (EC.isL q26k (EC.encL q26k r0.2.2.1.2.1)) <|
 (gdE (EC.isL q26s (EC.encL q26s r0.2.2.1.2.2.2.1)) <|
 (gdE (EC.isL q26q (EC.encL q26q r0.2.2.1.2.2.2.2.1)) <|
 (gdE (EC.isL q26o (EC.encL q26o r0.2.2.2.2)) <|
 (some ((!r0.1),((!r0.1),((r0.2.2.1.1,((EC.decL q26k (EC.encL q26k r0.2.2.1.2.1)),(r0.2.2.1.2.2.1,((EC.decL q26s (EC.encL q26s r0.2.2.1.2.2.2.1)),((EC.decL q26q (EC.encL q26q r0.2.2.1.2.2.2.2.1)),(r0.2.2.1.2.2.2.2.2.1,((),(r0.2.2.1.2.2.2.2.2.2.2.1,())))))))),(r0.2.2.2.1,(EC.decL q26o (EC.encL q26o r0.2.2.2.2))))))))))))))))))
 (brE (t==3)
 (gdE (EC.isL q26p (EC.encL q26p t_1)) <|
 (gdE (EC.isL q26k (EC.encL q26k b0_1)) <|
 (gdE (EC.isL q26s (EC.encL q26s b0_3)) <|
 (gdE (EC.isL q26q (EC.encL q26q b0_4)) <|
 (gdE (EC.isL q26p (EC.encL q26p t_1)) <|
 (gdE (EC.isL q26o (EC.encL q26o b2)) <|
 (Option.bind (q15i (EC.decL q26p (EC.encL q26p t_1)) (List.length (EC.encL q26p t_1):Int) 0 b0 (EC.decL q26k (EC.encL q26k b0_1)) b0_2 (EC.decL q26s (EC.encL q26s b0_3)) (EC.decL q26q (EC.encL q26q b0_4)) b0_5 b0_6 t (EC.decL q26p (EC.encL q26p t_1)) t_2 t_3 t_4 t_5 b1 (EC.decL q26o (EC.encL q26o b2))) fun r0 =>
 (Sum.elim (fun r1=>(gdE (EC.isL q26k (EC.encL q26k r1.2.1.2.1)) <|
 (gdE (EC.isL q26s (EC.encL q26s r1.2.1.2.2.2.1)) <|
 (gdE (EC.isL q26q (EC.encL q26q r1.2.1.2.2.2.2.1)) <|
 (gdE (EC.isL q26o (EC.encL q26o r1.2.2.2)) <|
 (some (r1.1,(r1.1,((r1.2.1.1,((EC.decL q26k (EC.encL q26k r1.2.1.2.1)),(r1.2.1.2.2.1,((EC.decL q26s (EC.encL q26s r1.2.1.2.2.2.1)),((EC.decL q26q (EC.encL q26q r1.2.1.2.2.2.2.1)),(r1.2.1.2.2.2.2.2.1,((),(r1.2.1.2.2.2.2.2.2.2.1,())))))))),(r1.2.2.1,(EC.decL q26o (EC.encL q26o r1.2.2.2))))))))))))
 (fun r1=>(gdE (EC.isL q26k (EC.encL q26k r1.2.1.2.1)) <|
 (gdE (EC.isL q26s (EC.encL q26s r1.2.1.2.2.2.1)) <|
 (gdE (EC.isL q26q (EC.encL q26q r1.2.1.2.2.2.2.1)) <|
 (gdE (EC.isL q26o (EC.encL q26o r1.2.2.2.2)) <|
 (some ((r1.2.2.1.1==3),((r1.2.2.1.1==3),((r1.2.1.1,((EC.decL q26k (EC.encL q26k r1.2.1.2.1)),(r1.2.1.2.2.1,((EC.decL q26s (EC.encL q26s r1.2.1.2.2.2.1)),((EC.decL q26q (EC.encL q26q r1.2.1.2.2.2.2.1)),(r1.2.1.2.2.2.2.2.1,((),(r1.2.1.2.2.2.2.2.2.2.1,())))))))),(r1.2.2.2.1,(EC.decL q26o (EC.encL q26o r1.2.2.2.2)))))))))))) r0))))))))
 (brE (t==4)
 (gdE (EC.isL q26p (EC.encL q26p t_1)) <|
 (gdE (EC.isL q26k (EC.encL q26k b0_1)) <|
 (gdE (EC.isL q26s (EC.encL q26s b0_3)) <|
 (gdE (EC.isL q26q (EC.encL q26q b0_4)) <|
 (gdE (EC.isL q26p (EC.encL q26p t_1)) <|
 (gdE (EC.isL q26o (EC.encL q26o b2)) <|
 (Option.bind (q15i (EC.decL q26p (EC.encL q26p t_1)) (List.length (EC.encL q26p t_1):Int) 0 b0 (EC.decL q26k (EC.encL q26k b0_1)) b0_2 (EC.decL q26s (EC.encL q26s b0_3)) (EC.decL q26q (EC.encL q26q b0_4)) b0_5 b0_6 t (EC.decL q26p (EC.encL q26p t_1)) t_2 t_3 t_4 t_5 b1 (EC.decL q26o (EC.encL q26o b2))) fun r0 =>
 (Sum.elim (fun r1=>(gdE (EC.isL q26k (EC.encL q26k r1.2.1.2.1)) <|
 (gdE (EC.isL q26s (EC.encL q26s r1.2.1.2.2.2.1)) <|
 (gdE (EC.isL q26q (EC.encL q26q r1.2.1.2.2.2.2.1)) <|
 (gdE (EC.isL q26o (EC.encL q26o r1.2.2.2)) <|
 (some (r1.1,(r1.1,((r1.2.1.1,((EC.decL q26k (EC.encL q26k r1.2.1.2.1)),(r1.2.1.2.2.1,((EC.decL q26s (EC.encL q26s r1.2.1.2.2.2.1)),((EC.decL q26q (EC.encL q26q r1.2.1.2.2.2.2.1)),(r1.2.1.2.2.2.2.2.1,((),(r1.2.1.2.2.2.2.2.2.2.1,())))))))),(r1.2.2.1,(EC.decL q26o (EC.encL q26o r1.2.2.2))))))))))))
 (fun r1=>(gdE (EC.isL q26k (EC.encL q26k r1.2.1.2.1)) <|
 (gdE (EC.isL q26s (EC.encL q26s r1.2.1.2.2.2.1)) <|
 (gdE (EC.isL q26q (EC.encL q26q r1.2.1.2.2.2.2.1)) <|
 (gdE (EC.isL q26o (EC.encL q26o r1.2.2.2.2)) <|
 (some ((r1.2.2.1.1==3),((r1.2.2.1.1==3),((r1.2.1.1,((EC.decL q26k (EC.encL q26k r1.2.1.2.1)),(r1.2.1.2.2.1,((EC.decL q26s (EC.encL q26s r1.2.1.2.2.2.1)),((EC.decL q26q (EC.encL q26q r1.2.1.2.2.2.2.1)),(r1.2.1.2.2.2.2.2.1,((),(r1.2.1.2.2.2.2.2.2.2.1,())))))))),(r1.2.2.2.1,(EC.decL q26o (EC.encL q26o r1.2.2.2.2)))))))))))) r0))))))))
 (brE (t==5)
 (gdE (EC.isL q26k (EC.encL q26k b0_1)) <|
 (gdE (EC.isL q26s (EC.encL q26s b0_3)) <|
 (gdE (EC.isL q26q (EC.encL q26q b0_4)) <|
 (gdE (EC.isL q26o (EC.encL q26o b2)) <|
 (Option.bind (q14f t_2 b0 (EC.decL q26k (EC.encL q26k b0_1)) b0_2 (EC.decL q26s (EC.encL q26s b0_3)) (EC.decL q26q (EC.encL q26q b0_4)) b0_5 b0_6 b1 (EC.decL q26o (EC.encL q26o b2))) fun r0 =>
 (gdE (EC.isL q26p (EC.encL q26p t_1)) <|
 (gdE (EC.isL q26k (EC.encL q26k r0.2.2.2.1.2.1)) <|
 (gdE (EC.isL q26s (EC.encL q26s r0.2.2.2.1.2.2.2.1)) <|
 (gdE (EC.isL q26q (EC.encL q26q r0.2.2.2.1.2.2.2.2.1)) <|
 (gdE (EC.isL q26v (EC.encL q26v r0.2.2.1)) <|
 (gdE (EC.isL q26o (EC.encL q26o r0.2.2.2.2.2)) <|
 (Option.bind (q14m t (EC.decL q26p (EC.encL q26p t_1)) t_2 t_3 t_4 t_5 r0.1 r0.2.2.2.1.1 (EC.decL q26k (EC.encL q26k r0.2.2.2.1.2.1)) r0.2.2.2.1.2.2.1 (EC.decL q26s (EC.encL q26s r0.2.2.2.1.2.2.2.1)) (EC.decL q26q (EC.encL q26q r0.2.2.2.1.2.2.2.2.1)) r0.2.2.2.1.2.2.2.2.2.1 r0.2.2.2.1.2.2.2.2.2.2.2.1 (EC.decL q26v (EC.encL q26v r0.2.2.1)) r0.2.2.2.2.1 (EC.decL q26o (EC.encL q26o r0.2.2.2.2.2))) fun r1 =>
 (gdE (EC.isL q26k (EC.encL q26k r1.2.2.1.2.1)) <|
 (gdE (EC.isL q26s (EC.encL q26s r1.2.2.1.2.2.2.1)) <|
 (gdE (EC.isL q26q (EC.encL q26q r1.2.2.1.2.2.2.2.1)) <|
 (gdE (EC.isL q26o (EC.encL q26o r1.2.2.2.2)) <|
 (some (r1.1,(r1.1,((r1.2.2.1.1,((EC.decL q26k (EC.encL q26k r1.2.2.1.2.1)),(r1.2.2.1.2.2.1,((EC.decL q26s (EC.encL q26s r1.2.2.1.2.2.2.1)),((EC.decL q26q (EC.encL q26q r1.2.2.1.2.2.2.2.1)),(r1.2.2.1.2.2.2.2.2.1,((),(r1.2.2.1.2.2.2.2.2.2.2.1,())))))))),(r1.2.2.2.1,(EC.decL q26o (EC.encL q26o r1.2.2.2.2)))))))))))))))))))))))
 (brE (t==6)
 (gdE (EC.isL q26p (EC.encL q26p t_1)) <|
 (gdE (EC.isL q26k (EC.encL q26k b0_1)) <|
 (gdE (EC.isL q26s (EC.encL q26s b0_3)) <|
 (gdE (EC.isL q26q (EC.encL q26q b0_4)) <|
 (gdE (EC.isL q26o (EC.encL q26o b2)) <|
 (Option.bind (q14m t (EC.decL q26p (EC.encL q26p t_1)) t_2 t_3 t_4 t_5 1 b0 (EC.decL q26k (EC.encL q26k b0_1)) b0_2 (EC.decL q26s (EC.encL q26s b0_3)) (EC.decL q26q (EC.encL q26q b0_4)) b0_5 b0_6 (EC.decL q26v [[(C.str b0)]]) b1 (EC.decL q26o (EC.encL q26o b2))) fun r0 =>
 (gdE (EC.isL q26k (EC.encL q26k r0.2.2.1.2.1)) <|
 (gdE (EC.isL q26s (EC.encL q26s r0.2.2.1.2.2.2.1)) <|
 (gdE (EC.isL q26q (EC.encL q26q r0.2.2.1.2.2.2.2.1)) <|
 (gdE (EC.isL q26o (EC.encL q26o r0.2.2.2.2)) <|
 (some (r0.1,(r0.1,((r0.2.2.1.1,((EC.decL q26k (EC.encL q26k r0.2.2.1.2.1)),(r0.2.2.1.2.2.1,((EC.decL q26s (EC.encL q26s r0.2.2.1.2.2.2.1)),((EC.decL q26q (EC.encL q26q r0.2.2.1.2.2.2.2.1)),(r0.2.2.1.2.2.2.2.2.1,((),(r0.2.2.1.2.2.2.2.2.2.2.1,())))))))),(r0.2.2.2.1,(EC.decL q26o (EC.encL q26o r0.2.2.2.2)))))))))))))))))
 (brE (t==7)
 (gdE (EC.isL q26k (EC.encL q26k b0_1)) <|
 (gdE (EC.isL q26k (EC.encL q26k b0_1)) <|
 (gdE (EC.isL q26s (EC.encL q26s b0_3)) <|
 (gdE (EC.isL q26q (EC.encL q26q b0_4)) <|
 (gdE (EC.isL q26p (EC.encL q26p t_1)) <|
 (gdE (EC.isL q26o (EC.encL q26o b2)) <|
 (Option.bind (q15b 0 (EC.decL q26k (EC.encL q26k b0_1)) (List.length (EC.encL q26k b0_1):Int) 0 b0 (EC.decL q26k (EC.encL q26k b0_1)) b0_2 (EC.decL q26s (EC.encL q26s b0_3)) (EC.decL q26q (EC.encL q26q b0_4)) b0_5 b0_6 t (EC.decL q26p (EC.encL q26p t_1)) t_2 t_3 t_4 t_5 (EC.decL q26v []) b1 (EC.decL q26o (EC.encL q26o b2))) fun r0 =>
 (gdE (EC.isL q26p (EC.encL q26p r0.2.2.1.2.1)) <|
 (gdE (EC.isL q26k (EC.encL q26k r0.2.1.2.1)) <|
 (gdE (EC.isL q26s (EC.encL q26s r0.2.1.2.2.2.1)) <|
 (gdE (EC.isL q26q (EC.encL q26q r0.2.1.2.2.2.2.1)) <|
 (gdE (EC.isL q26v (EC.encL q26v r0.2.2.2.1)) <|
 (gdE (EC.isL q26o (EC.encL q26o r0.2.2.2.2.2)) <|
 (Option.bind (q14m r0.2.2.1.1 (EC.decL q26p (EC.encL q26p r0.2.2.1.2.1)) r0.2.2.1.2.2.1 r0.2.2.1.2.2.2.1 r0.2.2.1.2.2.2.2.1 r0.2.2.1.2.2.2.2.2 r0.1.2.2.1 r0.2.1.1 (EC.decL q26k (EC.encL q26k r0.2.1.2.1)) r0.2.1.2.2.1 (EC.decL q26s (EC.encL q26s r0.2.1.2.2.2.1)) (EC.decL q26q (EC.encL q26q r0.2.1.2.2.2.2.1)) r0.2.1.2.2.2.2.2.1 r0.2.1.2.2.2.2.2.2.2.1 (EC.decL q26v (EC.encL q26v r0.2.2.2.1)) r0.2.2.2.2.1 (EC.decL q26o (EC.encL q26o r0.2.2.2.2.2))) fun r1 =>
 (gdE (EC.isL q26k (EC.encL q26k r1.2.2.1.2.1)) <|
 (gdE (EC.isL q26s (EC.encL q26s r1.2.2.1.2.2.2.1)) <|
 (gdE (EC.isL q26q (EC.encL q26q r1.2.2.1.2.2.2.2.1)) <|
 (gdE (EC.isL q26o (EC.encL q26o r1.2.2.2.2)) <|
 (some (r1.1,(r1.1,((r1.2.2.1.1,((EC.decL q26k (EC.encL q26k r1.2.2.1.2.1)),(r1.2.2.1.2.2.1,((EC.decL q26s (EC.encL q26s r1.2.2.1.2.2.2.1)),((EC.decL q26q (EC.encL q26q r1.2.2.1.2.2.2.2.1)),(r1.2.2.1.2.2.2.2.2.1,((),(r1.2.2.1.2.2.2.2.2.2.2.1,())))))))),(r1.2.2.2.1,(EC.decL q26o (EC.encL q26o r1.2.2.2.2)))))))))))))))))))))))))
 (brE (t==8)
 (gdE (EC.isL q26k (EC.encL q26k b0_1)) <|
 (gdE (EC.isL q26s (EC.encL q26s b0_3)) <|
 (gdE (EC.isL q26q (EC.encL q26q b0_4)) <|
 (gdE (EC.isL q26o (EC.encL q26o b2)) <|
 (some ((decide (b0_5 > t_5)),((decide (b0_5 > t_5)),((b0,((EC.decL q26k (EC.encL q26k b0_1)),(b0_2,((EC.decL q26s (EC.encL q26s b0_3)),((EC.decL q26q (EC.encL q26q b0_4)),(b0_5,((),(b0_6,())))))))),(b1,(EC.decL q26o (EC.encL q26o b2)))))))))))
 (brE (t==9)
 (gdE (EC.isL q26k (EC.encL q26k b0_1)) <|
 (gdE (EC.isL q26s (EC.encL q26s b0_3)) <|
 (gdE (EC.isL q26q (EC.encL q26q b0_4)) <|
 (gdE (EC.isL q26o (EC.encL q26o b2)) <|
 (Option.bind (q14f t_2 b0 (EC.decL q26k (EC.encL q26k b0_1)) b0_2 (EC.decL q26s (EC.encL q26s b0_3)) (EC.decL q26q (EC.encL q26q b0_4)) b0_5 b0_6 b1 (EC.decL q26o (EC.encL q26o b2))) fun r0 =>
 (gdE (EC.isL q26k (EC.encL q26k r0.2.2.2.1.2.1)) <|
 (gdE (EC.isL q26s (EC.encL q26s r0.2.2.2.1.2.2.2.1)) <|
 (gdE (EC.isL q26q (EC.encL q26q r0.2.2.2.1.2.2.2.2.1)) <|
 (gdE (EC.isL q26o (EC.encL q26o r0.2.2.2.2.2)) <|
 (some ((decide (((r0.1:Nat):Int) > 0)),((decide (((r0.1:Nat):Int) > 0)),((r0.2.2.2.1.1,((EC.decL q26k (EC.encL q26k r0.2.2.2.1.2.1)),(r0.2.2.2.1.2.2.1,((EC.decL q26s (EC.encL q26s r0.2.2.2.1.2.2.2.1)),((EC.decL q26q (EC.encL q26q r0.2.2.2.1.2.2.2.2.1)),(r0.2.2.2.1.2.2.2.2.2.1,((),(r0.2.2.2.1.2.2.2.2.2.2.2.1,())))))))),(r0.2.2.2.2.1,(EC.decL q26o (EC.encL q26o r0.2.2.2.2.2))))))))))))))))
 (gdE (EC.isL q26k (EC.encL q26k b0_1)) <|
 (gdE (EC.isL q26s (EC.encL q26s b0_3)) <|
 (gdE (EC.isL q26q (EC.encL q26q b0_4)) <|
 (gdE (EC.isL q26o (EC.encL q26o b2)) <|
 (some (true,(true,((b0,((EC.decL q26k (EC.encL q26k b0_1)),(b0_2,((EC.decL q26s (EC.encL q26s b0_3)),((EC.decL q26q (EC.encL q26q b0_4)),(b0_5,((),(b0_6,())))))))),(b1,(EC.decL q26o (EC.encL q26o b2)))))))))))))))))))
theorem q15a {t} {t_1} {t_2} {t_3} {t_4} {t_5} {b0} {b0_1} {b0_2} {b0_3} {b0_4} {b0_5} {b0_6} {b1} {b2} {r} (h:q15t t t_1 t_2 t_3 t_4 t_5 b0 b0_1 b0_2 b0_3 b0_4 b0_5 b0_6 b1 b2=some r):q158 t t_1 t_2 t_3 t_4 t_5 b0 b0_1 b0_2 b0_3 b0_4 b0_5 b0_6 b1 b2=some r :=
 qis (fn:=Tryz.f80) (es:=q10j) (hs:=q164) [q15j,q15c] (by kernel_rfl) rfl (by kernel_rfl) ⟨⟨_,rfl,rfl⟩,⟨_,rfl,rfl⟩,trivial⟩ trivial (by kernel_rfl) h
def q13s:=sLS [0] (q27b (vAgg (q279 (vC (cInt .i64)) (q279 (vC cBool) (q27b (vC cStr)))))) q27a [] [] (by decide) (fun _=>rfl)
def q13r:SC (Unit × Unit):=sLS [] q27a q27a [] [] (by decide) (fun _=>rfl)
def q13q:HC (Unit × (Unit × Unit)):=hPair (vTup q27a) q13r
def q13n (t0:Int) (t0_1:Bool) (t0_2:ByteArray):Option (Unit × (Unit × Unit)):=hS Tryz.prog lv X0 38 q13s q13q ((t0,t0_1,t0_2),())
def q13t (t0:Int) (t0_1:Bool) (t0_2:ByteArray):Option (Unit × (Unit × Unit)) :=
 (some ((),((),())))
theorem q13p {t0} {t0_1} {t0_2} {r} (h:q13t t0 t0_1 t0_2=some r):q13n t0 t0_1 t0_2=some r :=
 qis (fn:=Tryz.f38) (es:=q10j) (hs:=q164) [] (by kernel_rfl) rfl (by kernel_rfl) trivial trivial (by kernel_rfl) h
def q13o:=hentS Tryz.prog lv X0 38 [0,7,3,1,1,1,2,1,3] q13s q13q (fun x=>q13n x.1.1 x.1.2.1 x.1.2.2) (fun _ _ h=>qir h)
def q161:=q13o::q164
def q149:=sLS [0,2,12,13,14] (q279 (vPtr 0 0) (q279 (vC (cInt .i64)) (q279 (vC (cSl q26r)) (q279 (vC (cInt .i64)) (q27b (vC (cInt .i64))))))) (q279 (q27g (bBox (q279 (vC cStr) (q279 (vC (cSl q26k)) (q279 (vC cStr) (q279 (vC (cSl q26s)) (q279 (vC (cSl q26q)) (q279 (vC (cInt .i64)) (q279 (vMp 1) (q279 (vRow 2) (q27b (vFn 38 q27a)))))))))))) (q279 (q27g bMap) (q27b (q27g (bRow q26o))))) [false,false,false] [0,1] (by decide) (fun _=>rfl)
def q148:=sLS [0,2,12,13,14,15] (q279 (vPtr 0 0) (q279 (vC (cInt .i64)) (q279 (vC (cSl q26r)) (q279 (vC (cInt .i64)) (q279 (vC (cInt .i64)) (q27b (vC cBool))))))) (q279 (q27g (bBox (q279 (vC cStr) (q279 (vC (cSl q26k)) (q279 (vC cStr) (q279 (vC (cSl q26s)) (q279 (vC (cSl q26q)) (q279 (vC (cInt .i64)) (q279 (vMp 1) (q279 (vRow 2) (q27b (vFn 38 q27a)))))))))))) (q279 (q27g bMap) (q27b (q27g (bRow q26o))))) [false,false,false] [0,1] (by decide) (fun _=>rfl)
def q147:=sLS [6] (q27b (vC cBool)) (q279 (q27g (bBox (q279 (vC cStr) (q279 (vC (cSl q26k)) (q279 (vC cStr) (q279 (vC (cSl q26s)) (q279 (vC (cSl q26q)) (q279 (vC (cInt .i64)) (q279 (vMp 1) (q279 (vRow 2) (q27b (vFn 38 q27a)))))))))))) (q279 (q27g bMap) (q27b (q27g (bRow q26o))))) [false,false,false] [0,1] (by decide) (fun _=>rfl)
def q146:=oOr 1 q147 (oAt 2 q148) (fun x=>(by decide:(2:Nat)≠1))
def q143 (number:Int) (t12:(List S50)) (t13:Int) (t14:Int) (b0:ByteArray) (b0_1:(List S118)) (b0_2:ByteArray) (b0_3:(List S55)) (b0_4:(List Int)) (b0_5:Int) (b0_6:Nat) (b1:(List (ByteArray × ByteArray))) (b2:(List S45)):Option ((Bool × ((ByteArray × (List S118) × ByteArray × (List S55) × (List Int) × Int × Unit × Nat × Unit) × (List (ByteArray × ByteArray)) × (List S45))) ⊕ ((Unit × Int × (List S50) × Int × Int × Bool) × ((ByteArray × (List S118) × ByteArray × (List S55) × (List Int) × Int × Unit × Nat × Unit) × (List (ByteArray × ByteArray)) × (List S45)))):=lS Tryz.prog lv X0 61 122 (q270 (cdF Tryz.f61) 2) q149 q146 (((),number,t12,t13,t14),((b0,b0_1,b0_2,b0_3,b0_4,b0_5,(),b0_6,()),b1,b2))
def q14a (number:Int) (t12:(List S50)) (t13:Int) (t14:Int) (b0:ByteArray) (b0_1:(List S118)) (b0_2:ByteArray) (b0_3:(List S55)) (b0_4:(List Int)) (b0_5:Int) (b0_6:Nat) (b1:(List (ByteArray × ByteArray))) (b2:(List S45)):Option ((Bool × ((ByteArray × (List S118) × ByteArray × (List S55) × (List Int) × Int × Unit × Nat × Unit) × (List (ByteArray × ByteArray)) × (List S45))) ⊕ ((Unit × Int × (List S50) × Int × Int × Bool) × ((ByteArray × (List S118) × ByteArray × (List S55) × (List Int) × Int × Unit × Nat × Unit) × (List (ByteArray × ByteArray)) × (List S45)))) :=
 (brE (decide (t14<t13))
 (gdE (decide (0≤t14)) <|
 (gdE ((decide ((Int.toNat t14)<(List.length (EC.encL q26r t12))))&&(isE [(K1.int Go.IntKind.i64),(K1.int Go.IntKind.i64),K1.sl,K1.str,(K1.int Go.IntKind.i64),K1.str,(K1.int Go.IntKind.i64),K1.sl,K1.sl,(K1.int Go.IntKind.i64),K1.str,K1.str,(K1.int Go.IntKind.i64)] 0 (List.getD (EC.encL q26r t12) (Int.toNat t14) []))) <|
 (brE ((q273 (List.getD (List.getD (EC.encL q26r t12) (Int.toNat t14) []) 0 C.ne))==1)
 (gdE (EC.isL q26p (slOf (List.getD (List.getD (EC.encL q26r t12) (Int.toNat t14) []) 2 C.ne))) <|
 (gdE (EC.isL q26k (EC.encL q26k b0_1)) <|
 (gdE (EC.isL q26s (EC.encL q26s b0_3)) <|
 (gdE (EC.isL q26q (EC.encL q26q b0_4)) <|
 (gdE (EC.isL q26o (EC.encL q26o b2)) <|
 (Option.bind (q158 (q273 (List.getD (List.getD (EC.encL q26r t12) (Int.toNat t14) []) 1 C.ne)) (EC.decL q26p (slOf (List.getD (List.getD (EC.encL q26r t12) (Int.toNat t14) []) 2 C.ne))) (q27s (List.getD (List.getD (EC.encL q26r t12) (Int.toNat t14) []) 3 C.ne)) (q273 (List.getD (List.getD (EC.encL q26r t12) (Int.toNat t14) []) 4 C.ne)) (q27s (List.getD (List.getD (EC.encL q26r t12) (Int.toNat t14) []) 5 C.ne)) (q273 (List.getD (List.getD (EC.encL q26r t12) (Int.toNat t14) []) 6 C.ne)) b0 (EC.decL q26k (EC.encL q26k b0_1)) b0_2 (EC.decL q26s (EC.encL q26s b0_3)) (EC.decL q26q (EC.encL q26q b0_4)) b0_5 b0_6 b1 (EC.decL q26o (EC.encL q26o b2))) fun r0 =>
 (Option.bind (q13n number r0.1 ⟨#[]⟩) fun r1 =>
 (brE (!r0.1)
 (gdE (EC.isL q26r (slOf (List.getD (List.getD (EC.encL q26r t12) (Int.toNat t14) []) 7 C.ne))) <|
 (Option.bind (qtp (EC.decL q26r (slOf (List.getD (List.getD (EC.encL q26r t12) (Int.toNat t14) []) 7 C.ne)))) fun r2 =>
 (gdE (EC.isL q26r (slOf (List.getD (List.getD (EC.encL q26r t12) (Int.toNat t14) []) 8 C.ne))) <|
 (gdE (EC.isL q26k (EC.encL q26k r0.2.2.1.2.1)) <|
 (gdE (EC.isL q26s (EC.encL q26s r0.2.2.1.2.2.2.1)) <|
 (gdE (EC.isL q26q (EC.encL q26q r0.2.2.1.2.2.2.2.1)) <|
 (gdE (EC.isL q26o (EC.encL q26o r0.2.2.2.2)) <|
 (Option.bind (q140 (EC.decL q26r (slOf (List.getD (List.getD (EC.encL q26r t12) (Int.toNat t14) []) 8 C.ne))) (IntKind.wrap .i64 ((IntKind.wrap .i64 (number+1))+r2)) r0.2.2.1.1 (EC.decL q26k (EC.encL q26k r0.2.2.1.2.1)) r0.2.2.1.2.2.1 (EC.decL q26s (EC.encL q26s r0.2.2.1.2.2.2.1)) (EC.decL q26q (EC.encL q26q r0.2.2.1.2.2.2.2.1)) r0.2.2.1.2.2.2.2.2.1 r0.2.2.1.2.2.2.2.2.2.2.1 r0.2.2.2.1 (EC.decL q26o (EC.encL q26o r0.2.2.2.2))) fun r3 =>
 (brE (!r3.1)
 (gdE (EC.isL q26k (EC.encL q26k r3.2.2.1.2.1)) <|
 (gdE (EC.isL q26s (EC.encL q26s r3.2.2.1.2.2.2.1)) <|
 (gdE (EC.isL q26q (EC.encL q26q r3.2.2.1.2.2.2.2.1)) <|
 (gdE (EC.isL q26o (EC.encL q26o r3.2.2.2.2)) <|
 (some (.inl (false,((r3.2.2.1.1,((EC.decL q26k (EC.encL q26k r3.2.2.1.2.1)),(r3.2.2.1.2.2.1,((EC.decL q26s (EC.encL q26s r3.2.2.1.2.2.2.1)),((EC.decL q26q (EC.encL q26q r3.2.2.1.2.2.2.2.1)),(r3.2.2.1.2.2.2.2.2.1,((),(r3.2.2.1.2.2.2.2.2.2.2.1,())))))))),(r3.2.2.2.1,(EC.decL q26o (EC.encL q26o r3.2.2.2.2)))))))))))
 (gdE (EC.isL q26r (slOf (List.getD (List.getD (EC.encL q26r t12) (Int.toNat t14) []) 7 C.ne))) <|
 (Option.bind (qtp (EC.decL q26r (slOf (List.getD (List.getD (EC.encL q26r t12) (Int.toNat t14) []) 7 C.ne)))) fun r4 =>
 (gdE (EC.isL q26r (slOf (List.getD (List.getD (EC.encL q26r t12) (Int.toNat t14) []) 8 C.ne))) <|
 (Option.bind (qtp (EC.decL q26r (slOf (List.getD (List.getD (EC.encL q26r t12) (Int.toNat t14) []) 8 C.ne)))) fun r5 =>
 (gdE (EC.isL q26r (EC.encL q26r t12)) <|
 (gdE (EC.isL q26k (EC.encL q26k r3.2.2.1.2.1)) <|
 (gdE (EC.isL q26s (EC.encL q26s r3.2.2.1.2.2.2.1)) <|
 (gdE (EC.isL q26q (EC.encL q26q r3.2.2.1.2.2.2.2.1)) <|
 (gdE (EC.isL q26o (EC.encL q26o r3.2.2.2.2)) <|
 (q143 (IntKind.wrap .i64 (number+(IntKind.wrap .i64 ((IntKind.wrap .i64 (1+r4))+r5)))) (EC.decL q26r (EC.encL q26r t12)) t13 (IntKind.wrap .i64 (t14+1)) r3.2.2.1.1 (EC.decL q26k (EC.encL q26k r3.2.2.1.2.1)) r3.2.2.1.2.2.1 (EC.decL q26s (EC.encL q26s r3.2.2.1.2.2.2.1)) (EC.decL q26q (EC.encL q26q r3.2.2.1.2.2.2.2.1)) r3.2.2.1.2.2.2.2.2.1 r3.2.2.1.2.2.2.2.2.2.2.1 r3.2.2.2.1 (EC.decL q26o (EC.encL q26o r3.2.2.2.2)))))))))))))))))))))
 (gdE (EC.isL q26r (slOf (List.getD (List.getD (EC.encL q26r t12) (Int.toNat t14) []) 7 C.ne))) <|
 (gdE (EC.isL q26k (EC.encL q26k r0.2.2.1.2.1)) <|
 (gdE (EC.isL q26s (EC.encL q26s r0.2.2.1.2.2.2.1)) <|
 (gdE (EC.isL q26q (EC.encL q26q r0.2.2.1.2.2.2.2.1)) <|
 (gdE (EC.isL q26o (EC.encL q26o r0.2.2.2.2)) <|
 (Option.bind (q140 (EC.decL q26r (slOf (List.getD (List.getD (EC.encL q26r t12) (Int.toNat t14) []) 7 C.ne))) (IntKind.wrap .i64 (number+1)) r0.2.2.1.1 (EC.decL q26k (EC.encL q26k r0.2.2.1.2.1)) r0.2.2.1.2.2.1 (EC.decL q26s (EC.encL q26s r0.2.2.1.2.2.2.1)) (EC.decL q26q (EC.encL q26q r0.2.2.1.2.2.2.2.1)) r0.2.2.1.2.2.2.2.2.1 r0.2.2.1.2.2.2.2.2.2.2.1 r0.2.2.2.1 (EC.decL q26o (EC.encL q26o r0.2.2.2.2))) fun r2 =>
 (brE (!r2.1)
 (gdE (EC.isL q26k (EC.encL q26k r2.2.2.1.2.1)) <|
 (gdE (EC.isL q26s (EC.encL q26s r2.2.2.1.2.2.2.1)) <|
 (gdE (EC.isL q26q (EC.encL q26q r2.2.2.1.2.2.2.2.1)) <|
 (gdE (EC.isL q26o (EC.encL q26o r2.2.2.2.2)) <|
 (some (.inl (false,((r2.2.2.1.1,((EC.decL q26k (EC.encL q26k r2.2.2.1.2.1)),(r2.2.2.1.2.2.1,((EC.decL q26s (EC.encL q26s r2.2.2.1.2.2.2.1)),((EC.decL q26q (EC.encL q26q r2.2.2.1.2.2.2.2.1)),(r2.2.2.1.2.2.2.2.2.1,((),(r2.2.2.1.2.2.2.2.2.2.2.1,())))))))),(r2.2.2.2.1,(EC.decL q26o (EC.encL q26o r2.2.2.2.2)))))))))))
 (gdE (EC.isL q26r (slOf (List.getD (List.getD (EC.encL q26r t12) (Int.toNat t14) []) 7 C.ne))) <|
 (Option.bind (qtp (EC.decL q26r (slOf (List.getD (List.getD (EC.encL q26r t12) (Int.toNat t14) []) 7 C.ne)))) fun r3 =>
 (gdE (EC.isL q26r (slOf (List.getD (List.getD (EC.encL q26r t12) (Int.toNat t14) []) 8 C.ne))) <|
 (Option.bind (qtp (EC.decL q26r (slOf (List.getD (List.getD (EC.encL q26r t12) (Int.toNat t14) []) 8 C.ne)))) fun r4 =>
 (gdE (EC.isL q26r (EC.encL q26r t12)) <|
 (gdE (EC.isL q26k (EC.encL q26k r2.2.2.1.2.1)) <|
 (gdE (EC.isL q26s (EC.encL q26s r2.2.2.1.2.2.2.1)) <|
 (gdE (EC.isL q26q (EC.encL q26q r2.2.2.1.2.2.2.2.1)) <|
 (gdE (EC.isL q26o (EC.encL q26o r2.2.2.2.2)) <|
 (q143 (IntKind.wrap .i64 (number+(IntKind.wrap .i64 ((IntKind.wrap .i64 (1+r3))+r4)))) (EC.decL q26r (EC.encL q26r t12)) t13 (IntKind.wrap .i64 (t14+1)) r2.2.2.1.1 (EC.decL q26k (EC.encL q26k r2.2.2.1.2.1)) r2.2.2.1.2.2.1 (EC.decL q26s (EC.encL q26s r2.2.2.1.2.2.2.1)) (EC.decL q26q (EC.encL q26q r2.2.2.1.2.2.2.2.1)) r2.2.2.1.2.2.2.2.2.1 r2.2.2.1.2.2.2.2.2.2.2.1 r2.2.2.2.1 (EC.decL q26o (EC.encL q26o r2.2.2.2.2)))))))))))))))))))))))))))
 (brE ((q273 (List.getD (List.getD (EC.encL q26r t12) (Int.toNat t14) []) 0 C.ne))==2)
 (Option.bind (expP b1 (q27s (List.getD (List.getD (EC.encL q26r t12) (Int.toNat t14) []) 11 C.ne))) fun r0 =>
 (gdE ((((List.all [[(C.int Go.IntKind.i64 (q273 (List.getD (List.getD (EC.encL q26r t12) (Int.toNat t14) []) 9 C.ne))),(C.str r0),(C.int Go.IntKind.i64 (q273 (List.getD (List.getD (EC.encL q26r t12) (Int.toNat t14) []) 12 C.ne)))]] (fun (el:(List C))=>((List.length el)==3)))&&(List.all (EC.encL q26o b2) (fun (el:(List C))=>((List.length el)==3))))&&(decide (((((b0_6+(List.length [[(C.int Go.IntKind.i64 (q273 (List.getD (List.getD (EC.encL q26r t12) (Int.toNat t14) []) 9 C.ne))),(C.str r0),(C.int Go.IntKind.i64 (q273 (List.getD (List.getD (EC.encL q26r t12) (Int.toNat t14) []) 12 C.ne)))]]))+((b0_6+(List.length [[(C.int Go.IntKind.i64 (q273 (List.getD (List.getD (EC.encL q26r t12) (Int.toNat t14) []) 9 C.ne))),(C.str r0),(C.int Go.IntKind.i64 (q273 (List.getD (List.getD (EC.encL q26r t12) (Int.toNat t14) []) 12 C.ne)))]])) / 4))+192)*32)≤281474976710656)))&&(decide ((b0_6+(List.length [[(C.int Go.IntKind.i64 (q273 (List.getD (List.getD (EC.encL q26r t12) (Int.toNat t14) []) 9 C.ne))),(C.str r0),(C.int Go.IntKind.i64 (q273 (List.getD (List.getD (EC.encL q26r t12) (Int.toNat t14) []) 12 C.ne)))]]))≤9223372036854775807))) <|
 (Option.bind (q13n number false r0) fun r1 =>
 (gdE (EC.isL q26r (slOf (List.getD (List.getD (EC.encL q26r t12) (Int.toNat t14) []) 7 C.ne))) <|
 (Option.bind (qtp (EC.decL q26r (slOf (List.getD (List.getD (EC.encL q26r t12) (Int.toNat t14) []) 7 C.ne)))) fun r2 =>
 (gdE (EC.isL q26r (slOf (List.getD (List.getD (EC.encL q26r t12) (Int.toNat t14) []) 8 C.ne))) <|
 (Option.bind (qtp (EC.decL q26r (slOf (List.getD (List.getD (EC.encL q26r t12) (Int.toNat t14) []) 8 C.ne)))) fun r3 =>
 (gdE (EC.isL q26r (EC.encL q26r t12)) <|
 (gdE (EC.isL q26k (EC.encL q26k b0_1)) <|
 (gdE (EC.isL q26s (EC.encL q26s b0_3)) <|
 (gdE (EC.isL q26q (EC.encL q26q b0_4)) <|
 (gdE (EC.isL q26o ((EC.encL q26o b2)++[[(C.int Go.IntKind.i64 (q273 (List.getD (List.getD (EC.encL q26r t12) (Int.toNat t14) []) 9 C.ne))),(C.str r0),(C.int Go.IntKind.i64 (q273 (List.getD (List.getD (EC.encL q26r t12) (Int.toNat t14) []) 12 C.ne)))]])) <|
 (q143 (IntKind.wrap .i64 (number+(IntKind.wrap .i64 ((IntKind.wrap .i64 (1+r2))+r3)))) (EC.decL q26r (EC.encL q26r t12)) t13 (IntKind.wrap .i64 (t14+1)) b0 (EC.decL q26k (EC.encL q26k b0_1)) b0_2 (EC.decL q26s (EC.encL q26s b0_3)) (EC.decL q26q (EC.encL q26q b0_4)) b0_5 (b0_6+(List.length [[(C.int Go.IntKind.i64 (q273 (List.getD (List.getD (EC.encL q26r t12) (Int.toNat t14) []) 9 C.ne))),(C.str r0),(C.int Go.IntKind.i64 (q273 (List.getD (List.getD (EC.encL q26r t12) (Int.toNat t14) []) 12 C.ne)))]])) b1 (EC.decL q26o ((EC.encL q26o b2)++[[(C.int Go.IntKind.i64 (q273 (List.getD (List.getD (EC.encL q26r t12) (Int.toNat t14) []) 9 C.ne))),(C.str r0),(C.int Go.IntKind.i64 (q273 (List.getD (List.getD (EC.encL q26r t12) (Int.toNat t14) []) 12 C.ne)))]])))))))))))))))
 (brE ((q273 (List.getD (List.getD (EC.encL q26r t12) (Int.toNat t14) []) 0 C.ne))==3)
 (Option.bind (expP b1 (q27s (List.getD (List.getD (EC.encL q26r t12) (Int.toNat t14) []) 11 C.ne))) fun r0 =>
 (gdE (((decide ((ByteArray.size (q27s (List.getD (List.getD (EC.encL q26r t12) (Int.toNat t14) []) 10 C.ne)))≤Go.maxLen))&&(decide ((ByteArray.size r0)≤Go.maxLen)))&&(decide ((List.length b1)<Go.maxLen))) <|
 (Option.bind (q13n number false r0) fun r1 =>
 (gdE (EC.isL q26r (slOf (List.getD (List.getD (EC.encL q26r t12) (Int.toNat t14) []) 7 C.ne))) <|
 (Option.bind (qtp (EC.decL q26r (slOf (List.getD (List.getD (EC.encL q26r t12) (Int.toNat t14) []) 7 C.ne)))) fun r2 =>
 (gdE (EC.isL q26r (slOf (List.getD (List.getD (EC.encL q26r t12) (Int.toNat t14) []) 8 C.ne))) <|
 (Option.bind (qtp (EC.decL q26r (slOf (List.getD (List.getD (EC.encL q26r t12) (Int.toNat t14) []) 8 C.ne)))) fun r3 =>
 (gdE (EC.isL q26r (EC.encL q26r t12)) <|
 (gdE (EC.isL q26k (EC.encL q26k b0_1)) <|
 (gdE (EC.isL q26s (EC.encL q26s b0_3)) <|
 (gdE (EC.isL q26q (EC.encL q26q b0_4)) <|
 (gdE (EC.isL q26o (EC.encL q26o b2)) <|
 (q143 (IntKind.wrap .i64 (number+(IntKind.wrap .i64 ((IntKind.wrap .i64 (1+r2))+r3)))) (EC.decL q26r (EC.encL q26r t12)) t13 (IntKind.wrap .i64 (t14+1)) b0 (EC.decL q26k (EC.encL q26k b0_1)) b0_2 (EC.decL q26s (EC.encL q26s b0_3)) (EC.decL q26q (EC.encL q26q b0_4)) b0_5 b0_6 (putM b1 (q27s (List.getD (List.getD (EC.encL q26r t12) (Int.toNat t14) []) 10 C.ne)) r0) (EC.decL q26o (EC.encL q26o b2)))))))))))))))
 (Option.bind (q13n number false ⟨#[]⟩) fun r0 =>
 (gdE (EC.isL q26k (EC.encL q26k b0_1)) <|
 (gdE (EC.isL q26s (EC.encL q26s b0_3)) <|
 (gdE (EC.isL q26q (EC.encL q26q b0_4)) <|
 (gdE (EC.isL q26o (EC.encL q26o b2)) <|
 (some (.inl (false,((b0,((EC.decL q26k (EC.encL q26k b0_1)),(b0_2,((EC.decL q26s (EC.encL q26s b0_3)),((EC.decL q26q (EC.encL q26q b0_4)),(b0_5,((),(b0_6,())))))))),(b1,(EC.decL q26o (EC.encL q26o b2)))))))))))))))))
 (gdE (EC.isL q26r (EC.encL q26r t12)) <|
 (gdE (EC.isL q26k (EC.encL q26k b0_1)) <|
 (gdE (EC.isL q26s (EC.encL q26s b0_3)) <|
 (gdE (EC.isL q26q (EC.encL q26q b0_4)) <|
 (gdE (EC.isL q26o (EC.encL q26o b2)) <|
 (some (.inr (((),(number,((EC.decL q26r (EC.encL q26r t12)),(t13,(t14,false))))),((b0,((EC.decL q26k (EC.encL q26k b0_1)),(b0_2,((EC.decL q26s (EC.encL q26s b0_3)),((EC.decL q26q (EC.encL q26q b0_4)),(b0_5,((),(b0_6,())))))))),(b1,(EC.decL q26o (EC.encL q26o b2)))))))))))))
theorem q145 {number} {t12} {t13} {t14} {b0} {b0_1} {b0_2} {b0_3} {b0_4} {b0_5} {b0_6} {b1} {b2} {r} (h:q14a number t12 t13 t14 b0 b0_1 b0_2 b0_3 b0_4 b0_5 b0_6 b1 b2=some r):q143 number t12 t13 t14 b0 b0_1 b0_2 b0_3 b0_4 b0_5 b0_6 b1 b2=some r :=
 qm5 (es:=q10j) (hs:=q161) [] (by kernel_rfl) trivial trivial (by kernel_rfl) h
def q144:=q27d Tryz.prog lv X0 2 (q270 (cdF Tryz.f61) 2) q149 q146 (fun x=>q143 x.1.2.1 x.1.2.2.1 x.1.2.2.2.1 x.1.2.2.2.2 x.2.1.1 x.2.1.2.1 x.2.1.2.2.1 x.2.1.2.2.2.1 x.2.1.2.2.2.2.1 x.2.1.2.2.2.2.2.1 x.2.1.2.2.2.2.2.2.2.1 x.2.2.1 x.2.2.2) (fun _ _ h=>qm4 h)
def q14e (s:(List S50)) (number:Int) (b0:ByteArray) (b0_1:(List S118)) (b0_2:ByteArray) (b0_3:(List S55)) (b0_4:(List Int)) (b0_5:Int) (b0_6:Nat) (b1:(List (ByteArray × ByteArray))) (b2:(List S45)):Option (Bool × (Bool × ((ByteArray × (List S118) × ByteArray × (List S55) × (List Int) × Int × Unit × Nat × Unit) × (List (ByteArray × ByteArray)) × (List S45)))) :=
 (gdE (EC.isL q26r (EC.encL q26r s)) <|
 (gdE (EC.isL q26k (EC.encL q26k b0_1)) <|
 (gdE (EC.isL q26s (EC.encL q26s b0_3)) <|
 (gdE (EC.isL q26q (EC.encL q26q b0_4)) <|
 (gdE (EC.isL q26o (EC.encL q26o b2)) <|
 (Option.bind (q143 number (EC.decL q26r (EC.encL q26r s)) (List.length (EC.encL q26r s):Int) 0 b0 (EC.decL q26k (EC.encL q26k b0_1)) b0_2 (EC.decL q26s (EC.encL q26s b0_3)) (EC.decL q26q (EC.encL q26q b0_4)) b0_5 b0_6 b1 (EC.decL q26o (EC.encL q26o b2))) fun r0 =>
 (Sum.elim (fun r1=>(gdE (EC.isL q26k (EC.encL q26k r1.2.1.2.1)) <|
 (gdE (EC.isL q26s (EC.encL q26s r1.2.1.2.2.2.1)) <|
 (gdE (EC.isL q26q (EC.encL q26q r1.2.1.2.2.2.2.1)) <|
 (gdE (EC.isL q26o (EC.encL q26o r1.2.2.2)) <|
 (some (r1.1,(r1.1,((r1.2.1.1,((EC.decL q26k (EC.encL q26k r1.2.1.2.1)),(r1.2.1.2.2.1,((EC.decL q26s (EC.encL q26s r1.2.1.2.2.2.1)),((EC.decL q26q (EC.encL q26q r1.2.1.2.2.2.2.1)),(r1.2.1.2.2.2.2.2.1,((),(r1.2.1.2.2.2.2.2.2.2.1,())))))))),(r1.2.2.1,(EC.decL q26o (EC.encL q26o r1.2.2.2))))))))))))
 (fun r1=>(gdE (EC.isL q26k (EC.encL q26k r1.2.1.2.1)) <|
 (gdE (EC.isL q26s (EC.encL q26s r1.2.1.2.2.2.1)) <|
 (gdE (EC.isL q26q (EC.encL q26q r1.2.1.2.2.2.2.1)) <|
 (gdE (EC.isL q26o (EC.encL q26o r1.2.2.2)) <|
 (some (true,(true,((r1.2.1.1,((EC.decL q26k (EC.encL q26k r1.2.1.2.1)),(r1.2.1.2.2.1,((EC.decL q26s (EC.encL q26s r1.2.1.2.2.2.1)),((EC.decL q26q (EC.encL q26q r1.2.1.2.2.2.2.1)),(r1.2.1.2.2.2.2.2.1,((),(r1.2.1.2.2.2.2.2.2.2.1,())))))))),(r1.2.2.1,(EC.decL q26o (EC.encL q26o r1.2.2.2)))))))))))) r0)))))))
theorem q142 {s} {number} {b0} {b0_1} {b0_2} {b0_3} {b0_4} {b0_5} {b0_6} {b1} {b2} {r} (h:q14e s number b0 b0_1 b0_2 b0_3 b0_4 b0_5 b0_6 b1 b2=some r):q140 s number b0 b0_1 b0_2 b0_3 b0_4 b0_5 b0_6 b1 b2=some r :=
 qis (fn:=Tryz.f61) (es:=q10j) (hs:=q161) [q144] (by kernel_rfl) rfl (by kernel_rfl) ⟨⟨_,rfl,rfl⟩,trivial⟩ trivial (by kernel_rfl) h
def q13m (s:(List S50)) (m_:ByteArray) (m__1:(List S118)) (m__2:ByteArray) (m__3:(List S55)) (m__4:(List Int)):Option ((Nat × (Int × Int)) × ((Nat × (Int × Int)) × (List S45))) :=
 (gdE (EC.isL q26r (EC.encL q26r s)) <|
 (Option.bind (qui (EC.decL q26r (EC.encL q26r s))) fun r0 =>
 (Option.bind (q57 r0.1 r0.2) fun r1 =>
 (brE r1
 (some ((0,(r0.1,r0.2)),((0,(r0.1,r0.2)),(EC.decL q26o []))))
 (gdE (EC.isL q26k (EC.encL q26k m__1)) <|
 (Option.bind (qbd m_ (EC.decL q26k (EC.encL q26k m__1)) m__2) fun r2 =>
 (Option.bind (q57 r2.1 r2.2) fun r3 =>
 (brE r3
 (Option.bind (q5d r2.1 (-3)) fun r4 =>
 (some ((0,(r4.1,r4.2)),((0,(r4.1,r4.2)),(EC.decL q26o [])))))
 (gdE (EC.isL q26s (EC.encL q26s m__3)) <|
 (gdE (EC.isL q26q (EC.encL q26q m__4)) <|
 (Option.bind (qnv (EC.decL q26s (EC.encL q26s m__3)) (EC.decL q26q (EC.encL q26q m__4))) fun r4 =>
 (Option.bind (q57 r4.1.2.1 r4.1.2.2) fun r5 =>
 (brE r5
 (Option.bind (q5d r4.1.2.1 (-2)) fun r6 =>
 (some ((0,(r6.1,r6.2)),((0,(r6.1,r6.2)),(EC.decL q26o [])))))
 (gdE (EC.isL q26r (EC.encL q26r s)) <|
 (gdE (EC.isL q26k (EC.encL q26k m__1)) <|
 (gdE (EC.isL q26s (EC.encL q26s m__3)) <|
 (gdE (EC.isL q26q (EC.encL q26q m__4)) <|
 (Option.bind (q140 (EC.decL q26r (EC.encL q26r s)) 0 m_ (EC.decL q26k (EC.encL q26k m__1)) m__2 (EC.decL q26s (EC.encL q26s m__3)) (EC.decL q26q (EC.encL q26q m__4)) ((r4.1.1:Nat):Int) 0 [] (EC.decL q26o [])) fun r6 =>
 (gdE (EC.isL q26o (EC.encL q26o r6.2.2.2.2)) <|
 (Option.bind (qca (EC.decL q26o (EC.encL q26o r6.2.2.2.2))) fun r7 =>
 (brE (!r7)
 (gdE ((((List.all [[(C.int Go.IntKind.i64 1),(C.str ⟨#[]⟩),(C.int Go.IntKind.i64 0)]] (fun (el:(List C))=>((List.length el)==3)))&&(List.all (EC.encL q26o r6.2.2.2.2) (fun (el:(List C))=>((List.length el)==3))))&&(decide (((((r6.2.2.1.2.2.2.2.2.2.2.1+(List.length [[(C.int Go.IntKind.i64 1),(C.str ⟨#[]⟩),(C.int Go.IntKind.i64 0)]]))+((r6.2.2.1.2.2.2.2.2.2.2.1+(List.length [[(C.int Go.IntKind.i64 1),(C.str ⟨#[]⟩),(C.int Go.IntKind.i64 0)]])) / 4))+192)*32)≤281474976710656)))&&(decide ((r6.2.2.1.2.2.2.2.2.2.2.1+(List.length [[(C.int Go.IntKind.i64 1),(C.str ⟨#[]⟩),(C.int Go.IntKind.i64 0)]]))≤9223372036854775807))) <|
 (Option.bind q6e fun r8 =>
 (gdE (EC.isL q26o ((EC.encL q26o r6.2.2.2.2)++[[(C.int Go.IntKind.i64 1),(C.str ⟨#[]⟩),(C.int Go.IntKind.i64 0)]])) <|
 (some (((r6.2.2.1.2.2.2.2.2.2.2.1+(List.length [[(C.int Go.IntKind.i64 1),(C.str ⟨#[]⟩),(C.int Go.IntKind.i64 0)]])),(r8.1,r8.2)),(((r6.2.2.1.2.2.2.2.2.2.2.1+(List.length [[(C.int Go.IntKind.i64 1),(C.str ⟨#[]⟩),(C.int Go.IntKind.i64 0)]])),(r8.1,r8.2)),(EC.decL q26o ((EC.encL q26o r6.2.2.2.2)++[[(C.int Go.IntKind.i64 1),(C.str ⟨#[]⟩),(C.int Go.IntKind.i64 0)]]))))))))
 (Option.bind q6e fun r8 =>
 (gdE (EC.isL q26o (EC.encL q26o r6.2.2.2.2)) <|
 (some ((r6.2.2.1.2.2.2.2.2.2.2.1,(r8.1,r8.2)),((r6.2.2.1.2.2.2.2.2.2.2.1,(r8.1,r8.2)),(EC.decL q26o (EC.encL q26o r6.2.2.2.2))))))))))))))))))))))))))))
theorem q13i {s} {m_} {m__1} {m__2} {m__3} {m__4} {r} (h:q13m s m_ m__1 m__2 m__3 m__4=some r):q13g s m_ m__1 m__2 m__3 m__4=some r :=
 qis (fn:=Tryz.f37) (es:=q10j) (hs:=q161) [] (by kernel_rfl) rfl (by kernel_rfl) trivial trivial (by kernel_rfl) h
def q13v:Cod (V × List B) ((Nat × (Int × Int)) × (List S45)):=(cPair (vTup (q279 (vRow 0) (q27b (vAgg (q279 (vC (cInt .i64)) (q27b (vC (cInt .i64)))))))) (q27b (bRow q26o)))
def q13y (s:(List S50)) (m_Envelope_From:ByteArray) (m_Envelope_To:(List S118)) (m_Envelope_Id:ByteArray) (m_Message_Fields:(List S55)) (m_Message_Body:(List Int)):Option ((Nat × (Int × Int)) × (List S45)):=fS Tryz.prog lv X0 14 q13u q13v (s,(m_Envelope_From,m_Envelope_To,m_Envelope_Id,m_Message_Fields,m_Message_Body))
def q13z (s:(List S50)) (m_Envelope_From:ByteArray) (m_Envelope_To:(List S118)) (m_Envelope_Id:ByteArray) (m_Message_Fields:(List S55)) (m_Message_Body:(List Int)):Option ((Nat × (Int × Int)) × (List S45)) :=
 (gdE (EC.isL q26r (EC.encL q26r s)) <|
 (gdE (EC.isL q26k (EC.encL q26k m_Envelope_To)) <|
 (gdE (EC.isL q26s (EC.encL q26s m_Message_Fields)) <|
 (gdE (EC.isL q26q (EC.encL q26q m_Message_Body)) <|
 (Option.bind (q13g (EC.decL q26r (EC.encL q26r s)) m_Envelope_From (EC.decL q26k (EC.encL q26k m_Envelope_To)) m_Envelope_Id (EC.decL q26s (EC.encL q26s m_Message_Fields)) (EC.decL q26q (EC.encL q26q m_Message_Body))) fun r0 =>
 (gdE (EC.isL q26o (EC.encL q26o r0.2.2)) <|
 (some ((r0.1.1,(r0.1.2.1,r0.1.2.2)),(EC.decL q26o (EC.encL q26o r0.2.2))))))))))
theorem q13x {s} {m_Envelope_From} {m_Envelope_To} {m_Envelope_Id} {m_Message_Fields} {m_Message_Body} {r} (h:q13z s m_Envelope_From m_Envelope_To m_Envelope_Id m_Message_Fields m_Message_Body=some r):q13y s m_Envelope_From m_Envelope_To m_Envelope_Id m_Message_Fields m_Message_Body=some r :=
 qf2 (es:=q10j) (hs:=q161) [] Tryz.func14 rfl (by kernel_rfl) rfl (by kernel_rfl) (by kernel_rfl) trivial trivial (by kernel_rfl) h
def q13w:=entS Tryz.prog lv X0 14 [] q13u q13v (fun x=>q13y x.1 x.2.1 x.2.2.1 x.2.2.2.1 x.2.2.2.2.1 x.2.2.2.2.2) (fun _ _ h=>qf1 h)
def q19p:=q13w::q10j
end
end Go.Proofs.YtokahibbkdbndaaGreatDoor
