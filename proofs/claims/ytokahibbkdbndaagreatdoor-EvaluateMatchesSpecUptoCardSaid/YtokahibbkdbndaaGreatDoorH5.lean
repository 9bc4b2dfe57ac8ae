/- Functions of the program as plain functions: made by program from the machine. -/
import Derived.Test.YtokahibbkdbndaaGreatDoorH4
namespace Go.Proofs.YtokahibbkdbndaaGreatDoor
open Go.RowKit
set_option maxRecDepth 100000
noncomputable section
abbrev z4o:=(vAgg (qrd (vC cStr) (qrd (vC (cSl qau)) (qrd (vC cStr) (qrd (vC (cSl qb2)) (qrf (vC (cSl qb0))))))))
def qez:=(qrd (vC (cSl qb1)) (qrf z4o))
def qej:=sLS [0,1,2] (qrd (vC (cSl qb1)) (qrd z4o (qrf (vFn 38 qre)))) qre [] [] (by decide) (fun _=>rfl)
def qei:SC ((Nat×(Int×Int))×(List S45)):=sLS [0,1] (qrd (vRow 0) (qrf (vAgg (qrd (vC (cInt .i64)) (qrf (vC (cInt .i64))))))) (qrf (qv4 (bRow qay))) [false] [] (by decide) (fun _=>rfl)
def qeh:HC ((Nat×(Int×Int))×((Nat×(Int×Int))×(List S45))):=hPair (vTup (qrd (vRow 0) (qrf (vAgg (qrd (vC (cInt .i64)) (qrf (vC (cInt .i64)))))))) qei
def qee (s:L50) (m_:BA) (m__1:L118) (m__2:BA) (m__3:L55) (m__4:(List Int)):=hS Tryz.prog lv X0 37 qej qeh ((s,(m_,m__1,m__2,m__3,m__4),()),())
def qef:=hentS Tryz.prog lv X0 37 [0,1,4,1,7,5,1,3,1,4,1,3,1,4,1,4,2,6,38,0] qej qeh (fun x=>qee x.1.1 x.1.2.1.1 x.1.2.1.2.1 x.1.2.1.2.2.1 x.1.2.1.2.2.2.1 x.1.2.1.2.2.2.2) (fun _ _ h=>qnm h)
def qp9:=qef::qpl
abbrev z4h:=(qrd (qv4 (bBox (qrd (vC cStr) (qrd (vC (cSl qau)) (qrd (vC cStr) (qrd (vC (cSl qb2)) (qrd (vC (cSl qb0)) (qrd (vC (cInt .i64)) (qrd (vMp 1) (qrd (vRow 2) (qrf (vFn 38 qre)))))))))))) (qrd (qv4 bMap) (qrf (qv4 (bRow qay)))))
abbrev z4k:=(vC (cInt .i64))
def qfi:=sLS [0,1,2] (qrd (vPtr 0 0) (qrd (vC (cSl qb1)) (qrf z4k))) z4h [false,false,false] [0,1] (by decide) (fun _=>rfl)
def qfh:SC (Bool×((ByteArray×(List S118)×ByteArray×(List S55)×(List Int)×Int×Unit×Nat×Unit)×(List (ByteArray×ByteArray))×(List S45))):=sLS [0] (qrf (vC cBool)) (qrd (qv4 (bBox (qrd (vC cStr) (qrd (vC (cSl qau)) (qrd (vC cStr) (qrd (vC (cSl qb2)) (qrd (vC (cSl qb0)) (qrd (vC (cInt .i64)) (qrd (vMp 1) (qrd (vRow 2) (qrf (vFn 38 qre)))))))))))) (qrd (qv4 bMap) (qrf (qv4 (bRow qay))))) [false,false,false] [0,1] (by decide) (fun _=>rfl)
def qfg:HC (Bool×(Bool×((ByteArray×(List S118)×ByteArray×(List S55)×(List Int)×Int×Unit×Nat×Unit)×(List (ByteArray×ByteArray))×(List S45)))):=hPair (vC cBool) qfh
def qf5 (s:L50) (number:Int) (b0:BA) (b0_1:L118) (b0_2:BA) (b0_3:L55) (b0_4:(List Int)) (b0_5:Int) (b0_6:Nat) (b1:(List (BA×BA))) (b2:L45):=hS Tryz.prog lv X0 61 qfi qfg (((),s,number),((b0,b0_1,b0_2,b0_3,b0_4,b0_5,(),b0_6,()),b1,b2))
def qf6:=hentS Tryz.prog lv X0 61 [0,3,0,0,1,1,4,2,1,1,1,9,1,3,1,4,1,3,1,4,1,4,1,1,8,1,2,2,6,38,0,4,2,0,1] qfi qfg (fun x=>qf5 x.1.2.1 x.1.2.2 x.2.1.1 x.2.1.2.1 x.2.1.2.2.1 x.2.1.2.2.2.1 x.2.1.2.2.2.2.1 x.2.1.2.2.2.2.2.1 x.2.1.2.2.2.2.2.2.2.1 x.2.2.1 x.2.2.2) (fun _ _ h=>qnm h)
def qpc:=qf6::qp9
abbrev z4l:=(qrd z4k (qrd (vC (cSl qaz)) (qrd (vC cStr) (qrd z4k (qrd (vC cStr) (qrf z4k))))))
def qir:=sLS [0,1] (qrd (vPtr 0 0) (qrf (vAgg z4l))) z4h [false,false,false] [0,1] (by decide) (fun _=>rfl)
def qiq:SC (Bool×((ByteArray×(List S118)×ByteArray×(List S55)×(List Int)×Int×Unit×Nat×Unit)×(List (ByteArray×ByteArray))×(List S45))):=sLS [0] (qrf (vC cBool)) (qrd (qv4 (bBox (qrd (vC cStr) (qrd (vC (cSl qau)) (qrd (vC cStr) (qrd (vC (cSl qb2)) (qrd (vC (cSl qb0)) (qrd (vC (cInt .i64)) (qrd (vMp 1) (qrd (vRow 2) (qrf (vFn 38 qre)))))))))))) (qrd (qv4 bMap) (qrf (qv4 (bRow qay))))) [false,false,false] [0,1] (by decide) (fun _=>rfl)
def qip:HC (Bool×(Bool×((ByteArray×(List S118)×ByteArray×(List S55)×(List Int)×Int×Unit×Nat×Unit)×(List (ByteArray×ByteArray))×(List S45)))):=hPair (vC cBool) qiq
def qi7 (t:Int) (t_1:L48) (t_2:BA) (t_3:Int) (t_4:BA) (t_5:Int) (b0:BA) (b0_1:L118) (b0_2:BA) (b0_3:L55) (b0_4:(List Int)) (b0_5:Int) (b0_6:Nat) (b1:(List (BA×BA))) (b2:L45):=hS Tryz.prog lv X0 80 qir qip (((),(t,t_1,t_2,t_3,t_4,t_5)),((b0,b0_1,b0_2,b0_3,b0_4,b0_5,(),b0_6,()),b1,b2))
def qi8:=hentS Tryz.prog lv X0 80 [0,3,0,0,1,7,6,1,1,1,4,1,3,1,1,1,3,1,1,1,9,1,3,1,4,1,3,1,4,1,4,1,1,8,1,2,2,6,38,0,4,2,0,1] qir qip (fun x=>qi7 x.1.2.1 x.1.2.2.1 x.1.2.2.2.1 x.1.2.2.2.2.1 x.1.2.2.2.2.2.1 x.1.2.2.2.2.2.2 x.2.1.1 x.2.1.2.1 x.2.1.2.2.1 x.2.1.2.2.2.1 x.2.1.2.2.2.2.1 x.2.1.2.2.2.2.2.1 x.2.1.2.2.2.2.2.2.2.1 x.2.2.1 x.2.2.2) (fun _ _ h=>qnm h)
def qpj:=qi8::qpc
def qgb:=sLS [0,1] (qrd (vPtr 0 0) (qrf (vC cStr))) z4h [false,false,false] [0,1] (by decide) (fun _=>rfl)
def qga:SC (Nat×((List ByteArray)×(ByteArray×(List S118)×ByteArray×(List S55)×(List Int)×Int×Unit×Nat×Unit)×(List (ByteArray×ByteArray))×(List S45))):=sLS [0] (qrf (vRow 0)) (qrd (qv4 (bRow qb5)) (qrd (qv4 (bBox (qrd (vC cStr) (qrd (vC (cSl qau)) (qrd (vC cStr) (qrd (vC (cSl qb2)) (qrd (vC (cSl qb0)) (qrd (vC (cInt .i64)) (qrd (vMp 2) (qrd (vRow 3) (qrf (vFn 38 qre)))))))))))) (qrd (qv4 bMap) (qrf (qv4 (bRow qay)))))) [false,false,false,false] [1,2] (by decide) (fun _=>rfl)
def qg9:HC (Nat×(Nat×((List ByteArray)×(ByteArray×(List S118)×ByteArray×(List S55)×(List Int)×Int×Unit×Nat×Unit)×(List (ByteArray×ByteArray))×(List S45)))):=hPair (vRow 0) qga
def qg6 (name b0:BA) (b0_1:L118) (b0_2:BA) (b0_3:L55) (b0_4:(List Int)) (b0_5:Int) (b0_6:Nat) (b1:(List (BA×BA))) (b2:L45):=hS Tryz.prog lv X0 104 qgb qg9 (((),name),((b0,b0_1,b0_2,b0_3,b0_4,b0_5,(),b0_6,()),b1,b2))
def qgc (name b0:BA) (b0_1:L118) (b0_2:BA) (b0_3:L55) (b0_4:(List Int)) (b0_5:Int) (b0_6:Nat) (b1:(List (BA×BA))) (b2:L45):Oq (Nat×(Nat×(LB×(BA×L118×BA×L55×(List Int)×Int×Unit×Nat×Unit)×(List (BA×BA))×L45))) :=
 (gL qb2 b0_3<|
 ((qoa (dL qb2 b0_3) name).bind fun r0 =>
 (gL qb5 r0.2<|
 (gL qau b0_1<|
 (gL qb2 b0_3<|
 (gL qb0 b0_4<|
 (gL qay b2<|
 (some (r0.1.1,(r0.1.1,((dL qb5 r0.2),((b0,((dL qau b0_1),(b0_2,((dL qb2 b0_3),((dL qb0 b0_4),(b0_5,((),(b0_6,())))))))),(b1,(dL qay b2))))))))))))))
theorem qg8 {name b0 b0_1 b0_2 b0_3 b0_4 b0_5 b0_6 b1 b2 r} (h:qgc name b0 b0_1 b0_2 b0_3 b0_4 b0_5 b0_6 b1 b2=some r):qg6 name b0 b0_1 b0_2 b0_3 b0_4 b0_5 b0_6 b1 b2=some r :=
 qnn (fn:=Tryz.f104) (es:=q1jp) (hs:=qpj) [] (by kernel_rfl) rfl (by kernel_rfl) trivial trivial (by kernel_rfl) h
def qg7:=hentS Tryz.prog lv X0 104 [0,3,0,0,1,1,3,1,9,1,3,1,4,1,3,1,4,1,4,1,1,8,1,2,2,6,38,0,4,2,0,1] qgb qg9 (fun x=>qg6 x.1.2 x.2.1.1 x.2.1.2.1 x.2.1.2.2.1 x.2.1.2.2.2.1 x.2.1.2.2.2.2.1 x.2.1.2.2.2.2.2.1 x.2.1.2.2.2.2.2.2.2.1 x.2.2.1 x.2.2.2) (fun _ _ h=>qnm h)
def qpf:=qg7::qpj
abbrev z4j:=(qv4 (bBox (qrd (vC cStr) (qrd (vC (cSl qau)) (qrd (vC cStr) (qrd (vC (cSl qb2)) (qrd (vC (cSl qb0)) (qrd (vC (cInt .i64)) (qrd (vMp 2) (qrd (vRow 3) (qrf (vFn 38 qre))))))))))))
abbrev z4m:=(qrd (qv4 bMap) (qrf (qv4 (bRow qay))))
abbrev z4q:=(qrd z4j (qrd (qv4 (bRow qb5)) z4m))
def qhj:=sLS [0,1,2] (qrd (vPtr 0 0) (qrd (vAgg z4l) (qrf (vRow 1)))) z4q [false,false,false,false] [0,2] (by decide) (fun _=>rfl)
abbrev z4p:=(qrd z4k (qrf z4k))
def qhf:=sLS [0,44,45,46] (qrd (vPtr 0 0) (qrd (vRow 1) z4p)) z4q [false,false,false,false] [0,2] (by decide) (fun _=>rfl)
abbrev z4n:=(qrd z4k (qrd z4k (qrf (vC cBool))))
def qhe:=sLS [0,44,45,46,47] (qrd (vPtr 0 0) (qrd (vRow 1) z4n)) z4q [false,false,false,false] [0,2] (by decide) (fun _=>rfl)
def qhd:=oAt 4 qhe
def qha (t44:Nat) (t45 t46:Int) (b0:BA) (b0_1:L118) (b0_2:BA) (b0_3:L55) (b0_4:(List Int)) (b0_5:Int) (b0_6:Nat) (b1:LB) (b2:(List (BA×BA))) (b3:L45):=lS Tryz.prog lv X0 103 61 (qnb (cdF Tryz.f103) 9) qhf qhd (((),t44,t45,t46),((b0,b0_1,b0_2,b0_3,b0_4,b0_5,(),b0_6,()),b1,b2,b3))
def qhg (t44:Nat) (t45 t46:Int) (b0:BA) (b0_1:L118) (b0_2:BA) (b0_3:L55) (b0_4:(List Int)) (b0_5:Int) (b0_6:Nat) (b1:LB) (b2:(List (BA×BA))) (b3:L45):Oq ((Unit×Nat×Int×Int×Bool)×((BA×L118×BA×L55×(List Int)×Int×Unit×Nat×Unit)×LB×(List (BA×BA))×L45)) :=
 (brE (decide (t46<t45))
 (gdE ((p0 t46)&&(decide (t46<((t44:Nat):Int))))<|
 (gdE ((decide ((Int.toNat t46)<(lN qb5 b1)))&&((List.length (List.getD (EC.encL qb5 b1) (Int.toNat t46) []))==1))<|
 (gdE (isP [K1.str] 0 (List.getD (EC.encL qb5 b1) (Int.toNat t46) []))<|
 ((itoaP (wI t46)).bind fun r0 =>
 (gdE (((decide (r0.size≤Go.maxLen))&&(decide ((ByteArray.size (q1gu (List.getD (List.getD (EC.encL qb5 b1) (Int.toNat t46) []) 0 C.ne)))≤Go.maxLen)))&&(decide ((List.length b2)<Go.maxLen)))<|
 (gL qau b0_1<|
 (gL qb2 b0_3<|
 (gL qb0 b0_4<|
 (gL qb5 b1<|
 (gL qay b3<|
 (qha t44 t45 (wI t46) b0 (dL qau b0_1) b0_2 (dL qb2 b0_3) (dL qb0 b0_4) b0_5 b0_6 (dL qb5 b1) (putM b2 r0 (q1gu (List.getD (List.getD (EC.encL qb5 b1) (Int.toNat t46) []) 0 C.ne))) (dL qay b3))))))))))))
 (gL qau b0_1<|
 (gL qb2 b0_3<|
 (gL qb0 b0_4<|
 (gL qb5 b1<|
 (gL qay b3<|
 (some (((),(t44,(t45,(t46,false)))),((b0,((dL qau b0_1),(b0_2,((dL qb2 b0_3),((dL qb0 b0_4),(b0_5,((),(b0_6,())))))))),((dL qb5 b1),(b2,(dL qay b3))))))))))))
theorem qhc {t44 t45 t46 b0 b0_1 b0_2 b0_3 b0_4 b0_5 b0_6 b1 b2 b3 r} (h:qhg t44 t45 t46 b0 b0_1 b0_2 b0_3 b0_4 b0_5 b0_6 b1 b2 b3=some r):qha t44 t45 t46 b0 b0_1 b0_2 b0_3 b0_4 b0_5 b0_6 b1 b2 b3=some r :=
 qrh (es:=q1jp) (hs:=qpf) [] (by kernel_rfl) trivial trivial (by kernel_rfl) h
def qhb:=qs5 Tryz.prog lv X0 9 (qnb (cdF Tryz.f103) 9) qhf qhd (fun x=>qha x.1.2.1 x.1.2.2.1 x.1.2.2.2 x.2.1.1 x.2.1.2.1 x.2.1.2.2.1 x.2.1.2.2.2.1 x.2.1.2.2.2.2.1 x.2.1.2.2.2.2.2.1 x.2.1.2.2.2.2.2.2.2.1 x.2.2.1 x.2.2.2.1 x.2.2.2.2) (fun _ _ h=>qrg h)
abbrev z4i:=(qrd (qv4 (bBox (qrd (vC cStr) (qrd (vC (cSl qau)) (qrd (vC cStr) (qrd (vC (cSl qb2)) (qrd (vC (cSl qb0)) (qrd (vC (cInt .i64)) (qrd (vMp 3) (qrd (vRow 4) (qrf (vFn 38 qre)))))))))))) (qrd (qv4 (bBox (qrd (vC (cInt .i64)) (qrd (vC (cSl qaz)) (qrd (vC cStr) (qrd (vC (cInt .i64)) (qrd (vC cStr) (qrf (vC (cInt .i64)))))))))) (qrd (qv4 (bRow qb5)) (qrd (qv4 bMap) (qrf (qv4 (bRow qay)))))))
def qh8:=sLS [0,4,14,15,16] (qrd (vPtr 0 0) (qrd (vPtr 1 0) (qrd (vRow 2) z4p))) z4i [false,false,false,false,false] [0,3] (by decide) (fun _=>rfl)
def qh7:=sLS [0,4,14,15,16,17] (qrd (vPtr 0 0) (qrd (vPtr 1 0) (qrd (vRow 2) z4n))) z4i [false,false,false,false,false] [0,3] (by decide) (fun _=>rfl)
def qh6:=sLS [6] (qrf (vC cBool)) z4h [false,false,false] [0,1] (by decide) (fun _=>rfl)
def qh5:=oOr 1 qh6 (oAt 2 qh7) (fun x=>(by decide:(2:Nat)≠1))
def qh2 (t14:Nat) (t15 t16:Int) (b0:BA) (b0_1:L118) (b0_2:BA) (b0_3:L55) (b0_4:(List Int)) (b0_5:Int) (b0_6:Nat) (b1:Int) (b1_1:L48) (b1_2:BA) (b1_3:Int) (b1_4:BA) (b1_5:Int) (b2:LB) (b3:(List (BA×BA))) (b4:L45):=lS Tryz.prog lv X0 103 61 (qnb (cdF Tryz.f103) 2) qh8 qh5 (((),(),t14,t15,t16),((b0,b0_1,b0_2,b0_3,b0_4,b0_5,(),b0_6,()),(b1,b1_1,b1_2,b1_3,b1_4,b1_5),b2,b3,b4))
def qh9 (t14:Nat) (t15 t16:Int) (b0:BA) (b0_1:L118) (b0_2:BA) (b0_3:L55) (b0_4:(List Int)) (b0_5:Int) (b0_6:Nat) (b1:Int) (b1_1:L48) (b1_2:BA) (b1_3:Int) (b1_4:BA) (b1_5:Int) (b2:LB) (b3:(List (BA×BA))) (b4:L45):Oq ((Bool×((BA×L118×BA×L55×(List Int)×Int×Unit×Nat×Unit)×(List (BA×BA))×L45))⊕((Unit×Unit×Nat×Int×Int×Bool)×((BA×L118×BA×L55×(List Int)×Int×Unit×Nat×Unit)×(Int×L48×BA×Int×BA×Int)×LB×(List (BA×BA))×L45))) :=
 (brE (decide (t16<t15))
 (gdE ((p0 t16)&&(decide (t16<((t14:Nat):Int))))<|
 (gdE ((decide ((Int.toNat t16)<(lN qb5 b2)))&&((List.length (List.getD (EC.encL qb5 b2) (Int.toNat t16) []))==1))<|
 (gdE (isP [K1.str] 0 (List.getD (EC.encL qb5 b2) (Int.toNat t16) []))<|
 ((qw2 b1_3 b1_4 (q1gu (List.getD (List.getD (EC.encL qb5 b2) (Int.toNat t16) []) 0 C.ne))).bind fun r0 =>
 ((q5v r0.1.2.2.1 r0.1.2.2.2).bind fun r1 =>
 (brE (r1==false)
 (brE (!r0.1.1)
 (gL qau b0_1<|
 (gL qb2 b0_3<|
 (gL qb0 b0_4<|
 (gL qaz b1_1<|
 (gL qb5 b2<|
 (gL qay b4<|
 (qh2 t14 t15 (wI t16) b0 (dL qau b0_1) b0_2 (dL qb2 b0_3) (dL qb0 b0_4) b0_5 b0_6 b1 (dL qaz b1_1) b1_2 b1_3 b1_4 b1_5 (dL qb5 b2) b3 (dL qay b4))))))))
 (brE (b1_3==3)
 ((delP b3).bind fun r2 =>
 (gL qau b0_1<|
 (gL qb2 b0_3<|
 (gL qb0 b0_4<|
 (gL qb5 r0.2<|
 (gL qay b4<|
 ((qha r0.1.2.1 ((r0.1.2.1:Nat):Int) 0 b0 (dL qau b0_1) b0_2 (dL qb2 b0_3) (dL qb0 b0_4) b0_5 b0_6 (dL qb5 r0.2) r2 (dL qay b4)).bind fun r3 =>
 (gL qau r3.2.1.2.1<|
 (gL qb2 r3.2.1.2.2.2.1<|
 (gL qb0 r3.2.1.2.2.2.2.1<|
 (gL qay r3.2.2.2.2<|
 (some (.inl (true,((r3.2.1.1,((dL qau r3.2.1.2.1),(r3.2.1.2.2.1,((dL qb2 r3.2.1.2.2.2.1),((dL qb0 r3.2.1.2.2.2.2.1),(r3.2.1.2.2.2.2.2.1,((),(r3.2.1.2.2.2.2.2.2.2.1,())))))))),(r3.2.2.2.1,(dL qay r3.2.2.2.2)))))))))))))))))
 (gL qau b0_1<|
 (gL qb2 b0_3<|
 (gL qb0 b0_4<|
 (gL qay b4<|
 (some (.inl (true,((b0,((dL qau b0_1),(b0_2,((dL qb2 b0_3),((dL qb0 b0_4),(b0_5,((),(b0_6,())))))))),(b3,(dL qay b4))))))))))))
 (gL qau b0_1<|
 (gL qb2 b0_3<|
 (gL qb0 b0_4<|
 (gL qaz b1_1<|
 (gL qb5 b2<|
 (gL qay b4<|
 (qh2 t14 t15 (wI t16) b0 (dL qau b0_1) b0_2 (dL qb2 b0_3) (dL qb0 b0_4) b0_5 b0_6 b1 (dL qaz b1_1) b1_2 b1_3 b1_4 b1_5 (dL qb5 b2) b3 (dL qay b4))))))))))))))
 (gL qau b0_1<|
 (gL qb2 b0_3<|
 (gL qb0 b0_4<|
 (gL qaz b1_1<|
 (gL qb5 b2<|
 (gL qay b4<|
 (some (.inr (((),((),(t14,(t15,(t16,false))))),((b0,((dL qau b0_1),(b0_2,((dL qb2 b0_3),((dL qb0 b0_4),(b0_5,((),(b0_6,())))))))),((b1,((dL qaz b1_1),(b1_2,(b1_3,(b1_4,b1_5))))),((dL qb5 b2),(b3,(dL qay b4)))))))))))))))
theorem qh4 {t14 t15 t16 b0 b0_1 b0_2 b0_3 b0_4 b0_5 b0_6 b1 b1_1 b1_2 b1_3 b1_4 b1_5 b2 b3 b4 r} (h:qh9 t14 t15 t16 b0 b0_1 b0_2 b0_3 b0_4 b0_5 b0_6 b1 b1_1 b1_2 b1_3 b1_4 b1_5 b2 b3 b4=some r):qh2 t14 t15 t16 b0 b0_1 b0_2 b0_3 b0_4 b0_5 b0_6 b1 b1_1 b1_2 b1_3 b1_4 b1_5 b2 b3 b4=some r :=
 qrh (es:=q1jp) (hs:=qpf) [qhb] (by kernel_rfl) ⟨⟨_,rfl,rfl⟩,trivial⟩ trivial (by kernel_rfl) h
def qh3:=qs5 Tryz.prog lv X0 2 (qnb (cdF Tryz.f103) 2) qh8 qh5 (fun x=>qh2 x.1.2.2.1 x.1.2.2.2.1 x.1.2.2.2.2 x.2.1.1 x.2.1.2.1 x.2.1.2.2.1 x.2.1.2.2.2.1 x.2.1.2.2.2.2.1 x.2.1.2.2.2.2.2.1 x.2.1.2.2.2.2.2.2.2.1 x.2.2.1.1 x.2.2.1.2.1 x.2.2.1.2.2.1 x.2.2.1.2.2.2.1 x.2.2.1.2.2.2.2.1 x.2.2.1.2.2.2.2.2 x.2.2.2.1 x.2.2.2.2.1 x.2.2.2.2.2) (fun _ _ h=>qrg h)
def qhi:SC (Bool×((ByteArray×(List S118)×ByteArray×(List S55)×(List Int)×Int×Unit×Nat×Unit)×(List (ByteArray×ByteArray))×(List S45))):=sLS [0] (qrf (vC cBool)) (qrd (qv4 (bBox (qrd (vC cStr) (qrd (vC (cSl qau)) (qrd (vC cStr) (qrd (vC (cSl qb2)) (qrd (vC (cSl qb0)) (qrd (vC (cInt .i64)) (qrd (vMp 1) (qrd (vRow 2) (qrf (vFn 38 qre)))))))))))) (qrd (qv4 bMap) (qrf (qv4 (bRow qay))))) [false,false,false] [0,1] (by decide) (fun _=>rfl)
def qhh:HC (Bool×(Bool×((ByteArray×(List S118)×ByteArray×(List S55)×(List Int)×Int×Unit×Nat×Unit)×(List (ByteArray×ByteArray))×(List S45)))):=hPair (vC cBool) qhi
def qgz (t:Int) (t_1:L48) (t_2:BA) (t_3:Int) (t_4:BA) (t_5:Int) (l:Nat) (b0:BA) (b0_1:L118) (b0_2:BA) (b0_3:L55) (b0_4:(List Int)) (b0_5:Int) (b0_6:Nat) (b1:LB) (b2:(List (BA×BA))) (b3:L45):=hS Tryz.prog lv X0 103 qhj qhh (((),(t,t_1,t_2,t_3,t_4,t_5),l),((b0,b0_1,b0_2,b0_3,b0_4,b0_5,(),b0_6,()),b1,b2,b3))
def qhk (t:Int) (t_1:L48) (t_2:BA) (t_3:Int) (t_4:BA) (t_5:Int) (l:Nat) (b0:BA) (b0_1:L118) (b0_2:BA) (b0_3:L55) (b0_4:(List Int)) (b0_5:Int) (b0_6:Nat) (b1:LB) (b2:(List (BA×BA))) (b3:L45):Oq (Bool×(Bool×((BA×L118×BA×L55×(List Int)×Int×Unit×Nat×Unit)×(List (BA×BA))×L45))) :=
 (gL qau b0_1<|
 (gL qb2 b0_3<|
 (gL qb0 b0_4<|
 (gL qaz t_1<|
 (gL qb5 b1<|
 (gL qay b3<|
 ((qh2 l ((l:Nat):Int) 0 b0 (dL qau b0_1) b0_2 (dL qb2 b0_3) (dL qb0 b0_4) b0_5 b0_6 t (dL qaz t_1) t_2 t_3 t_4 t_5 (dL qb5 b1) b2 (dL qay b3)).bind fun r0 =>
 (Sum.elim (fun r1=>(gdE (EC.isL qau (EC.encL qau r1.2.1.2.1))<|
 (gL qb2 r1.2.1.2.2.2.1<|
 (gL qb0 r1.2.1.2.2.2.2.1<|
 (gL qay r1.2.2.2<|
 (some (r1.1,(r1.1,((r1.2.1.1,((dL qau r1.2.1.2.1),(r1.2.1.2.2.1,((dL qb2 r1.2.1.2.2.2.1),((dL qb0 r1.2.1.2.2.2.2.1),(r1.2.1.2.2.2.2.2.1,((),(r1.2.1.2.2.2.2.2.2.2.1,())))))))),(r1.2.2.1,(dL qay r1.2.2.2)))))))))))
 (fun r1=>(gdE (EC.isL qau (EC.encL qau r1.2.1.2.1))<|
 (gL qb2 r1.2.1.2.2.2.1<|
 (gL qb0 r1.2.1.2.2.2.2.1<|
 (gL qay r1.2.2.2.2.2<|
 (some (false,(false,((r1.2.1.1,((dL qau r1.2.1.2.1),(r1.2.1.2.2.1,((dL qb2 r1.2.1.2.2.2.1),((dL qb0 r1.2.1.2.2.2.2.1),(r1.2.1.2.2.2.2.2.1,((),(r1.2.1.2.2.2.2.2.2.2.1,())))))))),(r1.2.2.2.2.1,(dL qay r1.2.2.2.2.2))))))))))) r0))))))))
theorem qh1 {t t_1 t_2 t_3 t_4 t_5 l b0 b0_1 b0_2 b0_3 b0_4 b0_5 b0_6 b1 b2 b3 r} (h:qhk t t_1 t_2 t_3 t_4 t_5 l b0 b0_1 b0_2 b0_3 b0_4 b0_5 b0_6 b1 b2 b3=some r):qgz t t_1 t_2 t_3 t_4 t_5 l b0 b0_1 b0_2 b0_3 b0_4 b0_5 b0_6 b1 b2 b3=some r :=
 qnn (fn:=Tryz.f103) (es:=q1jp) (hs:=qpf) [qh3] (by kernel_rfl) rfl (by kernel_rfl) ⟨⟨_,rfl,rfl⟩,trivial⟩ trivial (by kernel_rfl) h
def qh0:=hentS Tryz.prog lv X0 103 [0,3,0,0,1,7,6,1,1,1,4,1,3,1,1,1,3,1,1,2,2,1,1,9,1,3,1,4,1,3,1,4,1,4,1,1,8,2,2,3,6,38,0,2,4,2,0,2] qhj qhh (fun x=>qgz x.1.2.1.1 x.1.2.1.2.1 x.1.2.1.2.2.1 x.1.2.1.2.2.2.1 x.1.2.1.2.2.2.2.1 x.1.2.1.2.2.2.2.2 x.1.2.2 x.2.1.1 x.2.1.2.1 x.2.1.2.2.1 x.2.1.2.2.2.1 x.2.1.2.2.2.2.1 x.2.1.2.2.2.2.2.1 x.2.1.2.2.2.2.2.2.2.1 x.2.2.1 x.2.2.2.1 x.2.2.2.2) (fun _ _ h=>qnm h)
def qph:=qh0::qpf
def qin:=sLS [0,3,25,26,27] (qrd (vPtr 0 0) (qrd (vPtr 1 0) (qrd (vC (cSl qaz)) z4p))) (qrd z4j (qrd (qv4 (bBox z4l)) z4m)) [false,false,false,false] [0,2] (by decide) (fun _=>rfl)
def qim:=sLS [0,3,25,26,27,28] (qrd (vPtr 0 0) (qrd (vPtr 1 0) (qrd (vC (cSl qaz)) z4n))) (qrd z4j (qrd (qv4 (bBox z4l)) z4m)) [false,false,false,false] [0,2] (by decide) (fun _=>rfl)
def qil:=sLS [4] (qrf (vC cBool)) z4h [false,false,false] [0,1] (by decide) (fun _=>rfl)
def qik:=oOr 1 qil (oAt 3 qim) (fun x=>(by decide:(3:Nat)≠1))
def qih (t25:L48) (t26 t27:Int) (b0:BA) (b0_1:L118) (b0_2:BA) (b0_3:L55) (b0_4:(List Int)) (b0_5:Int) (b0_6:Nat) (b1:Int) (b1_1:L48) (b1_2:BA) (b1_3:Int) (b1_4:BA) (b1_5:Int) (b2:(List (BA×BA))) (b3:L45):=lS Tryz.prog lv X0 80 106 (qnb (cdF Tryz.f80) 7) qin qik (((),(),t25,t26,t27),((b0,b0_1,b0_2,b0_3,b0_4,b0_5,(),b0_6,()),(b1,b1_1,b1_2,b1_3,b1_4,b1_5),b2,b3))
abbrev z2a (t25:L48) (t27:Int):=(List.getD (EC.encL qaz t25) (Int.toNat t27) [])
def qio (t25:L48) (t26 t27:Int) (b0:BA) (b0_1:L118) (b0_2:BA) (b0_3:L55) (b0_4:(List Int)) (b0_5:Int) (b0_6:Nat) (b1:Int) (b1_1:L48) (b1_2:BA) (b1_3:Int) (b1_4:BA) (b1_5:Int) (b2:(List (BA×BA))) (b3:L45):Oq ((Bool×((BA×L118×BA×L55×(List Int)×Int×Unit×Nat×Unit)×(List (BA×BA))×L45))⊕((Unit×Unit×L48×Int×Int×Bool)×((BA×L118×BA×L55×(List Int)×Int×Unit×Nat×Unit)×(Int×L48×BA×Int×BA×Int)×(List (BA×BA))×L45))) :=
 (brE (decide (t27<t26))
 (gdE (p0 t27)<|
 (gdE (eC qaz t25 t27 [(K1.int Go.IntKind.i64),K1.sl,K1.str,(K1.int Go.IntKind.i64),K1.str,(K1.int Go.IntKind.i64)])<|
 (gdE (EC.isL qaz (slOf (List.getD (z2a t25 t27) 1 C.ne)))<|
 (gL qau b0_1<|
 (gL qb2 b0_3<|
 (gL qb0 b0_4<|
 (gL qay b3<|
 ((qi7 (qqd (List.getD (z2a t25 t27) 0 C.ne)) (uL qaz (List.getD (z2a t25 t27) 1 C.ne)) (q1gu (List.getD (z2a t25 t27) 2 C.ne)) (qqd (List.getD (z2a t25 t27) 3 C.ne)) (q1gu (List.getD (z2a t25 t27) 4 C.ne)) (qqd (List.getD (z2a t25 t27) 5 C.ne)) b0 (dL qau b0_1) b0_2 (dL qb2 b0_3) (dL qb0 b0_4) b0_5 b0_6 b2 (dL qay b3)).bind fun r0 =>
 (brE (r0.1==(b1==4))
 (gL qau r0.2.2.1.2.1<|
 (gL qb2 r0.2.2.1.2.2.2.1<|
 (gL qb0 r0.2.2.1.2.2.2.2.1<|
 (gL qay r0.2.2.2.2<|
 (some (.inl ((b1==4),((r0.2.2.1.1,((dL qau r0.2.2.1.2.1),(r0.2.2.1.2.2.1,((dL qb2 r0.2.2.1.2.2.2.1),((dL qb0 r0.2.2.1.2.2.2.2.1),(r0.2.2.1.2.2.2.2.2.1,((),(r0.2.2.1.2.2.2.2.2.2.2.1,())))))))),(r0.2.2.2.1,(dL qay r0.2.2.2.2))))))))))
 (gL qaz t25<|
 (gL qau r0.2.2.1.2.1<|
 (gL qb2 r0.2.2.1.2.2.2.1<|
 (gL qb0 r0.2.2.1.2.2.2.2.1<|
 (gL qaz b1_1<|
 (gL qay r0.2.2.2.2<|
 (qih (dL qaz t25) t26 (wI t27) r0.2.2.1.1 (dL qau r0.2.2.1.2.1) r0.2.2.1.2.2.1 (dL qb2 r0.2.2.1.2.2.2.1) (dL qb0 r0.2.2.1.2.2.2.2.1) r0.2.2.1.2.2.2.2.2.1 r0.2.2.1.2.2.2.2.2.2.2.1 b1 (dL qaz b1_1) b1_2 b1_3 b1_4 b1_5 r0.2.2.2.1 (dL qay r0.2.2.2.2)))))))))))))))))
 (gL qaz t25<|
 (gL qau b0_1<|
 (gL qb2 b0_3<|
 (gL qb0 b0_4<|
 (gL qaz b1_1<|
 (gL qay b3<|
 (some (.inr (((),((),((dL qaz t25),(t26,(t27,false))))),((b0,((dL qau b0_1),(b0_2,((dL qb2 b0_3),((dL qb0 b0_4),(b0_5,((),(b0_6,())))))))),((b1,((dL qaz b1_1),(b1_2,(b1_3,(b1_4,b1_5))))),(b2,(dL qay b3))))))))))))))
theorem qij {t25 t26 t27 b0 b0_1 b0_2 b0_3 b0_4 b0_5 b0_6 b1 b1_1 b1_2 b1_3 b1_4 b1_5 b2 b3 r} (h:qio t25 t26 t27 b0 b0_1 b0_2 b0_3 b0_4 b0_5 b0_6 b1 b1_1 b1_2 b1_3 b1_4 b1_5 b2 b3=some r):qih t25 t26 t27 b0 b0_1 b0_2 b0_3 b0_4 b0_5 b0_6 b1 b1_1 b1_2 b1_3 b1_4 b1_5 b2 b3=some r :=
 qrh (es:=q1jp) (hs:=qph) [] (by kernel_rfl) trivial trivial (by kernel_rfl) h
def qii:=qs5 Tryz.prog lv X0 7 (qnb (cdF Tryz.f80) 7) qin qik (fun x=>qih x.1.2.2.1 x.1.2.2.2.1 x.1.2.2.2.2 x.2.1.1 x.2.1.2.1 x.2.1.2.2.1 x.2.1.2.2.2.1 x.2.1.2.2.2.2.1 x.2.1.2.2.2.2.2.1 x.2.1.2.2.2.2.2.2.2.1 x.2.2.1.1 x.2.2.1.2.1 x.2.2.1.2.2.1 x.2.2.1.2.2.2.1 x.2.2.1.2.2.2.2.1 x.2.2.1.2.2.2.2.2 x.2.2.2.1 x.2.2.2.2) (fun _ _ h=>qrg h)
def qif:=sLS [0,3,7,73,74,75] (qrd (vPtr 0 0) (qrd (vPtr 1 0) (qrd (vRow 2) (qrd (vC (cSl qau)) z4p)))) z4i [false,false,false,false,false] [0,3] (by decide) (fun _=>rfl)
def qie:=sLS [0,3,7,73,74,75,76] (qrd (vPtr 0 0) (qrd (vPtr 1 0) (qrd (vRow 2) (qrd (vC (cSl qau)) z4n)))) z4i [false,false,false,false,false] [0,3] (by decide) (fun _=>rfl)
def qid:=oAt 5 qie
def qia (l:Nat) (t73:L118) (t74 t75:Int) (b0:BA) (b0_1:L118) (b0_2:BA) (b0_3:L55) (b0_4:(List Int)) (b0_5:Int) (b0_6:Nat) (b1:Int) (b1_1:L48) (b1_2:BA) (b1_3:Int) (b1_4:BA) (b1_5:Int) (b2:LB) (b3:(List (BA×BA))) (b4:L45):=lS Tryz.prog lv X0 80 106 (qnb (cdF Tryz.f80) 20) qif qid (((),(),l,t73,t74,t75),((b0,b0_1,b0_2,b0_3,b0_4,b0_5,(),b0_6,()),(b1,b1_1,b1_2,b1_3,b1_4,b1_5),b2,b3,b4))
abbrev z2b (t73:L118) (t75:Int):=(C.str (q1gu (List.getD (List.getD (EC.encL qau t73) (Int.toNat t75) []) 0 C.ne)))
def qig (l:Nat) (t73:L118) (t74 t75:Int) (b0:BA) (b0_1:L118) (b0_2:BA) (b0_3:L55) (b0_4:(List Int)) (b0_5:Int) (b0_6:Nat) (b1:Int) (b1_1:L48) (b1_2:BA) (b1_3:Int) (b1_4:BA) (b1_5:Int) (b2:LB) (b3:(List (BA×BA))) (b4:L45):Oq ((Unit×Unit×Nat×L118×Int×Int×Bool)×((BA×L118×BA×L55×(List Int)×Int×Unit×Nat×Unit)×(Int×L48×BA×Int×BA×Int)×LB×(List (BA×BA))×L45)) :=
 (brE (decide (t75<t74))
 (gdE (p0 t75)<|
 (gdE (eC qau t73 t75 [K1.str,(K1.int Go.IntKind.i64)])<|
 (gdE ((((aL [[(z2b t73 t75)]] 1)&&(aL (EC.encL qb5 b2) 1))&&(dQ (l+(List.length [[(z2b t73 t75)]])) 16))&&(decide ((l+(List.length [[(z2b t73 t75)]]))≤9223372036854775807)))<|
 (gL qau t73<|
 (gL qau b0_1<|
 (gL qb2 b0_3<|
 (gL qb0 b0_4<|
 (gL qaz b1_1<|
 (gdE (EC.isL qb5 ((EC.encL qb5 b2)++[[(z2b t73 t75)]]))<|
 (gL qay b4<|
 (qia (l+(List.length [[(z2b t73 t75)]])) (dL qau t73) t74 (wI t75) b0 (dL qau b0_1) b0_2 (dL qb2 b0_3) (dL qb0 b0_4) b0_5 b0_6 b1 (dL qaz b1_1) b1_2 b1_3 b1_4 b1_5 (EC.decL qb5 ((EC.encL qb5 b2)++[[(z2b t73 t75)]])) b3 (dL qay b4))))))))))))
 (gL qau t73<|
 (gL qau b0_1<|
 (gL qb2 b0_3<|
 (gL qb0 b0_4<|
 (gL qaz b1_1<|
 (gL qb5 b2<|
 (gL qay b4<|
 (some (((),((),(l,((dL qau t73),(t74,(t75,false)))))),((b0,((dL qau b0_1),(b0_2,((dL qb2 b0_3),((dL qb0 b0_4),(b0_5,((),(b0_6,())))))))),((b1,((dL qaz b1_1),(b1_2,(b1_3,(b1_4,b1_5))))),((dL qb5 b2),(b3,(dL qay b4)))))))))))))))
theorem qic {l t73 t74 t75 b0 b0_1 b0_2 b0_3 b0_4 b0_5 b0_6 b1 b1_1 b1_2 b1_3 b1_4 b1_5 b2 b3 b4 r} (h:qig l t73 t74 t75 b0 b0_1 b0_2 b0_3 b0_4 b0_5 b0_6 b1 b1_1 b1_2 b1_3 b1_4 b1_5 b2 b3 b4=some r):qia l t73 t74 t75 b0 b0_1 b0_2 b0_3 b0_4 b0_5 b0_6 b1 b1_1 b1_2 b1_3 b1_4 b1_5 b2 b3 b4=some r :=
 qrh (es:=q1jp) (hs:=qph) [] (by kernel_rfl) trivial trivial (by kernel_rfl) h
def qib:=qs5 Tryz.prog lv X0 20 (qnb (cdF Tryz.f80) 20) qif qid (fun x=>qia x.1.2.2.1 x.1.2.2.2.1 x.1.2.2.2.2.1 x.1.2.2.2.2.2 x.2.1.1 x.2.1.2.1 x.2.1.2.2.1 x.2.1.2.2.2.1 x.2.1.2.2.2.2.1 x.2.1.2.2.2.2.2.1 x.2.1.2.2.2.2.2.2.2.1 x.2.2.1.1 x.2.2.1.2.1 x.2.2.1.2.2.1 x.2.2.1.2.2.2.1 x.2.2.1.2.2.2.2.1 x.2.2.1.2.2.2.2.2 x.2.2.2.1 x.2.2.2.2.1 x.2.2.2.2.2) (fun _ _ h=>qrg h)
abbrev z2c (t_1:L48):=(List.getD (EC.encL qaz t_1) (Int.toNat 0) [])
def qis (t:Int) (t_1:L48) (t_2:BA) (t_3:Int) (t_4:BA) (t_5:Int) (b0:BA) (b0_1:L118) (b0_2:BA) (b0_3:L55) (b0_4:(List Int)) (b0_5:Int) (b0_6:Nat) (b1:(List (BA×BA))) (b2:L45):Oq (Bool×(Bool×((BA×L118×BA×L55×(List Int)×Int×Unit×Nat×Unit)×(List (BA×BA))×L45))) :=
 (brE (t==2)
 (gdE (eC qaz t_1 0 [(K1.int Go.IntKind.i64),K1.sl,K1.str,(K1.int Go.IntKind.i64),K1.str,(K1.int Go.IntKind.i64)])<|
 (gdE (EC.isL qaz (slOf (List.getD (z2c t_1) 1 C.ne)))<|
 (gL qau b0_1<|
 (gL qb2 b0_3<|
 (gL qb0 b0_4<|
 (gL qay b2<|
 ((qi7 (qqd (List.getD (z2c t_1) 0 C.ne)) (uL qaz (List.getD (z2c t_1) 1 C.ne)) (q1gu (List.getD (z2c t_1) 2 C.ne)) (qqd (List.getD (z2c t_1) 3 C.ne)) (q1gu (List.getD (z2c t_1) 4 C.ne)) (qqd (List.getD (z2c t_1) 5 C.ne)) b0 (dL qau b0_1) b0_2 (dL qb2 b0_3) (dL qb0 b0_4) b0_5 b0_6 b1 (dL qay b2)).bind fun r0 =>
 (gL qau r0.2.2.1.2.1<|
 (gL qb2 r0.2.2.1.2.2.2.1<|
 (gL qb0 r0.2.2.1.2.2.2.2.1<|
 (gL qay r0.2.2.2.2<|
 (some ((!r0.1),((!r0.1),((r0.2.2.1.1,((dL qau r0.2.2.1.2.1),(r0.2.2.1.2.2.1,((dL qb2 r0.2.2.1.2.2.2.1),((dL qb0 r0.2.2.1.2.2.2.2.1),(r0.2.2.1.2.2.2.2.2.1,((),(r0.2.2.1.2.2.2.2.2.2.2.1,())))))))),(r0.2.2.2.1,(dL qay r0.2.2.2.2)))))))))))))))))
 (brE (t==3)
 (gL qaz t_1<|
 (gL qau b0_1<|
 (gL qb2 b0_3<|
 (gL qb0 b0_4<|
 (gL qaz t_1<|
 (gL qay b2<|
 ((qih (dL qaz t_1) (lN qaz t_1:Int) 0 b0 (dL qau b0_1) b0_2 (dL qb2 b0_3) (dL qb0 b0_4) b0_5 b0_6 t (dL qaz t_1) t_2 t_3 t_4 t_5 b1 (dL qay b2)).bind fun r0 =>
 (Sum.elim (fun r1=>(gdE (EC.isL qau (EC.encL qau r1.2.1.2.1))<|
 (gL qb2 r1.2.1.2.2.2.1<|
 (gL qb0 r1.2.1.2.2.2.2.1<|
 (gL qay r1.2.2.2<|
 (some (r1.1,(r1.1,((r1.2.1.1,((dL qau r1.2.1.2.1),(r1.2.1.2.2.1,((dL qb2 r1.2.1.2.2.2.1),((dL qb0 r1.2.1.2.2.2.2.1),(r1.2.1.2.2.2.2.2.1,((),(r1.2.1.2.2.2.2.2.2.2.1,())))))))),(r1.2.2.1,(dL qay r1.2.2.2)))))))))))
 (fun r1=>(gdE (EC.isL qau (EC.encL qau r1.2.1.2.1))<|
 (gL qb2 r1.2.1.2.2.2.1<|
 (gL qb0 r1.2.1.2.2.2.2.1<|
 (gL qay r1.2.2.2.2<|
 (some ((r1.2.2.1.1==3),((r1.2.2.1.1==3),((r1.2.1.1,((dL qau r1.2.1.2.1),(r1.2.1.2.2.1,((dL qb2 r1.2.1.2.2.2.1),((dL qb0 r1.2.1.2.2.2.2.1),(r1.2.1.2.2.2.2.2.1,((),(r1.2.1.2.2.2.2.2.2.2.1,())))))))),(r1.2.2.2.1,(dL qay r1.2.2.2.2))))))))))) r0))))))))
 (brE (t==4)
 (gL qaz t_1<|
 (gL qau b0_1<|
 (gL qb2 b0_3<|
 (gL qb0 b0_4<|
 (gL qaz t_1<|
 (gL qay b2<|
 ((qih (dL qaz t_1) (lN qaz t_1:Int) 0 b0 (dL qau b0_1) b0_2 (dL qb2 b0_3) (dL qb0 b0_4) b0_5 b0_6 t (dL qaz t_1) t_2 t_3 t_4 t_5 b1 (dL qay b2)).bind fun r0 =>
 (Sum.elim (fun r1=>(gdE (EC.isL qau (EC.encL qau r1.2.1.2.1))<|
 (gL qb2 r1.2.1.2.2.2.1<|
 (gL qb0 r1.2.1.2.2.2.2.1<|
 (gL qay r1.2.2.2<|
 (some (r1.1,(r1.1,((r1.2.1.1,((dL qau r1.2.1.2.1),(r1.2.1.2.2.1,((dL qb2 r1.2.1.2.2.2.1),((dL qb0 r1.2.1.2.2.2.2.1),(r1.2.1.2.2.2.2.2.1,((),(r1.2.1.2.2.2.2.2.2.2.1,())))))))),(r1.2.2.1,(dL qay r1.2.2.2)))))))))))
 (fun r1=>(gdE (EC.isL qau (EC.encL qau r1.2.1.2.1))<|
 (gL qb2 r1.2.1.2.2.2.1<|
 (gL qb0 r1.2.1.2.2.2.2.1<|
 (gL qay r1.2.2.2.2<|
 (some ((r1.2.2.1.1==3),((r1.2.2.1.1==3),((r1.2.1.1,((dL qau r1.2.1.2.1),(r1.2.1.2.2.1,((dL qb2 r1.2.1.2.2.2.1),((dL qb0 r1.2.1.2.2.2.2.1),(r1.2.1.2.2.2.2.2.1,((),(r1.2.1.2.2.2.2.2.2.2.1,())))))))),(r1.2.2.2.1,(dL qay r1.2.2.2.2))))))))))) r0))))))))
 (brE (t==5)
 (gL qau b0_1<|
 (gL qb2 b0_3<|
 (gL qb0 b0_4<|
 (gL qay b2<|
 ((qg6 t_2 b0 (dL qau b0_1) b0_2 (dL qb2 b0_3) (dL qb0 b0_4) b0_5 b0_6 b1 (dL qay b2)).bind fun r0 =>
 (gL qaz t_1<|
 (gL qau r0.2.2.2.1.2.1<|
 (gL qb2 r0.2.2.2.1.2.2.2.1<|
 (gL qb0 r0.2.2.2.1.2.2.2.2.1<|
 (gL qb5 r0.2.2.1<|
 (gL qay r0.2.2.2.2.2<|
 ((qgz t (dL qaz t_1) t_2 t_3 t_4 t_5 r0.1 r0.2.2.2.1.1 (dL qau r0.2.2.2.1.2.1) r0.2.2.2.1.2.2.1 (dL qb2 r0.2.2.2.1.2.2.2.1) (dL qb0 r0.2.2.2.1.2.2.2.2.1) r0.2.2.2.1.2.2.2.2.2.1 r0.2.2.2.1.2.2.2.2.2.2.2.1 (dL qb5 r0.2.2.1) r0.2.2.2.2.1 (dL qay r0.2.2.2.2.2)).bind fun r1 =>
 (gL qau r1.2.2.1.2.1<|
 (gL qb2 r1.2.2.1.2.2.2.1<|
 (gL qb0 r1.2.2.1.2.2.2.2.1<|
 (gL qay r1.2.2.2.2<|
 (some (r1.1,(r1.1,((r1.2.2.1.1,((dL qau r1.2.2.1.2.1),(r1.2.2.1.2.2.1,((dL qb2 r1.2.2.1.2.2.2.1),((dL qb0 r1.2.2.1.2.2.2.2.1),(r1.2.2.1.2.2.2.2.2.1,((),(r1.2.2.1.2.2.2.2.2.2.2.1,())))))))),(r1.2.2.2.1,(dL qay r1.2.2.2.2))))))))))))))))))))))
 (brE (t==6)
 (gL qaz t_1<|
 (gL qau b0_1<|
 (gL qb2 b0_3<|
 (gL qb0 b0_4<|
 (gL qay b2<|
 ((qgz t (dL qaz t_1) t_2 t_3 t_4 t_5 1 b0 (dL qau b0_1) b0_2 (dL qb2 b0_3) (dL qb0 b0_4) b0_5 b0_6 (EC.decL qb5 [[(C.str b0)]]) b1 (dL qay b2)).bind fun r0 =>
 (gL qau r0.2.2.1.2.1<|
 (gL qb2 r0.2.2.1.2.2.2.1<|
 (gL qb0 r0.2.2.1.2.2.2.2.1<|
 (gL qay r0.2.2.2.2<|
 (some (r0.1,(r0.1,((r0.2.2.1.1,((dL qau r0.2.2.1.2.1),(r0.2.2.1.2.2.1,((dL qb2 r0.2.2.1.2.2.2.1),((dL qb0 r0.2.2.1.2.2.2.2.1),(r0.2.2.1.2.2.2.2.2.1,((),(r0.2.2.1.2.2.2.2.2.2.2.1,())))))))),(r0.2.2.2.1,(dL qay r0.2.2.2.2))))))))))))))))
 (brE (t==7)
 (gL qau b0_1<|
 (gL qau b0_1<|
 (gL qb2 b0_3<|
 (gL qb0 b0_4<|
 (gL qaz t_1<|
 (gL qay b2<|
 ((qia 0 (dL qau b0_1) (lN qau b0_1:Int) 0 b0 (dL qau b0_1) b0_2 (dL qb2 b0_3) (dL qb0 b0_4) b0_5 b0_6 t (dL qaz t_1) t_2 t_3 t_4 t_5 (EC.decL qb5 []) b1 (dL qay b2)).bind fun r0 =>
 (gL qaz r0.2.2.1.2.1<|
 (gL qau r0.2.1.2.1<|
 (gL qb2 r0.2.1.2.2.2.1<|
 (gL qb0 r0.2.1.2.2.2.2.1<|
 (gL qb5 r0.2.2.2.1<|
 (gL qay r0.2.2.2.2.2<|
 ((qgz r0.2.2.1.1 (dL qaz r0.2.2.1.2.1) r0.2.2.1.2.2.1 r0.2.2.1.2.2.2.1 r0.2.2.1.2.2.2.2.1 r0.2.2.1.2.2.2.2.2 r0.1.2.2.1 r0.2.1.1 (dL qau r0.2.1.2.1) r0.2.1.2.2.1 (dL qb2 r0.2.1.2.2.2.1) (dL qb0 r0.2.1.2.2.2.2.1) r0.2.1.2.2.2.2.2.1 r0.2.1.2.2.2.2.2.2.2.1 (dL qb5 r0.2.2.2.1) r0.2.2.2.2.1 (dL qay r0.2.2.2.2.2)).bind fun r1 =>
 (gL qau r1.2.2.1.2.1<|
 (gL qb2 r1.2.2.1.2.2.2.1<|
 (gL qb0 r1.2.2.1.2.2.2.2.1<|
 (gL qay r1.2.2.2.2<|
 (some (r1.1,(r1.1,((r1.2.2.1.1,((dL qau r1.2.2.1.2.1),(r1.2.2.1.2.2.1,((dL qb2 r1.2.2.1.2.2.2.1),((dL qb0 r1.2.2.1.2.2.2.2.1),(r1.2.2.1.2.2.2.2.2.1,((),(r1.2.2.1.2.2.2.2.2.2.2.1,())))))))),(r1.2.2.2.1,(dL qay r1.2.2.2.2))))))))))))))))))))))))
 (brE (t==8)
 (gL qau b0_1<|
 (gL qb2 b0_3<|
 (gL qb0 b0_4<|
 (gL qay b2<|
 (some ((decide (b0_5>t_5)),((decide (b0_5>t_5)),((b0,((dL qau b0_1),(b0_2,((dL qb2 b0_3),((dL qb0 b0_4),(b0_5,((),(b0_6,())))))))),(b1,(dL qay b2))))))))))
 (brE (t==9)
 (gL qau b0_1<|
 (gL qb2 b0_3<|
 (gL qb0 b0_4<|
 (gL qay b2<|
 ((qg6 t_2 b0 (dL qau b0_1) b0_2 (dL qb2 b0_3) (dL qb0 b0_4) b0_5 b0_6 b1 (dL qay b2)).bind fun r0 =>
 (gL qau r0.2.2.2.1.2.1<|
 (gL qb2 r0.2.2.2.1.2.2.2.1<|
 (gL qb0 r0.2.2.2.1.2.2.2.2.1<|
 (gL qay r0.2.2.2.2.2<|
 (some ((decide (((r0.1:Nat):Int)>0)),((decide (((r0.1:Nat):Int)>0)),((r0.2.2.2.1.1,((dL qau r0.2.2.2.1.2.1),(r0.2.2.2.1.2.2.1,((dL qb2 r0.2.2.2.1.2.2.2.1),((dL qb0 r0.2.2.2.1.2.2.2.2.1),(r0.2.2.2.1.2.2.2.2.2.1,((),(r0.2.2.2.1.2.2.2.2.2.2.2.1,())))))))),(r0.2.2.2.2.1,(dL qay r0.2.2.2.2.2)))))))))))))))
 (gL qau b0_1<|
 (gL qb2 b0_3<|
 (gL qb0 b0_4<|
 (gL qay b2<|
 (some (true,(true,((b0,((dL qau b0_1),(b0_2,((dL qb2 b0_3),((dL qb0 b0_4),(b0_5,((),(b0_6,())))))))),(b1,(dL qay b2))))))))))))))))))
theorem qi9 {t t_1 t_2 t_3 t_4 t_5 b0 b0_1 b0_2 b0_3 b0_4 b0_5 b0_6 b1 b2 r} (h:qis t t_1 t_2 t_3 t_4 t_5 b0 b0_1 b0_2 b0_3 b0_4 b0_5 b0_6 b1 b2=some r):qi7 t t_1 t_2 t_3 t_4 t_5 b0 b0_1 b0_2 b0_3 b0_4 b0_5 b0_6 b1 b2=some r :=
 qnn (fn:=Tryz.f80) (es:=q1jp) (hs:=qph) [qii,qib] (by kernel_rfl) rfl (by kernel_rfl) ⟨⟨_,rfl,rfl⟩,⟨_,rfl,rfl⟩,trivial⟩ trivial (by kernel_rfl) h
def qex:=sLS [0] (qrf (vAgg (qrd z4k (qrd (vC cBool) (qrf (vC cStr)))))) qre [] [] (by decide) (fun _=>rfl)
def qew:SC (Unit×Unit):=sLS [] qre qre [] [] (by decide) (fun _=>rfl)
def qev:HC (Unit×(Unit×Unit)):=hPair (vTup qre) qew
def qes (t0:Int) (t0_1:Bool) (t0_2:BA):=hS Tryz.prog lv X0 38 qex qev ((t0,t0_1,t0_2),())
def qey (t0:Int) (t0_1:Bool) (t0_2:BA):Oq (Unit×(Unit×Unit)) :=
 (some ((),((),())))
theorem qeu {t0 t0_1 t0_2 r} (h:qey t0 t0_1 t0_2=some r):qes t0 t0_1 t0_2=some r :=
 qnn (fn:=Tryz.f38) (es:=q1jp) (hs:=qph) [] (by kernel_rfl) rfl (by kernel_rfl) trivial trivial (by kernel_rfl) h
def qet:=hentS Tryz.prog lv X0 38 [0,7,3,1,1,1,2,1,3] qex qev (fun x=>qes x.1.1 x.1.2.1 x.1.2.2) (fun _ _ h=>qnm h)
def qpb:=qet::qph
def qfe:=sLS [0,2,12,13,14] (qrd (vPtr 0 0) (qrd z4k (qrd (vC (cSl qb1)) z4p))) z4h [false,false,false] [0,1] (by decide) (fun _=>rfl)
def qfd:=sLS [0,2,12,13,14,15] (qrd (vPtr 0 0) (qrd z4k (qrd (vC (cSl qb1)) z4n))) z4h [false,false,false] [0,1] (by decide) (fun _=>rfl)
def qfc:=sLS [6] (qrf (vC cBool)) z4h [false,false,false] [0,1] (by decide) (fun _=>rfl)
def qfb:=oOr 1 qfc (oAt 2 qfd) (fun x=>(by decide:(2:Nat)≠1))
def qf8 (number:Int) (t12:L50) (t13 t14:Int) (b0:BA) (b0_1:L118) (b0_2:BA) (b0_3:L55) (b0_4:(List Int)) (b0_5:Int) (b0_6:Nat) (b1:(List (BA×BA))) (b2:L45):=lS Tryz.prog lv X0 61 122 (qnb (cdF Tryz.f61) 2) qfe qfb (((),number,t12,t13,t14),((b0,b0_1,b0_2,b0_3,b0_4,b0_5,(),b0_6,()),b1,b2))
abbrev z2d (t12:L50) (t14:Int):=(List.getD (EC.encL qb1 t12) (Int.toNat t14) [])
abbrev z2e (t12:L50) (t14:Int):=(C.int Go.IntKind.i64 (qqd (List.getD (z2d t12 t14) 12 C.ne)))
abbrev z2f (t12:L50) (t14:Int):=(C.int Go.IntKind.i64 (qqd (List.getD (z2d t12 t14) 9 C.ne)))
abbrev z2g (t12:L50) (t14:Int):=(List.getD (z2d t12 t14) 7 C.ne)
abbrev z2h (t12:L50) (t14:Int):=(List.getD (z2d t12 t14) 8 C.ne)
def qff (number:Int) (t12:L50) (t13 t14:Int) (b0:BA) (b0_1:L118) (b0_2:BA) (b0_3:L55) (b0_4:(List Int)) (b0_5:Int) (b0_6:Nat) (b1:(List (BA×BA))) (b2:L45):Oq ((Bool×((BA×L118×BA×L55×(List Int)×Int×Unit×Nat×Unit)×(List (BA×BA))×L45))⊕((Unit×Int×L50×Int×Int×Bool)×((BA×L118×BA×L55×(List Int)×Int×Unit×Nat×Unit)×(List (BA×BA))×L45))) :=
 (brE (decide (t14<t13))
 (gdE (p0 t14)<|
 (gdE (eC qb1 t12 t14 [(K1.int Go.IntKind.i64),(K1.int Go.IntKind.i64),K1.sl,K1.str,(K1.int Go.IntKind.i64),K1.str,(K1.int Go.IntKind.i64),K1.sl,K1.sl,(K1.int Go.IntKind.i64),K1.str,K1.str,(K1.int Go.IntKind.i64)])<|
 (brE ((qqd (List.getD (z2d t12 t14) 0 C.ne))==1)
 (gdE (EC.isL qaz (slOf (List.getD (z2d t12 t14) 2 C.ne)))<|
 (gL qau b0_1<|
 (gL qb2 b0_3<|
 (gL qb0 b0_4<|
 (gL qay b2<|
 ((qi7 (qqd (List.getD (z2d t12 t14) 1 C.ne)) (uL qaz (List.getD (z2d t12 t14) 2 C.ne)) (q1gu (List.getD (z2d t12 t14) 3 C.ne)) (qqd (List.getD (z2d t12 t14) 4 C.ne)) (q1gu (List.getD (z2d t12 t14) 5 C.ne)) (qqd (List.getD (z2d t12 t14) 6 C.ne)) b0 (dL qau b0_1) b0_2 (dL qb2 b0_3) (dL qb0 b0_4) b0_5 b0_6 b1 (dL qay b2)).bind fun r0 =>
 ((qes number r0.1 ⟨#[]⟩).bind fun r1 =>
 (brE (!r0.1)
 (gdE (EC.isL qb1 (slOf (z2g t12 t14)))<|
 ((q1bm (uL qb1 (z2g t12 t14))).bind fun r2 =>
 (gdE (EC.isL qb1 (slOf (z2h t12 t14)))<|
 (gL qau r0.2.2.1.2.1<|
 (gL qb2 r0.2.2.1.2.2.2.1<|
 (gL qb0 r0.2.2.1.2.2.2.2.1<|
 (gL qay r0.2.2.2.2<|
 ((qf5 (uL qb1 (z2h t12 t14)) (IntKind.wrap .i64 ((wI number)+r2)) r0.2.2.1.1 (dL qau r0.2.2.1.2.1) r0.2.2.1.2.2.1 (dL qb2 r0.2.2.1.2.2.2.1) (dL qb0 r0.2.2.1.2.2.2.2.1) r0.2.2.1.2.2.2.2.2.1 r0.2.2.1.2.2.2.2.2.2.2.1 r0.2.2.2.1 (dL qay r0.2.2.2.2)).bind fun r3 =>
 (brE (!r3.1)
 (gL qau r3.2.2.1.2.1<|
 (gL qb2 r3.2.2.1.2.2.2.1<|
 (gL qb0 r3.2.2.1.2.2.2.2.1<|
 (gL qay r3.2.2.2.2<|
 (some (.inl (false,((r3.2.2.1.1,((dL qau r3.2.2.1.2.1),(r3.2.2.1.2.2.1,((dL qb2 r3.2.2.1.2.2.2.1),((dL qb0 r3.2.2.1.2.2.2.2.1),(r3.2.2.1.2.2.2.2.2.1,((),(r3.2.2.1.2.2.2.2.2.2.2.1,())))))))),(r3.2.2.2.1,(dL qay r3.2.2.2.2))))))))))
 (gdE (EC.isL qb1 (slOf (z2g t12 t14)))<|
 ((q1bm (uL qb1 (z2g t12 t14))).bind fun r4 =>
 (gdE (EC.isL qb1 (slOf (z2h t12 t14)))<|
 ((q1bm (uL qb1 (z2h t12 t14))).bind fun r5 =>
 (gL qb1 t12<|
 (gL qau r3.2.2.1.2.1<|
 (gL qb2 r3.2.2.1.2.2.2.1<|
 (gL qb0 r3.2.2.1.2.2.2.2.1<|
 (gL qay r3.2.2.2.2<|
 (qf8 (IntKind.wrap .i64 (number+(IntKind.wrap .i64 ((IntKind.wrap .i64 (1+r4))+r5)))) (dL qb1 t12) t13 (wI t14) r3.2.2.1.1 (dL qau r3.2.2.1.2.1) r3.2.2.1.2.2.1 (dL qb2 r3.2.2.1.2.2.2.1) (dL qb0 r3.2.2.1.2.2.2.2.1) r3.2.2.1.2.2.2.2.2.1 r3.2.2.1.2.2.2.2.2.2.2.1 r3.2.2.2.1 (dL qay r3.2.2.2.2))))))))))))))))))))
 (gdE (EC.isL qb1 (slOf (z2g t12 t14)))<|
 (gL qau r0.2.2.1.2.1<|
 (gL qb2 r0.2.2.1.2.2.2.1<|
 (gL qb0 r0.2.2.1.2.2.2.2.1<|
 (gL qay r0.2.2.2.2<|
 ((qf5 (uL qb1 (z2g t12 t14)) (wI number) r0.2.2.1.1 (dL qau r0.2.2.1.2.1) r0.2.2.1.2.2.1 (dL qb2 r0.2.2.1.2.2.2.1) (dL qb0 r0.2.2.1.2.2.2.2.1) r0.2.2.1.2.2.2.2.2.1 r0.2.2.1.2.2.2.2.2.2.2.1 r0.2.2.2.1 (dL qay r0.2.2.2.2)).bind fun r2 =>
 (brE (!r2.1)
 (gL qau r2.2.2.1.2.1<|
 (gL qb2 r2.2.2.1.2.2.2.1<|
 (gL qb0 r2.2.2.1.2.2.2.2.1<|
 (gL qay r2.2.2.2.2<|
 (some (.inl (false,((r2.2.2.1.1,((dL qau r2.2.2.1.2.1),(r2.2.2.1.2.2.1,((dL qb2 r2.2.2.1.2.2.2.1),((dL qb0 r2.2.2.1.2.2.2.2.1),(r2.2.2.1.2.2.2.2.2.1,((),(r2.2.2.1.2.2.2.2.2.2.2.1,())))))))),(r2.2.2.2.1,(dL qay r2.2.2.2.2))))))))))
 (gdE (EC.isL qb1 (slOf (z2g t12 t14)))<|
 ((q1bm (uL qb1 (z2g t12 t14))).bind fun r3 =>
 (gdE (EC.isL qb1 (slOf (z2h t12 t14)))<|
 ((q1bm (uL qb1 (z2h t12 t14))).bind fun r4 =>
 (gL qb1 t12<|
 (gL qau r2.2.2.1.2.1<|
 (gL qb2 r2.2.2.1.2.2.2.1<|
 (gL qb0 r2.2.2.1.2.2.2.2.1<|
 (gL qay r2.2.2.2.2<|
 (qf8 (IntKind.wrap .i64 (number+(IntKind.wrap .i64 ((IntKind.wrap .i64 (1+r3))+r4)))) (dL qb1 t12) t13 (wI t14) r2.2.2.1.1 (dL qau r2.2.2.1.2.1) r2.2.2.1.2.2.1 (dL qb2 r2.2.2.1.2.2.2.1) (dL qb0 r2.2.2.1.2.2.2.2.1) r2.2.2.1.2.2.2.2.2.1 r2.2.2.1.2.2.2.2.2.2.2.1 r2.2.2.2.1 (dL qay r2.2.2.2.2))))))))))))))))))))))))))
 (brE ((qqd (List.getD (z2d t12 t14) 0 C.ne))==2)
 ((expP b1 (q1gu (List.getD (z2d t12 t14) 11 C.ne))).bind fun r0 =>
 (gdE ((((aL [[(z2f t12 t14),(C.str r0),(z2e t12 t14)]] 3)&&(aL (EC.encL qay b2) 3))&&(dQ (b0_6+(List.length [[(z2f t12 t14),(C.str r0),(z2e t12 t14)]])) 32))&&(decide ((b0_6+(List.length [[(z2f t12 t14),(C.str r0),(z2e t12 t14)]]))≤9223372036854775807)))<|
 ((qes number false r0).bind fun r1 =>
 (gdE (EC.isL qb1 (slOf (z2g t12 t14)))<|
 ((q1bm (uL qb1 (z2g t12 t14))).bind fun r2 =>
 (gdE (EC.isL qb1 (slOf (z2h t12 t14)))<|
 ((q1bm (uL qb1 (z2h t12 t14))).bind fun r3 =>
 (gL qb1 t12<|
 (gL qau b0_1<|
 (gL qb2 b0_3<|
 (gL qb0 b0_4<|
 (gdE (EC.isL qay ((EC.encL qay b2)++[[(z2f t12 t14),(C.str r0),(z2e t12 t14)]]))<|
 (qf8 (IntKind.wrap .i64 (number+(IntKind.wrap .i64 ((IntKind.wrap .i64 (1+r2))+r3)))) (dL qb1 t12) t13 (wI t14) b0 (dL qau b0_1) b0_2 (dL qb2 b0_3) (dL qb0 b0_4) b0_5 (b0_6+(List.length [[(z2f t12 t14),(C.str r0),(z2e t12 t14)]])) b1 (EC.decL qay ((EC.encL qay b2)++[[(z2f t12 t14),(C.str r0),(z2e t12 t14)]])))))))))))))))
 (brE ((qqd (List.getD (z2d t12 t14) 0 C.ne))==3)
 ((expP b1 (q1gu (List.getD (z2d t12 t14) 11 C.ne))).bind fun r0 =>
 (gdE (((decide ((ByteArray.size (q1gu (List.getD (z2d t12 t14) 10 C.ne)))≤Go.maxLen))&&(decide (r0.size≤Go.maxLen)))&&(decide ((List.length b1)<Go.maxLen)))<|
 ((qes number false r0).bind fun r1 =>
 (gdE (EC.isL qb1 (slOf (z2g t12 t14)))<|
 ((q1bm (uL qb1 (z2g t12 t14))).bind fun r2 =>
 (gdE (EC.isL qb1 (slOf (z2h t12 t14)))<|
 ((q1bm (uL qb1 (z2h t12 t14))).bind fun r3 =>
 (gL qb1 t12<|
 (gL qau b0_1<|
 (gL qb2 b0_3<|
 (gL qb0 b0_4<|
 (gL qay b2<|
 (qf8 (IntKind.wrap .i64 (number+(IntKind.wrap .i64 ((IntKind.wrap .i64 (1+r2))+r3)))) (dL qb1 t12) t13 (wI t14) b0 (dL qau b0_1) b0_2 (dL qb2 b0_3) (dL qb0 b0_4) b0_5 b0_6 (putM b1 (q1gu (List.getD (z2d t12 t14) 10 C.ne)) r0) (dL qay b2))))))))))))))
 ((qes number false ⟨#[]⟩).bind fun r0 =>
 (gL qau b0_1<|
 (gL qb2 b0_3<|
 (gL qb0 b0_4<|
 (gL qay b2<|
 (some (.inl (false,((b0,((dL qau b0_1),(b0_2,((dL qb2 b0_3),((dL qb0 b0_4),(b0_5,((),(b0_6,())))))))),(b1,(dL qay b2))))))))))))))))
 (gL qb1 t12<|
 (gL qau b0_1<|
 (gL qb2 b0_3<|
 (gL qb0 b0_4<|
 (gL qay b2<|
 (some (.inr (((),(number,((dL qb1 t12),(t13,(t14,false))))),((b0,((dL qau b0_1),(b0_2,((dL qb2 b0_3),((dL qb0 b0_4),(b0_5,((),(b0_6,())))))))),(b1,(dL qay b2))))))))))))
theorem qfa {number t12 t13 t14 b0 b0_1 b0_2 b0_3 b0_4 b0_5 b0_6 b1 b2 r} (h:qff number t12 t13 t14 b0 b0_1 b0_2 b0_3 b0_4 b0_5 b0_6 b1 b2=some r):qf8 number t12 t13 t14 b0 b0_1 b0_2 b0_3 b0_4 b0_5 b0_6 b1 b2=some r :=
 qrh (es:=q1jp) (hs:=qpb) [] (by kernel_rfl) trivial trivial (by kernel_rfl) h
def qf9:=qs5 Tryz.prog lv X0 2 (qnb (cdF Tryz.f61) 2) qfe qfb (fun x=>qf8 x.1.2.1 x.1.2.2.1 x.1.2.2.2.1 x.1.2.2.2.2 x.2.1.1 x.2.1.2.1 x.2.1.2.2.1 x.2.1.2.2.2.1 x.2.1.2.2.2.2.1 x.2.1.2.2.2.2.2.1 x.2.1.2.2.2.2.2.2.2.1 x.2.2.1 x.2.2.2) (fun _ _ h=>qrg h)
def qfj (s:L50) (number:Int) (b0:BA) (b0_1:L118) (b0_2:BA) (b0_3:L55) (b0_4:(List Int)) (b0_5:Int) (b0_6:Nat) (b1:(List (BA×BA))) (b2:L45):Oq (Bool×(Bool×((BA×L118×BA×L55×(List Int)×Int×Unit×Nat×Unit)×(List (BA×BA))×L45))) :=
 (gL qb1 s<|
 (gL qau b0_1<|
 (gL qb2 b0_3<|
 (gL qb0 b0_4<|
 (gL qay b2<|
 ((qf8 number (dL qb1 s) (lN qb1 s:Int) 0 b0 (dL qau b0_1) b0_2 (dL qb2 b0_3) (dL qb0 b0_4) b0_5 b0_6 b1 (dL qay b2)).bind fun r0 =>
 (Sum.elim (fun r1=>(gdE (EC.isL qau (EC.encL qau r1.2.1.2.1))<|
 (gL qb2 r1.2.1.2.2.2.1<|
 (gL qb0 r1.2.1.2.2.2.2.1<|
 (gL qay r1.2.2.2<|
 (some (r1.1,(r1.1,((r1.2.1.1,((dL qau r1.2.1.2.1),(r1.2.1.2.2.1,((dL qb2 r1.2.1.2.2.2.1),((dL qb0 r1.2.1.2.2.2.2.1),(r1.2.1.2.2.2.2.2.1,((),(r1.2.1.2.2.2.2.2.2.2.1,())))))))),(r1.2.2.1,(dL qay r1.2.2.2)))))))))))
 (fun r1=>(gdE (EC.isL qau (EC.encL qau r1.2.1.2.1))<|
 (gL qb2 r1.2.1.2.2.2.1<|
 (gL qb0 r1.2.1.2.2.2.2.1<|
 (gL qay r1.2.2.2<|
 (some (true,(true,((r1.2.1.1,((dL qau r1.2.1.2.1),(r1.2.1.2.2.1,((dL qb2 r1.2.1.2.2.2.1),((dL qb0 r1.2.1.2.2.2.2.1),(r1.2.1.2.2.2.2.2.1,((),(r1.2.1.2.2.2.2.2.2.2.1,())))))))),(r1.2.2.1,(dL qay r1.2.2.2))))))))))) r0)))))))
theorem qf7 {s number b0 b0_1 b0_2 b0_3 b0_4 b0_5 b0_6 b1 b2 r} (h:qfj s number b0 b0_1 b0_2 b0_3 b0_4 b0_5 b0_6 b1 b2=some r):qf5 s number b0 b0_1 b0_2 b0_3 b0_4 b0_5 b0_6 b1 b2=some r :=
 qnn (fn:=Tryz.f61) (es:=q1jp) (hs:=qpb) [qf9] (by kernel_rfl) rfl (by kernel_rfl) ⟨⟨_,rfl,rfl⟩,trivial⟩ trivial (by kernel_rfl) h
def qek (s:L50) (m_:BA) (m__1:L118) (m__2:BA) (m__3:L55) (m__4:(List Int)):Oq ((Nat×(Int×Int))×((Nat×(Int×Int))×L45)) :=
 (gL qb1 s<|
 ((q1cf (dL qb1 s)).bind fun r0 =>
 ((q5v r0.1 r0.2).bind fun r1 =>
 (brE r1
 (some ((0,(r0.1,r0.2)),((0,(r0.1,r0.2)),(EC.decL qay []))))
 (gL qau m__1<|
 ((qdf m_ (dL qau m__1) m__2).bind fun r2 =>
 ((q5v r2.1 r2.2).bind fun r3 =>
 (brE r3
 ((q61 r2.1 (-3)).bind fun r4 =>
 (some ((0,(r4.1,r4.2)),((0,(r4.1,r4.2)),(EC.decL qay [])))))
 (gL qb2 m__3<|
 (gL qb0 m__4<|
 ((qtn (dL qb2 m__3) (dL qb0 m__4)).bind fun r4 =>
 ((q5v r4.1.2.1 r4.1.2.2).bind fun r5 =>
 (brE r5
 ((q61 r4.1.2.1 (-2)).bind fun r6 =>
 (some ((0,(r6.1,r6.2)),((0,(r6.1,r6.2)),(EC.decL qay [])))))
 (gL qb1 s<|
 (gL qau m__1<|
 (gL qb2 m__3<|
 (gL qb0 m__4<|
 ((qf5 (dL qb1 s) 0 m_ (dL qau m__1) m__2 (dL qb2 m__3) (dL qb0 m__4) ((r4.1.1:Nat):Int) 0 [] (EC.decL qay [])).bind fun r6 =>
 (gL qay r6.2.2.2.2<|
 ((qec (dL qay r6.2.2.2.2)).bind fun r7 =>
 (brE (!r7)
 (gdE ((((aL [[(C.int Go.IntKind.i64 1),(C.str ⟨#[]⟩),(C.int Go.IntKind.i64 0)]] 3)&&(aL (EC.encL qay r6.2.2.2.2) 3))&&(dQ (r6.2.2.1.2.2.2.2.2.2.2.1+(List.length [[(C.int Go.IntKind.i64 1),(C.str ⟨#[]⟩),(C.int Go.IntKind.i64 0)]])) 32))&&(decide ((r6.2.2.1.2.2.2.2.2.2.2.1+(List.length [[(C.int Go.IntKind.i64 1),(C.str ⟨#[]⟩),(C.int Go.IntKind.i64 0)]]))≤9223372036854775807)))<|
 (Option.bind q72 fun r8 =>
 (gdE (EC.isL qay ((EC.encL qay r6.2.2.2.2)++[[(C.int Go.IntKind.i64 1),(C.str ⟨#[]⟩),(C.int Go.IntKind.i64 0)]]))<|
 (some (((r6.2.2.1.2.2.2.2.2.2.2.1+(List.length [[(C.int Go.IntKind.i64 1),(C.str ⟨#[]⟩),(C.int Go.IntKind.i64 0)]])),(r8.1,r8.2)),(((r6.2.2.1.2.2.2.2.2.2.2.1+(List.length [[(C.int Go.IntKind.i64 1),(C.str ⟨#[]⟩),(C.int Go.IntKind.i64 0)]])),(r8.1,r8.2)),(EC.decL qay ((EC.encL qay r6.2.2.2.2)++[[(C.int Go.IntKind.i64 1),(C.str ⟨#[]⟩),(C.int Go.IntKind.i64 0)]]))))))))
 (Option.bind q72 fun r8 =>
 (gL qay r6.2.2.2.2<|
 (some ((r6.2.2.1.2.2.2.2.2.2.2.1,(r8.1,r8.2)),((r6.2.2.1.2.2.2.2.2.2.2.1,(r8.1,r8.2)),(dL qay r6.2.2.2.2)))))))))))))))))))))))))))
theorem qeg {s m_ m__1 m__2 m__3 m__4 r} (h:qek s m_ m__1 m__2 m__3 m__4=some r):qee s m_ m__1 m__2 m__3 m__4=some r :=
 qnn (fn:=Tryz.f37) (es:=q1jp) (hs:=qpb) [] (by kernel_rfl) rfl (by kernel_rfl) trivial trivial (by kernel_rfl) h
def qf0:Cod (V×List B) ((Nat×(Int×Int))×(List S45)):=(cPair (vTup (qrd (vRow 0) (qrf (vAgg z4p)))) (qrf (bRow qay)))
def qf3 (s:L50) (qsz:BA) (qt1:L118) (qt0:BA) (qt4:L55) (qt3:(List Int)):=fS Tryz.prog lv X0 14 qez qf0 (s,(qsz,qt1,qt0,qt4,qt3))
def qf4 (s:L50) (qsz:BA) (qt1:L118) (qt0:BA) (qt4:L55) (qt3:(List Int)):Oq ((Nat×(Int×Int))×L45) :=
 (gL qb1 s<|
 (gL qau qt1<|
 (gL qb2 qt4<|
 (gL qb0 qt3<|
 ((qee (dL qb1 s) qsz (dL qau qt1) qt0 (dL qb2 qt4) (dL qb0 qt3)).bind fun r0 =>
 (gL qay r0.2.2<|
 (some ((r0.1.1,(r0.1.2.1,r0.1.2.2)),(dL qay r0.2.2)))))))))
theorem qf2 {s qsz qt1 qt0 qt4 qt3 r} (h:qf4 s qsz qt1 qt0 qt4 qt3=some r):qf3 s qsz qt1 qt0 qt4 qt3=some r :=
 qjn (es:=q1jp) (hs:=qpb) [] Tryz.func14 rfl (by kernel_rfl) rfl (by kernel_rfl) (by kernel_rfl) trivial trivial (by kernel_rfl) h
def qf1:=entS Tryz.prog lv X0 14 [] qez qf0 (fun x=>qf3 x.1 x.2.1 x.2.2.1 x.2.2.2.1 x.2.2.2.2.1 x.2.2.2.2.2) (fun _ _ h=>qjm h)
def q1io:=qf1::q1jp
end
end Go.Proofs.YtokahibbkdbndaaGreatDoor
