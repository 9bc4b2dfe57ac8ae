/- Functions of the program as plain functions: made by program from the machine. -/
import Derived.Test.YtokahibbkdbndaaGreatDoorH5
namespace Go.Proofs.YtokahibbkdbndaaGreatDoor
open Go.RowKit
set_option maxRecDepth 100000
noncomputable section
structure S62 where
 Rule:Int
 Outcome:Bool
 Text:BA
abbrev L62:=List S62
def qb3:EC S62 where
 enc x:=[.int .i64 x.Rule,.bool x.Outcome,.str x.Text]
 dec c:=⟨qqd (c.getD 0 .ne),q7q (c.getD 1 .ne),q1gu (c.getD 2 .ne)⟩
 is c:=isE [.int .i64,.bool,.str] 0 c
 enc_dec h:=q9x h
 dec_enc x:=by rfl
 is_enc x:=by simp [isE,isK]
theorem enc_62 (x:S62):qb3.enc x=[.int .i64 x.Rule,.bool x.Outcome,.str x.Text]:=rfl
theorem isE_62 (xs:List S62) (n:Nat):isE [.int .i64,.bool,.str] 0 ((qb3.encL xs).getD n [])=decide (n<xs.length):=by
 by_cases h:n<xs.length
 ·simp only [EC.getD_lt _ _ h];simp [enc_62,isE,isK,h]
 ·simp only [EC.getD_ge _ _ (Nat.not_lt.1 h)];simp [isE,isK,h]
theorem q4x (xs:List S62) (n:Nat):qqd (((qb3.encL xs).getD n []).getD 0 .ne)=(xs.getD n (qb3.dec [])).Rule:=by
 by_cases h:n<xs.length
 ·simp only [EC.getD_lt _ _ h];simp [enc_62,h,qqd,List.getD_eq_getElem?_getD]
 ·simp only [EC.getD_ge _ _ (Nat.not_lt.1 h)];simp [Nat.not_lt.1 h,qb3,q1gu,qqd,q7q,List.getD_eq_getElem?_getD]
theorem q4y (xs:List S62) (n:Nat):q7q (((qb3.encL xs).getD n []).getD 1 .ne)=(xs.getD n (qb3.dec [])).Outcome:=by
 by_cases h:n<xs.length
 ·simp only [EC.getD_lt _ _ h];simp [enc_62,h,q7q,List.getD_eq_getElem?_getD]
 ·simp only [EC.getD_ge _ _ (Nat.not_lt.1 h)];simp [Nat.not_lt.1 h,qb3,q1gu,qqd,q7q,List.getD_eq_getElem?_getD]
theorem q4z (xs:List S62) (n:Nat):q1gu (((qb3.encL xs).getD n []).getD 2 .ne)=(xs.getD n (qb3.dec [])).Text:=by
 by_cases h:n<xs.length
 ·simp only [EC.getD_lt _ _ h];simp [enc_62,h,q1gu,List.getD_eq_getElem?_getD]
 ·simp only [EC.getD_ge _ _ (Nat.not_lt.1 h)];simp [Nat.not_lt.1 h,qb3,q1gu,qqd,q7q,List.getD_eq_getElem?_getD]
theorem lit_62 (a0:Int) (a1:Bool) (a2:BA):([.int .i64 a0,.bool a1,.str a2]:List C)=qb3.enc (⟨a0,a1,a2⟩:S62):=rfl
theorem apd_62 (xs:List S62) (a0:Int) (a1:Bool) (a2:BA):qb3.encL xs++[[.int .i64 a0,.bool a1,.str a2]]=qb3.encL (xs++[(⟨a0,a1,a2⟩:S62)]):=by rw [lit_62];simp [EC.encL]
theorem all_62 (xs:List S62):(qb3.encL xs).all (fun (el:List C)=>el.length==3)=true:=by induction xs with|nil=>rfl|cons x xs ih=>first|(simp [EC.encL,enc_62];done)|simpa [EC.encL,enc_62] using ih
abbrev z58:=(vAgg (qrd (vC cStr) (qrd (vC (cSl qau)) (qrd (vC cStr) (qrd (vC (cSl qb2)) (qrf (vC (cSl qb0))))))))
def qjf:=(qrd (vC (cSl qb1)) (qrf z58))
def qeq:=sLS [0,1,2] (qrd (vC (cSl qb1)) (qrd z58 (qrf (vFn 48 (qrf (vPtr 0 0)))))) (qrd (qv4 (bBox (qrf (vRow 1)))) (qrf (qv4 (bRow qb3)))) [false,false] [0] (by decide) (fun _=>rfl)
def qep:SC ((Nat×(Int×Int))×((List S45)×Nat×(List S62))):=sLS [0,1] (qrd (vRow 0) (qrf (vAgg (qrd (vC (cInt .i64)) (qrf (vC (cInt .i64))))))) (qrd (qv4 (bRow qay)) (qrd (qv4 (bBox (qrf (vRow 2)))) (qrf (qv4 (bRow qb3))))) [false,false,false] [1] (by decide) (fun _=>rfl)
def qeo:HC ((Nat×(Int×Int))×((Nat×(Int×Int))×((List S45)×Nat×(List S62)))):=hPair (vTup (qrd (vRow 0) (qrf (vAgg (qrd (vC (cInt .i64)) (qrf (vC (cInt .i64)))))))) qep
def qel (s:L50) (m_:BA) (m__1:L118) (m__2:BA) (m__3:L55) (m__4:(List Int)) (b0:Nat) (b1:L62):=hS Tryz.prog lv X0 37 qeq qeo ((s,(m_,m__1,m__2,m__3,m__4),()),(b0,b1))
def qem:=hentS Tryz.prog lv X0 37 [0,1,4,1,7,5,1,3,1,4,1,3,1,4,1,4,2,6,48,1,3,0,0,1,1,2,1,2,0] qeq qeo (fun x=>qel x.1.1 x.1.2.1.1 x.1.2.1.2.1 x.1.2.1.2.2.1 x.1.2.1.2.2.2.1 x.1.2.1.2.2.2.2 x.2.1 x.2.2) (fun _ _ h=>qnm h)
def qpa:=qem::qpb
abbrev z4z:=(qrd (qv4 (bBox (qrd (vC cStr) (qrd (vC (cSl qau)) (qrd (vC cStr) (qrd (vC (cSl qb2)) (qrd (vC (cSl qb0)) (qrd (vC (cInt .i64)) (qrd (vMp 1) (qrd (vRow 3) (qrf (vFn 48 (qrf (vPtr 2 0)))))))))))))) (qrd (qv4 bMap) (qrd (qv4 (bBox (qrf (vRow 4)))) (qrd (qv4 (bRow qay)) (qrf (qv4 (bRow qb3)))))))
abbrev z55:=(vC (cInt .i64))
def qfx:=sLS [0,1,2] (qrd (vPtr 0 0) (qrd (vC (cSl qb1)) (qrf z55))) z4z [false,false,false,false,false] [0,1,2] (by decide) (fun _=>rfl)
def qfw:SC (Bool×((BA×(List S118)×BA×(List S55)×(List Int)×Int×Unit×Nat×Unit)×(List (BA×BA))×Nat×(List S45)×(List S62))):=sLS [0] (qrf (vC cBool)) (qrd (qv4 (bBox (qrd (vC cStr) (qrd (vC (cSl qau)) (qrd (vC cStr) (qrd (vC (cSl qb2)) (qrd (vC (cSl qb0)) (qrd (vC (cInt .i64)) (qrd (vMp 1) (qrd (vRow 3) (qrf (vFn 48 (qrf (vPtr 2 0)))))))))))))) (qrd (qv4 bMap) (qrd (qv4 (bBox (qrf (vRow 4)))) (qrd (qv4 (bRow qay)) (qrf (qv4 (bRow qb3))))))) [false,false,false,false,false] [0,1,2] (by decide) (fun _=>rfl)
def qfv:HC (Bool×(Bool×((BA×(List S118)×BA×(List S55)×(List Int)×Int×Unit×Nat×Unit)×(List (BA×BA))×Nat×(List S45)×(List S62)))):=hPair (vC cBool) qfw
def qfk (s:L50) (number:Int) (b0:BA) (b0_1:L118) (b0_2:BA) (b0_3:L55) (b0_4:(List Int)) (b0_5:Int) (b0_6:Nat) (b1:(List (BA×BA))) (b2:Nat) (b3:L45) (b4:L62):=hS Tryz.prog lv X0 61 qfx qfv (((),s,number),((b0,b0_1,b0_2,b0_3,b0_4,b0_5,(),b0_6,()),b1,b2,b3,b4))
def qfl:=hentS Tryz.prog lv X0 61 [0,3,0,0,1,1,4,2,1,1,1,9,1,3,1,4,1,3,1,4,1,4,1,1,8,1,2,3,6,48,1,3,2,0,4,1,1,2,4,2,2,0,1,2] qfx qfv (fun x=>qfk x.1.2.1 x.1.2.2 x.2.1.1 x.2.1.2.1 x.2.1.2.2.1 x.2.1.2.2.2.1 x.2.1.2.2.2.2.1 x.2.1.2.2.2.2.2.1 x.2.1.2.2.2.2.2.2.2.1 x.2.2.1 x.2.2.2.1 x.2.2.2.2.1 x.2.2.2.2.2) (fun _ _ h=>qnm h)
def qpd:=qfl::qpa
abbrev z56:=(qrd z55 (qrd (vC (cSl qaz)) (qrd (vC cStr) (qrd z55 (qrd (vC cStr) (qrf z55))))))
def qi5:=sLS [0,1] (qrd (vPtr 0 0) (qrf (vAgg z56))) z4z [false,false,false,false,false] [0,1,2] (by decide) (fun _=>rfl)
def qi4:SC (Bool×((BA×(List S118)×BA×(List S55)×(List Int)×Int×Unit×Nat×Unit)×(List (BA×BA))×Nat×(List S45)×(List S62))):=sLS [0] (qrf (vC cBool)) (qrd (qv4 (bBox (qrd (vC cStr) (qrd (vC (cSl qau)) (qrd (vC cStr) (qrd (vC (cSl qb2)) (qrd (vC (cSl qb0)) (qrd (vC (cInt .i64)) (qrd (vMp 1) (qrd (vRow 3) (qrf (vFn 48 (qrf (vPtr 2 0)))))))))))))) (qrd (qv4 bMap) (qrd (qv4 (bBox (qrf (vRow 4)))) (qrd (qv4 (bRow qay)) (qrf (qv4 (bRow qb3))))))) [false,false,false,false,false] [0,1,2] (by decide) (fun _=>rfl)
def qi3:HC (Bool×(Bool×((BA×(List S118)×BA×(List S55)×(List Int)×Int×Unit×Nat×Unit)×(List (BA×BA))×Nat×(List S45)×(List S62)))):=hPair (vC cBool) qi4
def qhl (t:Int) (t_1:L48) (t_2:BA) (t_3:Int) (t_4:BA) (t_5:Int) (b0:BA) (b0_1:L118) (b0_2:BA) (b0_3:L55) (b0_4:(List Int)) (b0_5:Int) (b0_6:Nat) (b1:(List (BA×BA))) (b2:Nat) (b3:L45) (b4:L62):=hS Tryz.prog lv X0 80 qi5 qi3 (((),(t,t_1,t_2,t_3,t_4,t_5)),((b0,b0_1,b0_2,b0_3,b0_4,b0_5,(),b0_6,()),b1,b2,b3,b4))
def qhm:=hentS Tryz.prog lv X0 80 [0,3,0,0,1,7,6,1,1,1,4,1,3,1,1,1,3,1,1,1,9,1,3,1,4,1,3,1,4,1,4,1,1,8,1,2,3,6,48,1,3,2,0,4,1,1,2,4,2,2,0,1,2] qi5 qi3 (fun x=>qhl x.1.2.1 x.1.2.2.1 x.1.2.2.2.1 x.1.2.2.2.2.1 x.1.2.2.2.2.2.1 x.1.2.2.2.2.2.2 x.2.1.1 x.2.1.2.1 x.2.1.2.2.1 x.2.1.2.2.2.1 x.2.1.2.2.2.2.1 x.2.1.2.2.2.2.2.1 x.2.1.2.2.2.2.2.2.2.1 x.2.2.1 x.2.2.2.1 x.2.2.2.2.1 x.2.2.2.2.2) (fun _ _ h=>qnm h)
def qpi:=qhm::qpd
def qg4:=sLS [0,1] (qrd (vPtr 0 0) (qrf (vC cStr))) z4z [false,false,false,false,false] [0,1,2] (by decide) (fun _=>rfl)
def qg3:SC (Nat×((List BA)×(BA×(List S118)×BA×(List S55)×(List Int)×Int×Unit×Nat×Unit)×(List (BA×BA))×Nat×(List S45)×(List S62))):=sLS [0] (qrf (vRow 0)) (qrd (qv4 (bRow qb5)) (qrd (qv4 (bBox (qrd (vC cStr) (qrd (vC (cSl qau)) (qrd (vC cStr) (qrd (vC (cSl qb2)) (qrd (vC (cSl qb0)) (qrd (vC (cInt .i64)) (qrd (vMp 2) (qrd (vRow 4) (qrf (vFn 48 (qrf (vPtr 3 0)))))))))))))) (qrd (qv4 bMap) (qrd (qv4 (bBox (qrf (vRow 5)))) (qrd (qv4 (bRow qay)) (qrf (qv4 (bRow qb3)))))))) [false,false,false,false,false,false] [1,2,3] (by decide) (fun _=>rfl)
def qg2:HC (Nat×(Nat×((List BA)×(BA×(List S118)×BA×(List S55)×(List Int)×Int×Unit×Nat×Unit)×(List (BA×BA))×Nat×(List S45)×(List S62)))):=hPair (vRow 0) qg3
def qfz (name b0:BA) (b0_1:L118) (b0_2:BA) (b0_3:L55) (b0_4:(List Int)) (b0_5:Int) (b0_6:Nat) (b1:(List (BA×BA))) (b2:Nat) (b3:L45) (b4:L62):=hS Tryz.prog lv X0 104 qg4 qg2 (((),name),((b0,b0_1,b0_2,b0_3,b0_4,b0_5,(),b0_6,()),b1,b2,b3,b4))
def qg5 (name b0:BA) (b0_1:L118) (b0_2:BA) (b0_3:L55) (b0_4:(List Int)) (b0_5:Int) (b0_6:Nat) (b1:(List (BA×BA))) (b2:Nat) (b3:L45) (b4:L62):Oq (Nat×(Nat×(LB×(BA×L118×BA×L55×(List Int)×Int×Unit×Nat×Unit)×(List (BA×BA))×Nat×L45×L62))) :=
 (gL qb2 b0_3<|
 ((qoa (dL qb2 b0_3) name).bind fun r0 =>
 (gL qb5 r0.2<|
 (gL qau b0_1<|
 (gL qb2 b0_3<|
 (gL qb0 b0_4<|
 (gL qay b3<|
 (gL qb3 b4<|
 (some (r0.1.1,(r0.1.1,((dL qb5 r0.2),((b0,((dL qau b0_1),(b0_2,((dL qb2 b0_3),((dL qb0 b0_4),(b0_5,((),(b0_6,())))))))),(b1,(b2,((dL qay b3),(dL qb3 b4)))))))))))))))))
theorem qg1 {name b0 b0_1 b0_2 b0_3 b0_4 b0_5 b0_6 b1 b2 b3 b4 r} (h:qg5 name b0 b0_1 b0_2 b0_3 b0_4 b0_5 b0_6 b1 b2 b3 b4=some r):qfz name b0 b0_1 b0_2 b0_3 b0_4 b0_5 b0_6 b1 b2 b3 b4=some r :=
 qnn (fn:=Tryz.f104) (es:=q1io) (hs:=qpi) [] (by kernel_rfl) rfl (by kernel_rfl) trivial trivial (by kernel_rfl) h
def qg0:=hentS Tryz.prog lv X0 104 [0,3,0,0,1,1,3,1,9,1,3,1,4,1,3,1,4,1,4,1,1,8,1,2,3,6,48,1,3,2,0,4,1,1,2,4,2,2,0,1,2] qg4 qg2 (fun x=>qfz x.1.2 x.2.1.1 x.2.1.2.1 x.2.1.2.2.1 x.2.1.2.2.2.1 x.2.1.2.2.2.2.1 x.2.1.2.2.2.2.2.1 x.2.1.2.2.2.2.2.2.2.1 x.2.2.1 x.2.2.2.1 x.2.2.2.2.1 x.2.2.2.2.2) (fun _ _ h=>qnm h)
def qpe:=qg0::qpi
abbrev z52:=(qv4 (bBox (qrd (vC cStr) (qrd (vC (cSl qau)) (qrd (vC cStr) (qrd (vC (cSl qb2)) (qrd (vC (cSl qb0)) (qrd (vC (cInt .i64)) (qrd (vMp 2) (qrd (vRow 4) (qrf (vFn 48 (qrf (vPtr 3 0))))))))))))))
abbrev z54:=(qrd (qv4 bMap) (qrd (qv4 (bBox (qrf (vRow 5)))) (qrd (qv4 (bRow qay)) (qrf (qv4 (bRow qb3))))))
abbrev z5b:=(qrd z52 (qrd (qv4 (bRow qb5)) z54))
def qgx:=sLS [0,1,2] (qrd (vPtr 0 0) (qrd (vAgg z56) (qrf (vRow 1)))) z5b [false,false,false,false,false,false] [0,2,3] (by decide) (fun _=>rfl)
abbrev z5a:=(qrd z55 (qrf z55))
def qgt:=sLS [0,44,45,46] (qrd (vPtr 0 0) (qrd (vRow 1) z5a)) z5b [false,false,false,false,false,false] [0,2,3] (by decide) (fun _=>rfl)
abbrev z57:=(qrd z55 (qrd z55 (qrf (vC cBool))))
def qgs:=sLS [0,44,45,46,47] (qrd (vPtr 0 0) (qrd (vRow 1) z57)) z5b [false,false,false,false,false,false] [0,2,3] (by decide) (fun _=>rfl)
def qgr:=oAt 4 qgs
def qgo (t44:Nat) (t45 t46:Int) (b0:BA) (b0_1:L118) (b0_2:BA) (b0_3:L55) (b0_4:(List Int)) (b0_5:Int) (b0_6:Nat) (b1:LB) (b2:(List (BA×BA))) (b3:Nat) (b4:L45) (b5:L62):=lS Tryz.prog lv X0 103 61 (qnb (cdF Tryz.f103) 9) qgt qgr (((),t44,t45,t46),((b0,b0_1,b0_2,b0_3,b0_4,b0_5,(),b0_6,()),b1,b2,b3,b4,b5))
def qgu (t44:Nat) (t45 t46:Int) (b0:BA) (b0_1:L118) (b0_2:BA) (b0_3:L55) (b0_4:(List Int)) (b0_5:Int) (b0_6:Nat) (b1:LB) (b2:(List (BA×BA))) (b3:Nat) (b4:L45) (b5:L62):Oq ((Unit×Nat×Int×Int×Bool)×((BA×L118×BA×L55×(List Int)×Int×Unit×Nat×Unit)×LB×(List (BA×BA))×Nat×L45×L62)) :=
 (brE (decide (t46<t45))
 (gdE ((p0 t46)&&(decide (t46<((t44:Nat):Int))))<|
 (gdE ((decide ((Int.toNat t46)<(lN qb5 b1)))&&((List.length (List.getD (EC.encL qb5 b1) (Int.toNat t46) []))==1))<|
 (gdE (isP [K1.str] 0 (List.getD (EC.encL qb5 b1) (Int.toNat t46) []))<|
 ((itoaP (wI t46)).bind fun r0 =>
 (gdE (((decide (r0.size≤Go.maxLen))&&(decide ((ByteArray.size (q1gu (List.getD (List.getD (EC.encL qb5 b1) (Int.toNat t46) []) 0 C.ne)))≤Go.maxLen)))&&(decide ((List.length b2)<Go.maxLen)))<|
 (gL qau b0_1<|
 (gL qb2 b0_3<|
 (gL qb0 b0_4<|
 (gL qb5 b1<|
 (gL qay b4<|
 (gL qb3 b5<|
 (qgo t44 t45 (wI t46) b0 (dL qau b0_1) b0_2 (dL qb2 b0_3) (dL qb0 b0_4) b0_5 b0_6 (dL qb5 b1) (putM b2 r0 (q1gu (List.getD (List.getD (EC.encL qb5 b1) (Int.toNat t46) []) 0 C.ne))) b3 (dL qay b4) (dL qb3 b5)))))))))))))
 (gL qau b0_1<|
 (gL qb2 b0_3<|
 (gL qb0 b0_4<|
 (gL qb5 b1<|
 (gL qay b4<|
 (gL qb3 b5<|
 (some (((),(t44,(t45,(t46,false)))),((b0,((dL qau b0_1),(b0_2,((dL qb2 b0_3),((dL qb0 b0_4),(b0_5,((),(b0_6,())))))))),((dL qb5 b1),(b2,(b3,((dL qay b4),(dL qb3 b5)))))))))))))))
theorem qgq {t44 t45 t46 b0 b0_1 b0_2 b0_3 b0_4 b0_5 b0_6 b1 b2 b3 b4 b5 r} (h:qgu t44 t45 t46 b0 b0_1 b0_2 b0_3 b0_4 b0_5 b0_6 b1 b2 b3 b4 b5=some r):qgo t44 t45 t46 b0 b0_1 b0_2 b0_3 b0_4 b0_5 b0_6 b1 b2 b3 b4 b5=some r :=
 qrh (es:=q1io) (hs:=qpe) [] (by kernel_rfl) trivial trivial (by kernel_rfl) h
def qgp:=qs5 Tryz.prog lv X0 9 (qnb (cdF Tryz.f103) 9) qgt qgr (fun x=>qgo x.1.2.1 x.1.2.2.1 x.1.2.2.2 x.2.1.1 x.2.1.2.1 x.2.1.2.2.1 x.2.1.2.2.2.1 x.2.1.2.2.2.2.1 x.2.1.2.2.2.2.2.1 x.2.1.2.2.2.2.2.2.2.1 x.2.2.1 x.2.2.2.1 x.2.2.2.2.1 x.2.2.2.2.2.1 x.2.2.2.2.2.2) (fun _ _ h=>qrg h)
abbrev z50:=(qrd (qv4 (bBox (qrd (vC cStr) (qrd (vC (cSl qau)) (qrd (vC cStr) (qrd (vC (cSl qb2)) (qrd (vC (cSl qb0)) (qrd (vC (cInt .i64)) (qrd (vMp 3) (qrd (vRow 5) (qrf (vFn 48 (qrf (vPtr 4 0)))))))))))))) (qrd (qv4 (bBox (qrd (vC (cInt .i64)) (qrd (vC (cSl qaz)) (qrd (vC cStr) (qrd (vC (cInt .i64)) (qrd (vC cStr) (qrf (vC (cInt .i64)))))))))) (qrd (qv4 (bRow qb5)) (qrd (qv4 bMap) (qrd (qv4 (bBox (qrf (vRow 6)))) (qrd (qv4 (bRow qay)) (qrf (qv4 (bRow qb3)))))))))
def qgm:=sLS [0,4,14,15,16] (qrd (vPtr 0 0) (qrd (vPtr 1 0) (qrd (vRow 2) z5a))) z50 [false,false,false,false,false,false,false] [0,3,4] (by decide) (fun _=>rfl)
def qgl:=sLS [0,4,14,15,16,17] (qrd (vPtr 0 0) (qrd (vPtr 1 0) (qrd (vRow 2) z57))) z50 [false,false,false,false,false,false,false] [0,3,4] (by decide) (fun _=>rfl)
def qgk:=sLS [6] (qrf (vC cBool)) z4z [false,false,false,false,false] [0,1,2] (by decide) (fun _=>rfl)
def qgj:=oOr 1 qgk (oAt 2 qgl) (fun x=>(by decide:(2:Nat)≠1))
def qgg (t14:Nat) (t15 t16:Int) (b0:BA) (b0_1:L118) (b0_2:BA) (b0_3:L55) (b0_4:(List Int)) (b0_5:Int) (b0_6:Nat) (b1:Int) (b1_1:L48) (b1_2:BA) (b1_3:Int) (b1_4:BA) (b1_5:Int) (b2:LB) (b3:(List (BA×BA))) (b4:Nat) (b5:L45) (b6:L62):=lS Tryz.prog lv X0 103 61 (qnb (cdF Tryz.f103) 2) qgm qgj (((),(),t14,t15,t16),((b0,b0_1,b0_2,b0_3,b0_4,b0_5,(),b0_6,()),(b1,b1_1,b1_2,b1_3,b1_4,b1_5),b2,b3,b4,b5,b6))
def qgn (t14:Nat) (t15 t16:Int) (b0:BA) (b0_1:L118) (b0_2:BA) (b0_3:L55) (b0_4:(List Int)) (b0_5:Int) (b0_6:Nat) (b1:Int) (b1_1:L48) (b1_2:BA) (b1_3:Int) (b1_4:BA) (b1_5:Int) (b2:LB) (b3:(List (BA×BA))) (b4:Nat) (b5:L45) (b6:L62):Oq ((Bool×((BA×L118×BA×L55×(List Int)×Int×Unit×Nat×Unit)×(List (BA×BA))×Nat×L45×L62))⊕((Unit×Unit×Nat×Int×Int×Bool)×((BA×L118×BA×L55×(List Int)×Int×Unit×Nat×Unit)×(Int×L48×BA×Int×BA×Int)×LB×(List (BA×BA))×Nat×L45×L62))) :=
 (brE (decide (t16<t15))
 (gdE ((p0 t16)&&(decide (t16<((t14:Nat):Int))))<|
 (gdE ((decide ((Int.toNat t16)<(lN qb5 b2)))&&((List.length (List.getD (EC.encL qb5 b2) (Int.toNat t16) []))==1))<|
 (gdE (isP [K1.str] 0 (List.getD (EC.encL qb5 b2) (Int.toNat t16) []))<|
 ((qw2 b1_3 b1_4 (q1gu (List.getD (List.getD (EC.encL qb5 b2) (Int.toNat t16) []) 0 C.ne))).bind fun r0 =>
 ((q5v r0.1.2.2.1 r0.1.2.2.2).bind fun r1 =>
 (brE (r1==false)
 (brE (!r0.1.1)
 (gL qau b0_1<|
 (gL qb2 b0_3<|
 (gL qb0 b0_4<|
 (gL qaz b1_1<|
 (gL qb5 b2<|
 (gL qay b5<|
 (gL qb3 b6<|
 (qgg t14 t15 (wI t16) b0 (dL qau b0_1) b0_2 (dL qb2 b0_3) (dL qb0 b0_4) b0_5 b0_6 b1 (dL qaz b1_1) b1_2 b1_3 b1_4 b1_5 (dL qb5 b2) b3 b4 (dL qay b5) (dL qb3 b6)))))))))
 (brE (b1_3==3)
 ((delP b3).bind fun r2 =>
 (gL qau b0_1<|
 (gL qb2 b0_3<|
 (gL qb0 b0_4<|
 (gL qb5 r0.2<|
 (gL qay b5<|
 (gL qb3 b6<|
 ((qgo r0.1.2.1 ((r0.1.2.1:Nat):Int) 0 b0 (dL qau b0_1) b0_2 (dL qb2 b0_3) (dL qb0 b0_4) b0_5 b0_6 (dL qb5 r0.2) r2 b4 (dL qay b5) (dL qb3 b6)).bind fun r3 =>
 (gL qau r3.2.1.2.1<|
 (gL qb2 r3.2.1.2.2.2.1<|
 (gL qb0 r3.2.1.2.2.2.2.1<|
 (gL qay r3.2.2.2.2.2.1<|
 (gL qb3 r3.2.2.2.2.2.2<|
 (some (.inl (true,((r3.2.1.1,((dL qau r3.2.1.2.1),(r3.2.1.2.2.1,((dL qb2 r3.2.1.2.2.2.1),((dL qb0 r3.2.1.2.2.2.2.1),(r3.2.1.2.2.2.2.2.1,((),(r3.2.1.2.2.2.2.2.2.2.1,())))))))),(r3.2.2.2.1,(r3.2.2.2.2.1,((dL qay r3.2.2.2.2.2.1),(dL qb3 r3.2.2.2.2.2.2)))))))))))))))))))))
 (gL qau b0_1<|
 (gL qb2 b0_3<|
 (gL qb0 b0_4<|
 (gL qay b5<|
 (gL qb3 b6<|
 (some (.inl (true,((b0,((dL qau b0_1),(b0_2,((dL qb2 b0_3),((dL qb0 b0_4),(b0_5,((),(b0_6,())))))))),(b3,(b4,((dL qay b5),(dL qb3 b6)))))))))))))))
 (gL qau b0_1<|
 (gL qb2 b0_3<|
 (gL qb0 b0_4<|
 (gL qaz b1_1<|
 (gL qb5 b2<|
 (gL qay b5<|
 (gL qb3 b6<|
 (qgg t14 t15 (wI t16) b0 (dL qau b0_1) b0_2 (dL qb2 b0_3) (dL qb0 b0_4) b0_5 b0_6 b1 (dL qaz b1_1) b1_2 b1_3 b1_4 b1_5 (dL qb5 b2) b3 b4 (dL qay b5) (dL qb3 b6)))))))))))))))
 (gL qau b0_1<|
 (gL qb2 b0_3<|
 (gL qb0 b0_4<|
 (gL qaz b1_1<|
 (gL qb5 b2<|
 (gL qay b5<|
 (gL qb3 b6<|
 (some (.inr (((),((),(t14,(t15,(t16,false))))),((b0,((dL qau b0_1),(b0_2,((dL qb2 b0_3),((dL qb0 b0_4),(b0_5,((),(b0_6,())))))))),((b1,((dL qaz b1_1),(b1_2,(b1_3,(b1_4,b1_5))))),((dL qb5 b2),(b3,(b4,((dL qay b5),(dL qb3 b6))))))))))))))))))
theorem qgi {t14 t15 t16 b0 b0_1 b0_2 b0_3 b0_4 b0_5 b0_6 b1 b1_1 b1_2 b1_3 b1_4 b1_5 b2 b3 b4 b5 b6 r} (h:qgn t14 t15 t16 b0 b0_1 b0_2 b0_3 b0_4 b0_5 b0_6 b1 b1_1 b1_2 b1_3 b1_4 b1_5 b2 b3 b4 b5 b6=some r):qgg t14 t15 t16 b0 b0_1 b0_2 b0_3 b0_4 b0_5 b0_6 b1 b1_1 b1_2 b1_3 b1_4 b1_5 b2 b3 b4 b5 b6=some r :=
 qrh (es:=q1io) (hs:=qpe) [qgp] (by kernel_rfl) ⟨⟨_,rfl,rfl⟩,trivial⟩ trivial (by kernel_rfl) h
def qgh:=qs5 Tryz.prog lv X0 2 (qnb (cdF Tryz.f103) 2) qgm qgj (fun x=>qgg x.1.2.2.1 x.1.2.2.2.1 x.1.2.2.2.2 x.2.1.1 x.2.1.2.1 x.2.1.2.2.1 x.2.1.2.2.2.1 x.2.1.2.2.2.2.1 x.2.1.2.2.2.2.2.1 x.2.1.2.2.2.2.2.2.2.1 x.2.2.1.1 x.2.2.1.2.1 x.2.2.1.2.2.1 x.2.2.1.2.2.2.1 x.2.2.1.2.2.2.2.1 x.2.2.1.2.2.2.2.2 x.2.2.2.1 x.2.2.2.2.1 x.2.2.2.2.2.1 x.2.2.2.2.2.2.1 x.2.2.2.2.2.2.2) (fun _ _ h=>qrg h)
def qgw:SC (Bool×((BA×(List S118)×BA×(List S55)×(List Int)×Int×Unit×Nat×Unit)×(List (BA×BA))×Nat×(List S45)×(List S62))):=sLS [0] (qrf (vC cBool)) (qrd (qv4 (bBox (qrd (vC cStr) (qrd (vC (cSl qau)) (qrd (vC cStr) (qrd (vC (cSl qb2)) (qrd (vC (cSl qb0)) (qrd (vC (cInt .i64)) (qrd (vMp 1) (qrd (vRow 3) (qrf (vFn 48 (qrf (vPtr 2 0)))))))))))))) (qrd (qv4 bMap) (qrd (qv4 (bBox (qrf (vRow 4)))) (qrd (qv4 (bRow qay)) (qrf (qv4 (bRow qb3))))))) [false,false,false,false,false] [0,1,2] (by decide) (fun _=>rfl)
def qgv:HC (Bool×(Bool×((BA×(List S118)×BA×(List S55)×(List Int)×Int×Unit×Nat×Unit)×(List (BA×BA))×Nat×(List S45)×(List S62)))):=hPair (vC cBool) qgw
def qgd (t:Int) (t_1:L48) (t_2:BA) (t_3:Int) (t_4:BA) (t_5:Int) (l:Nat) (b0:BA) (b0_1:L118) (b0_2:BA) (b0_3:L55) (b0_4:(List Int)) (b0_5:Int) (b0_6:Nat) (b1:LB) (b2:(List (BA×BA))) (b3:Nat) (b4:L45) (b5:L62):=hS Tryz.prog lv X0 103 qgx qgv (((),(t,t_1,t_2,t_3,t_4,t_5),l),((b0,b0_1,b0_2,b0_3,b0_4,b0_5,(),b0_6,()),b1,b2,b3,b4,b5))
def qgy (t:Int) (t_1:L48) (t_2:BA) (t_3:Int) (t_4:BA) (t_5:Int) (l:Nat) (b0:BA) (b0_1:L118) (b0_2:BA) (b0_3:L55) (b0_4:(List Int)) (b0_5:Int) (b0_6:Nat) (b1:LB) (b2:(List (BA×BA))) (b3:Nat) (b4:L45) (b5:L62):Oq (Bool×(Bool×((BA×L118×BA×L55×(List Int)×Int×Unit×Nat×Unit)×(List (BA×BA))×Nat×L45×L62))) :=
 (gL qau b0_1<|
 (gL qb2 b0_3<|
 (gL qb0 b0_4<|
 (gL qaz t_1<|
 (gL qb5 b1<|
 (gL qay b4<|
 (gL qb3 b5<|
 ((qgg l ((l:Nat):Int) 0 b0 (dL qau b0_1) b0_2 (dL qb2 b0_3) (dL qb0 b0_4) b0_5 b0_6 t (dL qaz t_1) t_2 t_3 t_4 t_5 (dL qb5 b1) b2 b3 (dL qay b4) (dL qb3 b5)).bind fun r0 =>
 (Sum.elim (fun r1=>(gdE (EC.isL qau (EC.encL qau r1.2.1.2.1))<|
 (gL qb2 r1.2.1.2.2.2.1<|
 (gL qb0 r1.2.1.2.2.2.2.1<|
 (gL qay r1.2.2.2.2.1<|
 (gL qb3 r1.2.2.2.2.2<|
 (some (r1.1,(r1.1,((r1.2.1.1,((dL qau r1.2.1.2.1),(r1.2.1.2.2.1,((dL qb2 r1.2.1.2.2.2.1),((dL qb0 r1.2.1.2.2.2.2.1),(r1.2.1.2.2.2.2.2.1,((),(r1.2.1.2.2.2.2.2.2.2.1,())))))))),(r1.2.2.1,(r1.2.2.2.1,((dL qay r1.2.2.2.2.1),(dL qb3 r1.2.2.2.2.2))))))))))))))
 (fun r1=>(gdE (EC.isL qau (EC.encL qau r1.2.1.2.1))<|
 (gL qb2 r1.2.1.2.2.2.1<|
 (gL qb0 r1.2.1.2.2.2.2.1<|
 (gL qay r1.2.2.2.2.2.2.1<|
 (gL qb3 r1.2.2.2.2.2.2.2<|
 (some (false,(false,((r1.2.1.1,((dL qau r1.2.1.2.1),(r1.2.1.2.2.1,((dL qb2 r1.2.1.2.2.2.1),((dL qb0 r1.2.1.2.2.2.2.1),(r1.2.1.2.2.2.2.2.1,((),(r1.2.1.2.2.2.2.2.2.2.1,())))))))),(r1.2.2.2.2.1,(r1.2.2.2.2.2.1,((dL qay r1.2.2.2.2.2.2.1),(dL qb3 r1.2.2.2.2.2.2.2)))))))))))))) r0)))))))))
theorem qgf {t t_1 t_2 t_3 t_4 t_5 l b0 b0_1 b0_2 b0_3 b0_4 b0_5 b0_6 b1 b2 b3 b4 b5 r} (h:qgy t t_1 t_2 t_3 t_4 t_5 l b0 b0_1 b0_2 b0_3 b0_4 b0_5 b0_6 b1 b2 b3 b4 b5=some r):qgd t t_1 t_2 t_3 t_4 t_5 l b0 b0_1 b0_2 b0_3 b0_4 b0_5 b0_6 b1 b2 b3 b4 b5=some r :=
 qnn (fn:=Tryz.f103) (es:=q1io) (hs:=qpe) [qgh] (by kernel_rfl) rfl (by kernel_rfl) ⟨⟨_,rfl,rfl⟩,trivial⟩ trivial (by kernel_rfl) h
def qge:=hentS Tryz.prog lv X0 103 [0,3,0,0,1,7,6,1,1,1,4,1,3,1,1,1,3,1,1,2,2,1,1,9,1,3,1,4,1,3,1,4,1,4,1,1,8,2,2,4,6,48,1,3,3,0,2,4,1,1,2,5,2,2,0,2,3] qgx qgv (fun x=>qgd x.1.2.1.1 x.1.2.1.2.1 x.1.2.1.2.2.1 x.1.2.1.2.2.2.1 x.1.2.1.2.2.2.2.1 x.1.2.1.2.2.2.2.2 x.1.2.2 x.2.1.1 x.2.1.2.1 x.2.1.2.2.1 x.2.1.2.2.2.1 x.2.1.2.2.2.2.1 x.2.1.2.2.2.2.2.1 x.2.1.2.2.2.2.2.2.2.1 x.2.2.1 x.2.2.2.1 x.2.2.2.2.1 x.2.2.2.2.2.1 x.2.2.2.2.2.2) (fun _ _ h=>qnm h)
def qpg:=qge::qpe
def qi1:=sLS [0,3,25,26,27] (qrd (vPtr 0 0) (qrd (vPtr 1 0) (qrd (vC (cSl qaz)) z5a))) (qrd z52 (qrd (qv4 (bBox z56)) z54)) [false,false,false,false,false,false] [0,2,3] (by decide) (fun _=>rfl)
def qi0:=sLS [0,3,25,26,27,28] (qrd (vPtr 0 0) (qrd (vPtr 1 0) (qrd (vC (cSl qaz)) z57))) (qrd z52 (qrd (qv4 (bBox z56)) z54)) [false,false,false,false,false,false] [0,2,3] (by decide) (fun _=>rfl)
def qhz:=sLS [4] (qrf (vC cBool)) z4z [false,false,false,false,false] [0,1,2] (by decide) (fun _=>rfl)
def qhy:=oOr 1 qhz (oAt 3 qi0) (fun x=>(by decide:(3:Nat)≠1))
def qhv (t25:L48) (t26 t27:Int) (b0:BA) (b0_1:L118) (b0_2:BA) (b0_3:L55) (b0_4:(List Int)) (b0_5:Int) (b0_6:Nat) (b1:Int) (b1_1:L48) (b1_2:BA) (b1_3:Int) (b1_4:BA) (b1_5:Int) (b2:(List (BA×BA))) (b3:Nat) (b4:L45) (b5:L62):=lS Tryz.prog lv X0 80 106 (qnb (cdF Tryz.f80) 7) qi1 qhy (((),(),t25,t26,t27),((b0,b0_1,b0_2,b0_3,b0_4,b0_5,(),b0_6,()),(b1,b1_1,b1_2,b1_3,b1_4,b1_5),b2,b3,b4,b5))
abbrev z2i (t25:L48) (t27:Int):=(List.getD (EC.encL qaz t25) (Int.toNat t27) [])
def qi2 (t25:L48) (t26 t27:Int) (b0:BA) (b0_1:L118) (b0_2:BA) (b0_3:L55) (b0_4:(List Int)) (b0_5:Int) (b0_6:Nat) (b1:Int) (b1_1:L48) (b1_2:BA) (b1_3:Int) (b1_4:BA) (b1_5:Int) (b2:(List (BA×BA))) (b3:Nat) (b4:L45) (b5:L62):Oq ((Bool×((BA×L118×BA×L55×(List Int)×Int×Unit×Nat×Unit)×(List (BA×BA))×Nat×L45×L62))⊕((Unit×Unit×L48×Int×Int×Bool)×((BA×L118×BA×L55×(List Int)×Int×Unit×Nat×Unit)×(Int×L48×BA×Int×BA×Int)×(List (BA×BA))×Nat×L45×L62))) :=
 (brE (decide (t27<t26))
 (gdE (p0 t27)<|
 (gdE (eC qaz t25 t27 [(K1.int Go.IntKind.i64),K1.sl,K1.str,(K1.int Go.IntKind.i64),K1.str,(K1.int Go.IntKind.i64)])<|
 (gdE (EC.isL qaz (slOf (List.getD (z2i t25 t27) 1 C.ne)))<|
 (gL qau b0_1<|
 (gL qb2 b0_3<|
 (gL qb0 b0_4<|
 (gL qay b4<|
 (gL qb3 b5<|
 ((qhl (qqd (List.getD (z2i t25 t27) 0 C.ne)) (uL qaz (List.getD (z2i t25 t27) 1 C.ne)) (q1gu (List.getD (z2i t25 t27) 2 C.ne)) (qqd (List.getD (z2i t25 t27) 3 C.ne)) (q1gu (List.getD (z2i t25 t27) 4 C.ne)) (qqd (List.getD (z2i t25 t27) 5 C.ne)) b0 (dL qau b0_1) b0_2 (dL qb2 b0_3) (dL qb0 b0_4) b0_5 b0_6 b2 b3 (dL qay b4) (dL qb3 b5)).bind fun r0 =>
 (brE (r0.1==(b1==4))
 (gL qau r0.2.2.1.2.1<|
 (gL qb2 r0.2.2.1.2.2.2.1<|
 (gL qb0 r0.2.2.1.2.2.2.2.1<|
 (gL qay r0.2.2.2.2.2.1<|
 (gL qb3 r0.2.2.2.2.2.2<|
 (some (.inl ((b1==4),((r0.2.2.1.1,((dL qau r0.2.2.1.2.1),(r0.2.2.1.2.2.1,((dL qb2 r0.2.2.1.2.2.2.1),((dL qb0 r0.2.2.1.2.2.2.2.1),(r0.2.2.1.2.2.2.2.2.1,((),(r0.2.2.1.2.2.2.2.2.2.2.1,())))))))),(r0.2.2.2.1,(r0.2.2.2.2.1,((dL qay r0.2.2.2.2.2.1),(dL qb3 r0.2.2.2.2.2.2)))))))))))))
 (gL qaz t25<|
 (gL qau r0.2.2.1.2.1<|
 (gL qb2 r0.2.2.1.2.2.2.1<|
 (gL qb0 r0.2.2.1.2.2.2.2.1<|
 (gL qaz b1_1<|
 (gL qay r0.2.2.2.2.2.1<|
 (gL qb3 r0.2.2.2.2.2.2<|
 (qhv (dL qaz t25) t26 (wI t27) r0.2.2.1.1 (dL qau r0.2.2.1.2.1) r0.2.2.1.2.2.1 (dL qb2 r0.2.2.1.2.2.2.1) (dL qb0 r0.2.2.1.2.2.2.2.1) r0.2.2.1.2.2.2.2.2.1 r0.2.2.1.2.2.2.2.2.2.2.1 b1 (dL qaz b1_1) b1_2 b1_3 b1_4 b1_5 r0.2.2.2.1 r0.2.2.2.2.1 (dL qay r0.2.2.2.2.2.1) (dL qb3 r0.2.2.2.2.2.2)))))))))))))))))))
 (gL qaz t25<|
 (gL qau b0_1<|
 (gL qb2 b0_3<|
 (gL qb0 b0_4<|
 (gL qaz b1_1<|
 (gL qay b4<|
 (gL qb3 b5<|
 (some (.inr (((),((),((dL qaz t25),(t26,(t27,false))))),((b0,((dL qau b0_1),(b0_2,((dL qb2 b0_3),((dL qb0 b0_4),(b0_5,((),(b0_6,())))))))),((b1,((dL qaz b1_1),(b1_2,(b1_3,(b1_4,b1_5))))),(b2,(b3,((dL qay b4),(dL qb3 b5)))))))))))))))))
theorem qhx {t25 t26 t27 b0 b0_1 b0_2 b0_3 b0_4 b0_5 b0_6 b1 b1_1 b1_2 b1_3 b1_4 b1_5 b2 b3 b4 b5 r} (h:qi2 t25 t26 t27 b0 b0_1 b0_2 b0_3 b0_4 b0_5 b0_6 b1 b1_1 b1_2 b1_3 b1_4 b1_5 b2 b3 b4 b5=some r):qhv t25 t26 t27 b0 b0_1 b0_2 b0_3 b0_4 b0_5 b0_6 b1 b1_1 b1_2 b1_3 b1_4 b1_5 b2 b3 b4 b5=some r :=
 qrh (es:=q1io) (hs:=qpg) [] (by kernel_rfl) trivial trivial (by kernel_rfl) h
def qhw:=qs5 Tryz.prog lv X0 7 (qnb (cdF Tryz.f80) 7) qi1 qhy (fun x=>qhv x.1.2.2.1 x.1.2.2.2.1 x.1.2.2.2.2 x.2.1.1 x.2.1.2.1 x.2.1.2.2.1 x.2.1.2.2.2.1 x.2.1.2.2.2.2.1 x.2.1.2.2.2.2.2.1 x.2.1.2.2.2.2.2.2.2.1 x.2.2.1.1 x.2.2.1.2.1 x.2.2.1.2.2.1 x.2.2.1.2.2.2.1 x.2.2.1.2.2.2.2.1 x.2.2.1.2.2.2.2.2 x.2.2.2.1 x.2.2.2.2.1 x.2.2.2.2.2.1 x.2.2.2.2.2.2) (fun _ _ h=>qrg h)
def qht:=sLS [0,3,7,73,74,75] (qrd (vPtr 0 0) (qrd (vPtr 1 0) (qrd (vRow 2) (qrd (vC (cSl qau)) z5a)))) z50 [false,false,false,false,false,false,false] [0,3,4] (by decide) (fun _=>rfl)
def qhs:=sLS [0,3,7,73,74,75,76] (qrd (vPtr 0 0) (qrd (vPtr 1 0) (qrd (vRow 2) (qrd (vC (cSl qau)) z57)))) z50 [false,false,false,false,false,false,false] [0,3,4] (by decide) (fun _=>rfl)
def qhr:=oAt 5 qhs
def qho (l:Nat) (t73:L118) (t74 t75:Int) (b0:BA) (b0_1:L118) (b0_2:BA) (b0_3:L55) (b0_4:(List Int)) (b0_5:Int) (b0_6:Nat) (b1:Int) (b1_1:L48) (b1_2:BA) (b1_3:Int) (b1_4:BA) (b1_5:Int) (b2:LB) (b3:(List (BA×BA))) (b4:Nat) (b5:L45) (b6:L62):=lS Tryz.prog lv X0 80 106 (qnb (cdF Tryz.f80) 20) qht qhr (((),(),l,t73,t74,t75),((b0,b0_1,b0_2,b0_3,b0_4,b0_5,(),b0_6,()),(b1,b1_1,b1_2,b1_3,b1_4,b1_5),b2,b3,b4,b5,b6))
abbrev z2j (t73:L118) (t75:Int):=(C.str (q1gu (List.getD (List.getD (EC.encL qau t73) (Int.toNat t75) []) 0 C.ne)))
def qhu (l:Nat) (t73:L118) (t74 t75:Int) (b0:BA) (b0_1:L118) (b0_2:BA) (b0_3:L55) (b0_4:(List Int)) (b0_5:Int) (b0_6:Nat) (b1:Int) (b1_1:L48) (b1_2:BA) (b1_3:Int) (b1_4:BA) (b1_5:Int) (b2:LB) (b3:(List (BA×BA))) (b4:Nat) (b5:L45) (b6:L62):Oq ((Unit×Unit×Nat×L118×Int×Int×Bool)×((BA×L118×BA×L55×(List Int)×Int×Unit×Nat×Unit)×(Int×L48×BA×Int×BA×Int)×LB×(List (BA×BA))×Nat×L45×L62)) :=
 (brE (decide (t75<t74))
 (gdE (p0 t75)<|
 (gdE (eC qau t73 t75 [K1.str,(K1.int Go.IntKind.i64)])<|
 (gdE ((((aL [[(z2j t73 t75)]] 1)&&(aL (EC.encL qb5 b2) 1))&&(dQ (l+(List.length [[(z2j t73 t75)]])) 16))&&(decide ((l+(List.length [[(z2j t73 t75)]]))≤9223372036854775807)))<|
 (gL qau t73<|
 (gL qau b0_1<|
 (gL qb2 b0_3<|
 (gL qb0 b0_4<|
 (gL qaz b1_1<|
 (gdE (EC.isL qb5 ((EC.encL qb5 b2)++[[(z2j t73 t75)]]))<|
 (gL qay b5<|
 (gL qb3 b6<|
 (qho (l+(List.length [[(z2j t73 t75)]])) (dL qau t73) t74 (wI t75) b0 (dL qau b0_1) b0_2 (dL qb2 b0_3) (dL qb0 b0_4) b0_5 b0_6 b1 (dL qaz b1_1) b1_2 b1_3 b1_4 b1_5 (EC.decL qb5 ((EC.encL qb5 b2)++[[(z2j t73 t75)]])) b3 b4 (dL qay b5) (dL qb3 b6)))))))))))))
 (gL qau t73<|
 (gL qau b0_1<|
 (gL qb2 b0_3<|
 (gL qb0 b0_4<|
 (gL qaz b1_1<|
 (gL qb5 b2<|
 (gL qay b5<|
 (gL qb3 b6<|
 (some (((),((),(l,((dL qau t73),(t74,(t75,false)))))),((b0,((dL qau b0_1),(b0_2,((dL qb2 b0_3),((dL qb0 b0_4),(b0_5,((),(b0_6,())))))))),((b1,((dL qaz b1_1),(b1_2,(b1_3,(b1_4,b1_5))))),((dL qb5 b2),(b3,(b4,((dL qay b5),(dL qb3 b6))))))))))))))))))
theorem qhq {l t73 t74 t75 b0 b0_1 b0_2 b0_3 b0_4 b0_5 b0_6 b1 b1_1 b1_2 b1_3 b1_4 b1_5 b2 b3 b4 b5 b6 r} (h:qhu l t73 t74 t75 b0 b0_1 b0_2 b0_3 b0_4 b0_5 b0_6 b1 b1_1 b1_2 b1_3 b1_4 b1_5 b2 b3 b4 b5 b6=some r):qho l t73 t74 t75 b0 b0_1 b0_2 b0_3 b0_4 b0_5 b0_6 b1 b1_1 b1_2 b1_3 b1_4 b1_5 b2 b3 b4 b5 b6=some r :=
 qrh (es:=q1io) (hs:=qpg) [] (by kernel_rfl) trivial trivial (by kernel_rfl) h
def qhp:=qs5 Tryz.prog lv X0 20 (qnb (cdF Tryz.f80) 20) qht qhr (fun x=>qho x.1.2.2.1 x.1.2.2.2.1 x.1.2.2.2.2.1 x.1.2.2.2.2.2 x.2.1.1 x.2.1.2.1 x.2.1.2.2.1 x.2.1.2.2.2.1 x.2.1.2.2.2.2.1 x.2.1.2.2.2.2.2.1 x.2.1.2.2.2.2.2.2.2.1 x.2.2.1.1 x.2.2.1.2.1 x.2.2.1.2.2.1 x.2.2.1.2.2.2.1 x.2.2.1.2.2.2.2.1 x.2.2.1.2.2.2.2.2 x.2.2.2.1 x.2.2.2.2.1 x.2.2.2.2.2.1 x.2.2.2.2.2.2.1 x.2.2.2.2.2.2.2) (fun _ _ h=>qrg h)
abbrev z2k (t_1:L48):=(List.getD (EC.encL qaz t_1) (Int.toNat 0) [])
def qi6 (t:Int) (t_1:L48) (t_2:BA) (t_3:Int) (t_4:BA) (t_5:Int) (b0:BA) (b0_1:L118) (b0_2:BA) (b0_3:L55) (b0_4:(List Int)) (b0_5:Int) (b0_6:Nat) (b1:(List (BA×BA))) (b2:Nat) (b3:L45) (b4:L62):Oq (Bool×(Bool×((BA×L118×BA×L55×(List Int)×Int×Unit×Nat×Unit)×(List (BA×BA))×Nat×L45×L62))) :=
 (brE (t==2)
 (gdE (eC qaz t_1 0 [(K1.int Go.IntKind.i64),K1.sl,K1.str,(K1.int Go.IntKind.i64),K1.str,(K1.int Go.IntKind.i64)])<|
 (gdE (EC.isL qaz (slOf (List.getD (z2k t_1) 1 C.ne)))<|
 (gL qau b0_1<|
 (gL qb2 b0_3<|
 (gL qb0 b0_4<|
 (gL qay b3<|
 (gL qb3 b4<|
 ((qhl (qqd (List.getD (z2k t_1) 0 C.ne)) (uL qaz (List.getD (z2k t_1) 1 C.ne)) (q1gu (List.getD (z2k t_1) 2 C.ne)) (qqd (List.getD (z2k t_1) 3 C.ne)) (q1gu (List.getD (z2k t_1) 4 C.ne)) (qqd (List.getD (z2k t_1) 5 C.ne)) b0 (dL qau b0_1) b0_2 (dL qb2 b0_3) (dL qb0 b0_4) b0_5 b0_6 b1 b2 (dL qay b3) (dL qb3 b4)).bind fun r0 =>
 (gL qau r0.2.2.1.2.1<|
 (gL qb2 r0.2.2.1.2.2.2.1<|
 (gL qb0 r0.2.2.1.2.2.2.2.1<|
 (gL qay r0.2.2.2.2.2.1<|
 (gL qb3 r0.2.2.2.2.2.2<|
 (some ((!r0.1),((!r0.1),((r0.2.2.1.1,((dL qau r0.2.2.1.2.1),(r0.2.2.1.2.2.1,((dL qb2 r0.2.2.1.2.2.2.1),((dL qb0 r0.2.2.1.2.2.2.2.1),(r0.2.2.1.2.2.2.2.2.1,((),(r0.2.2.1.2.2.2.2.2.2.2.1,())))))))),(r0.2.2.2.1,(r0.2.2.2.2.1,((dL qay r0.2.2.2.2.2.1),(dL qb3 r0.2.2.2.2.2.2)))))))))))))))))))))
 (brE (t==3)
 (gL qaz t_1<|
 (gL qau b0_1<|
 (gL qb2 b0_3<|
 (gL qb0 b0_4<|
 (gL qaz t_1<|
 (gL qay b3<|
 (gL qb3 b4<|
 ((qhv (dL qaz t_1) (lN qaz t_1:Int) 0 b0 (dL qau b0_1) b0_2 (dL qb2 b0_3) (dL qb0 b0_4) b0_5 b0_6 t (dL qaz t_1) t_2 t_3 t_4 t_5 b1 b2 (dL qay b3) (dL qb3 b4)).bind fun r0 =>
 (Sum.elim (fun r1=>(gdE (EC.isL qau (EC.encL qau r1.2.1.2.1))<|
 (gL qb2 r1.2.1.2.2.2.1<|
 (gL qb0 r1.2.1.2.2.2.2.1<|
 (gL qay r1.2.2.2.2.1<|
 (gL qb3 r1.2.2.2.2.2<|
 (some (r1.1,(r1.1,((r1.2.1.1,((dL qau r1.2.1.2.1),(r1.2.1.2.2.1,((dL qb2 r1.2.1.2.2.2.1),((dL qb0 r1.2.1.2.2.2.2.1),(r1.2.1.2.2.2.2.2.1,((),(r1.2.1.2.2.2.2.2.2.2.1,())))))))),(r1.2.2.1,(r1.2.2.2.1,((dL qay r1.2.2.2.2.1),(dL qb3 r1.2.2.2.2.2))))))))))))))
 (fun r1=>(gdE (EC.isL qau (EC.encL qau r1.2.1.2.1))<|
 (gL qb2 r1.2.1.2.2.2.1<|
 (gL qb0 r1.2.1.2.2.2.2.1<|
 (gL qay r1.2.2.2.2.2.1<|
 (gL qb3 r1.2.2.2.2.2.2<|
 (some ((r1.2.2.1.1==3),((r1.2.2.1.1==3),((r1.2.1.1,((dL qau r1.2.1.2.1),(r1.2.1.2.2.1,((dL qb2 r1.2.1.2.2.2.1),((dL qb0 r1.2.1.2.2.2.2.1),(r1.2.1.2.2.2.2.2.1,((),(r1.2.1.2.2.2.2.2.2.2.1,())))))))),(r1.2.2.2.1,(r1.2.2.2.2.1,((dL qay r1.2.2.2.2.2.1),(dL qb3 r1.2.2.2.2.2.2)))))))))))))) r0)))))))))
 (brE (t==4)
 (gL qaz t_1<|
 (gL qau b0_1<|
 (gL qb2 b0_3<|
 (gL qb0 b0_4<|
 (gL qaz t_1<|
 (gL qay b3<|
 (gL qb3 b4<|
 ((qhv (dL qaz t_1) (lN qaz t_1:Int) 0 b0 (dL qau b0_1) b0_2 (dL qb2 b0_3) (dL qb0 b0_4) b0_5 b0_6 t (dL qaz t_1) t_2 t_3 t_4 t_5 b1 b2 (dL qay b3) (dL qb3 b4)).bind fun r0 =>
 (Sum.elim (fun r1=>(gdE (EC.isL qau (EC.encL qau r1.2.1.2.1))<|
 (gL qb2 r1.2.1.2.2.2.1<|
 (gL qb0 r1.2.1.2.2.2.2.1<|
 (gL qay r1.2.2.2.2.1<|
 (gL qb3 r1.2.2.2.2.2<|
 (some (r1.1,(r1.1,((r1.2.1.1,((dL qau r1.2.1.2.1),(r1.2.1.2.2.1,((dL qb2 r1.2.1.2.2.2.1),((dL qb0 r1.2.1.2.2.2.2.1),(r1.2.1.2.2.2.2.2.1,((),(r1.2.1.2.2.2.2.2.2.2.1,())))))))),(r1.2.2.1,(r1.2.2.2.1,((dL qay r1.2.2.2.2.1),(dL qb3 r1.2.2.2.2.2))))))))))))))
 (fun r1=>(gdE (EC.isL qau (EC.encL qau r1.2.1.2.1))<|
 (gL qb2 r1.2.1.2.2.2.1<|
 (gL qb0 r1.2.1.2.2.2.2.1<|
 (gL qay r1.2.2.2.2.2.1<|
 (gL qb3 r1.2.2.2.2.2.2<|
 (some ((r1.2.2.1.1==3),((r1.2.2.1.1==3),((r1.2.1.1,((dL qau r1.2.1.2.1),(r1.2.1.2.2.1,((dL qb2 r1.2.1.2.2.2.1),((dL qb0 r1.2.1.2.2.2.2.1),(r1.2.1.2.2.2.2.2.1,((),(r1.2.1.2.2.2.2.2.2.2.1,())))))))),(r1.2.2.2.1,(r1.2.2.2.2.1,((dL qay r1.2.2.2.2.2.1),(dL qb3 r1.2.2.2.2.2.2)))))))))))))) r0)))))))))
 (brE (t==5)
 (gL qau b0_1<|
 (gL qb2 b0_3<|
 (gL qb0 b0_4<|
 (gL qay b3<|
 (gL qb3 b4<|
 ((qfz t_2 b0 (dL qau b0_1) b0_2 (dL qb2 b0_3) (dL qb0 b0_4) b0_5 b0_6 b1 b2 (dL qay b3) (dL qb3 b4)).bind fun r0 =>
 (gL qaz t_1<|
 (gL qau r0.2.2.2.1.2.1<|
 (gL qb2 r0.2.2.2.1.2.2.2.1<|
 (gL qb0 r0.2.2.2.1.2.2.2.2.1<|
 (gL qb5 r0.2.2.1<|
 (gL qay r0.2.2.2.2.2.2.1<|
 (gL qb3 r0.2.2.2.2.2.2.2<|
 ((qgd t (dL qaz t_1) t_2 t_3 t_4 t_5 r0.1 r0.2.2.2.1.1 (dL qau r0.2.2.2.1.2.1) r0.2.2.2.1.2.2.1 (dL qb2 r0.2.2.2.1.2.2.2.1) (dL qb0 r0.2.2.2.1.2.2.2.2.1) r0.2.2.2.1.2.2.2.2.2.1 r0.2.2.2.1.2.2.2.2.2.2.2.1 (dL qb5 r0.2.2.1) r0.2.2.2.2.1 r0.2.2.2.2.2.1 (dL qay r0.2.2.2.2.2.2.1) (dL qb3 r0.2.2.2.2.2.2.2)).bind fun r1 =>
 (gL qau r1.2.2.1.2.1<|
 (gL qb2 r1.2.2.1.2.2.2.1<|
 (gL qb0 r1.2.2.1.2.2.2.2.1<|
 (gL qay r1.2.2.2.2.2.1<|
 (gL qb3 r1.2.2.2.2.2.2<|
 (some (r1.1,(r1.1,((r1.2.2.1.1,((dL qau r1.2.2.1.2.1),(r1.2.2.1.2.2.1,((dL qb2 r1.2.2.1.2.2.2.1),((dL qb0 r1.2.2.1.2.2.2.2.1),(r1.2.2.1.2.2.2.2.2.1,((),(r1.2.2.1.2.2.2.2.2.2.2.1,())))))))),(r1.2.2.2.1,(r1.2.2.2.2.1,((dL qay r1.2.2.2.2.2.1),(dL qb3 r1.2.2.2.2.2.2)))))))))))))))))))))))))))
 (brE (t==6)
 (gL qaz t_1<|
 (gL qau b0_1<|
 (gL qb2 b0_3<|
 (gL qb0 b0_4<|
 (gL qay b3<|
 (gL qb3 b4<|
 ((qgd t (dL qaz t_1) t_2 t_3 t_4 t_5 1 b0 (dL qau b0_1) b0_2 (dL qb2 b0_3) (dL qb0 b0_4) b0_5 b0_6 (EC.decL qb5 [[(C.str b0)]]) b1 b2 (dL qay b3) (dL qb3 b4)).bind fun r0 =>
 (gL qau r0.2.2.1.2.1<|
 (gL qb2 r0.2.2.1.2.2.2.1<|
 (gL qb0 r0.2.2.1.2.2.2.2.1<|
 (gL qay r0.2.2.2.2.2.1<|
 (gL qb3 r0.2.2.2.2.2.2<|
 (some (r0.1,(r0.1,((r0.2.2.1.1,((dL qau r0.2.2.1.2.1),(r0.2.2.1.2.2.1,((dL qb2 r0.2.2.1.2.2.2.1),((dL qb0 r0.2.2.1.2.2.2.2.1),(r0.2.2.1.2.2.2.2.2.1,((),(r0.2.2.1.2.2.2.2.2.2.2.1,())))))))),(r0.2.2.2.1,(r0.2.2.2.2.1,((dL qay r0.2.2.2.2.2.1),(dL qb3 r0.2.2.2.2.2.2))))))))))))))))))))
 (brE (t==7)
 (gL qau b0_1<|
 (gL qau b0_1<|
 (gL qb2 b0_3<|
 (gL qb0 b0_4<|
 (gL qaz t_1<|
 (gL qay b3<|
 (gL qb3 b4<|
 ((qho 0 (dL qau b0_1) (lN qau b0_1:Int) 0 b0 (dL qau b0_1) b0_2 (dL qb2 b0_3) (dL qb0 b0_4) b0_5 b0_6 t (dL qaz t_1) t_2 t_3 t_4 t_5 (EC.decL qb5 []) b1 b2 (dL qay b3) (dL qb3 b4)).bind fun r0 =>
 (gL qaz r0.2.2.1.2.1<|
 (gL qau r0.2.1.2.1<|
 (gL qb2 r0.2.1.2.2.2.1<|
 (gL qb0 r0.2.1.2.2.2.2.1<|
 (gL qb5 r0.2.2.2.1<|
 (gL qay r0.2.2.2.2.2.2.1<|
 (gL qb3 r0.2.2.2.2.2.2.2<|
 ((qgd r0.2.2.1.1 (dL qaz r0.2.2.1.2.1) r0.2.2.1.2.2.1 r0.2.2.1.2.2.2.1 r0.2.2.1.2.2.2.2.1 r0.2.2.1.2.2.2.2.2 r0.1.2.2.1 r0.2.1.1 (dL qau r0.2.1.2.1) r0.2.1.2.2.1 (dL qb2 r0.2.1.2.2.2.1) (dL qb0 r0.2.1.2.2.2.2.1) r0.2.1.2.2.2.2.2.1 r0.2.1.2.2.2.2.2.2.2.1 (dL qb5 r0.2.2.2.1) r0.2.2.2.2.1 r0.2.2.2.2.2.1 (dL qay r0.2.2.2.2.2.2.1) (dL qb3 r0.2.2.2.2.2.2.2)).bind fun r1 =>
 (gL qau r1.2.2.1.2.1<|
 (gL qb2 r1.2.2.1.2.2.2.1<|
 (gL qb0 r1.2.2.1.2.2.2.2.1<|
 (gL qay r1.2.2.2.2.2.1<|
 (gL qb3 r1.2.2.2.2.2.2<|
 (some (r1.1,(r1.1,((r1.2.2.1.1,((dL qau r1.2.2.1.2.1),(r1.2.2.1.2.2.1,((dL qb2 r1.2.2.1.2.2.2.1),((dL qb0 r1.2.2.1.2.2.2.2.1),(r1.2.2.1.2.2.2.2.2.1,((),(r1.2.2.1.2.2.2.2.2.2.2.1,())))))))),(r1.2.2.2.1,(r1.2.2.2.2.1,((dL qay r1.2.2.2.2.2.1),(dL qb3 r1.2.2.2.2.2.2)))))))))))))))))))))))))))))
 (brE (t==8)
 (gL qau b0_1<|
 (gL qb2 b0_3<|
 (gL qb0 b0_4<|
 (gL qay b3<|
 (gL qb3 b4<|
 (some ((decide (b0_5>t_5)),((decide (b0_5>t_5)),((b0,((dL qau b0_1),(b0_2,((dL qb2 b0_3),((dL qb0 b0_4),(b0_5,((),(b0_6,())))))))),(b1,(b2,((dL qay b3),(dL qb3 b4)))))))))))))
 (brE (t==9)
 (gL qau b0_1<|
 (gL qb2 b0_3<|
 (gL qb0 b0_4<|
 (gL qay b3<|
 (gL qb3 b4<|
 ((qfz t_2 b0 (dL qau b0_1) b0_2 (dL qb2 b0_3) (dL qb0 b0_4) b0_5 b0_6 b1 b2 (dL qay b3) (dL qb3 b4)).bind fun r0 =>
 (gL qau r0.2.2.2.1.2.1<|
 (gL qb2 r0.2.2.2.1.2.2.2.1<|
 (gL qb0 r0.2.2.2.1.2.2.2.2.1<|
 (gL qay r0.2.2.2.2.2.2.1<|
 (gL qb3 r0.2.2.2.2.2.2.2<|
 (some ((decide (((r0.1:Nat):Int)>0)),((decide (((r0.1:Nat):Int)>0)),((r0.2.2.2.1.1,((dL qau r0.2.2.2.1.2.1),(r0.2.2.2.1.2.2.1,((dL qb2 r0.2.2.2.1.2.2.2.1),((dL qb0 r0.2.2.2.1.2.2.2.2.1),(r0.2.2.2.1.2.2.2.2.2.1,((),(r0.2.2.2.1.2.2.2.2.2.2.2.1,())))))))),(r0.2.2.2.2.1,(r0.2.2.2.2.2.1,((dL qay r0.2.2.2.2.2.2.1),(dL qb3 r0.2.2.2.2.2.2.2)))))))))))))))))))
 (gL qau b0_1<|
 (gL qb2 b0_3<|
 (gL qb0 b0_4<|
 (gL qay b3<|
 (gL qb3 b4<|
 (some (true,(true,((b0,((dL qau b0_1),(b0_2,((dL qb2 b0_3),((dL qb0 b0_4),(b0_5,((),(b0_6,())))))))),(b1,(b2,((dL qay b3),(dL qb3 b4)))))))))))))))))))))
theorem qhn {t t_1 t_2 t_3 t_4 t_5 b0 b0_1 b0_2 b0_3 b0_4 b0_5 b0_6 b1 b2 b3 b4 r} (h:qi6 t t_1 t_2 t_3 t_4 t_5 b0 b0_1 b0_2 b0_3 b0_4 b0_5 b0_6 b1 b2 b3 b4=some r):qhl t t_1 t_2 t_3 t_4 t_5 b0 b0_1 b0_2 b0_3 b0_4 b0_5 b0_6 b1 b2 b3 b4=some r :=
 qnn (fn:=Tryz.f80) (es:=q1io) (hs:=qpg) [qhw,qhp] (by kernel_rfl) rfl (by kernel_rfl) ⟨⟨_,rfl,rfl⟩,⟨_,rfl,rfl⟩,trivial⟩ trivial (by kernel_rfl) h
def qjd:=sLS [0,1] (qrd (vAgg (qrd z55 (qrd (vC cBool) (qrf (vC cStr))))) (qrf (vPtr 0 0))) (qrd (qv4 (bBox (qrf (vRow 1)))) (qrf (qv4 (bRow qb3)))) [false,false] [0] (by decide) (fun _=>rfl)
def qjc:SC (Unit×(Nat×(List S62))):=sLS [] qre (qrd (qv4 (bBox (qrf (vRow 1)))) (qrf (qv4 (bRow qb3)))) [false,false] [0] (by decide) (fun _=>rfl)
def qjb:HC (Unit×(Unit×(Nat×(List S62)))):=hPair (vTup qre) qjc
def qj8 (t:Int) (t_1:Bool) (t_2:BA) (b0:Nat) (b1:L62):=hS Tryz.prog lv X0 48 qjd qjb (((t,t_1,t_2),()),(b0,b1))
def qje (t:Int) (t_1:Bool) (t_2:BA) (b0:Nat) (b1:L62):Oq (Unit×(Unit×(Nat×L62))) :=
 (gdE ((((aL [[(C.int Go.IntKind.i64 t),(C.bool t_1),(C.str t_2)]] 3)&&(aL (EC.encL qb3 b1) 3))&&(dQ (b0+(List.length [[(C.int Go.IntKind.i64 t),(C.bool t_1),(C.str t_2)]])) 32))&&(decide ((b0+(List.length [[(C.int Go.IntKind.i64 t),(C.bool t_1),(C.str t_2)]]))≤9223372036854775807)))<|
 (gdE (EC.isL qb3 ((EC.encL qb3 b1)++[[(C.int Go.IntKind.i64 t),(C.bool t_1),(C.str t_2)]]))<|
 (some ((),((),((b0+(List.length [[(C.int Go.IntKind.i64 t),(C.bool t_1),(C.str t_2)]])),(EC.decL qb3 ((EC.encL qb3 b1)++[[(C.int Go.IntKind.i64 t),(C.bool t_1),(C.str t_2)]]))))))))
theorem qja {t t_1 t_2 b0 b1 r} (h:qje t t_1 t_2 b0 b1=some r):qj8 t t_1 t_2 b0 b1=some r :=
 qnn (fn:=Tryz.f48) (es:=q1io) (hs:=qpg) [] (by kernel_rfl) rfl (by kernel_rfl) trivial trivial (by kernel_rfl) h
def qj9:=hentS Tryz.prog lv X0 48 [0,7,3,1,1,1,2,1,3,1,3,0,0,1,1,2,1,2,0] qjd qjb (fun x=>qj8 x.1.1.1 x.1.1.2.1 x.1.1.2.2 x.2.1 x.2.2) (fun _ _ h=>qnm h)
def qpk:=qj9::qpg
def qft:=sLS [0,2,12,13,14] (qrd (vPtr 0 0) (qrd z55 (qrd (vC (cSl qb1)) z5a))) z4z [false,false,false,false,false] [0,1,2] (by decide) (fun _=>rfl)
def qfs:=sLS [0,2,12,13,14,15] (qrd (vPtr 0 0) (qrd z55 (qrd (vC (cSl qb1)) z57))) z4z [false,false,false,false,false] [0,1,2] (by decide) (fun _=>rfl)
def qfr:=sLS [6] (qrf (vC cBool)) z4z [false,false,false,false,false] [0,1,2] (by decide) (fun _=>rfl)
def qfq:=oOr 1 qfr (oAt 2 qfs) (fun x=>(by decide:(2:Nat)≠1))
def qfn (number:Int) (t12:L50) (t13 t14:Int) (b0:BA) (b0_1:L118) (b0_2:BA) (b0_3:L55) (b0_4:(List Int)) (b0_5:Int) (b0_6:Nat) (b1:(List (BA×BA))) (b2:Nat) (b3:L45) (b4:L62):=lS Tryz.prog lv X0 61 122 (qnb (cdF Tryz.f61) 2) qft qfq (((),number,t12,t13,t14),((b0,b0_1,b0_2,b0_3,b0_4,b0_5,(),b0_6,()),b1,b2,b3,b4))
abbrev z2l (t12:L50) (t14:Int):=(List.getD (EC.encL qb1 t12) (Int.toNat t14) [])
abbrev z2m (t12:L50) (t14:Int):=(C.int Go.IntKind.i64 (qqd (List.getD (z2l t12 t14) 12 C.ne)))
abbrev z2n (t12:L50) (t14:Int):=(C.int Go.IntKind.i64 (qqd (List.getD (z2l t12 t14) 9 C.ne)))
abbrev z2o (t12:L50) (t14:Int):=(List.getD (z2l t12 t14) 7 C.ne)
abbrev z2p (t12:L50) (t14:Int):=(List.getD (z2l t12 t14) 8 C.ne)
def qfu (number:Int) (t12:L50) (t13 t14:Int) (b0:BA) (b0_1:L118) (b0_2:BA) (b0_3:L55) (b0_4:(List Int)) (b0_5:Int) (b0_6:Nat) (b1:(List (BA×BA))) (b2:Nat) (b3:L45) (b4:L62):Oq ((Bool×((BA×L118×BA×L55×(List Int)×Int×Unit×Nat×Unit)×(List (BA×BA))×Nat×L45×L62))⊕((Unit×Int×L50×Int×Int×Bool)×((BA×L118×BA×L55×(List Int)×Int×Unit×Nat×Unit)×(List (BA×BA))×Nat×L45×L62))) :=
 (brE (decide (t14<t13))
 (gdE (p0 t14)<|
 (gdE (eC qb1 t12 t14 [(K1.int Go.IntKind.i64),(K1.int Go.IntKind.i64),K1.sl,K1.str,(K1.int Go.IntKind.i64),K1.str,(K1.int Go.IntKind.i64),K1.sl,K1.sl,(K1.int Go.IntKind.i64),K1.str,K1.str,(K1.int Go.IntKind.i64)])<|
 (brE ((qqd (List.getD (z2l t12 t14) 0 C.ne))==1)
 (gdE (EC.isL qaz (slOf (List.getD (z2l t12 t14) 2 C.ne)))<|
 (gL qau b0_1<|
 (gL qb2 b0_3<|
 (gL qb0 b0_4<|
 (gL qay b3<|
 (gL qb3 b4<|
 ((qhl (qqd (List.getD (z2l t12 t14) 1 C.ne)) (uL qaz (List.getD (z2l t12 t14) 2 C.ne)) (q1gu (List.getD (z2l t12 t14) 3 C.ne)) (qqd (List.getD (z2l t12 t14) 4 C.ne)) (q1gu (List.getD (z2l t12 t14) 5 C.ne)) (qqd (List.getD (z2l t12 t14) 6 C.ne)) b0 (dL qau b0_1) b0_2 (dL qb2 b0_3) (dL qb0 b0_4) b0_5 b0_6 b1 b2 (dL qay b3) (dL qb3 b4)).bind fun r0 =>
 (gL qb3 r0.2.2.2.2.2.2<|
 ((qj8 number r0.1 ⟨#[]⟩ r0.2.2.2.2.1 (dL qb3 r0.2.2.2.2.2.2)).bind fun r1 =>
 (brE (!r0.1)
 (gdE (EC.isL qb1 (slOf (z2o t12 t14)))<|
 ((q1bm (uL qb1 (z2o t12 t14))).bind fun r2 =>
 (gdE (EC.isL qb1 (slOf (z2p t12 t14)))<|
 (gL qau r0.2.2.1.2.1<|
 (gL qb2 r0.2.2.1.2.2.2.1<|
 (gL qb0 r0.2.2.1.2.2.2.2.1<|
 (gL qay r0.2.2.2.2.2.1<|
 (gL qb3 r1.2.2.2<|
 ((qfk (uL qb1 (z2p t12 t14)) (IntKind.wrap .i64 ((wI number)+r2)) r0.2.2.1.1 (dL qau r0.2.2.1.2.1) r0.2.2.1.2.2.1 (dL qb2 r0.2.2.1.2.2.2.1) (dL qb0 r0.2.2.1.2.2.2.2.1) r0.2.2.1.2.2.2.2.2.1 r0.2.2.1.2.2.2.2.2.2.2.1 r0.2.2.2.1 r1.2.2.1 (dL qay r0.2.2.2.2.2.1) (dL qb3 r1.2.2.2)).bind fun r3 =>
 (brE (!r3.1)
 (gL qau r3.2.2.1.2.1<|
 (gL qb2 r3.2.2.1.2.2.2.1<|
 (gL qb0 r3.2.2.1.2.2.2.2.1<|
 (gL qay r3.2.2.2.2.2.1<|
 (gL qb3 r3.2.2.2.2.2.2<|
 (some (.inl (false,((r3.2.2.1.1,((dL qau r3.2.2.1.2.1),(r3.2.2.1.2.2.1,((dL qb2 r3.2.2.1.2.2.2.1),((dL qb0 r3.2.2.1.2.2.2.2.1),(r3.2.2.1.2.2.2.2.2.1,((),(r3.2.2.1.2.2.2.2.2.2.2.1,())))))))),(r3.2.2.2.1,(r3.2.2.2.2.1,((dL qay r3.2.2.2.2.2.1),(dL qb3 r3.2.2.2.2.2.2)))))))))))))
 (gdE (EC.isL qb1 (slOf (z2o t12 t14)))<|
 ((q1bm (uL qb1 (z2o t12 t14))).bind fun r4 =>
 (gdE (EC.isL qb1 (slOf (z2p t12 t14)))<|
 ((q1bm (uL qb1 (z2p t12 t14))).bind fun r5 =>
 (gL qb1 t12<|
 (gL qau r3.2.2.1.2.1<|
 (gL qb2 r3.2.2.1.2.2.2.1<|
 (gL qb0 r3.2.2.1.2.2.2.2.1<|
 (gL qay r3.2.2.2.2.2.1<|
 (gL qb3 r3.2.2.2.2.2.2<|
 (qfn (IntKind.wrap .i64 (number+(IntKind.wrap .i64 ((IntKind.wrap .i64 (1+r4))+r5)))) (dL qb1 t12) t13 (wI t14) r3.2.2.1.1 (dL qau r3.2.2.1.2.1) r3.2.2.1.2.2.1 (dL qb2 r3.2.2.1.2.2.2.1) (dL qb0 r3.2.2.1.2.2.2.2.1) r3.2.2.1.2.2.2.2.2.1 r3.2.2.1.2.2.2.2.2.2.2.1 r3.2.2.2.1 r3.2.2.2.2.1 (dL qay r3.2.2.2.2.2.1) (dL qb3 r3.2.2.2.2.2.2))))))))))))))))))))))
 (gdE (EC.isL qb1 (slOf (z2o t12 t14)))<|
 (gL qau r0.2.2.1.2.1<|
 (gL qb2 r0.2.2.1.2.2.2.1<|
 (gL qb0 r0.2.2.1.2.2.2.2.1<|
 (gL qay r0.2.2.2.2.2.1<|
 (gL qb3 r1.2.2.2<|
 ((qfk (uL qb1 (z2o t12 t14)) (wI number) r0.2.2.1.1 (dL qau r0.2.2.1.2.1) r0.2.2.1.2.2.1 (dL qb2 r0.2.2.1.2.2.2.1) (dL qb0 r0.2.2.1.2.2.2.2.1) r0.2.2.1.2.2.2.2.2.1 r0.2.2.1.2.2.2.2.2.2.2.1 r0.2.2.2.1 r1.2.2.1 (dL qay r0.2.2.2.2.2.1) (dL qb3 r1.2.2.2)).bind fun r2 =>
 (brE (!r2.1)
 (gL qau r2.2.2.1.2.1<|
 (gL qb2 r2.2.2.1.2.2.2.1<|
 (gL qb0 r2.2.2.1.2.2.2.2.1<|
 (gL qay r2.2.2.2.2.2.1<|
 (gL qb3 r2.2.2.2.2.2.2<|
 (some (.inl (false,((r2.2.2.1.1,((dL qau r2.2.2.1.2.1),(r2.2.2.1.2.2.1,((dL qb2 r2.2.2.1.2.2.2.1),((dL qb0 r2.2.2.1.2.2.2.2.1),(r2.2.2.1.2.2.2.2.2.1,((),(r2.2.2.1.2.2.2.2.2.2.2.1,())))))))),(r2.2.2.2.1,(r2.2.2.2.2.1,((dL qay r2.2.2.2.2.2.1),(dL qb3 r2.2.2.2.2.2.2)))))))))))))
 (gdE (EC.isL qb1 (slOf (z2o t12 t14)))<|
 ((q1bm (uL qb1 (z2o t12 t14))).bind fun r3 =>
 (gdE (EC.isL qb1 (slOf (z2p t12 t14)))<|
 ((q1bm (uL qb1 (z2p t12 t14))).bind fun r4 =>
 (gL qb1 t12<|
 (gL qau r2.2.2.1.2.1<|
 (gL qb2 r2.2.2.1.2.2.2.1<|
 (gL qb0 r2.2.2.1.2.2.2.2.1<|
 (gL qay r2.2.2.2.2.2.1<|
 (gL qb3 r2.2.2.2.2.2.2<|
 (qfn (IntKind.wrap .i64 (number+(IntKind.wrap .i64 ((IntKind.wrap .i64 (1+r3))+r4)))) (dL qb1 t12) t13 (wI t14) r2.2.2.1.1 (dL qau r2.2.2.1.2.1) r2.2.2.1.2.2.1 (dL qb2 r2.2.2.1.2.2.2.1) (dL qb0 r2.2.2.1.2.2.2.2.1) r2.2.2.1.2.2.2.2.2.1 r2.2.2.1.2.2.2.2.2.2.2.1 r2.2.2.2.1 r2.2.2.2.2.1 (dL qay r2.2.2.2.2.2.1) (dL qb3 r2.2.2.2.2.2.2))))))))))))))))))))))))))))))
 (brE ((qqd (List.getD (z2l t12 t14) 0 C.ne))==2)
 ((expP b1 (q1gu (List.getD (z2l t12 t14) 11 C.ne))).bind fun r0 =>
 (gdE ((((aL [[(z2n t12 t14),(C.str r0),(z2m t12 t14)]] 3)&&(aL (EC.encL qay b3) 3))&&(dQ (b0_6+(List.length [[(z2n t12 t14),(C.str r0),(z2m t12 t14)]])) 32))&&(decide ((b0_6+(List.length [[(z2n t12 t14),(C.str r0),(z2m t12 t14)]]))≤9223372036854775807)))<|
 (gL qb3 b4<|
 ((qj8 number false r0 b2 (dL qb3 b4)).bind fun r1 =>
 (gdE (EC.isL qb1 (slOf (z2o t12 t14)))<|
 ((q1bm (uL qb1 (z2o t12 t14))).bind fun r2 =>
 (gdE (EC.isL qb1 (slOf (z2p t12 t14)))<|
 ((q1bm (uL qb1 (z2p t12 t14))).bind fun r3 =>
 (gL qb1 t12<|
 (gL qau b0_1<|
 (gL qb2 b0_3<|
 (gL qb0 b0_4<|
 (gdE (EC.isL qay ((EC.encL qay b3)++[[(z2n t12 t14),(C.str r0),(z2m t12 t14)]]))<|
 (gL qb3 r1.2.2.2<|
 (qfn (IntKind.wrap .i64 (number+(IntKind.wrap .i64 ((IntKind.wrap .i64 (1+r2))+r3)))) (dL qb1 t12) t13 (wI t14) b0 (dL qau b0_1) b0_2 (dL qb2 b0_3) (dL qb0 b0_4) b0_5 (b0_6+(List.length [[(z2n t12 t14),(C.str r0),(z2m t12 t14)]])) b1 r1.2.2.1 (EC.decL qay ((EC.encL qay b3)++[[(z2n t12 t14),(C.str r0),(z2m t12 t14)]])) (dL qb3 r1.2.2.2))))))))))))))))
 (brE ((qqd (List.getD (z2l t12 t14) 0 C.ne))==3)
 ((expP b1 (q1gu (List.getD (z2l t12 t14) 11 C.ne))).bind fun r0 =>
 (gdE (((decide ((ByteArray.size (q1gu (List.getD (z2l t12 t14) 10 C.ne)))≤Go.maxLen))&&(decide (r0.size≤Go.maxLen)))&&(decide ((List.length b1)<Go.maxLen)))<|
 (gL qb3 b4<|
 ((qj8 number false r0 b2 (dL qb3 b4)).bind fun r1 =>
 (gdE (EC.isL qb1 (slOf (z2o t12 t14)))<|
 ((q1bm (uL qb1 (z2o t12 t14))).bind fun r2 =>
 (gdE (EC.isL qb1 (slOf (z2p t12 t14)))<|
 ((q1bm (uL qb1 (z2p t12 t14))).bind fun r3 =>
 (gL qb1 t12<|
 (gL qau b0_1<|
 (gL qb2 b0_3<|
 (gL qb0 b0_4<|
 (gL qay b3<|
 (gL qb3 r1.2.2.2<|
 (qfn (IntKind.wrap .i64 (number+(IntKind.wrap .i64 ((IntKind.wrap .i64 (1+r2))+r3)))) (dL qb1 t12) t13 (wI t14) b0 (dL qau b0_1) b0_2 (dL qb2 b0_3) (dL qb0 b0_4) b0_5 b0_6 (putM b1 (q1gu (List.getD (z2l t12 t14) 10 C.ne)) r0) r1.2.2.1 (dL qay b3) (dL qb3 r1.2.2.2))))))))))))))))
 (gL qb3 b4<|
 ((qj8 number false ⟨#[]⟩ b2 (dL qb3 b4)).bind fun r0 =>
 (gL qau b0_1<|
 (gL qb2 b0_3<|
 (gL qb0 b0_4<|
 (gL qay b3<|
 (gL qb3 r0.2.2.2<|
 (some (.inl (false,((b0,((dL qau b0_1),(b0_2,((dL qb2 b0_3),((dL qb0 b0_4),(b0_5,((),(b0_6,())))))))),(b1,(r0.2.2.1,((dL qay b3),(dL qb3 r0.2.2.2))))))))))))))))))))
 (gL qb1 t12<|
 (gL qau b0_1<|
 (gL qb2 b0_3<|
 (gL qb0 b0_4<|
 (gL qay b3<|
 (gL qb3 b4<|
 (some (.inr (((),(number,((dL qb1 t12),(t13,(t14,false))))),((b0,((dL qau b0_1),(b0_2,((dL qb2 b0_3),((dL qb0 b0_4),(b0_5,((),(b0_6,())))))))),(b1,(b2,((dL qay b3),(dL qb3 b4)))))))))))))))
theorem qfp {number t12 t13 t14 b0 b0_1 b0_2 b0_3 b0_4 b0_5 b0_6 b1 b2 b3 b4 r} (h:qfu number t12 t13 t14 b0 b0_1 b0_2 b0_3 b0_4 b0_5 b0_6 b1 b2 b3 b4=some r):qfn number t12 t13 t14 b0 b0_1 b0_2 b0_3 b0_4 b0_5 b0_6 b1 b2 b3 b4=some r :=
 qrh (es:=q1io) (hs:=qpk) [] (by kernel_rfl) trivial trivial (by kernel_rfl) h
def qfo:=qs5 Tryz.prog lv X0 2 (qnb (cdF Tryz.f61) 2) qft qfq (fun x=>qfn x.1.2.1 x.1.2.2.1 x.1.2.2.2.1 x.1.2.2.2.2 x.2.1.1 x.2.1.2.1 x.2.1.2.2.1 x.2.1.2.2.2.1 x.2.1.2.2.2.2.1 x.2.1.2.2.2.2.2.1 x.2.1.2.2.2.2.2.2.2.1 x.2.2.1 x.2.2.2.1 x.2.2.2.2.1 x.2.2.2.2.2) (fun _ _ h=>qrg h)
def qfy (s:L50) (number:Int) (b0:BA) (b0_1:L118) (b0_2:BA) (b0_3:L55) (b0_4:(List Int)) (b0_5:Int) (b0_6:Nat) (b1:(List (BA×BA))) (b2:Nat) (b3:L45) (b4:L62):Oq (Bool×(Bool×((BA×L118×BA×L55×(List Int)×Int×Unit×Nat×Unit)×(List (BA×BA))×Nat×L45×L62))) :=
 (gL qb1 s<|
 (gL qau b0_1<|
 (gL qb2 b0_3<|
 (gL qb0 b0_4<|
 (gL qay b3<|
 (gL qb3 b4<|
 ((qfn number (dL qb1 s) (lN qb1 s:Int) 0 b0 (dL qau b0_1) b0_2 (dL qb2 b0_3) (dL qb0 b0_4) b0_5 b0_6 b1 b2 (dL qay b3) (dL qb3 b4)).bind fun r0 =>
 (Sum.elim (fun r1=>(gdE (EC.isL qau (EC.encL qau r1.2.1.2.1))<|
 (gL qb2 r1.2.1.2.2.2.1<|
 (gL qb0 r1.2.1.2.2.2.2.1<|
 (gL qay r1.2.2.2.2.1<|
 (gL qb3 r1.2.2.2.2.2<|
 (some (r1.1,(r1.1,((r1.2.1.1,((dL qau r1.2.1.2.1),(r1.2.1.2.2.1,((dL qb2 r1.2.1.2.2.2.1),((dL qb0 r1.2.1.2.2.2.2.1),(r1.2.1.2.2.2.2.2.1,((),(r1.2.1.2.2.2.2.2.2.2.1,())))))))),(r1.2.2.1,(r1.2.2.2.1,((dL qay r1.2.2.2.2.1),(dL qb3 r1.2.2.2.2.2))))))))))))))
 (fun r1=>(gdE (EC.isL qau (EC.encL qau r1.2.1.2.1))<|
 (gL qb2 r1.2.1.2.2.2.1<|
 (gL qb0 r1.2.1.2.2.2.2.1<|
 (gL qay r1.2.2.2.2.1<|
 (gL qb3 r1.2.2.2.2.2<|
 (some (true,(true,((r1.2.1.1,((dL qau r1.2.1.2.1),(r1.2.1.2.2.1,((dL qb2 r1.2.1.2.2.2.1),((dL qb0 r1.2.1.2.2.2.2.1),(r1.2.1.2.2.2.2.2.1,((),(r1.2.1.2.2.2.2.2.2.2.1,())))))))),(r1.2.2.1,(r1.2.2.2.1,((dL qay r1.2.2.2.2.1),(dL qb3 r1.2.2.2.2.2)))))))))))))) r0))))))))
theorem qfm {s number b0 b0_1 b0_2 b0_3 b0_4 b0_5 b0_6 b1 b2 b3 b4 r} (h:qfy s number b0 b0_1 b0_2 b0_3 b0_4 b0_5 b0_6 b1 b2 b3 b4=some r):qfk s number b0 b0_1 b0_2 b0_3 b0_4 b0_5 b0_6 b1 b2 b3 b4=some r :=
 qnn (fn:=Tryz.f61) (es:=q1io) (hs:=qpk) [qfo] (by kernel_rfl) rfl (by kernel_rfl) ⟨⟨_,rfl,rfl⟩,trivial⟩ trivial (by kernel_rfl) h
def qer (s:L50) (m_:BA) (m__1:L118) (m__2:BA) (m__3:L55) (m__4:(List Int)) (b0:Nat) (b1:L62):Oq ((Nat×(Int×Int))×((Nat×(Int×Int))×(L45×Nat×L62))) :=
 (gL qb1 s<|
 ((q1cf (dL qb1 s)).bind fun r0 =>
 ((q5v r0.1 r0.2).bind fun r1 =>
 (brE r1
 (gL qb3 b1<|
 (some ((0,(r0.1,r0.2)),((0,(r0.1,r0.2)),((EC.decL qay []),(b0,(dL qb3 b1)))))))
 (gL qau m__1<|
 ((qdf m_ (dL qau m__1) m__2).bind fun r2 =>
 ((q5v r2.1 r2.2).bind fun r3 =>
 (brE r3
 ((q61 r2.1 (-3)).bind fun r4 =>
 (gL qb3 b1<|
 (some ((0,(r4.1,r4.2)),((0,(r4.1,r4.2)),((EC.decL qay []),(b0,(dL qb3 b1))))))))
 (gL qb2 m__3<|
 (gL qb0 m__4<|
 ((qtn (dL qb2 m__3) (dL qb0 m__4)).bind fun r4 =>
 ((q5v r4.1.2.1 r4.1.2.2).bind fun r5 =>
 (brE r5
 ((q61 r4.1.2.1 (-2)).bind fun r6 =>
 (gL qb3 b1<|
 (some ((0,(r6.1,r6.2)),((0,(r6.1,r6.2)),((EC.decL qay []),(b0,(dL qb3 b1))))))))
 (gL qb1 s<|
 (gL qau m__1<|
 (gL qb2 m__3<|
 (gL qb0 m__4<|
 (gL qb3 b1<|
 ((qfk (dL qb1 s) 0 m_ (dL qau m__1) m__2 (dL qb2 m__3) (dL qb0 m__4) ((r4.1.1:Nat):Int) 0 [] b0 (EC.decL qay []) (dL qb3 b1)).bind fun r6 =>
 (gL qay r6.2.2.2.2.2.1<|
 ((qec (dL qay r6.2.2.2.2.2.1)).bind fun r7 =>
 (brE (!r7)
 (gdE ((((aL [[(C.int Go.IntKind.i64 1),(C.str ⟨#[]⟩),(C.int Go.IntKind.i64 0)]] 3)&&(aL (EC.encL qay r6.2.2.2.2.2.1) 3))&&(dQ (r6.2.2.1.2.2.2.2.2.2.2.1+(List.length [[(C.int Go.IntKind.i64 1),(C.str ⟨#[]⟩),(C.int Go.IntKind.i64 0)]])) 32))&&(decide ((r6.2.2.1.2.2.2.2.2.2.2.1+(List.length [[(C.int Go.IntKind.i64 1),(C.str ⟨#[]⟩),(C.int Go.IntKind.i64 0)]]))≤9223372036854775807)))<|
 (Option.bind q72 fun r8 =>
 (gdE (EC.isL qay ((EC.encL qay r6.2.2.2.2.2.1)++[[(C.int Go.IntKind.i64 1),(C.str ⟨#[]⟩),(C.int Go.IntKind.i64 0)]]))<|
 (gL qb3 r6.2.2.2.2.2.2<|
 (some (((r6.2.2.1.2.2.2.2.2.2.2.1+(List.length [[(C.int Go.IntKind.i64 1),(C.str ⟨#[]⟩),(C.int Go.IntKind.i64 0)]])),(r8.1,r8.2)),(((r6.2.2.1.2.2.2.2.2.2.2.1+(List.length [[(C.int Go.IntKind.i64 1),(C.str ⟨#[]⟩),(C.int Go.IntKind.i64 0)]])),(r8.1,r8.2)),((EC.decL qay ((EC.encL qay r6.2.2.2.2.2.1)++[[(C.int Go.IntKind.i64 1),(C.str ⟨#[]⟩),(C.int Go.IntKind.i64 0)]])),(r6.2.2.2.2.1,(dL qb3 r6.2.2.2.2.2.2))))))))))
 (Option.bind q72 fun r8 =>
 (gL qay r6.2.2.2.2.2.1<|
 (gL qb3 r6.2.2.2.2.2.2<|
 (some ((r6.2.2.1.2.2.2.2.2.2.2.1,(r8.1,r8.2)),((r6.2.2.1.2.2.2.2.2.2.2.1,(r8.1,r8.2)),((dL qay r6.2.2.2.2.2.1),(r6.2.2.2.2.1,(dL qb3 r6.2.2.2.2.2.2)))))))))))))))))))))))))))))))
theorem qen {s m_ m__1 m__2 m__3 m__4 b0 b1 r} (h:qer s m_ m__1 m__2 m__3 m__4 b0 b1=some r):qel s m_ m__1 m__2 m__3 m__4 b0 b1=some r :=
 qnn (fn:=Tryz.f37) (es:=q1io) (hs:=qpk) [] (by kernel_rfl) rfl (by kernel_rfl) trivial trivial (by kernel_rfl) h
def qjg:Cod (V×List B) ((Nat×Nat×(Int×Int))×((List S62)×(List S45))):=(cPair (vTup (qrd (vRow 0) (qrd (vRow 1) (qrf (vAgg z5a))))) (qrd (bRow qb3) (qrf (bRow qay))))
def qjj (s:L50) (qsz:BA) (qt1:L118) (qt0:BA) (qt4:L55) (qt3:(List Int)):=fS Tryz.prog lv X0 22 qjf qjg (s,(qsz,qt1,qt0,qt4,qt3))
def qjk (s:L50) (qsz:BA) (qt1:L118) (qt0:BA) (qt4:L55) (qt3:(List Int)):Oq ((Nat×Nat×(Int×Int))×(L62×L45)) :=
 (gL qb1 s<|
 (gL qau qt1<|
 (gL qb2 qt4<|
 (gL qb0 qt3<|
 ((qel (dL qb1 s) qsz (dL qau qt1) qt0 (dL qb2 qt4) (dL qb0 qt3) 0 (EC.decL qb3 [])).bind fun r0 =>
 ((q5v r0.1.2.1 r0.1.2.2).bind fun r1 =>
 (brE r1
 (some ((0,(0,(r0.1.2.1,r0.1.2.2))),((EC.decL qb3 []),(EC.decL qay []))))
 (gL qb3 r0.2.2.2.2<|
 (gL qay r0.2.2.1<|
 (some ((r0.2.2.2.1,(r0.1.1,(r0.1.2.1,r0.1.2.2))),((dL qb3 r0.2.2.2.2),(dL qay r0.2.2.1)))))))))))))
theorem qji {s qsz qt1 qt0 qt4 qt3 r} (h:qjk s qsz qt1 qt0 qt4 qt3=some r):qjj s qsz qt1 qt0 qt4 qt3=some r :=
 qjn (es:=q1io) (hs:=qpk) [] Tryz.func22 rfl (by kernel_rfl) rfl (by kernel_rfl) (by kernel_rfl) trivial trivial (by kernel_rfl) h
def qjh:=entS Tryz.prog lv X0 22 [] qjf qjg (fun x=>qjj x.1 x.2.1 x.2.2.1 x.2.2.2.1 x.2.2.2.2.1 x.2.2.2.2.2) (fun _ _ h=>qjm h)
def q1ip:=qjh::q1io
end
end Go.Proofs.YtokahibbkdbndaaGreatDoor
