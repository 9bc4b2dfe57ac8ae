/- Functions of the program as plain functions: made by program from the machine. -/
import Derived.Test.YtokahibbkdbndaaGreatDoorZ36
namespace Go.Proofs.YtokahibbkdbndaaGreatDoor
open Go.RowKit
set_option maxRecDepth 100000
noncomputable section
abbrev z58:=(qrd (vC (cSl qb5)) (qrd (vC (cSl qb5)) (qrd (vC (cSl qay)) (qrd (vC (cSl qb3)) (qrf (vC cBool))))))
abbrev z5a:=(qrd (vC cStr) (qrd (vC (cSl qau)) (qrd (vC cStr) (qrd (vC (cSl qb2)) (qrf (vC (cSl qb0)))))))
abbrev z5b:=(vC (cInt .i64))
def q102:=(qrd (vAgg z58) (qrd (vC (cSl qb1)) (qrd z5b (qrd (vAgg z5a) (qrf z5b)))))
def q103:Cod (V×List B) ((List ByteArray)×(List ByteArray)×(List S45)×(List S62)×Bool):=(cFstU (cPair (vAgg z58) qre))
def q10d (x_Names x_Values:LB) (q1m7:L45) (q1ma:L62) (q1mb:Bool) (s:L50) (number:Int) (qsz:BA) (qt1:L118) (qt0:BA) (qt4:L55) (qt3:(List Int)) (size:Int):=fS Tryz.prog lv X0 45 q102 q103 ((x_Names,x_Values,q1m7,q1ma,q1mb),s,number,(qsz,qt1,qt0,qt4,qt3),size)
def q104:=entS Tryz.prog lv X0 45 [] q102 q103 (fun x=>q10d x.1.1 x.1.2.1 x.1.2.2.1 x.1.2.2.2.1 x.1.2.2.2.2 x.2.1 x.2.2.1 x.2.2.2.1.1 x.2.2.2.1.2.1 x.2.2.2.1.2.2.1 x.2.2.2.1.2.2.2.1 x.2.2.2.1.2.2.2.2 x.2.2.2.2) (fun _ _ h=>qjm h)
def q1ji:=q104::tabk
abbrev z5c:=(qrd (qv4 (bBox z58)) (qrd (qv4 (bBox z5a)) (qrf (qv4 (bBox z58)))))
def q10b:=sLS [1,2,4,5,8,10,11] (qrd (vC (cSl qb1)) (qrd z5b (qrd z5b (qrd (vPtr 0 0) (qrd (vPtr 1 0) (qrd (vPtr 2 0) (qrf z5b))))))) z5c [true,true,true] [] (by decide) (fun _=>rfl)
def q10a:=sLS [1,2,4,5,8,10,11,24] (qrd (vC (cSl qb1)) (qrd z5b (qrd z5b (qrd (vPtr 0 0) (qrd (vPtr 1 0) (qrd (vPtr 2 0) (qrd z5b (qrf (vC cBool))))))))) z5c [true,true,true] [] (by decide) (fun _=>rfl)
def q109:=oAt 2 q10a
def q106 (s:L50) (number size i:Int) (b0 b0_1:LB) (b0_2:L45) (b0_3:L62) (b0_4:Bool) (b1:BA) (b1_1:L118) (b1_2:BA) (b1_3:L55) (b1_4:(List Int)) (b2 b2_1:LB) (b2_2:L45) (b2_3:L62) (b2_4:Bool):=lS Tryz.prog lv X0 45 131 (qnb (cdF Tryz.f45) 2) q10b q109 ((s,number,size,(),(),(),i),((b0,b0_1,b0_2,b0_3,b0_4),(b1,b1_1,b1_2,b1_3,b1_4),(b2,b2_1,b2_2,b2_3,b2_4)))
abbrev z2r (s:L50) (i:Int):=(List.getD (EC.encL qb1 s) (Int.toNat i) [])
abbrev z2s (s:L50) (i:Int):=(C.int Go.IntKind.i64 (qqd (List.getD (z2r s i) 12 C.ne)))
abbrev z2t (s:L50) (i:Int):=(C.int Go.IntKind.i64 (qqd (List.getD (z2r s i) 9 C.ne)))
abbrev z2u (s:L50) (i:Int):=(q100 (uL qb1 (List.getD (z2r s i) 7 C.ne)))
abbrev z2v (s:L50) (i:Int):=(q100 (uL qb1 (List.getD (z2r s i) 8 C.ne)))
abbrev z2w (s:L50) (i:Int):=(EC.isL qb1 (slOf (List.getD (z2r s i) 7 C.ne)))
abbrev z2x (s:L50) (i:Int):=(EC.isL qb1 (slOf (List.getD (z2r s i) 8 C.ne)))
abbrev z2y (s:L50) (i:Int):=(qqd (List.getD (z2r s i) 0 C.ne))
abbrev z2z (number:Int):=(C.int Go.IntKind.i64 number)
abbrev z30 (s:L50) (i:Int):=(q1gu (List.getD (z2r s i) 10 C.ne))
abbrev z31 (s:L50) (i:Int):=(List.length [[(z2t s i),(C.str ⟨#[]⟩),(z2s s i)]])
def q10c (s:L50) (number size i:Int) (b0 b0_1:LB) (b0_2:L45) (b0_3:L62) (b0_4:Bool) (b1:BA) (b1_1:L118) (b1_2:BA) (b1_3:L55) (b1_4:(List Int)) (b2 b2_1:LB) (b2_2:L45) (b2_3:L62) (b2_4:Bool):Oq ((L50×Int×Int×Unit×Unit×Unit×Int×Bool)×((LB×LB×L45×L62×Bool)×(BA×L118×BA×L55×(List Int))×(LB×LB×L45×L62×Bool))) :=
 (brE ((decide (i<(lN qb1 s:Int)))==true)
 (brE (!b0_4)
 (gdE (p0 i)<|
 (gdE (eC qb1 s i [(K1.int Go.IntKind.i64),(K1.int Go.IntKind.i64),K1.sl,K1.str,(K1.int Go.IntKind.i64),K1.str,(K1.int Go.IntKind.i64),K1.sl,K1.sl,(K1.int Go.IntKind.i64),K1.str,K1.str,(K1.int Go.IntKind.i64)])<|
 (brE ((z2y s i)==1)
 (gL qb5 b0<|
 (gL qb5 b0_1<|
 (gL qay b0_2<|
 (gL qb3 b0_3<|
 (gdE (EC.isL qaz (slOf (List.getD (z2r s i) 2 C.ne)))<|
 (gL qau b1_1<|
 (gL qb2 b1_3<|
 (gL qb0 b1_4<|
 ((q180 (dL qb5 b0) (dL qb5 b0_1) (dL qay b0_2) (dL qb3 b0_3) b0_4 (qqd (List.getD (z2r s i) 1 C.ne)) (uL qaz (List.getD (z2r s i) 2 C.ne)) (q1gu (List.getD (z2r s i) 3 C.ne)) (qqd (List.getD (z2r s i) 4 C.ne)) (q1gu (List.getD (z2r s i) 5 C.ne)) (qqd (List.getD (z2r s i) 6 C.ne)) b1 (dL qau b1_1) b1_2 (dL qb2 b1_3) (dL qb0 b1_4) size).bind fun r0 =>
 (gdE (((aL (EC.encL qb3 r0.2.2.2.2.1) 3)&&(dQ (lN qb3 r0.2.2.2.2.1) 32))&&(dM (lN qb3 r0.2.2.2.2.1)))<|
 (gdE ((((aL [[(z2z number),(C.bool r0.1),(C.str ⟨#[]⟩)]] 3)&&(aL (EC.encL qb3 r0.2.2.2.2.1) 3))&&(dQ ((lN qb3 r0.2.2.2.2.1)+(List.length [[(z2z number),(C.bool r0.1),(C.str ⟨#[]⟩)]])) 32))&&(decide (((lN qb3 r0.2.2.2.2.1)+(List.length [[(z2z number),(C.bool r0.1),(C.str ⟨#[]⟩)]]))≤9223372036854775807)))<|
 (brE r0.1
 (gL qb5 r0.2.1<|
 (gL qb5 r0.2.2.1<|
 (gL qay r0.2.2.2.1<|
 (gdE (EC.isL qb3 ((EC.encL qb3 r0.2.2.2.2.1)++[[(z2z number),(C.bool r0.1),(C.str ⟨#[]⟩)]]))<|
 (gdE (z2w s i)<|
 (gL qau b1_1<|
 (gL qb2 b1_3<|
 (gL qb0 b1_4<|
 ((q10d (dL qb5 r0.2.1) (dL qb5 r0.2.2.1) (dL qay r0.2.2.2.1) (EC.decL qb3 ((EC.encL qb3 r0.2.2.2.2.1)++[[(z2z number),(C.bool r0.1),(C.str ⟨#[]⟩)]])) r0.2.2.2.2.2 (uL qb1 (List.getD (z2r s i) 7 C.ne)) (wI number) b1 (dL qau b1_1) b1_2 (dL qb2 b1_3) (dL qb0 b1_4) size).bind fun r1 =>
 (brE ((z2y s i)==2)
 (gdE (((aL (EC.encL qay r1.2.2.1) 3)&&(dQ (lN qay r1.2.2.1) 32))&&(dM (lN qay r1.2.2.1)))<|
 (gdE ((((aL [[(z2t s i),(C.str ⟨#[]⟩),(z2s s i)]] 3)&&(aL (EC.encL qay r1.2.2.1) 3))&&(dQ ((lN qay r1.2.2.1)+(z31 s i)) 32))&&(decide (((lN qay r1.2.2.1)+(z31 s i))≤9223372036854775807)))<|
 (brE ((z2y s i)==3)
 (gL qb5 r1.1<|
 (gL qb5 r1.2.1<|
 (gdE (EC.isL qay ((EC.encL qay r1.2.2.1)++[[(z2t s i),(C.str ⟨#[]⟩),(z2s s i)]]))<|
 (gL qb3 r1.2.2.2.1<|
 (Option.bind (q194 (dL qb5 r1.1) (dL qb5 r1.2.1) (EC.decL qay ((EC.encL qay r1.2.2.1)++[[(z2t s i),(C.str ⟨#[]⟩),(z2s s i)]])) (dL qb3 r1.2.2.2.1) r1.2.2.2.2 (z30 s i) ⟨#[]⟩) fun r2 =>
 (brE ((z2y s i)==4)
 (gdE (z2w s i)<|
 ((z2u s i).bind fun r3 =>
 (gdE (z2x s i)<|
 ((z2v s i).bind fun r4 =>
 (gL qb1 s<|
 (gL qb5 r2.1<|
 (gL qb5 r2.2.1<|
 (gL qay r2.2.2.1<|
 (gL qb3 r2.2.2.2.1<|
 (gL qau b1_1<|
 (gL qb2 b1_3<|
 (gL qb0 b1_4<|
 (gL qb5 b2<|
 (gL qb5 b2_1<|
 (gL qay b2_2<|
 (gL qb3 b2_3<|
 (q106 (dL qb1 s) (IntKind.wrap .i64 (number+(IntKind.wrap .i64 ((IntKind.wrap .i64 (1+r3))+r4)))) size (wI i) (dL qb5 r2.1) (dL qb5 r2.2.1) (dL qay r2.2.2.1) (dL qb3 r2.2.2.2.1) true b1 (dL qau b1_1) b1_2 (dL qb2 b1_3) (dL qb0 b1_4) (dL qb5 b2) (dL qb5 b2_1) (dL qay b2_2) (dL qb3 b2_3) b2_4)))))))))))))))))
 (gdE (z2w s i)<|
 ((z2u s i).bind fun r3 =>
 (gdE (z2x s i)<|
 ((z2v s i).bind fun r4 =>
 (gL qb1 s<|
 (gL qb5 r2.1<|
 (gL qb5 r2.2.1<|
 (gL qay r2.2.2.1<|
 (gL qb3 r2.2.2.2.1<|
 (gL qau b1_1<|
 (gL qb2 b1_3<|
 (gL qb0 b1_4<|
 (gL qb5 b2<|
 (gL qb5 b2_1<|
 (gL qay b2_2<|
 (gL qb3 b2_3<|
 (q106 (dL qb1 s) (IntKind.wrap .i64 (number+(IntKind.wrap .i64 ((IntKind.wrap .i64 (1+r3))+r4)))) size (wI i) (dL qb5 r2.1) (dL qb5 r2.2.1) (dL qay r2.2.2.1) (dL qb3 r2.2.2.2.1) r2.2.2.2.2 b1 (dL qau b1_1) b1_2 (dL qb2 b1_3) (dL qb0 b1_4) (dL qb5 b2) (dL qb5 b2_1) (dL qay b2_2) (dL qb3 b2_3) b2_4)))))))))))))))))))))))
 (brE ((z2y s i)==4)
 (gdE (z2w s i)<|
 ((z2u s i).bind fun r2 =>
 (gdE (z2x s i)<|
 ((z2v s i).bind fun r3 =>
 (gL qb1 s<|
 (gL qb5 r1.1<|
 (gL qb5 r1.2.1<|
 (gdE (EC.isL qay ((EC.encL qay r1.2.2.1)++[[(z2t s i),(C.str ⟨#[]⟩),(z2s s i)]]))<|
 (gL qb3 r1.2.2.2.1<|
 (gL qau b1_1<|
 (gL qb2 b1_3<|
 (gL qb0 b1_4<|
 (gL qb5 b2<|
 (gL qb5 b2_1<|
 (gL qay b2_2<|
 (gL qb3 b2_3<|
 (q106 (dL qb1 s) (IntKind.wrap .i64 (number+(IntKind.wrap .i64 ((IntKind.wrap .i64 (1+r2))+r3)))) size (wI i) (dL qb5 r1.1) (dL qb5 r1.2.1) (EC.decL qay ((EC.encL qay r1.2.2.1)++[[(z2t s i),(C.str ⟨#[]⟩),(z2s s i)]])) (dL qb3 r1.2.2.2.1) true b1 (dL qau b1_1) b1_2 (dL qb2 b1_3) (dL qb0 b1_4) (dL qb5 b2) (dL qb5 b2_1) (dL qay b2_2) (dL qb3 b2_3) b2_4)))))))))))))))))
 (gdE (z2w s i)<|
 ((z2u s i).bind fun r2 =>
 (gdE (z2x s i)<|
 ((z2v s i).bind fun r3 =>
 (gL qb1 s<|
 (gL qb5 r1.1<|
 (gL qb5 r1.2.1<|
 (gdE (EC.isL qay ((EC.encL qay r1.2.2.1)++[[(z2t s i),(C.str ⟨#[]⟩),(z2s s i)]]))<|
 (gL qb3 r1.2.2.2.1<|
 (gL qau b1_1<|
 (gL qb2 b1_3<|
 (gL qb0 b1_4<|
 (gL qb5 b2<|
 (gL qb5 b2_1<|
 (gL qay b2_2<|
 (gL qb3 b2_3<|
 (q106 (dL qb1 s) (IntKind.wrap .i64 (number+(IntKind.wrap .i64 ((IntKind.wrap .i64 (1+r2))+r3)))) size (wI i) (dL qb5 r1.1) (dL qb5 r1.2.1) (EC.decL qay ((EC.encL qay r1.2.2.1)++[[(z2t s i),(C.str ⟨#[]⟩),(z2s s i)]])) (dL qb3 r1.2.2.2.1) r1.2.2.2.2 b1 (dL qau b1_1) b1_2 (dL qb2 b1_3) (dL qb0 b1_4) (dL qb5 b2) (dL qb5 b2_1) (dL qay b2_2) (dL qb3 b2_3) b2_4)))))))))))))))))))))
 (brE ((z2y s i)==3)
 (gL qb5 r1.1<|
 (gL qb5 r1.2.1<|
 (gL qay r1.2.2.1<|
 (gL qb3 r1.2.2.2.1<|
 ((q194 (dL qb5 r1.1) (dL qb5 r1.2.1) (dL qay r1.2.2.1) (dL qb3 r1.2.2.2.1) r1.2.2.2.2 (z30 s i) ⟨#[]⟩).bind fun r2 =>
 (brE ((z2y s i)==4)
 (gdE (z2w s i)<|
 ((z2u s i).bind fun r3 =>
 (gdE (z2x s i)<|
 ((z2v s i).bind fun r4 =>
 (gL qb1 s<|
 (gL qb5 r2.1<|
 (gL qb5 r2.2.1<|
 (gL qay r2.2.2.1<|
 (gL qb3 r2.2.2.2.1<|
 (gL qau b1_1<|
 (gL qb2 b1_3<|
 (gL qb0 b1_4<|
 (gL qb5 b2<|
 (gL qb5 b2_1<|
 (gL qay b2_2<|
 (gL qb3 b2_3<|
 (q106 (dL qb1 s) (IntKind.wrap .i64 (number+(IntKind.wrap .i64 ((IntKind.wrap .i64 (1+r3))+r4)))) size (wI i) (dL qb5 r2.1) (dL qb5 r2.2.1) (dL qay r2.2.2.1) (dL qb3 r2.2.2.2.1) true b1 (dL qau b1_1) b1_2 (dL qb2 b1_3) (dL qb0 b1_4) (dL qb5 b2) (dL qb5 b2_1) (dL qay b2_2) (dL qb3 b2_3) b2_4)))))))))))))))))
 (gdE (z2w s i)<|
 ((z2u s i).bind fun r3 =>
 (gdE (z2x s i)<|
 ((z2v s i).bind fun r4 =>
 (gL qb1 s<|
 (gL qb5 r2.1<|
 (gL qb5 r2.2.1<|
 (gL qay r2.2.2.1<|
 (gL qb3 r2.2.2.2.1<|
 (gL qau b1_1<|
 (gL qb2 b1_3<|
 (gL qb0 b1_4<|
 (gL qb5 b2<|
 (gL qb5 b2_1<|
 (gL qay b2_2<|
 (gL qb3 b2_3<|
 (q106 (dL qb1 s) (IntKind.wrap .i64 (number+(IntKind.wrap .i64 ((IntKind.wrap .i64 (1+r3))+r4)))) size (wI i) (dL qb5 r2.1) (dL qb5 r2.2.1) (dL qay r2.2.2.1) (dL qb3 r2.2.2.2.1) r2.2.2.2.2 b1 (dL qau b1_1) b1_2 (dL qb2 b1_3) (dL qb0 b1_4) (dL qb5 b2) (dL qb5 b2_1) (dL qay b2_2) (dL qb3 b2_3) b2_4)))))))))))))))))))))))
 (brE ((z2y s i)==4)
 (gdE (z2w s i)<|
 ((z2u s i).bind fun r2 =>
 (gdE (z2x s i)<|
 ((z2v s i).bind fun r3 =>
 (gL qb1 s<|
 (gL qb5 r1.1<|
 (gL qb5 r1.2.1<|
 (gL qay r1.2.2.1<|
 (gL qb3 r1.2.2.2.1<|
 (gL qau b1_1<|
 (gL qb2 b1_3<|
 (gL qb0 b1_4<|
 (gL qb5 b2<|
 (gL qb5 b2_1<|
 (gL qay b2_2<|
 (gL qb3 b2_3<|
 (q106 (dL qb1 s) (IntKind.wrap .i64 (number+(IntKind.wrap .i64 ((IntKind.wrap .i64 (1+r2))+r3)))) size (wI i) (dL qb5 r1.1) (dL qb5 r1.2.1) (dL qay r1.2.2.1) (dL qb3 r1.2.2.2.1) true b1 (dL qau b1_1) b1_2 (dL qb2 b1_3) (dL qb0 b1_4) (dL qb5 b2) (dL qb5 b2_1) (dL qay b2_2) (dL qb3 b2_3) b2_4)))))))))))))))))
 (gdE (z2w s i)<|
 ((z2u s i).bind fun r2 =>
 (gdE (z2x s i)<|
 ((z2v s i).bind fun r3 =>
 (gL qb1 s<|
 (gL qb5 r1.1<|
 (gL qb5 r1.2.1<|
 (gL qay r1.2.2.1<|
 (gL qb3 r1.2.2.2.1<|
 (gL qau b1_1<|
 (gL qb2 b1_3<|
 (gL qb0 b1_4<|
 (gL qb5 b2<|
 (gL qb5 b2_1<|
 (gL qay b2_2<|
 (gL qb3 b2_3<|
 (q106 (dL qb1 s) (IntKind.wrap .i64 (number+(IntKind.wrap .i64 ((IntKind.wrap .i64 (1+r2))+r3)))) size (wI i) (dL qb5 r1.1) (dL qb5 r1.2.1) (dL qay r1.2.2.1) (dL qb3 r1.2.2.2.1) r1.2.2.2.2 b1 (dL qau b1_1) b1_2 (dL qb2 b1_3) (dL qb0 b1_4) (dL qb5 b2) (dL qb5 b2_1) (dL qay b2_2) (dL qb3 b2_3) b2_4)))))))))))))))))))))))))))))
 (gdE (z2w s i)<|
 ((z2u s i).bind fun r1 =>
 (gL qb5 r0.2.1<|
 (gL qb5 r0.2.2.1<|
 (gL qay r0.2.2.2.1<|
 (gdE (EC.isL qb3 ((EC.encL qb3 r0.2.2.2.2.1)++[[(z2z number),(C.bool r0.1),(C.str ⟨#[]⟩)]]))<|
 (gdE (z2x s i)<|
 (gL qau b1_1<|
 (gL qb2 b1_3<|
 (gL qb0 b1_4<|
 ((q10d (dL qb5 r0.2.1) (dL qb5 r0.2.2.1) (dL qay r0.2.2.2.1) (EC.decL qb3 ((EC.encL qb3 r0.2.2.2.2.1)++[[(z2z number),(C.bool r0.1),(C.str ⟨#[]⟩)]])) r0.2.2.2.2.2 (uL qb1 (List.getD (z2r s i) 8 C.ne)) (IntKind.wrap .i64 ((wI number)+r1)) b1 (dL qau b1_1) b1_2 (dL qb2 b1_3) (dL qb0 b1_4) size).bind fun r2 =>
 (brE ((z2y s i)==2)
 (gdE (((aL (EC.encL qay r2.2.2.1) 3)&&(dQ (lN qay r2.2.2.1) 32))&&(dM (lN qay r2.2.2.1)))<|
 (gdE ((((aL [[(z2t s i),(C.str ⟨#[]⟩),(z2s s i)]] 3)&&(aL (EC.encL qay r2.2.2.1) 3))&&(dQ ((lN qay r2.2.2.1)+(z31 s i)) 32))&&(decide (((lN qay r2.2.2.1)+(z31 s i))≤9223372036854775807)))<|
 (brE ((z2y s i)==3)
 (gL qb5 r2.1<|
 (gL qb5 r2.2.1<|
 (gdE (EC.isL qay ((EC.encL qay r2.2.2.1)++[[(z2t s i),(C.str ⟨#[]⟩),(z2s s i)]]))<|
 (gL qb3 r2.2.2.2.1<|
 (Option.bind (q194 (dL qb5 r2.1) (dL qb5 r2.2.1) (EC.decL qay ((EC.encL qay r2.2.2.1)++[[(z2t s i),(C.str ⟨#[]⟩),(z2s s i)]])) (dL qb3 r2.2.2.2.1) r2.2.2.2.2 (z30 s i) ⟨#[]⟩) fun r3 =>
 (brE ((z2y s i)==4)
 (gdE (z2w s i)<|
 ((z2u s i).bind fun r4 =>
 (gdE (z2x s i)<|
 ((z2v s i).bind fun r5 =>
 (gL qb1 s<|
 (gL qb5 r3.1<|
 (gL qb5 r3.2.1<|
 (gL qay r3.2.2.1<|
 (gL qb3 r3.2.2.2.1<|
 (gL qau b1_1<|
 (gL qb2 b1_3<|
 (gL qb0 b1_4<|
 (gL qb5 b2<|
 (gL qb5 b2_1<|
 (gL qay b2_2<|
 (gL qb3 b2_3<|
 (q106 (dL qb1 s) (IntKind.wrap .i64 (number+(IntKind.wrap .i64 ((IntKind.wrap .i64 (1+r4))+r5)))) size (wI i) (dL qb5 r3.1) (dL qb5 r3.2.1) (dL qay r3.2.2.1) (dL qb3 r3.2.2.2.1) true b1 (dL qau b1_1) b1_2 (dL qb2 b1_3) (dL qb0 b1_4) (dL qb5 b2) (dL qb5 b2_1) (dL qay b2_2) (dL qb3 b2_3) b2_4)))))))))))))))))
 (gdE (z2w s i)<|
 ((z2u s i).bind fun r4 =>
 (gdE (z2x s i)<|
 ((z2v s i).bind fun r5 =>
 (gL qb1 s<|
 (gL qb5 r3.1<|
 (gL qb5 r3.2.1<|
 (gL qay r3.2.2.1<|
 (gL qb3 r3.2.2.2.1<|
 (gL qau b1_1<|
 (gL qb2 b1_3<|
 (gL qb0 b1_4<|
 (gL qb5 b2<|
 (gL qb5 b2_1<|
 (gL qay b2_2<|
 (gL qb3 b2_3<|
 (q106 (dL qb1 s) (IntKind.wrap .i64 (number+(IntKind.wrap .i64 ((IntKind.wrap .i64 (1+r4))+r5)))) size (wI i) (dL qb5 r3.1) (dL qb5 r3.2.1) (dL qay r3.2.2.1) (dL qb3 r3.2.2.2.1) r3.2.2.2.2 b1 (dL qau b1_1) b1_2 (dL qb2 b1_3) (dL qb0 b1_4) (dL qb5 b2) (dL qb5 b2_1) (dL qay b2_2) (dL qb3 b2_3) b2_4)))))))))))))))))))))))
 (brE ((z2y s i)==4)
 (gdE (z2w s i)<|
 ((z2u s i).bind fun r3 =>
 (gdE (z2x s i)<|
 ((z2v s i).bind fun r4 =>
 (gL qb1 s<|
 (gL qb5 r2.1<|
 (gL qb5 r2.2.1<|
 (gdE (EC.isL qay ((EC.encL qay r2.2.2.1)++[[(z2t s i),(C.str ⟨#[]⟩),(z2s s i)]]))<|
 (gL qb3 r2.2.2.2.1<|
 (gL qau b1_1<|
 (gL qb2 b1_3<|
 (gL qb0 b1_4<|
 (gL qb5 b2<|
 (gL qb5 b2_1<|
 (gL qay b2_2<|
 (gL qb3 b2_3<|
 (q106 (dL qb1 s) (IntKind.wrap .i64 (number+(IntKind.wrap .i64 ((IntKind.wrap .i64 (1+r3))+r4)))) size (wI i) (dL qb5 r2.1) (dL qb5 r2.2.1) (EC.decL qay ((EC.encL qay r2.2.2.1)++[[(z2t s i),(C.str ⟨#[]⟩),(z2s s i)]])) (dL qb3 r2.2.2.2.1) true b1 (dL qau b1_1) b1_2 (dL qb2 b1_3) (dL qb0 b1_4) (dL qb5 b2) (dL qb5 b2_1) (dL qay b2_2) (dL qb3 b2_3) b2_4)))))))))))))))))
 (gdE (z2w s i)<|
 ((z2u s i).bind fun r3 =>
 (gdE (z2x s i)<|
 ((z2v s i).bind fun r4 =>
 (gL qb1 s<|
 (gL qb5 r2.1<|
 (gL qb5 r2.2.1<|
 (gdE (EC.isL qay ((EC.encL qay r2.2.2.1)++[[(z2t s i),(C.str ⟨#[]⟩),(z2s s i)]]))<|
 (gL qb3 r2.2.2.2.1<|
 (gL qau b1_1<|
 (gL qb2 b1_3<|
 (gL qb0 b1_4<|
 (gL qb5 b2<|
 (gL qb5 b2_1<|
 (gL qay b2_2<|
 (gL qb3 b2_3<|
 (q106 (dL qb1 s) (IntKind.wrap .i64 (number+(IntKind.wrap .i64 ((IntKind.wrap .i64 (1+r3))+r4)))) size (wI i) (dL qb5 r2.1) (dL qb5 r2.2.1) (EC.decL qay ((EC.encL qay r2.2.2.1)++[[(z2t s i),(C.str ⟨#[]⟩),(z2s s i)]])) (dL qb3 r2.2.2.2.1) r2.2.2.2.2 b1 (dL qau b1_1) b1_2 (dL qb2 b1_3) (dL qb0 b1_4) (dL qb5 b2) (dL qb5 b2_1) (dL qay b2_2) (dL qb3 b2_3) b2_4)))))))))))))))))))))
 (brE ((z2y s i)==3)
 (gL qb5 r2.1<|
 (gL qb5 r2.2.1<|
 (gL qay r2.2.2.1<|
 (gL qb3 r2.2.2.2.1<|
 ((q194 (dL qb5 r2.1) (dL qb5 r2.2.1) (dL qay r2.2.2.1) (dL qb3 r2.2.2.2.1) r2.2.2.2.2 (z30 s i) ⟨#[]⟩).bind fun r3 =>
 (brE ((z2y s i)==4)
 (gdE (z2w s i)<|
 ((z2u s i).bind fun r4 =>
 (gdE (z2x s i)<|
 ((z2v s i).bind fun r5 =>
 (gL qb1 s<|
 (gL qb5 r3.1<|
 (gL qb5 r3.2.1<|
 (gL qay r3.2.2.1<|
 (gL qb3 r3.2.2.2.1<|
 (gL qau b1_1<|
 (gL qb2 b1_3<|
 (gL qb0 b1_4<|
 (gL qb5 b2<|
 (gL qb5 b2_1<|
 (gL qay b2_2<|
 (gL qb3 b2_3<|
 (q106 (dL qb1 s) (IntKind.wrap .i64 (number+(IntKind.wrap .i64 ((IntKind.wrap .i64 (1+r4))+r5)))) size (wI i) (dL qb5 r3.1) (dL qb5 r3.2.1) (dL qay r3.2.2.1) (dL qb3 r3.2.2.2.1) true b1 (dL qau b1_1) b1_2 (dL qb2 b1_3) (dL qb0 b1_4) (dL qb5 b2) (dL qb5 b2_1) (dL qay b2_2) (dL qb3 b2_3) b2_4)))))))))))))))))
 (gdE (z2w s i)<|
 ((z2u s i).bind fun r4 =>
 (gdE (z2x s i)<|
 ((z2v s i).bind fun r5 =>
 (gL qb1 s<|
 (gL qb5 r3.1<|
 (gL qb5 r3.2.1<|
 (gL qay r3.2.2.1<|
 (gL qb3 r3.2.2.2.1<|
 (gL qau b1_1<|
 (gL qb2 b1_3<|
 (gL qb0 b1_4<|
 (gL qb5 b2<|
 (gL qb5 b2_1<|
 (gL qay b2_2<|
 (gL qb3 b2_3<|
 (q106 (dL qb1 s) (IntKind.wrap .i64 (number+(IntKind.wrap .i64 ((IntKind.wrap .i64 (1+r4))+r5)))) size (wI i) (dL qb5 r3.1) (dL qb5 r3.2.1) (dL qay r3.2.2.1) (dL qb3 r3.2.2.2.1) r3.2.2.2.2 b1 (dL qau b1_1) b1_2 (dL qb2 b1_3) (dL qb0 b1_4) (dL qb5 b2) (dL qb5 b2_1) (dL qay b2_2) (dL qb3 b2_3) b2_4)))))))))))))))))))))))
 (brE ((z2y s i)==4)
 (gdE (z2w s i)<|
 ((z2u s i).bind fun r3 =>
 (gdE (z2x s i)<|
 ((z2v s i).bind fun r4 =>
 (gL qb1 s<|
 (gL qb5 r2.1<|
 (gL qb5 r2.2.1<|
 (gL qay r2.2.2.1<|
 (gL qb3 r2.2.2.2.1<|
 (gL qau b1_1<|
 (gL qb2 b1_3<|
 (gL qb0 b1_4<|
 (gL qb5 b2<|
 (gL qb5 b2_1<|
 (gL qay b2_2<|
 (gL qb3 b2_3<|
 (q106 (dL qb1 s) (IntKind.wrap .i64 (number+(IntKind.wrap .i64 ((IntKind.wrap .i64 (1+r3))+r4)))) size (wI i) (dL qb5 r2.1) (dL qb5 r2.2.1) (dL qay r2.2.2.1) (dL qb3 r2.2.2.2.1) true b1 (dL qau b1_1) b1_2 (dL qb2 b1_3) (dL qb0 b1_4) (dL qb5 b2) (dL qb5 b2_1) (dL qay b2_2) (dL qb3 b2_3) b2_4)))))))))))))))))
 (gdE (z2w s i)<|
 ((z2u s i).bind fun r3 =>
 (gdE (z2x s i)<|
 ((z2v s i).bind fun r4 =>
 (gL qb1 s<|
 (gL qb5 r2.1<|
 (gL qb5 r2.2.1<|
 (gL qay r2.2.2.1<|
 (gL qb3 r2.2.2.2.1<|
 (gL qau b1_1<|
 (gL qb2 b1_3<|
 (gL qb0 b1_4<|
 (gL qb5 b2<|
 (gL qb5 b2_1<|
 (gL qay b2_2<|
 (gL qb3 b2_3<|
 (q106 (dL qb1 s) (IntKind.wrap .i64 (number+(IntKind.wrap .i64 ((IntKind.wrap .i64 (1+r3))+r4)))) size (wI i) (dL qb5 r2.1) (dL qb5 r2.2.1) (dL qay r2.2.2.1) (dL qb3 r2.2.2.2.1) r2.2.2.2.2 b1 (dL qau b1_1) b1_2 (dL qb2 b1_3) (dL qb0 b1_4) (dL qb5 b2) (dL qb5 b2_1) (dL qay b2_2) (dL qb3 b2_3) b2_4)))))))))))))))))))))))))))))))))))))))))))
 (gL qb5 b0<|
 (gL qb5 b0_1<|
 (gL qay b0_2<|
 (gL qb3 b0_3<|
 ((q10x (dL qb5 b0) (dL qb5 b0_1) (dL qay b0_2) (dL qb3 b0_3) b0_4 (q1gu (List.getD (z2r s i) 11 C.ne))).bind fun r0 =>
 (gdE (((aL (EC.encL qb3 b0_3) 3)&&(dQ (lN qb3 b0_3) 32))&&(dM (lN qb3 b0_3)))<|
 (gdE ((((aL [[(z2z number),(C.bool false),(C.str r0)]] 3)&&(aL (EC.encL qb3 b0_3) 3))&&(dQ ((lN qb3 b0_3)+(List.length [[(z2z number),(C.bool false),(C.str r0)]])) 32))&&(decide (((lN qb3 b0_3)+(List.length [[(z2z number),(C.bool false),(C.str r0)]]))≤9223372036854775807)))<|
 (brE ((z2y s i)==2)
 (gdE (((aL (EC.encL qay b0_2) 3)&&(dQ (lN qay b0_2) 32))&&(dM (lN qay b0_2)))<|
 (gdE ((((aL [[(z2t s i),(C.str r0),(z2s s i)]] 3)&&(aL (EC.encL qay b0_2) 3))&&(dQ ((lN qay b0_2)+(List.length [[(z2t s i),(C.str r0),(z2s s i)]])) 32))&&(decide (((lN qay b0_2)+(List.length [[(z2t s i),(C.str r0),(z2s s i)]]))≤9223372036854775807)))<|
 (brE ((z2y s i)==3)
 (gL qb5 b0<|
 (gL qb5 b0_1<|
 (gdE (EC.isL qay ((EC.encL qay b0_2)++[[(z2t s i),(C.str r0),(z2s s i)]]))<|
 (gdE (EC.isL qb3 ((EC.encL qb3 b0_3)++[[(z2z number),(C.bool false),(C.str r0)]]))<|
 (Option.bind (q194 (dL qb5 b0) (dL qb5 b0_1) (EC.decL qay ((EC.encL qay b0_2)++[[(z2t s i),(C.str r0),(z2s s i)]])) (EC.decL qb3 ((EC.encL qb3 b0_3)++[[(z2z number),(C.bool false),(C.str r0)]])) b0_4 (z30 s i) r0) fun r1 =>
 (brE ((z2y s i)==4)
 (gdE (z2w s i)<|
 ((z2u s i).bind fun r2 =>
 (gdE (z2x s i)<|
 ((z2v s i).bind fun r3 =>
 (gL qb1 s<|
 (gL qb5 r1.1<|
 (gL qb5 r1.2.1<|
 (gL qay r1.2.2.1<|
 (gL qb3 r1.2.2.2.1<|
 (gL qau b1_1<|
 (gL qb2 b1_3<|
 (gL qb0 b1_4<|
 (gL qb5 b2<|
 (gL qb5 b2_1<|
 (gL qay b2_2<|
 (gL qb3 b2_3<|
 (q106 (dL qb1 s) (IntKind.wrap .i64 (number+(IntKind.wrap .i64 ((IntKind.wrap .i64 (1+r2))+r3)))) size (wI i) (dL qb5 r1.1) (dL qb5 r1.2.1) (dL qay r1.2.2.1) (dL qb3 r1.2.2.2.1) true b1 (dL qau b1_1) b1_2 (dL qb2 b1_3) (dL qb0 b1_4) (dL qb5 b2) (dL qb5 b2_1) (dL qay b2_2) (dL qb3 b2_3) b2_4)))))))))))))))))
 (gdE (z2w s i)<|
 ((z2u s i).bind fun r2 =>
 (gdE (z2x s i)<|
 ((z2v s i).bind fun r3 =>
 (gL qb1 s<|
 (gL qb5 r1.1<|
 (gL qb5 r1.2.1<|
 (gL qay r1.2.2.1<|
 (gL qb3 r1.2.2.2.1<|
 (gL qau b1_1<|
 (gL qb2 b1_3<|
 (gL qb0 b1_4<|
 (gL qb5 b2<|
 (gL qb5 b2_1<|
 (gL qay b2_2<|
 (gL qb3 b2_3<|
 (q106 (dL qb1 s) (IntKind.wrap .i64 (number+(IntKind.wrap .i64 ((IntKind.wrap .i64 (1+r2))+r3)))) size (wI i) (dL qb5 r1.1) (dL qb5 r1.2.1) (dL qay r1.2.2.1) (dL qb3 r1.2.2.2.1) r1.2.2.2.2 b1 (dL qau b1_1) b1_2 (dL qb2 b1_3) (dL qb0 b1_4) (dL qb5 b2) (dL qb5 b2_1) (dL qay b2_2) (dL qb3 b2_3) b2_4)))))))))))))))))))))))
 (brE ((z2y s i)==4)
 (gdE (z2w s i)<|
 ((z2u s i).bind fun r1 =>
 (gdE (z2x s i)<|
 ((z2v s i).bind fun r2 =>
 (gL qb1 s<|
 (gL qb5 b0<|
 (gL qb5 b0_1<|
 (gdE (EC.isL qay ((EC.encL qay b0_2)++[[(z2t s i),(C.str r0),(z2s s i)]]))<|
 (gdE (EC.isL qb3 ((EC.encL qb3 b0_3)++[[(z2z number),(C.bool false),(C.str r0)]]))<|
 (gL qau b1_1<|
 (gL qb2 b1_3<|
 (gL qb0 b1_4<|
 (gL qb5 b2<|
 (gL qb5 b2_1<|
 (gL qay b2_2<|
 (gL qb3 b2_3<|
 (q106 (dL qb1 s) (IntKind.wrap .i64 (number+(IntKind.wrap .i64 ((IntKind.wrap .i64 (1+r1))+r2)))) size (wI i) (dL qb5 b0) (dL qb5 b0_1) (EC.decL qay ((EC.encL qay b0_2)++[[(z2t s i),(C.str r0),(z2s s i)]])) (EC.decL qb3 ((EC.encL qb3 b0_3)++[[(z2z number),(C.bool false),(C.str r0)]])) true b1 (dL qau b1_1) b1_2 (dL qb2 b1_3) (dL qb0 b1_4) (dL qb5 b2) (dL qb5 b2_1) (dL qay b2_2) (dL qb3 b2_3) b2_4)))))))))))))))))
 (gdE (z2w s i)<|
 ((z2u s i).bind fun r1 =>
 (gdE (z2x s i)<|
 ((z2v s i).bind fun r2 =>
 (gL qb1 s<|
 (gL qb5 b0<|
 (gL qb5 b0_1<|
 (gdE (EC.isL qay ((EC.encL qay b0_2)++[[(z2t s i),(C.str r0),(z2s s i)]]))<|
 (gdE (EC.isL qb3 ((EC.encL qb3 b0_3)++[[(z2z number),(C.bool false),(C.str r0)]]))<|
 (gL qau b1_1<|
 (gL qb2 b1_3<|
 (gL qb0 b1_4<|
 (gL qb5 b2<|
 (gL qb5 b2_1<|
 (gL qay b2_2<|
 (gL qb3 b2_3<|
 (q106 (dL qb1 s) (IntKind.wrap .i64 (number+(IntKind.wrap .i64 ((IntKind.wrap .i64 (1+r1))+r2)))) size (wI i) (dL qb5 b0) (dL qb5 b0_1) (EC.decL qay ((EC.encL qay b0_2)++[[(z2t s i),(C.str r0),(z2s s i)]])) (EC.decL qb3 ((EC.encL qb3 b0_3)++[[(z2z number),(C.bool false),(C.str r0)]])) b0_4 b1 (dL qau b1_1) b1_2 (dL qb2 b1_3) (dL qb0 b1_4) (dL qb5 b2) (dL qb5 b2_1) (dL qay b2_2) (dL qb3 b2_3) b2_4)))))))))))))))))))))
 (brE ((z2y s i)==3)
 (gL qb5 b0<|
 (gL qb5 b0_1<|
 (gL qay b0_2<|
 (gdE (EC.isL qb3 ((EC.encL qb3 b0_3)++[[(z2z number),(C.bool false),(C.str r0)]]))<|
 ((q194 (dL qb5 b0) (dL qb5 b0_1) (dL qay b0_2) (EC.decL qb3 ((EC.encL qb3 b0_3)++[[(z2z number),(C.bool false),(C.str r0)]])) b0_4 (z30 s i) r0).bind fun r1 =>
 (brE ((z2y s i)==4)
 (gdE (z2w s i)<|
 ((z2u s i).bind fun r2 =>
 (gdE (z2x s i)<|
 ((z2v s i).bind fun r3 =>
 (gL qb1 s<|
 (gL qb5 r1.1<|
 (gL qb5 r1.2.1<|
 (gL qay r1.2.2.1<|
 (gL qb3 r1.2.2.2.1<|
 (gL qau b1_1<|
 (gL qb2 b1_3<|
 (gL qb0 b1_4<|
 (gL qb5 b2<|
 (gL qb5 b2_1<|
 (gL qay b2_2<|
 (gL qb3 b2_3<|
 (q106 (dL qb1 s) (IntKind.wrap .i64 (number+(IntKind.wrap .i64 ((IntKind.wrap .i64 (1+r2))+r3)))) size (wI i) (dL qb5 r1.1) (dL qb5 r1.2.1) (dL qay r1.2.2.1) (dL qb3 r1.2.2.2.1) true b1 (dL qau b1_1) b1_2 (dL qb2 b1_3) (dL qb0 b1_4) (dL qb5 b2) (dL qb5 b2_1) (dL qay b2_2) (dL qb3 b2_3) b2_4)))))))))))))))))
 (gdE (z2w s i)<|
 ((z2u s i).bind fun r2 =>
 (gdE (z2x s i)<|
 ((z2v s i).bind fun r3 =>
 (gL qb1 s<|
 (gL qb5 r1.1<|
 (gL qb5 r1.2.1<|
 (gL qay r1.2.2.1<|
 (gL qb3 r1.2.2.2.1<|
 (gL qau b1_1<|
 (gL qb2 b1_3<|
 (gL qb0 b1_4<|
 (gL qb5 b2<|
 (gL qb5 b2_1<|
 (gL qay b2_2<|
 (gL qb3 b2_3<|
 (q106 (dL qb1 s) (IntKind.wrap .i64 (number+(IntKind.wrap .i64 ((IntKind.wrap .i64 (1+r2))+r3)))) size (wI i) (dL qb5 r1.1) (dL qb5 r1.2.1) (dL qay r1.2.2.1) (dL qb3 r1.2.2.2.1) r1.2.2.2.2 b1 (dL qau b1_1) b1_2 (dL qb2 b1_3) (dL qb0 b1_4) (dL qb5 b2) (dL qb5 b2_1) (dL qay b2_2) (dL qb3 b2_3) b2_4)))))))))))))))))))))))
 (brE ((z2y s i)==4)
 (gdE (z2w s i)<|
 ((z2u s i).bind fun r1 =>
 (gdE (z2x s i)<|
 ((z2v s i).bind fun r2 =>
 (gL qb1 s<|
 (gL qb5 b0<|
 (gL qb5 b0_1<|
 (gL qay b0_2<|
 (gdE (EC.isL qb3 ((EC.encL qb3 b0_3)++[[(z2z number),(C.bool false),(C.str r0)]]))<|
 (gL qau b1_1<|
 (gL qb2 b1_3<|
 (gL qb0 b1_4<|
 (gL qb5 b2<|
 (gL qb5 b2_1<|
 (gL qay b2_2<|
 (gL qb3 b2_3<|
 (q106 (dL qb1 s) (IntKind.wrap .i64 (number+(IntKind.wrap .i64 ((IntKind.wrap .i64 (1+r1))+r2)))) size (wI i) (dL qb5 b0) (dL qb5 b0_1) (dL qay b0_2) (EC.decL qb3 ((EC.encL qb3 b0_3)++[[(z2z number),(C.bool false),(C.str r0)]])) true b1 (dL qau b1_1) b1_2 (dL qb2 b1_3) (dL qb0 b1_4) (dL qb5 b2) (dL qb5 b2_1) (dL qay b2_2) (dL qb3 b2_3) b2_4)))))))))))))))))
 (gdE (z2w s i)<|
 ((z2u s i).bind fun r1 =>
 (gdE (z2x s i)<|
 ((z2v s i).bind fun r2 =>
 (gL qb1 s<|
 (gL qb5 b0<|
 (gL qb5 b0_1<|
 (gL qay b0_2<|
 (gdE (EC.isL qb3 ((EC.encL qb3 b0_3)++[[(z2z number),(C.bool false),(C.str r0)]]))<|
 (gL qau b1_1<|
 (gL qb2 b1_3<|
 (gL qb0 b1_4<|
 (gL qb5 b2<|
 (gL qb5 b2_1<|
 (gL qay b2_2<|
 (gL qb3 b2_3<|
 (q106 (dL qb1 s) (IntKind.wrap .i64 (number+(IntKind.wrap .i64 ((IntKind.wrap .i64 (1+r1))+r2)))) size (wI i) (dL qb5 b0) (dL qb5 b0_1) (dL qay b0_2) (EC.decL qb3 ((EC.encL qb3 b0_3)++[[(z2z number),(C.bool false),(C.str r0)]])) b0_4 b1 (dL qau b1_1) b1_2 (dL qb2 b1_3) (dL qb0 b1_4) (dL qb5 b2) (dL qb5 b2_1) (dL qay b2_2) (dL qb3 b2_3) b2_4))))))))))))))))))))))))))))))
 (gL qb1 s<|
 (gL qb5 b0<|
 (gL qb5 b0_1<|
 (gL qay b0_2<|
 (gL qb3 b0_3<|
 (gL qau b1_1<|
 (gL qb2 b1_3<|
 (gL qb0 b1_4<|
 (gL qb5 b2<|
 (gL qb5 b2_1<|
 (gL qay b2_2<|
 (gL qb3 b2_3<|
 (some (((dL qb1 s),(number,(size,((),((),((),(i,false))))))),(((dL qb5 b0),((dL qb5 b0_1),((dL qay b0_2),((dL qb3 b0_3),b0_4)))),((b1,((dL qau b1_1),(b1_2,((dL qb2 b1_3),(dL qb0 b1_4))))),((dL qb5 b2),((dL qb5 b2_1),((dL qay b2_2),((dL qb3 b2_3),b2_4)))))))))))))))))))))
 (gL qb1 s<|
 (gL qb5 b0<|
 (gL qb5 b0_1<|
 (gL qay b0_2<|
 (gL qb3 b0_3<|
 (gL qau b1_1<|
 (gL qb2 b1_3<|
 (gL qb0 b1_4<|
 (gL qb5 b2<|
 (gL qb5 b2_1<|
 (gL qay b2_2<|
 (gL qb3 b2_3<|
 (some (((dL qb1 s),(number,(size,((),((),((),(i,false))))))),(((dL qb5 b0),((dL qb5 b0_1),((dL qay b0_2),((dL qb3 b0_3),b0_4)))),((b1,((dL qau b1_1),(b1_2,((dL qb2 b1_3),(dL qb0 b1_4))))),((dL qb5 b2),((dL qb5 b2_1),((dL qay b2_2),((dL qb3 b2_3),b2_4)))))))))))))))))))))
theorem q108 {s number size i b0 b0_1 b0_2 b0_3 b0_4 b1 b1_1 b1_2 b1_3 b1_4 b2 b2_1 b2_2 b2_3 b2_4 r} (h:q10c s number size i b0 b0_1 b0_2 b0_3 b0_4 b1 b1_1 b1_2 b1_3 b1_4 b2 b2_1 b2_2 b2_3 b2_4=some r):q106 s number size i b0 b0_1 b0_2 b0_3 b0_4 b1 b1_1 b1_2 b1_3 b1_4 b2 b2_1 b2_2 b2_3 b2_4=some r :=
 qrh (es:=q1ji) (hs:=qpb) [] (by kernel_rfl) trivial trivial (by kernel_rfl) h
def q107:=qs5 Tryz.prog lv X0 2 (qnb (cdF Tryz.f45) 2) q10b q109 (fun x=>q106 x.1.1 x.1.2.1 x.1.2.2.1 x.1.2.2.2.2.2.2 x.2.1.1 x.2.1.2.1 x.2.1.2.2.1 x.2.1.2.2.2.1 x.2.1.2.2.2.2 x.2.2.1.1 x.2.2.1.2.1 x.2.2.1.2.2.1 x.2.2.1.2.2.2.1 x.2.2.1.2.2.2.2 x.2.2.2.1 x.2.2.2.2.1 x.2.2.2.2.2.1 x.2.2.2.2.2.2.1 x.2.2.2.2.2.2.2) (fun _ _ h=>qrg h)
def q10e (x_Names x_Values:LB) (q1m7:L45) (q1ma:L62) (q1mb:Bool) (s:L50) (number:Int) (qsz:BA) (qt1:L118) (qt0:BA) (qt4:L55) (qt3:(List Int)) (size:Int):Oq (LB×LB×L45×L62×Bool) :=
 (gL qb1 s<|
 (gL qb5 x_Names<|
 (gL qb5 x_Values<|
 (gL qay q1m7<|
 (gL qb3 q1ma<|
 (gL qau qt1<|
 (gL qb2 qt4<|
 (gL qb0 qt3<|
 ((q106 (dL qb1 s) number size 0 (dL qb5 x_Names) (dL qb5 x_Values) (dL qay q1m7) (dL qb3 q1ma) q1mb qsz (dL qau qt1) qt0 (dL qb2 qt4) (dL qb0 qt3) (EC.decL qb5 []) (EC.decL qb5 []) (EC.decL qay []) (EC.decL qb3 []) false).bind fun r0 =>
 (gL qb5 r0.2.1.1<|
 (gL qb5 r0.2.1.2.1<|
 (gL qay r0.2.1.2.2.1<|
 (gL qb3 r0.2.1.2.2.2.1<|
 (some ((dL qb5 r0.2.1.1),((dL qb5 r0.2.1.2.1),((dL qay r0.2.1.2.2.1),((dL qb3 r0.2.1.2.2.2.1),r0.2.1.2.2.2.2))))))))))))))))))
theorem q105 {x_Names x_Values q1m7 q1ma q1mb s number qsz qt1 qt0 qt4 qt3 size r} (h:q10e x_Names x_Values q1m7 q1ma q1mb s number qsz qt1 qt0 qt4 qt3 size=some r):q10d x_Names x_Values q1m7 q1ma q1mb s number qsz qt1 qt0 qt4 qt3 size=some r :=
 qjn (es:=q1ji) (hs:=qpb) [q107] Tryz.func45 rfl (by kernel_rfl) rfl (by kernel_rfl) (by kernel_rfl) ⟨⟨_,rfl,rfl⟩,trivial⟩ trivial (by kernel_rfl) h
def q1nf:=(qrd (vC (cSl qb1)) (qrd (vAgg z5a) (qrf z5b)))
def q1ng:Cod (V×List B) (List S45):=(cFstU (cPair (vC (cSl qay)) qre))
def q1nj (s:L50) (qsz:BA) (qt1:L118) (qt0:BA) (qt4:L55) (qt3:(List Int)) (size:Int):=fS Tryz.prog lv X0 18 q1nf q1ng (s,(qsz,qt1,qt0,qt4,qt3),size)
def q1nk (s:L50) (qsz:BA) (qt1:L118) (qt0:BA) (qt4:L55) (qt3:(List Int)) (size:Int):Oq L45 :=
 (gL qb1 s<|
 (gL qau qt1<|
 (gL qb2 qt4<|
 (gL qb0 qt3<|
 ((q10d (EC.decL qb5 []) (EC.decL qb5 []) (EC.decL qay []) (EC.decL qb3 []) false (dL qb1 s) 0 qsz (dL qau qt1) qt0 (dL qb2 qt4) (dL qb0 qt3) size).bind fun r0 =>
 (gL qay r0.2.2.1<|
 ((q1nx (dL qay r0.2.2.1)).bind fun r1 =>
 (gL qay r1<|
 (some (dL qay r1))))))))))
theorem q1ni {s qsz qt1 qt0 qt4 qt3 size r} (h:q1nk s qsz qt1 qt0 qt4 qt3 size=some r):q1nj s qsz qt1 qt0 qt4 qt3 size=some r :=
 qjn (es:=q1ji) (hs:=qpb) [] Tryz.func18 rfl (by kernel_rfl) rfl (by kernel_rfl) (by kernel_rfl) trivial trivial (by kernel_rfl) h
def q1nh:=entS Tryz.prog lv X0 18 [] q1nf q1ng (fun x=>q1nj x.1 x.2.1.1 x.2.1.2.1 x.2.1.2.2.1 x.2.1.2.2.2.1 x.2.1.2.2.2.2 x.2.2) (fun _ _ h=>qjm h)
def q1o0:=q1nh::q1ji
def q1n4:=(qrd (vC (cSl qb1)) (qrf (vAgg z5a)))
def q1n5:Cod (V×List B) Bool:=(cFstU (cPair (vC cBool) qre))
def q1n7 (s:L50) (qsz:BA) (qt1:L118) (qt0:BA) (qt4:L55) (qt3:(List Int)):=fS Tryz.prog lv X0 3 q1n4 q1n5 (s,(qsz,qt1,qt0,qt4,qt3))
def q1n8 (s:L50) (qsz:BA) (qt1:L118) (qt0:BA) (qt4:L55) (qt3:(List Int)):Oq Bool :=
 (gL qb1 s<|
 (gL qau qt1<|
 (gL qb2 qt4<|
 (gL qb0 qt3<|
 ((qf3 (dL qb1 s) qsz (dL qau qt1) qt0 (dL qb2 qt4) (dL qb0 qt3)).bind fun r0 =>
 (gL qb1 s<|
 (gL qau qt1<|
 (gL qb2 qt4<|
 (gL qb0 qt3<|
 ((qy1 (dL qb1 s) qsz (dL qau qt1) qt0 (dL qb2 qt4) (dL qb0 qt3)).bind fun r1 =>
 (brE (r1.1.1 != 0)
 (brE (((r0.1.2.1==r1.1.1)&&((r0.1.2.2==r1.1.2)&&true))==true)
 (brE ((((r0.1.1:Nat):Int)==0)==true)
 (some true)
 (some false))
 (some false))
 (brE ((r0.1.2.1==0)==true)
 (gL qb1 s<|
 (gL qau qt1<|
 (gL qb2 qt4<|
 (gL qb0 qt3<|
 ((q1nj (dL qb1 s) qsz (dL qau qt1) qt0 (dL qb2 qt4) (dL qb0 qt3) r1.2).bind fun r2 =>
 (gL qay r0.2<|
 (gL qay r2<|
 ((q14i (dL qay r0.2) (dL qay r2)).bind fun r3 =>
 (brE (r3==true)
 (some true)
 (some false))))))))))
 (some false)))))))))))))
theorem q1n6 {s qsz qt1 qt0 qt4 qt3 r} (h:q1n8 s qsz qt1 qt0 qt4 qt3=some r):q1n7 s qsz qt1 qt0 qt4 qt3=some r :=
 qjn (es:=q1o0) (hs:=qpb) [] Tryz.func3 rfl (by kernel_rfl) rfl (by kernel_rfl) (by kernel_rfl) trivial trivial (by kernel_rfl) h
end
end Go.Proofs.YtokahibbkdbndaaGreatDoor
