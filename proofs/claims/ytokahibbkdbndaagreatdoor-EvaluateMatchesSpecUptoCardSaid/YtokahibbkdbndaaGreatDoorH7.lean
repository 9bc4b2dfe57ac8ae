/- Functions of the program as plain functions: made by program from the machine. -/
import Derived.Test.YtokahibbkdbndaaGreatDoorZ33
namespace Go.Proofs.YtokahibbkdbndaaGreatDoor
open Go.RowKit
set_option maxRecDepth 100000
noncomputable section
abbrev z4w:=(vC (cInt .i64))
def qyn:=(qrf z4w)
def qyw:=sLS [0,3,4] (qrd z4w (qrd (vC cStr) (qrf (vC cStr)))) qre [] [] (by decide) (fun _=>rfl)
def qyv:=sLS [0,3,4,13] (qrd z4w (qrd (vC cStr) (qrd (vC cStr) (qrf (vC cBool))))) qre [] [] (by decide) (fun _=>rfl)
def qyu:=oAt 2 qyv
def qyr (n:Int) (d s:BA):=lS Tryz.prog lv X0 121 26 (qnb (cdF Tryz.f121) 3) qyw qyu ((n,d,s),())
abbrev z2i (n:Int):=(Int.tmod (IntKind.wrap .i64 (Int.tdiv n 10)) 10)
def qyx (n:Int) (d s:BA):Oq ((Int×BA×BA×Bool)×Unit) :=
 (brE (decide (n≥10))
 (gdE ((p0 (wI (z2i n)))&&(decide ((wI (z2i n))≤(d.size:Int))))<|
 (gdE ((p0 (z2i n))&&(decide ((z2i n)≤(((Int.toNat (wI (z2i n))):Nat):Int))))<|
 (brE (decide (((((ByteArray.size (ByteArray.extract d (Int.toNat (z2i n)) (Int.toNat (wI (z2i n)))))+s.size):Nat):Int)>(Go.IntKind.max Go.IntKind.i64)))
 none
 (qyr (IntKind.wrap .i64 (Int.tdiv n 10)) d ((ByteArray.extract d (Int.toNat (z2i n)) (Int.toNat (wI (z2i n))))++s)))))
 (some ((n,(d,(s,false))),())))
theorem qyt {n d s r} (h:qyx n d s=some r):qyr n d s=some r :=
 qrh (es:=q1io) (hs:=qpb) [] (by kernel_rfl) trivial trivial (by kernel_rfl) h
def qys:=qs5 Tryz.prog lv X0 3 (qnb (cdF Tryz.f121) 3) qyw qyu (fun x=>qyr x.1.1 x.1.2.1 x.1.2.2) (fun _ _ h=>qrg h)
def qyo:Cod (V×List B) ByteArray:=(cFstU (cPair (vC cStr) qre))
def qyy (n:Int):=fS Tryz.prog lv X0 121 qyn qyo n
def qyz (n:Int):Oq BA :=
 (gdE ((p0 (wI (Int.tmod n 10)))&&(decide ((wI (Int.tmod n 10))≤(((ByteArray.size (ByteArray.mk (List.toArray [(48:UInt8),(49:UInt8),(50:UInt8),(51:UInt8),(52:UInt8),(53:UInt8),(54:UInt8),(55:UInt8),(56:UInt8),(57:UInt8)]))):Nat):Int))))<|
 (gdE ((p0 (Int.tmod n 10))&&(decide ((Int.tmod n 10)≤(((Int.toNat (wI (Int.tmod n 10))):Nat):Int))))<|
 ((qyr n (ByteArray.mk (List.toArray [(48:UInt8),(49:UInt8),(50:UInt8),(51:UInt8),(52:UInt8),(53:UInt8),(54:UInt8),(55:UInt8),(56:UInt8),(57:UInt8)])) (ByteArray.extract (ByteArray.mk (List.toArray [(48:UInt8),(49:UInt8),(50:UInt8),(51:UInt8),(52:UInt8),(53:UInt8),(54:UInt8),(55:UInt8),(56:UInt8),(57:UInt8)])) (Int.toNat (Int.tmod n 10)) (Int.toNat (wI (Int.tmod n 10))))).bind fun r0 =>
 (some r0.1.2.2.1))))
theorem qyq {n r} (h:qyz n=some r):qyy n=some r :=
 qjn (es:=q1io) (hs:=qpb) [qys] Tryz.func121 rfl (by kernel_rfl) rfl (by kernel_rfl) (by kernel_rfl) ⟨⟨_,rfl,rfl⟩,trivial⟩ trivial (by kernel_rfl) h
def qyp:=entS Tryz.prog lv X0 121 [] qyn qyo (fun x=>qyy x) (fun _ _ h=>qjm h)
def q1jd:=qyp::q1io
abbrev z4r:=(qrd (vC (cSl qb5)) (qrd (vC (cSl qb5)) (qrd (vC (cSl qay)) (qrd (vC (cSl qb3)) (qrf (vC cBool))))))
def q188:=(qrd (vAgg z4r) (qrf (vC cStr)))
abbrev z50:=(qv4 (bBox z4r))
def q18i:=sLS [1,2,5] (qrd (vC cStr) (qrd (vPtr 0 0) (qrf z4w))) (qrf z50) [false] [] (by decide) (fun _=>rfl)
abbrev z4y:=(qrd z4w (qrf (vC cBool)))
def q18h:=sLS [1,2,5,11] (qrd (vC cStr) (qrd (vPtr 0 0) z4y)) (qrf z50) [false] [] (by decide) (fun _=>rfl)
def q18g:=sLS [4] (qrf (vC cStr)) qre [] [] (by decide) (fun _=>rfl)
def q18f:=oOr 1 q18g (oAt 2 q18h) (fun x=>(by decide:(2:Nat)≠1))
def q18c (name:BA) (i:Int) (b0 b0_1:LB) (b0_2:L45) (b0_3:L62) (b0_4:Bool):=lS Tryz.prog lv X0 97 26 (qnb (cdF Tryz.f97) 2) q18i q18f ((name,(),i),(b0,b0_1,b0_2,b0_3,b0_4))
def q18j (name:BA) (i:Int) (b0 b0_1:LB) (b0_2:L45) (b0_3:L62) (b0_4:Bool):Oq ((BA×Unit)⊕((BA×Unit×Int×Bool)×(LB×LB×L45×L62×Bool))) :=
 (brE (decide (i≥0))
 (gdE (p0 i)<|
 (gdE (eC qb5 b0 i [K1.str])<|
 (brE ((ByteArray.toList (q1gu (List.getD (List.getD (EC.encL qb5 b0) (Int.toNat i) []) 0 C.ne)))==name.toList)
 (gdE (p0 i)<|
 (gdE (eC qb5 b0_1 i [K1.str])<|
 (some (.inl ((q1gu (List.getD (List.getD (EC.encL qb5 b0_1) (Int.toNat i) []) 0 C.ne)),())))))
 (gL qb5 b0<|
 (gL qb5 b0_1<|
 (gL qay b0_2<|
 (gL qb3 b0_3<|
 (q18c name (IntKind.wrap .i64 (i - 1)) (dL qb5 b0) (dL qb5 b0_1) (dL qay b0_2) (dL qb3 b0_3) b0_4))))))))
 (gL qb5 b0<|
 (gL qb5 b0_1<|
 (gL qay b0_2<|
 (gL qb3 b0_3<|
 (some (.inr ((name,((),(i,false))),((dL qb5 b0),((dL qb5 b0_1),((dL qay b0_2),((dL qb3 b0_3),b0_4))))))))))))
theorem q18e {name i b0 b0_1 b0_2 b0_3 b0_4 r} (h:q18j name i b0 b0_1 b0_2 b0_3 b0_4=some r):q18c name i b0 b0_1 b0_2 b0_3 b0_4=some r :=
 qrh (es:=q1jd) (hs:=qpb) [] (by kernel_rfl) trivial trivial (by kernel_rfl) h
def q18d:=qs5 Tryz.prog lv X0 2 (qnb (cdF Tryz.f97) 2) q18i q18f (fun x=>q18c x.1.1 x.1.2.2 x.2.1 x.2.2.1 x.2.2.2.1 x.2.2.2.2.1 x.2.2.2.2.2) (fun _ _ h=>qrg h)
def q189:Cod (V×List B) ByteArray:=(cFstU (cPair (vC cStr) qre))
def q18k (x_Names x_Values:LB) (q1m7:L45) (q1ma:L62) (q1mb:Bool) (name:BA):=fS Tryz.prog lv X0 97 q188 q189 ((x_Names,x_Values,q1m7,q1ma,q1mb),name)
def q18l (x_Names x_Values:LB) (q1m7:L45) (q1ma:L62) (q1mb:Bool) (name:BA):Oq BA :=
 (gL qb5 x_Names<|
 (gL qb5 x_Values<|
 (gL qay q1m7<|
 (gL qb3 q1ma<|
 ((q18c name (IntKind.wrap .i64 ((lN qb5 x_Names:Int) - 1)) (dL qb5 x_Names) (dL qb5 x_Values) (dL qay q1m7) (dL qb3 q1ma) q1mb).bind fun r0 =>
 (Sum.elim (fun r1=>(some r1.1))
 (fun r1=>(some ⟨#[]⟩)) r0))))))
theorem q18b {x_Names x_Values q1m7 q1ma q1mb name r} (h:q18l x_Names x_Values q1m7 q1ma q1mb name=some r):q18k x_Names x_Values q1m7 q1ma q1mb name=some r :=
 qjn (es:=q1jd) (hs:=qpb) [q18d] Tryz.func97 rfl (by kernel_rfl) rfl (by kernel_rfl) (by kernel_rfl) ⟨⟨_,rfl,rfl⟩,trivial⟩ trivial (by kernel_rfl) h
def q18a:=entS Tryz.prog lv X0 97 [] q188 q189 (fun x=>q18k x.1.1 x.1.2.1 x.1.2.2.1 x.1.2.2.2.1 x.1.2.2.2.2 x.2) (fun _ _ h=>qjm h)
def q1jw:=q18a::q1jd
def q190:=(qrd (vAgg z4r) (qrd (vC cStr) (qrf (vC cStr))))
def q191:Cod (V×List B) ((List ByteArray)×(List ByteArray)×(List S45)×(List S62)×Bool):=(cFstU (cPair (vAgg z4r) qre))
def q194 (x_Names x_Values:LB) (q1m7:L45) (q1ma:L62) (q1mb:Bool) (name value:BA):=fS Tryz.prog lv X0 70 q190 q191 ((x_Names,x_Values,q1m7,q1ma,q1mb),name,value)
def q195 (x_Names x_Values:LB) (q1m7:L45) (q1ma:L62) (q1mb:Bool) (name value:BA):Oq (LB×LB×L45×L62×Bool) :=
 (gdE (((aL (EC.encL qb5 x_Names) 1)&&(dQ (lN qb5 x_Names) 16))&&(dM (lN qb5 x_Names)))<|
 (gdE ((((aL [[(C.str name)]] 1)&&(aL (EC.encL qb5 x_Names) 1))&&(dQ ((lN qb5 x_Names)+(List.length [[(C.str name)]])) 16))&&(dM ((lN qb5 x_Names)+(List.length [[(C.str name)]]))))<|
 (gdE (((aL (EC.encL qb5 x_Values) 1)&&(dQ (lN qb5 x_Values) 16))&&(dM (lN qb5 x_Values)))<|
 (gdE ((((aL [[(C.str value)]] 1)&&(aL (EC.encL qb5 x_Values) 1))&&(dQ ((lN qb5 x_Values)+(List.length [[(C.str value)]])) 16))&&(dM ((lN qb5 x_Values)+(List.length [[(C.str value)]]))))<|
 (gdE (EC.isL qb5 ((EC.encL qb5 x_Names)++[[(C.str name)]]))<|
 (gdE (EC.isL qb5 ((EC.encL qb5 x_Values)++[[(C.str value)]]))<|
 (gL qay q1m7<|
 (gL qb3 q1ma<|
 (some ((EC.decL qb5 ((EC.encL qb5 x_Names)++[[(C.str name)]])),((EC.decL qb5 ((EC.encL qb5 x_Values)++[[(C.str value)]])),((dL qay q1m7),((dL qb3 q1ma),q1mb)))))))))))))
theorem q193 {x_Names x_Values q1m7 q1ma q1mb name value r} (h:q195 x_Names x_Values q1m7 q1ma q1mb name value=some r):q194 x_Names x_Values q1m7 q1ma q1mb name value=some r :=
 qjn (es:=q1jw) (hs:=qpb) [] Tryz.func70 rfl (by kernel_rfl) rfl (by kernel_rfl) (by kernel_rfl) trivial trivial (by kernel_rfl) h
def q192:=entS Tryz.prog lv X0 70 [] q190 q191 (fun x=>q194 x.1.1 x.1.2.1 x.1.2.2.1 x.1.2.2.2.1 x.1.2.2.2.2 x.2.1 x.2.2) (fun _ _ h=>qjm h)
def q1jy:=q192::q1jw
def q11w:=(qrd (vAgg z4r) (qrf (vC (cSl qb5))))
abbrev z4s:=(qrd (qv4 (bRow qb5)) (qrd (qv4 (bRow qb5)) (qrd (qv4 (bRow qay)) (qrf (qv4 (bRow qb3))))))
abbrev z4u:=(qv4 (bBox (qrd (vRow 4) (qrd (vRow 5) (qrd (vRow 6) (qrd (vRow 7) (qrf (vC cBool))))))))
abbrev z4x:=(qrd (qv4 (bBox z4r)) (qrd z4u (qrd (qv4 (bRow qb5)) (qrd (qv4 (bRow qb5)) z4s))))
abbrev z54:=(qrd (vC (cSl qb5)) (qrd (vPtr 0 0) (qrd (vPtr 1 0) (qrd (vRow 2) (qrd (vRow 3) (qrf z4w))))))
def q12c:=sLS [1,2,4,5,6,7] z54 z4x [false,false,false,false,false,false,false,false] [] (by decide) (fun _=>rfl)
abbrev z55:=(qrd (vC (cSl qb5)) (qrd (vPtr 0 0) (qrd (vPtr 1 0) (qrd (vRow 2) (qrd (vRow 3) z4y)))))
def q12b:=sLS [1,2,4,5,6,7,13] z55 z4x [false,false,false,false,false,false,false,false] [] (by decide) (fun _=>rfl)
def q12a:=oAt 2 q12b
def q127 (pieces:LB) (names values:Nat) (i:Int) (b0 b0_1:LB) (b0_2:L45) (b0_3:L62) (b0_4:Bool) (b1 b1_1:Nat) (b1_2 b1_3:Nat) (b1_4:Bool) (b2 b3:LB) (b4 b5:LB) (b6:L45) (b7:L62):=lS Tryz.prog lv X0 96 65 (qnb (cdF Tryz.f96) 4) q12c q12a ((pieces,(),(),names,values,i),((b0,b0_1,b0_2,b0_3,b0_4),(b1,b1_1,b1_2,b1_3,b1_4),b2,b3,b4,b5,b6,b7))
abbrev z2j (i:Int) (b0:LB):=(q1gu (List.getD (List.getD (EC.encL qb5 b0) (Int.toNat i) []) 0 C.ne))
abbrev z2k (i:Int) (b0_1:LB):=(C.str (q1gu (List.getD (List.getD (EC.encL qb5 b0_1) (Int.toNat i) []) 0 C.ne)))
def q12d (pieces:LB) (names values:Nat) (i:Int) (b0 b0_1:LB) (b0_2:L45) (b0_3:L62) (b0_4:Bool) (b1 b1_1:Nat) (b1_2 b1_3:Nat) (b1_4:Bool) (b2 b3:LB) (b4 b5:LB) (b6:L45) (b7:L62):Oq ((LB×Unit×Unit×Nat×Nat×Int×Bool)×((LB×LB×L45×L62×Bool)×(Nat×Nat×Nat×Nat×Bool)×LB×LB×LB×LB×L45×L62)) :=
 (brE (decide (i<(lN qb5 b0:Int)))
 (gdE (p0 i)<|
 (gdE (eC qb5 b0 i [K1.str])<|
 (gdE ((decide ((0:Int)≤0))&&(decide ((Int.toNat 0)<(ByteArray.size (z2j i b0)))))<|
 (Option.bind (qz4 (IntKind.wrap .i64 (((UInt8.toNat (Array.getD (ByteArray.data (z2j i b0)) (Int.toNat 0) (0:UInt8))):Nat):Int)) 48 57) fun r0 =>
 (brE (!r0)
 (gdE (p0 i)<|
 (gdE (eC qb5 b0 i [K1.str])<|
 (gdE ((((aL [[(C.str (z2j i b0))]] 1)&&(aL (EC.encL qb5 b2) 1))&&(dQ (names+(List.length [[(C.str (z2j i b0))]])) 16))&&(decide ((names+(List.length [[(C.str (z2j i b0))]]))≤9223372036854775807)))<|
 (gdE (p0 i)<|
 (gdE (eC qb5 b0_1 i [K1.str])<|
 (gdE ((((aL [[(z2k i b0_1)]] 1)&&(aL (EC.encL qb5 b3) 1))&&(dQ (values+(List.length [[(z2k i b0_1)]])) 16))&&(decide ((values+(List.length [[(z2k i b0_1)]]))≤9223372036854775807)))<|
 (gL qb5 pieces<|
 (gL qb5 b0<|
 (gL qb5 b0_1<|
 (gL qay b0_2<|
 (gL qb3 b0_3<|
 (gdE (EC.isL qb5 ((EC.encL qb5 b2)++[[(C.str (z2j i b0))]]))<|
 (gdE (EC.isL qb5 ((EC.encL qb5 b3)++[[(z2k i b0_1)]]))<|
 (gL qb5 b4<|
 (gL qb5 b5<|
 (gL qay b6<|
 (gL qb3 b7<|
 (q127 (dL qb5 pieces) (names+(List.length [[(C.str (z2j i b0))]])) (values+(List.length [[(z2k i b0_1)]])) (wI i) (dL qb5 b0) (dL qb5 b0_1) (dL qay b0_2) (dL qb3 b0_3) b0_4 b1 b1_1 b1_2 b1_3 b1_4 (EC.decL qb5 ((EC.encL qb5 b2)++[[(C.str (z2j i b0))]])) (EC.decL qb5 ((EC.encL qb5 b3)++[[(z2k i b0_1)]])) (dL qb5 b4) (dL qb5 b5) (dL qay b6) (dL qb3 b7)))))))))))))))))))
 (gL qb5 pieces<|
 (gL qb5 b0<|
 (gL qb5 b0_1<|
 (gL qay b0_2<|
 (gL qb3 b0_3<|
 (gL qb5 b2<|
 (gL qb5 b3<|
 (gL qb5 b4<|
 (gL qb5 b5<|
 (gL qay b6<|
 (gL qb3 b7<|
 (q127 (dL qb5 pieces) names values (wI i) (dL qb5 b0) (dL qb5 b0_1) (dL qay b0_2) (dL qb3 b0_3) b0_4 b1 b1_1 b1_2 b1_3 b1_4 (dL qb5 b2) (dL qb5 b3) (dL qb5 b4) (dL qb5 b5) (dL qay b6) (dL qb3 b7))))))))))))))))))
 (gL qb5 pieces<|
 (gL qb5 b0<|
 (gL qb5 b0_1<|
 (gL qay b0_2<|
 (gL qb3 b0_3<|
 (gL qb5 b2<|
 (gL qb5 b3<|
 (gL qb5 b4<|
 (gL qb5 b5<|
 (gL qay b6<|
 (gL qb3 b7<|
 (some (((dL qb5 pieces),((),((),(names,(values,(i,false)))))),(((dL qb5 b0),((dL qb5 b0_1),((dL qay b0_2),((dL qb3 b0_3),b0_4)))),((b1,(b1_1,(b1_2,(b1_3,b1_4)))),((dL qb5 b2),((dL qb5 b3),((dL qb5 b4),((dL qb5 b5),((dL qay b6),(dL qb3 b7))))))))))))))))))))))
theorem q129 {pieces names values i b0 b0_1 b0_2 b0_3 b0_4 b1 b1_1 b1_2 b1_3 b1_4 b2 b3 b4 b5 b6 b7 r} (h:q12d pieces names values i b0 b0_1 b0_2 b0_3 b0_4 b1 b1_1 b1_2 b1_3 b1_4 b2 b3 b4 b5 b6 b7=some r):q127 pieces names values i b0 b0_1 b0_2 b0_3 b0_4 b1 b1_1 b1_2 b1_3 b1_4 b2 b3 b4 b5 b6 b7=some r :=
 qrh (es:=q1jy) (hs:=qpb) [] (by kernel_rfl) trivial trivial (by kernel_rfl) h
def q128:=qs5 Tryz.prog lv X0 4 (qnb (cdF Tryz.f96) 4) q12c q12a (fun x=>q127 x.1.1 x.1.2.2.2.1 x.1.2.2.2.2.1 x.1.2.2.2.2.2 x.2.1.1 x.2.1.2.1 x.2.1.2.2.1 x.2.1.2.2.2.1 x.2.1.2.2.2.2 x.2.2.1.1 x.2.2.1.2.1 x.2.2.1.2.2.1 x.2.2.1.2.2.2.1 x.2.2.1.2.2.2.2 x.2.2.2.1 x.2.2.2.2.1 x.2.2.2.2.2.1 x.2.2.2.2.2.2.1 x.2.2.2.2.2.2.2.1 x.2.2.2.2.2.2.2.2) (fun _ _ h=>qrg h)
def q125:=sLS [1,2,4,5,6,8] z54 z4x [false,false,false,false,false,false,false,false] [] (by decide) (fun _=>rfl)
def q124:=sLS [1,2,4,5,6,8,44] z55 z4x [false,false,false,false,false,false,false,false] [] (by decide) (fun _=>rfl)
def q123:=oAt 4 q124
def q120 (pieces:LB) (names values:Nat) (i:Int) (b0 b0_1:LB) (b0_2:L45) (b0_3:L62) (b0_4:Bool) (b1 b1_1:Nat) (b1_2 b1_3:Nat) (b1_4:Bool) (b2 b3:LB) (b4 b5:LB) (b6:L45) (b7:L62):=lS Tryz.prog lv X0 96 65 (qnb (cdF Tryz.f96) 10) q125 q123 ((pieces,(),(),names,values,i),((b0,b0_1,b0_2,b0_3,b0_4),(b1,b1_1,b1_2,b1_3,b1_4),b2,b3,b4,b5,b6,b7))
abbrev z2l (pieces:LB) (i:Int):=(C.str (q1gu (List.getD (List.getD (EC.encL qb5 pieces) (Int.toNat i) []) 0 C.ne)))
def q126 (pieces:LB) (names values:Nat) (i:Int) (b0 b0_1:LB) (b0_2:L45) (b0_3:L62) (b0_4:Bool) (b1 b1_1:Nat) (b1_2 b1_3:Nat) (b1_4:Bool) (b2 b3:LB) (b4 b5:LB) (b6:L45) (b7:L62):Oq ((LB×Unit×Unit×Nat×Nat×Int×Bool)×((LB×LB×L45×L62×Bool)×(Nat×Nat×Nat×Nat×Bool)×LB×LB×LB×LB×L45×L62)) :=
 (brE (decide (i<(lN qb5 pieces:Int)))
 ((qyy (wI i)).bind fun r0 =>
 (gdE ((((aL [[(C.str r0)]] 1)&&(aL (EC.encL qb5 b2) 1))&&(dQ (names+(List.length [[(C.str r0)]])) 16))&&(dM (names+(List.length [[(C.str r0)]]))))<|
 (gdE (p0 i)<|
 (gdE (eC qb5 pieces i [K1.str])<|
 (gdE ((((aL [[(z2l pieces i)]] 1)&&(aL (EC.encL qb5 b3) 1))&&(dQ (values+(List.length [[(z2l pieces i)]])) 16))&&(decide ((values+(List.length [[(z2l pieces i)]]))≤9223372036854775807)))<|
 (gL qb5 pieces<|
 (gL qb5 b0<|
 (gL qb5 b0_1<|
 (gL qay b0_2<|
 (gL qb3 b0_3<|
 (gdE (EC.isL qb5 ((EC.encL qb5 b2)++[[(C.str r0)]]))<|
 (gdE (EC.isL qb5 ((EC.encL qb5 b3)++[[(z2l pieces i)]]))<|
 (gL qb5 b4<|
 (gL qb5 b5<|
 (gL qay b6<|
 (gL qb3 b7<|
 (q120 (dL qb5 pieces) (names+(List.length [[(C.str r0)]])) (values+(List.length [[(z2l pieces i)]])) (wI i) (dL qb5 b0) (dL qb5 b0_1) (dL qay b0_2) (dL qb3 b0_3) b0_4 b1 b1_1 b1_2 b1_3 b1_4 (EC.decL qb5 ((EC.encL qb5 b2)++[[(C.str r0)]])) (EC.decL qb5 ((EC.encL qb5 b3)++[[(z2l pieces i)]])) (dL qb5 b4) (dL qb5 b5) (dL qay b6) (dL qb3 b7))))))))))))))))))
 (gL qb5 pieces<|
 (gL qb5 b0<|
 (gL qb5 b0_1<|
 (gL qay b0_2<|
 (gL qb3 b0_3<|
 (gL qb5 b2<|
 (gL qb5 b3<|
 (gL qb5 b4<|
 (gL qb5 b5<|
 (gL qay b6<|
 (gL qb3 b7<|
 (some (((dL qb5 pieces),((),((),(names,(values,(i,false)))))),(((dL qb5 b0),((dL qb5 b0_1),((dL qay b0_2),((dL qb3 b0_3),b0_4)))),((b1,(b1_1,(b1_2,(b1_3,b1_4)))),((dL qb5 b2),((dL qb5 b3),((dL qb5 b4),((dL qb5 b5),((dL qay b6),(dL qb3 b7))))))))))))))))))))))
theorem q122 {pieces names values i b0 b0_1 b0_2 b0_3 b0_4 b1 b1_1 b1_2 b1_3 b1_4 b2 b3 b4 b5 b6 b7 r} (h:q126 pieces names values i b0 b0_1 b0_2 b0_3 b0_4 b1 b1_1 b1_2 b1_3 b1_4 b2 b3 b4 b5 b6 b7=some r):q120 pieces names values i b0 b0_1 b0_2 b0_3 b0_4 b1 b1_1 b1_2 b1_3 b1_4 b2 b3 b4 b5 b6 b7=some r :=
 qrh (es:=q1jy) (hs:=qpb) [] (by kernel_rfl) trivial trivial (by kernel_rfl) h
def q121:=qs5 Tryz.prog lv X0 10 (qnb (cdF Tryz.f96) 10) q125 q123 (fun x=>q120 x.1.1 x.1.2.2.2.1 x.1.2.2.2.2.1 x.1.2.2.2.2.2 x.2.1.1 x.2.1.2.1 x.2.1.2.2.1 x.2.1.2.2.2.1 x.2.1.2.2.2.2 x.2.2.1.1 x.2.2.1.2.1 x.2.2.1.2.2.1 x.2.2.1.2.2.2.1 x.2.2.1.2.2.2.2 x.2.2.2.1 x.2.2.2.2.1 x.2.2.2.2.2.1 x.2.2.2.2.2.2.1 x.2.2.2.2.2.2.2.1 x.2.2.2.2.2.2.2.2) (fun _ _ h=>qrg h)
def q11x:Cod (V×List B) ((List ByteArray)×(List ByteArray)×(List S45)×(List S62)×Bool):=(cFstU (cPair (vAgg z4r) qre))
def q12e (x_Names x_Values:LB) (q1m7:L45) (q1ma:L62) (q1mb:Bool) (pieces:LB):=fS Tryz.prog lv X0 96 q11w q11x ((x_Names,x_Values,q1m7,q1ma,q1mb),pieces)
def q12f (x_Names x_Values:LB) (q1m7:L45) (q1ma:L62) (q1mb:Bool) (pieces:LB):Oq (LB×LB×L45×L62×Bool) :=
 (gL qb5 pieces<|
 (gL qb5 x_Names<|
 (gL qb5 x_Values<|
 (gL qay q1m7<|
 (gL qb3 q1ma<|
 ((q127 (dL qb5 pieces) 0 0 0 (dL qb5 x_Names) (dL qb5 x_Values) (dL qay q1m7) (dL qb3 q1ma) q1mb 0 0 0 0 false (EC.decL qb5 []) (EC.decL qb5 []) (EC.decL qb5 []) (EC.decL qb5 []) (EC.decL qay []) (EC.decL qb3 [])).bind fun r0 =>
 (gL qb5 r0.1.1<|
 (gL qb5 r0.2.1.1<|
 (gL qb5 r0.2.1.2.1<|
 (gL qay r0.2.1.2.2.1<|
 (gL qb3 r0.2.1.2.2.2.1<|
 (gL qb5 r0.2.2.2.1<|
 (gL qb5 r0.2.2.2.2.1<|
 (gL qb5 r0.2.2.2.2.2.1<|
 (gL qb5 r0.2.2.2.2.2.2.1<|
 (gL qay r0.2.2.2.2.2.2.2.1<|
 (gL qb3 r0.2.2.2.2.2.2.2.2<|
 ((q120 (dL qb5 r0.1.1) r0.1.2.2.2.1 r0.1.2.2.2.2.1 0 (dL qb5 r0.2.1.1) (dL qb5 r0.2.1.2.1) (dL qay r0.2.1.2.2.1) (dL qb3 r0.2.1.2.2.2.1) r0.2.1.2.2.2.2 r0.2.2.1.1 r0.2.2.1.2.1 r0.2.2.1.2.2.1 r0.2.2.1.2.2.2.1 r0.2.2.1.2.2.2.2 (dL qb5 r0.2.2.2.1) (dL qb5 r0.2.2.2.2.1) (dL qb5 r0.2.2.2.2.2.1) (dL qb5 r0.2.2.2.2.2.2.1) (dL qay r0.2.2.2.2.2.2.2.1) (dL qb3 r0.2.2.2.2.2.2.2.2)).bind fun r1 =>
 (gL qb5 r1.2.2.2.1<|
 (gL qb5 r1.2.2.2.2.1<|
 (gL qay r1.2.1.2.2.1<|
 (gL qb3 r1.2.1.2.2.2.1<|
 (some ((dL qb5 r1.2.2.2.1),((dL qb5 r1.2.2.2.2.1),((dL qay r1.2.1.2.2.1),((dL qb3 r1.2.1.2.2.2.1),r1.2.1.2.2.2.2)))))))))))))))))))))))))))
theorem q11z {x_Names x_Values q1m7 q1ma q1mb pieces r} (h:q12f x_Names x_Values q1m7 q1ma q1mb pieces=some r):q12e x_Names x_Values q1m7 q1ma q1mb pieces=some r :=
 qjn (es:=q1jy) (hs:=qpb) [q128,q121] Tryz.func96 rfl (by kernel_rfl) rfl (by kernel_rfl) (by kernel_rfl) ⟨⟨_,rfl,rfl⟩,⟨_,rfl,rfl⟩,trivial⟩ trivial (by kernel_rfl) h
def q11y:=entS Tryz.prog lv X0 96 [] q11w q11x (fun x=>q12e x.1.1 x.1.2.1 x.1.2.2.1 x.1.2.2.2.1 x.1.2.2.2.2 x.2) (fun _ _ h=>qjm h)
def q1jn:=q11y::q1jy
def q10f:=(qrd (vAgg z4r) (qrf (vC cStr)))
def q10v:=sLS [1,2,5,6,7,8] (qrd (vC cStr) (qrd (vPtr 0 0) (qrd (vC cStr) (qrd z4w (qrd z4w (qrf z4w)))))) (qrf z50) [false] [] (by decide) (fun _=>rfl)
def q10u:=sLS [1,2,5,6,7,8,37] (qrd (vC cStr) (qrd (vPtr 0 0) (qrd (vC cStr) (qrd z4w (qrd z4w z4y))))) (qrf z50) [false] [] (by decide) (fun _=>rfl)
def q10t:=oAt 4 q10u
def q10q (s out:BA) (i end_ k:Int) (b0 b0_1:LB) (b0_2:L45) (b0_3:L62) (b0_4:Bool):=lS Tryz.prog lv X0 69 73 (qnb (cdF Tryz.f69) 7) q10v q10t ((s,(),out,i,end_,k),(b0,b0_1,b0_2,b0_3,b0_4))
def q10w (s out:BA) (i end_ k:Int) (b0 b0_1:LB) (b0_2:L45) (b0_3:L62) (b0_4:Bool):Oq ((BA×Unit×BA×Int×Int×Int×Bool)×(LB×LB×L45×L62×Bool)) :=
 (brE (decide (k>(wI i)))
 (gdE ((p0 k)&&(decide ((Int.toNat k)<s.size)))<|
 (brE ((((UInt8.toNat (Array.getD s.data (Int.toNat k) (0:UInt8))):Nat):Int)==125)
 (gL qb5 b0<|
 (gL qb5 b0_1<|
 (gL qay b0_2<|
 (gL qb3 b0_3<|
 (q10q s out i k (IntKind.wrap .i64 (k - 1)) (dL qb5 b0) (dL qb5 b0_1) (dL qay b0_2) (dL qb3 b0_3) b0_4)))))
 (gL qb5 b0<|
 (gL qb5 b0_1<|
 (gL qay b0_2<|
 (gL qb3 b0_3<|
 (q10q s out i end_ (IntKind.wrap .i64 (k - 1)) (dL qb5 b0) (dL qb5 b0_1) (dL qay b0_2) (dL qb3 b0_3) b0_4)))))))
 (gL qb5 b0<|
 (gL qb5 b0_1<|
 (gL qay b0_2<|
 (gL qb3 b0_3<|
 (some ((s,((),(out,(i,(end_,(k,false)))))),((dL qb5 b0),((dL qb5 b0_1),((dL qay b0_2),((dL qb3 b0_3),b0_4)))))))))))
theorem q10s {s out i end_ k b0 b0_1 b0_2 b0_3 b0_4 r} (h:q10w s out i end_ k b0 b0_1 b0_2 b0_3 b0_4=some r):q10q s out i end_ k b0 b0_1 b0_2 b0_3 b0_4=some r :=
 qrh (es:=q1jn) (hs:=qpb) [] (by kernel_rfl) trivial trivial (by kernel_rfl) h
def q10r:=qs5 Tryz.prog lv X0 7 (qnb (cdF Tryz.f69) 7) q10v q10t (fun x=>q10q x.1.1 x.1.2.2.1 x.1.2.2.2.1 x.1.2.2.2.2.1 x.1.2.2.2.2.2 x.2.1 x.2.2.1 x.2.2.2.1 x.2.2.2.2.1 x.2.2.2.2.2) (fun _ _ h=>qrg h)
def q10o:=sLS [1,2,5,6] (qrd (vC cStr) (qrd (vPtr 0 0) (qrd (vC cStr) (qrf z4w)))) (qrf z50) [false] [] (by decide) (fun _=>rfl)
def q10n:=sLS [1,2,5,6,12] (qrd (vC cStr) (qrd (vPtr 0 0) (qrd (vC cStr) z4y))) (qrf z50) [false] [] (by decide) (fun _=>rfl)
def q10m:=oAt 2 q10n
def q10j (s out:BA) (i:Int) (b0 b0_1:LB) (b0_2:L45) (b0_3:L62) (b0_4:Bool):=lS Tryz.prog lv X0 69 73 (qnb (cdF Tryz.f69) 3) q10o q10m ((s,(),out,i),(b0,b0_1,b0_2,b0_3,b0_4))
abbrev z2m (s out:BA) (i:Int):=(decide ((((out.size+(ByteArray.size (ByteArray.extract s (Int.toNat i) (Int.toNat (wI i))))):Nat):Int)>(Go.IntKind.max Go.IntKind.i64)))
abbrev z2n (s out:BA) (i:Int) (b0 b0_1:LB) (b0_2:L45) (b0_3:L62) (b0_4:Bool):=(q10j s (out++(ByteArray.extract s (Int.toNat i) (Int.toNat (wI i)))) (wI i) (dL qb5 b0) (dL qb5 b0_1) (dL qay b0_2) (dL qb3 b0_3) b0_4)
def q10p (s out:BA) (i:Int) (b0 b0_1:LB) (b0_2:L45) (b0_3:L62) (b0_4:Bool):Oq ((BA×Unit×BA×Int×Bool)×(LB×LB×L45×L62×Bool)) :=
 (brE (decide (i<(s.size:Int)))
 (brE ((decide ((wI i)<(s.size:Int)))==true)
 (gdE ((p0 i)&&(decide ((Int.toNat i)<s.size)))<|
 (brE (((((UInt8.toNat (Array.getD s.data (Int.toNat i) (0:UInt8))):Nat):Int)==36)==true)
 (gdE ((p0 (wI i))&&(decide ((Int.toNat (wI i))<s.size)))<|
 (brE ((((UInt8.toNat (Array.getD s.data (Int.toNat (wI i)) (0:UInt8))):Nat):Int)==123)
 (gL qb5 b0<|
 (gL qb5 b0_1<|
 (gL qay b0_2<|
 (gL qb3 b0_3<|
 ((q10q s out i (-1) (IntKind.wrap .i64 ((s.size:Int) - 1)) (dL qb5 b0) (dL qb5 b0_1) (dL qay b0_2) (dL qb3 b0_3) b0_4).bind fun r0 =>
 (brE (decide (r0.1.2.2.2.2.1<0))
 (gdE ((p0 (wI r0.1.2.2.2.1))&&(decide ((wI r0.1.2.2.2.1)≤((r0.1.1.size:Nat):Int))))<|
 (gdE ((p0 r0.1.2.2.2.1)&&(decide (r0.1.2.2.2.1≤(((Int.toNat (wI r0.1.2.2.2.1)):Nat):Int))))<|
 (brE (decide ((((r0.1.2.2.1.size+(ByteArray.size (ByteArray.extract r0.1.1 (Int.toNat r0.1.2.2.2.1) (Int.toNat (wI r0.1.2.2.2.1))))):Nat):Int)>(Go.IntKind.max Go.IntKind.i64)))
 none
 (gL qb5 r0.2.1<|
 (gL qb5 r0.2.2.1<|
 (gL qay r0.2.2.2.1<|
 (gL qb3 r0.2.2.2.2.1<|
 (q10j r0.1.1 (r0.1.2.2.1++(ByteArray.extract r0.1.1 (Int.toNat r0.1.2.2.2.1) (Int.toNat (wI r0.1.2.2.2.1)))) (wI r0.1.2.2.2.1) (dL qb5 r0.2.1) (dL qb5 r0.2.2.1) (dL qay r0.2.2.2.1) (dL qb3 r0.2.2.2.2.1) r0.2.2.2.2.2))))))))
 (gdE ((p0 r0.1.2.2.2.2.1)&&(decide (r0.1.2.2.2.2.1≤((r0.1.1.size:Nat):Int))))<|
 (gdE ((p0 (IntKind.wrap .i64 (r0.1.2.2.2.1+2)))&&(decide ((IntKind.wrap .i64 (r0.1.2.2.2.1+2))≤(((Int.toNat r0.1.2.2.2.2.1):Nat):Int))))<|
 (gL qb5 r0.2.1<|
 (gL qb5 r0.2.2.1<|
 (gL qay r0.2.2.2.1<|
 (gL qb3 r0.2.2.2.2.1<|
 ((q18k (dL qb5 r0.2.1) (dL qb5 r0.2.2.1) (dL qay r0.2.2.2.1) (dL qb3 r0.2.2.2.2.1) r0.2.2.2.2.2 (ByteArray.extract r0.1.1 (Int.toNat (IntKind.wrap .i64 (r0.1.2.2.2.1+2))) (Int.toNat r0.1.2.2.2.2.1))).bind fun r1 =>
 (brE (decide ((((r0.1.2.2.1.size+r1.size):Nat):Int)>(Go.IntKind.max Go.IntKind.i64)))
 none
 (gL qb5 r0.2.1<|
 (gL qb5 r0.2.2.1<|
 (gL qay r0.2.2.2.1<|
 (gL qb3 r0.2.2.2.2.1<|
 (q10j r0.1.1 (r0.1.2.2.1++r1) (wI r0.1.2.2.2.2.1) (dL qb5 r0.2.1) (dL qb5 r0.2.2.1) (dL qay r0.2.2.2.1) (dL qb3 r0.2.2.2.2.1) r0.2.2.2.2.2)))))))))))))))))))
 (gdE ((p0 (wI i))&&(decide ((wI i)≤(s.size:Int))))<|
 (gdE ((p0 i)&&(decide (i≤(((Int.toNat (wI i)):Nat):Int))))<|
 (brE (z2m s out i)
 none
 (gL qb5 b0<|
 (gL qb5 b0_1<|
 (gL qay b0_2<|
 (gL qb3 b0_3<|
 (z2n s out i b0 b0_1 b0_2 b0_3 b0_4))))))))))
 (gdE ((p0 (wI i))&&(decide ((wI i)≤(s.size:Int))))<|
 (gdE ((p0 i)&&(decide (i≤(((Int.toNat (wI i)):Nat):Int))))<|
 (brE (z2m s out i)
 none
 (gL qb5 b0<|
 (gL qb5 b0_1<|
 (gL qay b0_2<|
 (gL qb3 b0_3<|
 (z2n s out i b0 b0_1 b0_2 b0_3 b0_4))))))))))
 (gdE ((p0 (wI i))&&(decide ((wI i)≤(s.size:Int))))<|
 (gdE ((p0 i)&&(decide (i≤(((Int.toNat (wI i)):Nat):Int))))<|
 (brE (z2m s out i)
 none
 (gL qb5 b0<|
 (gL qb5 b0_1<|
 (gL qay b0_2<|
 (gL qb3 b0_3<|
 (z2n s out i b0 b0_1 b0_2 b0_3 b0_4)))))))))
 (gL qb5 b0<|
 (gL qb5 b0_1<|
 (gL qay b0_2<|
 (gL qb3 b0_3<|
 (some ((s,((),(out,(i,false)))),((dL qb5 b0),((dL qb5 b0_1),((dL qay b0_2),((dL qb3 b0_3),b0_4)))))))))))
theorem q10l {s out i b0 b0_1 b0_2 b0_3 b0_4 r} (h:q10p s out i b0 b0_1 b0_2 b0_3 b0_4=some r):q10j s out i b0 b0_1 b0_2 b0_3 b0_4=some r :=
 qrh (es:=q1jn) (hs:=qpb) [q10r] (by kernel_rfl) ⟨⟨_,rfl,rfl⟩,trivial⟩ trivial (by kernel_rfl) h
def q10k:=qs5 Tryz.prog lv X0 3 (qnb (cdF Tryz.f69) 3) q10o q10m (fun x=>q10j x.1.1 x.1.2.2.1 x.1.2.2.2 x.2.1 x.2.2.1 x.2.2.2.1 x.2.2.2.2.1 x.2.2.2.2.2) (fun _ _ h=>qrg h)
def q10g:Cod (V×List B) ByteArray:=(cFstU (cPair (vC cStr) qre))
def q10x (x_Names x_Values:LB) (q1m7:L45) (q1ma:L62) (q1mb:Bool) (s:BA):=fS Tryz.prog lv X0 69 q10f q10g ((x_Names,x_Values,q1m7,q1ma,q1mb),s)
def q10y (x_Names x_Values:LB) (q1m7:L45) (q1ma:L62) (q1mb:Bool) (s:BA):Oq BA :=
 (gL qb5 x_Names<|
 (gL qb5 x_Values<|
 (gL qay q1m7<|
 (gL qb3 q1ma<|
 ((q10j s ⟨#[]⟩ 0 (dL qb5 x_Names) (dL qb5 x_Values) (dL qay q1m7) (dL qb3 q1ma) q1mb).bind fun r0 =>
 (brE (decide (((r0.1.2.2.1.size:Nat):Int)>4000))
 (gdE ((decide ((0:Int)≤4000))&&(decide (4000≤((r0.1.2.2.1.size:Nat):Int))))<|
 (some (ByteArray.extract r0.1.2.2.1 0 (Int.toNat 4000))))
 (some r0.1.2.2.1)))))))
theorem q10i {x_Names x_Values q1m7 q1ma q1mb s r} (h:q10y x_Names x_Values q1m7 q1ma q1mb s=some r):q10x x_Names x_Values q1m7 q1ma q1mb s=some r :=
 qjn (es:=q1jn) (hs:=qpb) [q10k] Tryz.func69 rfl (by kernel_rfl) rfl (by kernel_rfl) (by kernel_rfl) ⟨⟨_,rfl,rfl⟩,trivial⟩ trivial (by kernel_rfl) h
def q10h:=entS Tryz.prog lv X0 69 [] q10f q10g (fun x=>q10x x.1.1 x.1.2.1 x.1.2.2.1 x.1.2.2.2.1 x.1.2.2.2.2 x.2) (fun _ _ h=>qjm h)
def q1jj:=q10h::q1jn
abbrev z4t:=(qrd (vC (cInt .i64)) (qrd (vC (cSl qaz)) (qrd (vC cStr) (qrd (vC (cInt .i64)) (qrd (vC cStr) (qrf (vC (cInt .i64))))))))
abbrev z4v:=(qrd (vC cStr) (qrd (vC (cSl qau)) (qrd (vC cStr) (qrd (vC (cSl qb2)) (qrf (vC (cSl qb0)))))))
def q179:=(qrd (vAgg z4r) (qrd (vAgg z4t) (qrd (vAgg z4v) (qrf z4w))))
def q17a:Cod (V×List B) (Bool×((List ByteArray)×(List ByteArray)×(List S45)×(List S62)×Bool)):=(cFstU (cPair (vTup (qrd (vC cBool) (qrf (vAgg z4r)))) qre))
def q180 (x_Names x_Values:LB) (q1m7:L45) (q1ma:L62) (q1mb:Bool) (q1hv:Int) (q1hy:L48) (q1hw:BA) (q1hx:Int) (q1hz:BA) (t_N:Int) (qsz:BA) (qt1:L118) (qt0:BA) (qt4:L55) (qt3:(List Int)) (size:Int):=fS Tryz.prog lv X0 68 q179 q17a ((x_Names,x_Values,q1m7,q1ma,q1mb),(q1hv,q1hy,q1hw,q1hx,q1hz,t_N),(qsz,qt1,qt0,qt4,qt3),size)
def q17b:=entS Tryz.prog lv X0 68 [] q179 q17a (fun x=>q180 x.1.1 x.1.2.1 x.1.2.2.1 x.1.2.2.2.1 x.1.2.2.2.2 x.2.1.1 x.2.1.2.1 x.2.1.2.2.1 x.2.1.2.2.2.1 x.2.1.2.2.2.2.1 x.2.1.2.2.2.2.2 x.2.2.1.1 x.2.2.1.2.1 x.2.2.1.2.2.1 x.2.2.1.2.2.2.1 x.2.2.1.2.2.2.2 x.2.2.2) (fun _ _ h=>qjm h)
def q1ju:=q17b::q1jj
abbrev z57:=(qrd z50 (qrd (qv4 (bBox z4t)) (qrd (qv4 (bBox z4v)) (qrd z4u z4s))))
def q17y:=sLS [3,4,5,6,9,12] (qrd z4w (qrd (vPtr 0 0) (qrd (vPtr 1 0) (qrd (vPtr 2 0) (qrd (vPtr 3 0) (qrf z4w)))))) z57 [false,false,false,false,false,false,false,false] [] (by decide) (fun _=>rfl)
def q17x:=sLS [3,4,5,6,9,12,49] (qrd z4w (qrd (vPtr 0 0) (qrd (vPtr 1 0) (qrd (vPtr 2 0) (qrd (vPtr 3 0) z4y))))) z57 [false,false,false,false,false,false,false,false] [] (by decide) (fun _=>rfl)
def q17w:=sLS [8,9] (qrd (vC cBool) (qrf (vPtr 0 0))) (qrf z50) [false] [] (by decide) (fun _=>rfl)
def q17v:=oOr 1 q17w (oAt 2 q17x) (fun x=>(by decide:(2:Nat)≠1))
def q17s (size i:Int) (b0 b0_1:LB) (b0_2:L45) (b0_3:L62) (b0_4:Bool) (b1:Int) (b1_1:L48) (b1_2:BA) (b1_3:Int) (b1_4:BA) (b1_5:Int) (b2:BA) (b2_1:L118) (b2_2:BA) (b2_3:L55) (b2_4:(List Int)) (b3 b3_1:Nat) (b3_2 b3_3:Nat) (b3_4:Bool) (b4 b5:LB) (b6:L45) (b7:L62):=lS Tryz.prog lv X0 68 167 (qnb (cdF Tryz.f68) 6) q17y q17v ((size,(),(),(),(),i),((b0,b0_1,b0_2,b0_3,b0_4),(b1,b1_1,b1_2,b1_3,b1_4,b1_5),(b2,b2_1,b2_2,b2_3,b2_4),(b3,b3_1,b3_2,b3_3,b3_4),b4,b5,b6,b7))
abbrev z2o (i:Int) (b1_1:L48):=(List.getD (EC.encL qaz b1_1) (Int.toNat i) [])
def q17z (size i:Int) (b0 b0_1:LB) (b0_2:L45) (b0_3:L62) (b0_4:Bool) (b1:Int) (b1_1:L48) (b1_2:BA) (b1_3:Int) (b1_4:BA) (b1_5:Int) (b2:BA) (b2_1:L118) (b2_2:BA) (b2_3:L55) (b2_4:(List Int)) (b3 b3_1:Nat) (b3_2 b3_3:Nat) (b3_4:Bool) (b4 b5:LB) (b6:L45) (b7:L62):Oq (((Bool×Unit)×(LB×LB×L45×L62×Bool))⊕((Int×Unit×Unit×Unit×Unit×Int×Bool)×((LB×LB×L45×L62×Bool)×(Int×L48×BA×Int×BA×Int)×(BA×L118×BA×L55×(List Int))×(Nat×Nat×Nat×Nat×Bool)×LB×LB×L45×L62))) :=
 (brE (decide (i<(lN qaz b1_1:Int)))
 (gdE (p0 i)<|
 (gdE (eC qaz b1_1 i [(K1.int Go.IntKind.i64),K1.sl,K1.str,(K1.int Go.IntKind.i64),K1.str,(K1.int Go.IntKind.i64)])<|
 (gL qb5 b0<|
 (gL qb5 b0_1<|
 (gL qay b0_2<|
 (gL qb3 b0_3<|
 (gdE (EC.isL qaz (slOf (List.getD (z2o i b1_1) 1 C.ne)))<|
 (gL qau b2_1<|
 (gL qb2 b2_3<|
 (gL qb0 b2_4<|
 ((q180 (dL qb5 b0) (dL qb5 b0_1) (dL qay b0_2) (dL qb3 b0_3) b0_4 (qqd (List.getD (z2o i b1_1) 0 C.ne)) (uL qaz (List.getD (z2o i b1_1) 1 C.ne)) (q1gu (List.getD (z2o i b1_1) 2 C.ne)) (qqd (List.getD (z2o i b1_1) 3 C.ne)) (q1gu (List.getD (z2o i b1_1) 4 C.ne)) (qqd (List.getD (z2o i b1_1) 5 C.ne)) b2 (dL qau b2_1) b2_2 (dL qb2 b2_3) (dL qb0 b2_4) size).bind fun r0 =>
 (brE (r0.1==(b1==4))
 (gL qb5 r0.2.1<|
 (gL qb5 r0.2.2.1<|
 (gL qay r0.2.2.2.1<|
 (gL qb3 r0.2.2.2.2.1<|
 (some (.inl ((r0.1,()),((dL qb5 r0.2.1),((dL qb5 r0.2.2.1),((dL qay r0.2.2.2.1),((dL qb3 r0.2.2.2.2.1),r0.2.2.2.2.2)))))))))))
 (gL qb5 r0.2.1<|
 (gL qb5 r0.2.2.1<|
 (gL qay r0.2.2.2.1<|
 (gL qb3 r0.2.2.2.2.1<|
 (gL qaz b1_1<|
 (gL qau b2_1<|
 (gL qb2 b2_3<|
 (gL qb0 b2_4<|
 (gL qb5 b4<|
 (gL qb5 b5<|
 (gL qay b6<|
 (gL qb3 b7<|
 (q17s size (wI i) (dL qb5 r0.2.1) (dL qb5 r0.2.2.1) (dL qay r0.2.2.2.1) (dL qb3 r0.2.2.2.2.1) r0.2.2.2.2.2 b1 (dL qaz b1_1) b1_2 b1_3 b1_4 b1_5 b2 (dL qau b2_1) b2_2 (dL qb2 b2_3) (dL qb0 b2_4) b3 b3_1 b3_2 b3_3 b3_4 (dL qb5 b4) (dL qb5 b5) (dL qay b6) (dL qb3 b7))))))))))))))))))))))))))
 (gL qb5 b0<|
 (gL qb5 b0_1<|
 (gL qay b0_2<|
 (gL qb3 b0_3<|
 (gL qaz b1_1<|
 (gL qau b2_1<|
 (gL qb2 b2_3<|
 (gL qb0 b2_4<|
 (gL qb5 b4<|
 (gL qb5 b5<|
 (gL qay b6<|
 (gL qb3 b7<|
 (some (.inr ((size,((),((),((),((),(i,false)))))),(((dL qb5 b0),((dL qb5 b0_1),((dL qay b0_2),((dL qb3 b0_3),b0_4)))),((b1,((dL qaz b1_1),(b1_2,(b1_3,(b1_4,b1_5))))),((b2,((dL qau b2_1),(b2_2,((dL qb2 b2_3),(dL qb0 b2_4))))),((b3,(b3_1,(b3_2,(b3_3,b3_4)))),((dL qb5 b4),((dL qb5 b5),((dL qay b6),(dL qb3 b7))))))))))))))))))))))))
theorem q17u {size i b0 b0_1 b0_2 b0_3 b0_4 b1 b1_1 b1_2 b1_3 b1_4 b1_5 b2 b2_1 b2_2 b2_3 b2_4 b3 b3_1 b3_2 b3_3 b3_4 b4 b5 b6 b7 r} (h:q17z size i b0 b0_1 b0_2 b0_3 b0_4 b1 b1_1 b1_2 b1_3 b1_4 b1_5 b2 b2_1 b2_2 b2_3 b2_4 b3 b3_1 b3_2 b3_3 b3_4 b4 b5 b6 b7=some r):q17s size i b0 b0_1 b0_2 b0_3 b0_4 b1 b1_1 b1_2 b1_3 b1_4 b1_5 b2 b2_1 b2_2 b2_3 b2_4 b3 b3_1 b3_2 b3_3 b3_4 b4 b5 b6 b7=some r :=
 qrh (es:=q1ju) (hs:=qpb) [] (by kernel_rfl) trivial trivial (by kernel_rfl) h
def q17t:=qs5 Tryz.prog lv X0 6 (qnb (cdF Tryz.f68) 6) q17y q17v (fun x=>q17s x.1.1 x.1.2.2.2.2.2 x.2.1.1 x.2.1.2.1 x.2.1.2.2.1 x.2.1.2.2.2.1 x.2.1.2.2.2.2 x.2.2.1.1 x.2.2.1.2.1 x.2.2.1.2.2.1 x.2.2.1.2.2.2.1 x.2.2.1.2.2.2.2.1 x.2.2.1.2.2.2.2.2 x.2.2.2.1.1 x.2.2.2.1.2.1 x.2.2.2.1.2.2.1 x.2.2.2.1.2.2.2.1 x.2.2.2.1.2.2.2.2 x.2.2.2.2.1.1 x.2.2.2.2.1.2.1 x.2.2.2.2.1.2.2.1 x.2.2.2.2.1.2.2.2.1 x.2.2.2.2.1.2.2.2.2 x.2.2.2.2.2.1 x.2.2.2.2.2.2.1 x.2.2.2.2.2.2.2.1 x.2.2.2.2.2.2.2.2) (fun _ _ h=>qrg h)
abbrev z56:=(qrd z50 (qrd (qv4 (bBox z4t)) (qrd z4u (qrd (qv4 (bRow qb5)) z4s))))
def q17q:=sLS [4,5,9,15,17] (qrd (vPtr 0 0) (qrd (vPtr 1 0) (qrd (vPtr 2 0) (qrd (vRow 3) (qrf z4w))))) z56 [false,false,false,false,false,false,false,false] [] (by decide) (fun _=>rfl)
def q17p:=sLS [4,5,9,15,17,133] (qrd (vPtr 0 0) (qrd (vPtr 1 0) (qrd (vPtr 2 0) (qrd (vRow 3) z4y)))) z56 [false,false,false,false,false,false,false,false] [] (by decide) (fun _=>rfl)
def q17o:=sLS [8,9] (qrd (vC cBool) (qrf (vPtr 0 0))) (qrf z50) [false] [] (by decide) (fun _=>rfl)
def q17n:=oOr 1 q17o (oAt 6 q17p) (fun x=>(by decide:(6:Nat)≠1))
def q17k (texts:Nat) (i:Int) (b0 b0_1:LB) (b0_2:L45) (b0_3:L62) (b0_4:Bool) (b1:Int) (b1_1:L48) (b1_2:BA) (b1_3:Int) (b1_4:BA) (b1_5:Int) (b2 b2_1:Nat) (b2_2 b2_3:Nat) (b2_4:Bool) (b3 b4 b5:LB) (b6:L45) (b7:L62):=lS Tryz.prog lv X0 68 167 (qnb (cdF Tryz.f68) 29) q17q q17n (((),(),(),texts,i),((b0,b0_1,b0_2,b0_3,b0_4),(b1,b1_1,b1_2,b1_3,b1_4,b1_5),(b2,b2_1,b2_2,b2_3,b2_4),b3,b4,b5,b6,b7))
def q17r (texts:Nat) (i:Int) (b0 b0_1:LB) (b0_2:L45) (b0_3:L62) (b0_4:Bool) (b1:Int) (b1_1:L48) (b1_2:BA) (b1_3:Int) (b1_4:BA) (b1_5:Int) (b2 b2_1:Nat) (b2_2 b2_3:Nat) (b2_4:Bool) (b3 b4 b5:LB) (b6:L45) (b7:L62):Oq (((Bool×Unit)×(LB×LB×L45×L62×Bool))⊕((Unit×Unit×Unit×Nat×Int×Bool)×((LB×LB×L45×L62×Bool)×(Int×L48×BA×Int×BA×Int)×(Nat×Nat×Nat×Nat×Bool)×LB×LB×LB×L45×L62))) :=
 (brE (decide (i<((texts:Nat):Int)))
 ((q11u b1_3 b1_4).bind fun r0 =>
 (brE (r0.1 != 0)
 (gL qb5 b0<|
 (gL qb5 b0_1<|
 (gL qay b0_2<|
 (gL qb3 b0_3<|
 (gL qaz b1_1<|
 (gL qb5 b3<|
 (gL qb5 b4<|
 (gL qb5 b5<|
 (gL qay b6<|
 (gL qb3 b7<|
 (q17k texts (wI i) (dL qb5 b0) (dL qb5 b0_1) (dL qay b0_2) (dL qb3 b0_3) b0_4 b1 (dL qaz b1_1) b1_2 b1_3 b1_4 b1_5 b2 b2_1 b2_2 b2_3 b2_4 (dL qb5 b3) (dL qb5 b4) (dL qb5 b5) (dL qay b6) (dL qb3 b7))))))))))))
 (gdE ((p0 i)&&(decide (i<((texts:Nat):Int))))<|
 (gdE ((decide ((Int.toNat i)<(lN qb5 b3)))&&((List.length (List.getD (EC.encL qb5 b3) (Int.toNat i) []))==1))<|
 (gdE (isP [K1.str] 0 (List.getD (EC.encL qb5 b3) (Int.toNat i) []))<|
 ((q11h b1_3 b1_4 (q1gu (List.getD (List.getD (EC.encL qb5 b3) (Int.toNat i) []) 0 C.ne))).bind fun r1 =>
 (brE (r1.1.1==true)
 (brE (b1_3==3)
 (gL qb5 b0<|
 (gL qb5 b0_1<|
 (gL qay b0_2<|
 (gL qb3 b0_3<|
 (gL qb5 r1.2<|
 ((q12e (dL qb5 b0) (dL qb5 b0_1) (dL qay b0_2) (dL qb3 b0_3) b0_4 (dL qb5 r1.2)).bind fun r2 =>
 (gL qb5 r2.1<|
 (gL qb5 r2.2.1<|
 (gL qay r2.2.2.1<|
 (gL qb3 r2.2.2.2.1<|
 (some (.inl ((true,()),((dL qb5 r2.1),((dL qb5 r2.2.1),((dL qay r2.2.2.1),((dL qb3 r2.2.2.2.1),r2.2.2.2.2)))))))))))))))))
 (brE r1.1.1
 (gL qb5 b0<|
 (gL qb5 b0_1<|
 (gL qay b0_2<|
 (gL qb3 b0_3<|
 (some (.inl ((true,()),((dL qb5 b0),((dL qb5 b0_1),((dL qay b0_2),((dL qb3 b0_3),b0_4)))))))))))
 (gL qb5 b0<|
 (gL qb5 b0_1<|
 (gL qay b0_2<|
 (gL qb3 b0_3<|
 (gL qaz b1_1<|
 (gL qb5 b3<|
 (gL qb5 b4<|
 (gL qb5 b5<|
 (gL qay b6<|
 (gL qb3 b7<|
 (q17k texts (wI i) (dL qb5 b0) (dL qb5 b0_1) (dL qay b0_2) (dL qb3 b0_3) b0_4 b1 (dL qaz b1_1) b1_2 b1_3 b1_4 b1_5 b2 b2_1 b2_2 b2_3 b2_4 (dL qb5 b3) (dL qb5 b4) (dL qb5 b5) (dL qay b6) (dL qb3 b7))))))))))))))
 (brE r1.1.1
 (gL qb5 b0<|
 (gL qb5 b0_1<|
 (gL qay b0_2<|
 (gL qb3 b0_3<|
 (some (.inl ((true,()),((dL qb5 b0),((dL qb5 b0_1),((dL qay b0_2),((dL qb3 b0_3),b0_4)))))))))))
 (gL qb5 b0<|
 (gL qb5 b0_1<|
 (gL qay b0_2<|
 (gL qb3 b0_3<|
 (gL qaz b1_1<|
 (gL qb5 b3<|
 (gL qb5 b4<|
 (gL qb5 b5<|
 (gL qay b6<|
 (gL qb3 b7<|
 (q17k texts (wI i) (dL qb5 b0) (dL qb5 b0_1) (dL qay b0_2) (dL qb3 b0_3) b0_4 b1 (dL qaz b1_1) b1_2 b1_3 b1_4 b1_5 b2 b2_1 b2_2 b2_3 b2_4 (dL qb5 b3) (dL qb5 b4) (dL qb5 b5) (dL qay b6) (dL qb3 b7))))))))))))))))))))
 (gL qb5 b0<|
 (gL qb5 b0_1<|
 (gL qay b0_2<|
 (gL qb3 b0_3<|
 (gL qaz b1_1<|
 (gL qb5 b3<|
 (gL qb5 b4<|
 (gL qb5 b5<|
 (gL qay b6<|
 (gL qb3 b7<|
 (some (.inr (((),((),((),(texts,(i,false))))),(((dL qb5 b0),((dL qb5 b0_1),((dL qay b0_2),((dL qb3 b0_3),b0_4)))),((b1,((dL qaz b1_1),(b1_2,(b1_3,(b1_4,b1_5))))),((b2,(b2_1,(b2_2,(b2_3,b2_4)))),((dL qb5 b3),((dL qb5 b4),((dL qb5 b5),((dL qay b6),(dL qb3 b7))))))))))))))))))))))
theorem q17m {texts i b0 b0_1 b0_2 b0_3 b0_4 b1 b1_1 b1_2 b1_3 b1_4 b1_5 b2 b2_1 b2_2 b2_3 b2_4 b3 b4 b5 b6 b7 r} (h:q17r texts i b0 b0_1 b0_2 b0_3 b0_4 b1 b1_1 b1_2 b1_3 b1_4 b1_5 b2 b2_1 b2_2 b2_3 b2_4 b3 b4 b5 b6 b7=some r):q17k texts i b0 b0_1 b0_2 b0_3 b0_4 b1 b1_1 b1_2 b1_3 b1_4 b1_5 b2 b2_1 b2_2 b2_3 b2_4 b3 b4 b5 b6 b7=some r :=
 qrh (es:=q1ju) (hs:=qpb) [] (by kernel_rfl) trivial trivial (by kernel_rfl) h
def q17l:=qs5 Tryz.prog lv X0 29 (qnb (cdF Tryz.f68) 29) q17q q17n (fun x=>q17k x.1.2.2.2.1 x.1.2.2.2.2 x.2.1.1 x.2.1.2.1 x.2.1.2.2.1 x.2.1.2.2.2.1 x.2.1.2.2.2.2 x.2.2.1.1 x.2.2.1.2.1 x.2.2.1.2.2.1 x.2.2.1.2.2.2.1 x.2.2.1.2.2.2.2.1 x.2.2.1.2.2.2.2.2 x.2.2.2.1.1 x.2.2.2.1.2.1 x.2.2.2.1.2.2.1 x.2.2.2.1.2.2.2.1 x.2.2.2.1.2.2.2.2 x.2.2.2.2.1 x.2.2.2.2.2.1 x.2.2.2.2.2.2.1 x.2.2.2.2.2.2.2.1 x.2.2.2.2.2.2.2.2) (fun _ _ h=>qrg h)
abbrev z4z:=(qrd (qv4 (bBox z4r)) (qrd (qv4 (bBox z4t)) (qrd (qv4 (bBox z4v)) (qrd (qv4 (bBox (qrd (vRow 5) (qrd (vRow 6) (qrd (vRow 7) (qrd (vRow 8) (qrf (vC cBool)))))))) (qrd (qv4 (bRow qb5)) z4s)))))
def q17i:=sLS [4,5,6,9,15,16] (qrd (vPtr 0 0) (qrd (vPtr 1 0) (qrd (vPtr 2 0) (qrd (vPtr 3 0) (qrd (vRow 4) (qrf z4w)))))) z4z [false,false,false,false,false,false,false,false,false] [] (by decide) (fun _=>rfl)
def q17h:=sLS [4,5,6,9,15,16,105] (qrd (vPtr 0 0) (qrd (vPtr 1 0) (qrd (vPtr 2 0) (qrd (vPtr 3 0) (qrd (vRow 4) z4y))))) z4z [false,false,false,false,false,false,false,false,false] [] (by decide) (fun _=>rfl)
def q17g:=oAt 4 q17h
def q17d (texts:Nat) (i:Int) (b0 b0_1:LB) (b0_2:L45) (b0_3:L62) (b0_4:Bool) (b1:Int) (b1_1:L48) (b1_2:BA) (b1_3:Int) (b1_4:BA) (b1_5:Int) (b2:BA) (b2_1:L118) (b2_2:BA) (b2_3:L55) (b2_4:(List Int)) (b3 b3_1:Nat) (b3_2 b3_3:Nat) (b3_4:Bool) (b4 b5 b6:LB) (b7:L45) (b8:L62):=lS Tryz.prog lv X0 68 167 (qnb (cdF Tryz.f68) 22) q17i q17g (((),(),(),(),texts,i),((b0,b0_1,b0_2,b0_3,b0_4),(b1,b1_1,b1_2,b1_3,b1_4,b1_5),(b2,b2_1,b2_2,b2_3,b2_4),(b3,b3_1,b3_2,b3_3,b3_4),b4,b5,b6,b7,b8))
abbrev z2p (i:Int) (b2_1:L118):=(C.str (q1gu (List.getD (List.getD (EC.encL qau b2_1) (Int.toNat i) []) 0 C.ne)))
def q17j (texts:Nat) (i:Int) (b0 b0_1:LB) (b0_2:L45) (b0_3:L62) (b0_4:Bool) (b1:Int) (b1_1:L48) (b1_2:BA) (b1_3:Int) (b1_4:BA) (b1_5:Int) (b2:BA) (b2_1:L118) (b2_2:BA) (b2_3:L55) (b2_4:(List Int)) (b3 b3_1:Nat) (b3_2 b3_3:Nat) (b3_4:Bool) (b4 b5 b6:LB) (b7:L45) (b8:L62):Oq ((Unit×Unit×Unit×Unit×Nat×Int×Bool)×((LB×LB×L45×L62×Bool)×(Int×L48×BA×Int×BA×Int)×(BA×L118×BA×L55×(List Int))×(Nat×Nat×Nat×Nat×Bool)×LB×LB×LB×L45×L62)) :=
 (brE (decide (i<(lN qau b2_1:Int)))
 (gdE (p0 i)<|
 (gdE (eC qau b2_1 i [K1.str,(K1.int Go.IntKind.i64)])<|
 (gdE ((((aL [[(z2p i b2_1)]] 1)&&(aL (EC.encL qb5 b4) 1))&&(dQ (texts+(List.length [[(z2p i b2_1)]])) 16))&&(decide ((texts+(List.length [[(z2p i b2_1)]]))≤9223372036854775807)))<|
 (gL qb5 b0<|
 (gL qb5 b0_1<|
 (gL qay b0_2<|
 (gL qb3 b0_3<|
 (gL qaz b1_1<|
 (gL qau b2_1<|
 (gL qb2 b2_3<|
 (gL qb0 b2_4<|
 (gdE (EC.isL qb5 ((EC.encL qb5 b4)++[[(z2p i b2_1)]]))<|
 (gL qb5 b5<|
 (gL qb5 b6<|
 (gL qay b7<|
 (gL qb3 b8<|
 (q17d (texts+(List.length [[(z2p i b2_1)]])) (wI i) (dL qb5 b0) (dL qb5 b0_1) (dL qay b0_2) (dL qb3 b0_3) b0_4 b1 (dL qaz b1_1) b1_2 b1_3 b1_4 b1_5 b2 (dL qau b2_1) b2_2 (dL qb2 b2_3) (dL qb0 b2_4) b3 b3_1 b3_2 b3_3 b3_4 (EC.decL qb5 ((EC.encL qb5 b4)++[[(z2p i b2_1)]])) (dL qb5 b5) (dL qb5 b6) (dL qay b7) (dL qb3 b8))))))))))))))))))
 (gL qb5 b0<|
 (gL qb5 b0_1<|
 (gL qay b0_2<|
 (gL qb3 b0_3<|
 (gL qaz b1_1<|
 (gL qau b2_1<|
 (gL qb2 b2_3<|
 (gL qb0 b2_4<|
 (gL qb5 b4<|
 (gL qb5 b5<|
 (gL qb5 b6<|
 (gL qay b7<|
 (gL qb3 b8<|
 (some (((),((),((),((),(texts,(i,false)))))),(((dL qb5 b0),((dL qb5 b0_1),((dL qay b0_2),((dL qb3 b0_3),b0_4)))),((b1,((dL qaz b1_1),(b1_2,(b1_3,(b1_4,b1_5))))),((b2,((dL qau b2_1),(b2_2,((dL qb2 b2_3),(dL qb0 b2_4))))),((b3,(b3_1,(b3_2,(b3_3,b3_4)))),((dL qb5 b4),((dL qb5 b5),((dL qb5 b6),((dL qay b7),(dL qb3 b8)))))))))))))))))))))))))
theorem q17f {texts i b0 b0_1 b0_2 b0_3 b0_4 b1 b1_1 b1_2 b1_3 b1_4 b1_5 b2 b2_1 b2_2 b2_3 b2_4 b3 b3_1 b3_2 b3_3 b3_4 b4 b5 b6 b7 b8 r} (h:q17j texts i b0 b0_1 b0_2 b0_3 b0_4 b1 b1_1 b1_2 b1_3 b1_4 b1_5 b2 b2_1 b2_2 b2_3 b2_4 b3 b3_1 b3_2 b3_3 b3_4 b4 b5 b6 b7 b8=some r):q17d texts i b0 b0_1 b0_2 b0_3 b0_4 b1 b1_1 b1_2 b1_3 b1_4 b1_5 b2 b2_1 b2_2 b2_3 b2_4 b3 b3_1 b3_2 b3_3 b3_4 b4 b5 b6 b7 b8=some r :=
 qrh (es:=q1ju) (hs:=qpb) [] (by kernel_rfl) trivial trivial (by kernel_rfl) h
def q17e:=qs5 Tryz.prog lv X0 22 (qnb (cdF Tryz.f68) 22) q17i q17g (fun x=>q17d x.1.2.2.2.2.1 x.1.2.2.2.2.2 x.2.1.1 x.2.1.2.1 x.2.1.2.2.1 x.2.1.2.2.2.1 x.2.1.2.2.2.2 x.2.2.1.1 x.2.2.1.2.1 x.2.2.1.2.2.1 x.2.2.1.2.2.2.1 x.2.2.1.2.2.2.2.1 x.2.2.1.2.2.2.2.2 x.2.2.2.1.1 x.2.2.2.1.2.1 x.2.2.2.1.2.2.1 x.2.2.2.1.2.2.2.1 x.2.2.2.1.2.2.2.2 x.2.2.2.2.1.1 x.2.2.2.2.1.2.1 x.2.2.2.2.1.2.2.1 x.2.2.2.2.1.2.2.2.1 x.2.2.2.2.1.2.2.2.2 x.2.2.2.2.2.1 x.2.2.2.2.2.2.1 x.2.2.2.2.2.2.2.1 x.2.2.2.2.2.2.2.2.1 x.2.2.2.2.2.2.2.2.2) (fun _ _ h=>qrg h)
abbrev z2q (q1hy:L48):=(List.getD (EC.encL qaz q1hy) (Int.toNat 0) [])
def q181 (x_Names x_Values:LB) (q1m7:L45) (q1ma:L62) (q1mb:Bool) (q1hv:Int) (q1hy:L48) (q1hw:BA) (q1hx:Int) (q1hz:BA) (t_N:Int) (qsz:BA) (qt1:L118) (qt0:BA) (qt4:L55) (qt3:(List Int)) (size:Int):Oq (Bool×(LB×LB×L45×L62×Bool)) :=
 (brE (q1hv==2)
 (gdE (eC qaz q1hy 0 [(K1.int Go.IntKind.i64),K1.sl,K1.str,(K1.int Go.IntKind.i64),K1.str,(K1.int Go.IntKind.i64)])<|
 (gL qb5 x_Names<|
 (gL qb5 x_Values<|
 (gL qay q1m7<|
 (gL qb3 q1ma<|
 (gdE (EC.isL qaz (slOf (List.getD (z2q q1hy) 1 C.ne)))<|
 (gL qau qt1<|
 (gL qb2 qt4<|
 (gL qb0 qt3<|
 ((q180 (dL qb5 x_Names) (dL qb5 x_Values) (dL qay q1m7) (dL qb3 q1ma) q1mb (qqd (List.getD (z2q q1hy) 0 C.ne)) (uL qaz (List.getD (z2q q1hy) 1 C.ne)) (q1gu (List.getD (z2q q1hy) 2 C.ne)) (qqd (List.getD (z2q q1hy) 3 C.ne)) (q1gu (List.getD (z2q q1hy) 4 C.ne)) (qqd (List.getD (z2q q1hy) 5 C.ne)) qsz (dL qau qt1) qt0 (dL qb2 qt4) (dL qb0 qt3) size).bind fun r0 =>
 (gL qb5 r0.2.1<|
 (gL qb5 r0.2.2.1<|
 (gL qay r0.2.2.2.1<|
 (gL qb3 r0.2.2.2.2.1<|
 (some ((!r0.1),((dL qb5 r0.2.1),((dL qb5 r0.2.2.1),((dL qay r0.2.2.2.1),((dL qb3 r0.2.2.2.2.1),r0.2.2.2.2.2))))))))))))))))))))
 (brE ((q1hv==3)==false)
 (brE (q1hv==4)
 (gL qb5 x_Names<|
 (gL qb5 x_Values<|
 (gL qay q1m7<|
 (gL qb3 q1ma<|
 (gL qaz q1hy<|
 (gL qau qt1<|
 (gL qb2 qt4<|
 (gL qb0 qt3<|
 ((q17s size 0 (dL qb5 x_Names) (dL qb5 x_Values) (dL qay q1m7) (dL qb3 q1ma) q1mb q1hv (dL qaz q1hy) q1hw q1hx q1hz t_N qsz (dL qau qt1) qt0 (dL qb2 qt4) (dL qb0 qt3) 0 0 0 0 false (EC.decL qb5 []) (EC.decL qb5 []) (EC.decL qay []) (EC.decL qb3 [])).bind fun r0 =>
 (Sum.elim (fun r1=>(gdE (EC.isL qb5 (EC.encL qb5 r1.2.1))<|
 (gL qb5 r1.2.2.1<|
 (gL qay r1.2.2.2.1<|
 (gL qb3 r1.2.2.2.2.1<|
 (some (r1.1.1,((dL qb5 r1.2.1),((dL qb5 r1.2.2.1),((dL qay r1.2.2.2.1),((dL qb3 r1.2.2.2.2.1),r1.2.2.2.2.2)))))))))))
 (fun r1=>(gdE (EC.isL qb5 (EC.encL qb5 r1.2.1.1))<|
 (gL qb5 r1.2.1.2.1<|
 (gL qay r1.2.1.2.2.1<|
 (gL qb3 r1.2.1.2.2.2.1<|
 (some ((r1.2.2.1.1==3),((dL qb5 r1.2.1.1),((dL qb5 r1.2.1.2.1),((dL qay r1.2.1.2.2.1),((dL qb3 r1.2.1.2.2.2.1),r1.2.1.2.2.2.2))))))))))) r0))))))))))
 (brE (q1hv==1)
 (gL qb5 x_Names<|
 (gL qb5 x_Values<|
 (gL qay q1m7<|
 (gL qb3 q1ma<|
 (some (true,((dL qb5 x_Names),((dL qb5 x_Values),((dL qay q1m7),((dL qb3 q1ma),q1mb))))))))))
 (brE (q1hv==8)
 (gL qb5 x_Names<|
 (gL qb5 x_Values<|
 (gL qay q1m7<|
 (gL qb3 q1ma<|
 (some ((decide (size>t_N)),((dL qb5 x_Names),((dL qb5 x_Values),((dL qay q1m7),((dL qb3 q1ma),q1mb))))))))))
 (brE (q1hv==6)
 (brE (q1hv==9)
 (gL qb5 x_Names<|
 (gL qb5 x_Values<|
 (gL qay q1m7<|
 (gL qb3 q1ma<|
 (some ((decide ((((0+(List.length [[(C.str qsz)]])):Nat):Int)>0)),((dL qb5 x_Names),((dL qb5 x_Values),((dL qay q1m7),((dL qb3 q1ma),q1mb))))))))))
 (gL qb5 x_Names<|
 (gL qb5 x_Values<|
 (gL qay q1m7<|
 (gL qb3 q1ma<|
 (gL qaz q1hy<|
 ((q17k (0+(List.length [[(C.str qsz)]])) 0 (dL qb5 x_Names) (dL qb5 x_Values) (dL qay q1m7) (dL qb3 q1ma) q1mb q1hv (dL qaz q1hy) q1hw q1hx q1hz t_N 0 0 0 0 false (EC.decL qb5 ([]++[[(C.str qsz)]])) (EC.decL qb5 []) (EC.decL qb5 []) (EC.decL qay []) (EC.decL qb3 [])).bind fun r0 =>
 (Sum.elim (fun r1=>(gdE (EC.isL qb5 (EC.encL qb5 r1.2.1))<|
 (gL qb5 r1.2.2.1<|
 (gL qay r1.2.2.2.1<|
 (gL qb3 r1.2.2.2.2.1<|
 (some (r1.1.1,((dL qb5 r1.2.1),((dL qb5 r1.2.2.1),((dL qay r1.2.2.2.1),((dL qb3 r1.2.2.2.2.1),r1.2.2.2.2.2)))))))))))
 (fun r1=>(gdE (EC.isL qb5 (EC.encL qb5 r1.2.1.1))<|
 (gL qb5 r1.2.1.2.1<|
 (gL qay r1.2.1.2.2.1<|
 (gL qb3 r1.2.1.2.2.2.1<|
 (some (false,((dL qb5 r1.2.1.1),((dL qb5 r1.2.1.2.1),((dL qay r1.2.1.2.2.1),((dL qb3 r1.2.1.2.2.2.1),r1.2.1.2.2.2.2))))))))))) r0))))))))
 (brE (q1hv==7)
 (gL qb5 x_Names<|
 (gL qb5 x_Values<|
 (gL qay q1m7<|
 (gL qb3 q1ma<|
 (gL qaz q1hy<|
 (gL qau qt1<|
 (gL qb2 qt4<|
 (gL qb0 qt3<|
 ((q17d 0 0 (dL qb5 x_Names) (dL qb5 x_Values) (dL qay q1m7) (dL qb3 q1ma) q1mb q1hv (dL qaz q1hy) q1hw q1hx q1hz t_N qsz (dL qau qt1) qt0 (dL qb2 qt4) (dL qb0 qt3) 0 0 0 0 false (EC.decL qb5 []) (EC.decL qb5 []) (EC.decL qb5 []) (EC.decL qay []) (EC.decL qb3 [])).bind fun r0 =>
 (brE (r0.2.2.1.1==9)
 (gL qb5 r0.2.1.1<|
 (gL qb5 r0.2.1.2.1<|
 (gL qay r0.2.1.2.2.1<|
 (gL qb3 r0.2.1.2.2.2.1<|
 (some ((decide (((r0.1.2.2.2.2.1:Nat):Int)>0)),((dL qb5 r0.2.1.1),((dL qb5 r0.2.1.2.1),((dL qay r0.2.1.2.2.1),((dL qb3 r0.2.1.2.2.2.1),r0.2.1.2.2.2.2))))))))))
 (gL qb5 r0.2.1.1<|
 (gL qb5 r0.2.1.2.1<|
 (gL qay r0.2.1.2.2.1<|
 (gL qb3 r0.2.1.2.2.2.1<|
 (gL qaz r0.2.2.1.2.1<|
 (gL qb5 r0.2.2.2.2.2.1<|
 (gL qb5 r0.2.2.2.2.2.2.1<|
 (gL qb5 r0.2.2.2.2.2.2.2.1<|
 (gL qay r0.2.2.2.2.2.2.2.2.1<|
 (gL qb3 r0.2.2.2.2.2.2.2.2.2<|
 ((q17k r0.1.2.2.2.2.1 0 (dL qb5 r0.2.1.1) (dL qb5 r0.2.1.2.1) (dL qay r0.2.1.2.2.1) (dL qb3 r0.2.1.2.2.2.1) r0.2.1.2.2.2.2 r0.2.2.1.1 (dL qaz r0.2.2.1.2.1) r0.2.2.1.2.2.1 r0.2.2.1.2.2.2.1 r0.2.2.1.2.2.2.2.1 r0.2.2.1.2.2.2.2.2 r0.2.2.2.2.1.1 r0.2.2.2.2.1.2.1 r0.2.2.2.2.1.2.2.1 r0.2.2.2.2.1.2.2.2.1 r0.2.2.2.2.1.2.2.2.2 (dL qb5 r0.2.2.2.2.2.1) (dL qb5 r0.2.2.2.2.2.2.1) (dL qb5 r0.2.2.2.2.2.2.2.1) (dL qay r0.2.2.2.2.2.2.2.2.1) (dL qb3 r0.2.2.2.2.2.2.2.2.2)).bind fun r1 =>
 (Sum.elim (fun r2=>(gdE (EC.isL qb5 (EC.encL qb5 r2.2.1))<|
 (gL qb5 r2.2.2.1<|
 (gL qay r2.2.2.2.1<|
 (gL qb3 r2.2.2.2.2.1<|
 (some (r2.1.1,((dL qb5 r2.2.1),((dL qb5 r2.2.2.1),((dL qay r2.2.2.2.1),((dL qb3 r2.2.2.2.2.1),r2.2.2.2.2.2)))))))))))
 (fun r2=>(gdE (EC.isL qb5 (EC.encL qb5 r2.2.1.1))<|
 (gL qb5 r2.2.1.2.1<|
 (gL qay r2.2.1.2.2.1<|
 (gL qb3 r2.2.1.2.2.2.1<|
 (some (false,((dL qb5 r2.2.1.1),((dL qb5 r2.2.1.2.1),((dL qay r2.2.1.2.2.1),((dL qb3 r2.2.1.2.2.2.1),r2.2.1.2.2.2.2))))))))))) r1))))))))))))))))))))))
 (gL qb2 qt4<|
 (gL qb0 qt3<|
 ((qzn (dL qb2 qt4) (dL qb0 qt3) q1hw).bind fun r0 =>
 (brE (q1hv==9)
 (gL qb5 x_Names<|
 (gL qb5 x_Values<|
 (gL qay q1m7<|
 (gL qb3 q1ma<|
 (some ((decide (((r0.1:Nat):Int)>0)),((dL qb5 x_Names),((dL qb5 x_Values),((dL qay q1m7),((dL qb3 q1ma),q1mb))))))))))
 (gL qb5 x_Names<|
 (gL qb5 x_Values<|
 (gL qay q1m7<|
 (gL qb3 q1ma<|
 (gL qaz q1hy<|
 (gL qb5 r0.2<|
 ((q17k r0.1 0 (dL qb5 x_Names) (dL qb5 x_Values) (dL qay q1m7) (dL qb3 q1ma) q1mb q1hv (dL qaz q1hy) q1hw q1hx q1hz t_N 0 0 0 0 false (dL qb5 r0.2) (EC.decL qb5 []) (EC.decL qb5 []) (EC.decL qay []) (EC.decL qb3 [])).bind fun r1 =>
 (Sum.elim (fun r2=>(gdE (EC.isL qb5 (EC.encL qb5 r2.2.1))<|
 (gL qb5 r2.2.2.1<|
 (gL qay r2.2.2.2.1<|
 (gL qb3 r2.2.2.2.2.1<|
 (some (r2.1.1,((dL qb5 r2.2.1),((dL qb5 r2.2.2.1),((dL qay r2.2.2.2.1),((dL qb3 r2.2.2.2.2.1),r2.2.2.2.2.2)))))))))))
 (fun r2=>(gdE (EC.isL qb5 (EC.encL qb5 r2.2.1.1))<|
 (gL qb5 r2.2.1.2.1<|
 (gL qay r2.2.1.2.2.1<|
 (gL qb3 r2.2.1.2.2.2.1<|
 (some (false,((dL qb5 r2.2.1.1),((dL qb5 r2.2.1.2.1),((dL qay r2.2.1.2.2.1),((dL qb3 r2.2.1.2.2.2.1),r2.2.1.2.2.2.2))))))))))) r1)))))))))))))))))
 (gL qb5 x_Names<|
 (gL qb5 x_Values<|
 (gL qay q1m7<|
 (gL qb3 q1ma<|
 (gL qaz q1hy<|
 (gL qau qt1<|
 (gL qb2 qt4<|
 (gL qb0 qt3<|
 ((q17s size 0 (dL qb5 x_Names) (dL qb5 x_Values) (dL qay q1m7) (dL qb3 q1ma) q1mb q1hv (dL qaz q1hy) q1hw q1hx q1hz t_N qsz (dL qau qt1) qt0 (dL qb2 qt4) (dL qb0 qt3) 0 0 0 0 false (EC.decL qb5 []) (EC.decL qb5 []) (EC.decL qay []) (EC.decL qb3 [])).bind fun r0 =>
 (Sum.elim (fun r1=>(gdE (EC.isL qb5 (EC.encL qb5 r1.2.1))<|
 (gL qb5 r1.2.2.1<|
 (gL qay r1.2.2.2.1<|
 (gL qb3 r1.2.2.2.2.1<|
 (some (r1.1.1,((dL qb5 r1.2.1),((dL qb5 r1.2.2.1),((dL qay r1.2.2.2.1),((dL qb3 r1.2.2.2.2.1),r1.2.2.2.2.2)))))))))))
 (fun r1=>(gdE (EC.isL qb5 (EC.encL qb5 r1.2.1.1))<|
 (gL qb5 r1.2.1.2.1<|
 (gL qay r1.2.1.2.2.1<|
 (gL qb3 r1.2.1.2.2.2.1<|
 (some ((r1.2.2.1.1==3),((dL qb5 r1.2.1.1),((dL qb5 r1.2.1.2.1),((dL qay r1.2.1.2.2.1),((dL qb3 r1.2.1.2.2.2.1),r1.2.1.2.2.2.2))))))))))) r0))))))))))))
theorem q17c {x_Names x_Values q1m7 q1ma q1mb q1hv q1hy q1hw q1hx q1hz t_N qsz qt1 qt0 qt4 qt3 size r} (h:q181 x_Names x_Values q1m7 q1ma q1mb q1hv q1hy q1hw q1hx q1hz t_N qsz qt1 qt0 qt4 qt3 size=some r):q180 x_Names x_Values q1m7 q1ma q1mb q1hv q1hy q1hw q1hx q1hz t_N qsz qt1 qt0 qt4 qt3 size=some r :=
 qjn (es:=q1ju) (hs:=qpb) [q17t,q17l,q17e] Tryz.func68 rfl (by kernel_rfl) rfl (by kernel_rfl) (by kernel_rfl) ⟨⟨_,rfl,rfl⟩,⟨_,rfl,rfl⟩,⟨_,rfl,rfl⟩,trivial⟩ trivial (by kernel_rfl) h
abbrev z52:=(vC (cSl qay))
def q1nl:=(qrf z52)
def q1nv:=sLS [0,3] (qrd z52 (qrf z4w)) qre [] [] (by decide) (fun _=>rfl)
def q1nu:=sLS [0,3,7] (qrd z52 z4y) qre [] [] (by decide) (fun _=>rfl)
def q1nt:=sLS [2] (qrf z52) qre [] [] (by decide) (fun _=>rfl)
def q1ns:=oOr 1 q1nt (oAt 2 q1nu) (fun x=>(by decide:(2:Nat)≠1))
def q1np (l:L45) (i:Int):=lS Tryz.prog lv X0 27 23 (qnb (cdF Tryz.f27) 2) q1nv q1ns ((l,i),())
def q1nw (l:L45) (i:Int):Oq ((L45×Unit)⊕((L45×Int×Bool)×Unit)) :=
 (brE (decide (i<(lN qay l:Int)))
 (gdE (p0 i)<|
 (gdE (eC qay l i [(K1.int Go.IntKind.i64),K1.str,(K1.int Go.IntKind.i64)])<|
 ((q1nd (qqd (List.getD (List.getD (EC.encL qay l) (Int.toNat i) []) 0 C.ne))).bind fun r0 =>
 (brE r0
 (gL qay l<|
 (some (.inl ((dL qay l),()))))
 (gL qay l<|
 (q1np (dL qay l) (wI i)))))))
 (gL qay l<|
 (some (.inr (((dL qay l),(i,false)),())))))
theorem q1nr {l i r} (h:q1nw l i=some r):q1np l i=some r :=
 qrh (es:=q1ju) (hs:=qpb) [] (by kernel_rfl) trivial trivial (by kernel_rfl) h
def q1nq:=qs5 Tryz.prog lv X0 2 (qnb (cdF Tryz.f27) 2) q1nv q1ns (fun x=>q1np x.1.1 x.1.2) (fun _ _ h=>qrg h)
def q1nm:Cod (V×List B) (List S45):=(cFstU (cPair z52 qre))
def q1nx (l:L45):=fS Tryz.prog lv X0 27 q1nl q1nm l
def q1ny (l:L45):Oq L45 :=
 (gL qay l<|
 ((q1np (dL qay l) 0).bind fun r0 =>
 (Sum.elim (fun r1=>(gdE (EC.isL qay (EC.encL qay r1.1))<|
 (some (dL qay r1.1))))
 (fun r1=>(gdE (((aL (EC.encL qay r1.1.1) 3)&&(dQ (lN qay r1.1.1) 32))&&(dM (lN qay r1.1.1)))<|
 (gdE ((((aL [[(C.int Go.IntKind.i64 1),(C.str ⟨#[]⟩),(C.int Go.IntKind.i64 0)]] 3)&&(aL (EC.encL qay r1.1.1) 3))&&(dQ ((lN qay r1.1.1)+(List.length [[(C.int Go.IntKind.i64 1),(C.str ⟨#[]⟩),(C.int Go.IntKind.i64 0)]])) 32))&&(decide (((lN qay r1.1.1)+(List.length [[(C.int Go.IntKind.i64 1),(C.str ⟨#[]⟩),(C.int Go.IntKind.i64 0)]]))≤9223372036854775807)))<|
 (gdE (EC.isL qay ((EC.encL qay r1.1.1)++[[(C.int Go.IntKind.i64 1),(C.str ⟨#[]⟩),(C.int Go.IntKind.i64 0)]]))<|
 (some (EC.decL qay ((EC.encL qay r1.1.1)++[[(C.int Go.IntKind.i64 1),(C.str ⟨#[]⟩),(C.int Go.IntKind.i64 0)]]))))))) r0)))
theorem q1no {l r} (h:q1ny l=some r):q1nx l=some r :=
 qjn (es:=q1ju) (hs:=qpb) [q1nq] Tryz.func27 rfl (by kernel_rfl) rfl (by kernel_rfl) (by kernel_rfl) ⟨⟨_,rfl,rfl⟩,trivial⟩ trivial (by kernel_rfl) h
def q1nn:=entS Tryz.prog lv X0 27 [] q1nl q1nm (fun x=>q1nx x) (fun _ _ h=>qjm h)
def q1o1:=q1nn::q1ju
def q146:=(qrd z52 (qrf z52))
def q14g:=sLS [0,1,5] (qrd z52 (qrd z52 (qrf z4w))) qre [] [] (by decide) (fun _=>rfl)
def q14f:=sLS [0,1,5,14] (qrd z52 (qrd z52 z4y)) qre [] [] (by decide) (fun _=>rfl)
def q14e:=sLS [4] (qrf (vC cBool)) qre [] [] (by decide) (fun _=>rfl)
def q14d:=oOr 1 q14e (oAt 2 q14f) (fun x=>(by decide:(2:Nat)≠1))
def q14a (a b:L45) (i:Int):=lS Tryz.prog lv X0 17 26 (qnb (cdF Tryz.f17) 4) q14g q14d ((a,b,i),())
def q14h (a b:L45) (i:Int):Oq ((Bool×Unit)⊕((L45×L45×Int×Bool)×Unit)) :=
 (brE (decide (i<(lN qay a:Int)))
 (gdE (p0 i)<|
 (gdE (eC qay a i [(K1.int Go.IntKind.i64),K1.str,(K1.int Go.IntKind.i64)])<|
 (gdE (p0 i)<|
 (gdE (eC qay b i [(K1.int Go.IntKind.i64),K1.str,(K1.int Go.IntKind.i64)])<|
 (brE (!(((qqd (List.getD (List.getD (EC.encL qay a) (Int.toNat i) []) 0 C.ne))==(qqd (List.getD (List.getD (EC.encL qay b) (Int.toNat i) []) 0 C.ne)))&&(((q1gu (List.getD (List.getD (EC.encL qay a) (Int.toNat i) []) 1 C.ne))==(q1gu (List.getD (List.getD (EC.encL qay b) (Int.toNat i) []) 1 C.ne)))&&(((qqd (List.getD (List.getD (EC.encL qay a) (Int.toNat i) []) 2 C.ne))==(qqd (List.getD (List.getD (EC.encL qay b) (Int.toNat i) []) 2 C.ne)))&&true))))
 (some (.inl (false,())))
 (gL qay a<|
 (gL qay b<|
 (q14a (dL qay a) (dL qay b) (wI i)))))))))
 (gL qay a<|
 (gL qay b<|
 (some (.inr (((dL qay a),((dL qay b),(i,false))),()))))))
theorem q14c {a b i r} (h:q14h a b i=some r):q14a a b i=some r :=
 qrh (es:=q1o1) (hs:=qpb) [] (by kernel_rfl) trivial trivial (by kernel_rfl) h
def q14b:=qs5 Tryz.prog lv X0 4 (qnb (cdF Tryz.f17) 4) q14g q14d (fun x=>q14a x.1.1 x.1.2.1 x.1.2.2) (fun _ _ h=>qrg h)
def q147:Cod (V×List B) Bool:=(cFstU (cPair (vC cBool) qre))
def q14i (a b:L45):=fS Tryz.prog lv X0 17 q146 q147 (a,b)
def q14j (a b:L45):Oq Bool :=
 (brE ((lN qay a:Int) != (lN qay b:Int))
 (some false)
 (gL qay a<|
 (gL qay b<|
 ((q14a (dL qay a) (dL qay b) 0).bind fun r0 =>
 (Sum.elim (fun r1=>(some r1.1))
 (fun r1=>(some true)) r0)))))
theorem q149 {a b r} (h:q14j a b=some r):q14i a b=some r :=
 qjn (es:=q1o1) (hs:=qpb) [q14b] Tryz.func17 rfl (by kernel_rfl) rfl (by kernel_rfl) (by kernel_rfl) ⟨⟨_,rfl,rfl⟩,trivial⟩ trivial (by kernel_rfl) h
def q148:=entS Tryz.prog lv X0 17 [] q146 q147 (fun x=>q14i x.1 x.2) (fun _ _ h=>qjm h)
def q1jq:=q148::q1o1
def qxx:=(qrd (vC (cSl qb1)) (qrf (vAgg z4v)))
def qxy:Cod (V×List B) ((Int×Int)×Int):=(cFstU (cPair (vTup (qrd (vAgg (qrd z4w (qrf z4w))) (qrf z4w))) qre))
def qy1 (s:L50) (qsz:BA) (qt1:L118) (qt0:BA) (qt4:L55) (qt3:(List Int)):=fS Tryz.prog lv X0 15 qxx qxy (s,(qsz,qt1,qt0,qt4,qt3))
def qy2 (s:L50) (qsz:BA) (qt1:L118) (qt0:BA) (qt4:L55) (qt3:(List Int)):Oq ((Int×Int)×Int) :=
 (gL qb1 s<|
 ((q144 (dL qb1 s)).bind fun r0 =>
 (brE (r0.1 != 0)
 (some ((r0.1,r0.2),0))
 (gL qau qt1<|
 ((qdf qsz (dL qau qt1) qt0).bind fun r1 =>
 (brE (r1.1 != 0)
 ((qyl r1.1 (-3)).bind fun r2 =>
 (some ((r2.1,r2.2),0)))
 (gL qb2 qt4<|
 (gL qb0 qt3<|
 ((qtn (dL qb2 qt4) (dL qb0 qt3)).bind fun r2 =>
 (brE (r2.1.2.1 != 0)
 ((qyl r2.1.2.1 (-2)).bind fun r3 =>
 (some ((r3.1,r3.2),0)))
 (some ((0,0),((r2.1.1:Nat):Int)))))))))))))
theorem qy0 {s qsz qt1 qt0 qt4 qt3 r} (h:qy2 s qsz qt1 qt0 qt4 qt3=some r):qy1 s qsz qt1 qt0 qt4 qt3=some r :=
 qjn (es:=q1jq) (hs:=qpb) [] Tryz.func15 rfl (by kernel_rfl) rfl (by kernel_rfl) (by kernel_rfl) trivial trivial (by kernel_rfl) h
def qxz:=entS Tryz.prog lv X0 15 [] qxx qxy (fun x=>qy1 x.1 x.2.1 x.2.2.1 x.2.2.2.1 x.2.2.2.2.1 x.2.2.2.2.2) (fun _ _ h=>qjm h)
def q1ja:=qxz::q1jq
end
end Go.Proofs.YtokahibbkdbndaaGreatDoor
