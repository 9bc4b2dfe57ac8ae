/- Functions of the program as plain functions: made by program from the machine. -/
import Derived.Test.YtmlcmoaonaomfaaGreatDoorH2
namespace Go.Proofs.YtmlcmoaonaomfaaGreatDoor
open Go.RowKit
set_option maxRecDepth 100000
noncomputable section
def qzo:=(qpl (vC (cInt .u8)))
def qzp:Cod (V×List B) Bool:=(cFstU (cPair (vC cBool) qpk))
def qzs (c:Int):=fS Tryz.prog lv X0 39 qzo qzp c
def qzt (c:Int):Oq Bool :=
 (brE ((decide (c≥97))==true)
 (some (decide (c<=122)))
 (some false))
theorem qzr {c r} (h:qzt c=some r):qzs c=some r :=
 qg7 (es:=q1c5) (hs:=[]) [] Tryz.func39 rfl (by kernel_rfl) rfl (by kernel_rfl) (by kernel_rfl) trivial trivial (by kernel_rfl) h
def qzq:=entS Tryz.prog lv X0 39 [] qzo qzp (λx=>qzs x) (λ_ _ h=>qg5 h)
def q1c8:=qzq::q1c5
def qzu:=(qpl (vC (cInt .u8)))
def qzv:Cod (V×List B) Bool:=(cFstU (cPair (vC cBool) qpk))
def qzy (c:Int):=fS Tryz.prog lv X0 40 qzu qzv c
def qzz (c:Int):Oq Bool :=
 (brE ((decide (c≥48))==true)
 (some (decide (c<=57)))
 (some false))
theorem qzx {c r} (h:qzz c=some r):qzy c=some r :=
 qg7 (es:=q1c8) (hs:=[]) [] Tryz.func40 rfl (by kernel_rfl) rfl (by kernel_rfl) (by kernel_rfl) trivial trivial (by kernel_rfl) h
def qzw:=entS Tryz.prog lv X0 40 [] qzu qzv (λx=>qzy x) (λ_ _ h=>qg5 h)
def q1c9:=qzw::q1c8
def qz3:Cod (List V) Unit:=qpk
abbrev z19:=(vAgg (qpj (vC cStr) (qpj (vC cStr) (qpl (vC cStr)))))
def qz4:Cod (V×List B) (BA×BA×BA):=(cFstU (cPair z19 qpk))
def qz7 :=fS Tryz.prog lv X0 130 qz3 qz4 ()
def qz8 :Oq (BA×BA×BA) :=
 (some ((ByteArray.mk (List.toArray [105,115])),((ByteArray.mk (List.toArray [99,111,110,116,97,105,110,115])),(ByteArray.mk (List.toArray [108,105,107,101])))))
theorem qz6 {r} (h:qz8 =some r):qz7 =some r :=
 qg7 (es:=q1c9) (hs:=[]) [] Tryz.func130 rfl (by kernel_rfl) rfl (by kernel_rfl) (by kernel_rfl) trivial trivial (by kernel_rfl) h
def qz5:=entS Tryz.prog lv X0 130 [] qz3 qz4 (λx=>qz7 ) (λ_ _ h=>qg5 h)
def q1c7:=qz5::q1c9
def qyx:Cod (List V) Unit:=qpk
abbrev z16:=(vAgg (qpj (vC cStr) (qpj (vC cStr) (qpj (vC cStr) (qpj (vC cStr) (qpj (vC cStr) (qpj (vC cStr) (qpl (vC cStr)))))))))
def qyy:Cod (V×List B) (BA×BA×BA×BA×BA×BA×BA):=(cFstU (cPair z16 qpk))
def qz1 :=fS Tryz.prog lv X0 65 qyx qyy ()
def qz2 :Oq (BA×BA×BA×BA×BA×BA×BA) :=
 (some ((ByteArray.mk (List.toArray [107,101,101,112])),((ByteArray.mk (List.toArray [102,105,108,101])),((ByteArray.mk (List.toArray [100,105,115,99,97,114,100])),((ByteArray.mk (List.toArray [114,101,100,105,114,101,99,116])),((ByteArray.mk (List.toArray [114,101,106,101,99,116])),((ByteArray.mk (List.toArray [102,108,97,103])),(ByteArray.mk (List.toArray [114,101,112,108,121])))))))))
theorem qz0 {r} (h:qz2 =some r):qz1 =some r :=
 qg7 (es:=q1c7) (hs:=[]) [] Tryz.func65 rfl (by kernel_rfl) rfl (by kernel_rfl) (by kernel_rfl) trivial trivial (by kernel_rfl) h
def qyz:=entS Tryz.prog lv X0 65 [] qyx qyy (λx=>qz1 ) (λ_ _ h=>qg5 h)
def q1c6:=qyz::q1c7
def qyj:=(qpl (vC cStr))
abbrev z12:=(qu4 (bBox (qpj (vC cStr) (qpj (vC (cInt .i64)) (qpj (vC (cInt .i64)) (qpj (vC (cInt .i64)) (qpj (vC cStr) (qpj (vC cBool) (qpj (vC (cInt .i64)) (qpj (vC (cInt .i64)) (qpl (vC (cInt .i64)))))))))))))
abbrev z18:=(qpl (vPtr 0 0))
def q10j:=sLS [0] z18 (qpl z12) [false] [0] (by decide) (λ_=>rfl)
def q108:=sLS [0] z18 (qpl z12) [false] [0] (by decide) (λ_=>rfl)
abbrev z1a:=(qpl (vC cBool))
def q107:=sLS [0,29] (qpj (vPtr 0 0) z1a) (qpl z12) [false] [0] (by decide) (λ_=>rfl)
def q106:=oAt 2 q107
def q103 (b0:BA) (b0_1 b0_2 b0_3:Int) (b0_4:BA) (b0_5:Bool) (b0_6 b0_7 b0_8:Int):=lS Tryz.prog lv X0 23 143 (qk8 (cdF Tryz.f23) 0) q108 q106 ((),(b0,b0_1,b0_2,b0_3,b0_4,b0_5,b0_6,b0_7,b0_8))
def q109 (b0:BA) (b0_1 b0_2 b0_3:Int) (b0_4:BA) (b0_5:Bool) (b0_6 b0_7 b0_8:Int):Oq ((Unit×Bool)×(BA×Int×Int×Int×BA×Bool×Int×Int×Int)) :=
 (brE ((decide (b0_1<(b0.size:Int)))==true)
 (gdE ((p0 b0_1)&&(decide ((Int.toNat b0_1)<b0.size)))<|
 (brE (decide ((Go.Lib.indexByte (Array.toList (List.toArray [(32:UInt8),(9:UInt8),(13:UInt8),(10:UInt8)])) (Nat.toUInt8 (Int.toNat (((UInt8.toNat (Array.getD b0.data (Int.toNat b0_1) (0:UInt8))):Nat):Int))))≥0))
 (q103 b0 (wI b0_1) b0_2 b0_3 b0_4 b0_5 b0_6 b0_7 b0_8)
 (some (((),false),(b0,(b0_1,(b0_2,(b0_3,(b0_4,(b0_5,(b0_6,(b0_7,b0_8))))))))))))
 (some (((),false),(b0,(b0_1,(b0_2,(b0_3,(b0_4,(b0_5,(b0_6,(b0_7,b0_8)))))))))))
theorem q105 {b0 b0_1 b0_2 b0_3 b0_4 b0_5 b0_6 b0_7 b0_8 r} (h:q109 b0 b0_1 b0_2 b0_3 b0_4 b0_5 b0_6 b0_7 b0_8=some r):q103 b0 b0_1 b0_2 b0_3 b0_4 b0_5 b0_6 b0_7 b0_8=some r :=
 qpn (es:=q1c6) (hs:=[]) [] (by kernel_rfl) trivial trivial (by kernel_rfl) h
def q104:=qqh Tryz.prog lv X0 0 (qk8 (cdF Tryz.f23) 0) q108 q106 (λx=>q103 x.2.1 x.2.2.1 x.2.2.2.1 x.2.2.2.2.1 x.2.2.2.2.2.1 x.2.2.2.2.2.2.1 x.2.2.2.2.2.2.2.1 x.2.2.2.2.2.2.2.2.1 x.2.2.2.2.2.2.2.2.2) (λ_ _ h=>qpm h)
def q12q:=sLS [0] z18 (qpl z12) [false] [0] (by decide) (λ_=>rfl)
abbrev z13:=(vC (cInt .i64))
abbrev z17:=(qu4 (bBox (qpj z13 (qpj z13 (qpl (vC cStr))))))
def q12m:=sLS [0,2,3,4,5] (qpj (vPtr 0 0) (qpj (vPtr 1 0) (qpj (vPtr 2 0) (qpj (vRow 3) (qpl z13))))) (qpj z12 (qpj z17 (qpj z17 (qpl (qu4 (bRow qcy)))))) [false,false,false,false] [0] (by decide) (λ_=>rfl)
def q12l:=sLS [0,2,3,4,5,23] (qpj (vPtr 0 0) (qpj (vPtr 1 0) (qpj (vPtr 2 0) (qpj (vRow 3) (qpj z13 z1a))))) (qpj z12 (qpj z17 (qpj z17 (qpl (qu4 (bRow qcy)))))) [false,false,false,false] [0] (by decide) (λ_=>rfl)
def q12k:=sLS [2] z18 (qpj z17 (qpl z12)) [false,false] [1] (by decide) (λ_=>rfl)
def q12j:=oOr 1 q12k (oAt 2 q12l) (λx=>(by decide:(2:Nat)≠1))
def q12g (out:Nat) (i:Int) (b0:BA) (b0_1 b0_2 b0_3:Int) (b0_4:BA) (b0_5:Bool) (b0_6 b0_7:Int) (b0_8 b1 b1_1:Int) (b1_2:BA) (b2 b2_1:Int) (b2_2:BA) (b3:(List Int)):=lS Tryz.prog lv X0 41 90 (qk8 (cdF Tryz.f41) 4) q12m q12j (((),(),(),out,i),((b0,b0_1,b0_2,b0_3,b0_4,b0_5,b0_6,b0_7,b0_8),(b1,b1_1,b1_2),(b2,b2_1,b2_2),b3))
abbrev z8 (i:Int) (b0:BA):=(C.int Go.IntKind.u8 (((UInt8.toNat (Array.getD b0.data (Int.toNat (wI i)) (0:UInt8))):Nat):Int))
abbrev za (i:Int) (b0:BA):=(((UInt8.toNat (Array.getD b0.data (Int.toNat i) (0:UInt8))):Nat):Int)
abbrev zb (i:Int) (b0:BA):=((p0 (wI i))&&(decide ((Int.toNat (wI i))<b0.size)))
def q12n (out:Nat) (i:Int) (b0:BA) (b0_1 b0_2 b0_3:Int) (b0_4:BA) (b0_5:Bool) (b0_6 b0_7:Int) (b0_8 b1 b1_1:Int) (b1_2:BA) (b2 b2_1:Int) (b2_2:BA) (b3:(List Int)):Oq ((Unit×((Int×Int×BA)×(BA×Int×Int×Int×BA×Bool×Int×Int×Int)))⊕((Unit×Unit×Unit×Nat×Int×Bool)×((BA×Int×Int×Int×BA×Bool×Int×Int×Int)×(Int×Int×BA)×(Int×Int×BA)×(List Int)))) :=
 (brE (decide (i<(b0.size:Int)))
 (gdE ((p0 i)&&(decide ((Int.toNat i)<b0.size)))<|
 (brE ((za i b0)==34)
 ((bytesOf (EC.encL qcy b3)).bind λr0 =>
 (some (.inl ((),((b2,(b2_1,(ByteArray.mk (List.toArray r0)))),(b0,((wI i),(b0_2,(b0_3,(b0_4,(b0_5,(b0_6,(b0_7,b0_8)))))))))))))
 (brE ((za i b0)==92)
 (brE (((wI i)==(b0.size:Int))==false)
 (gdE (zb i b0)<|
 (brE (((((UInt8.toNat (Array.getD b0.data (Int.toNat (wI i)) (0:UInt8))):Nat):Int) != 34)==true)
 (gdE (zb i b0)<|
 (brE ((((UInt8.toNat (Array.getD b0.data (Int.toNat (wI i)) (0:UInt8))):Nat):Int) != 92)
 (some (.inl ((),((5,(b2_1,b2_2)),(b0,(b0_1,(b0_2,(b0_3,(b0_4,(b0_5,(b0_6,(b0_7,b0_8))))))))))))
 (gdE (zb i b0)<|
 (gdE ((((aL [[(z8 i b0)]] 1)&&(aL (EC.encL qcy b3) 1))&&(dQ (out+(List.length [[(z8 i b0)]])) 1))&&(decide ((out+(List.length [[(z8 i b0)]]))<=9223372036854775807)))<|
 (gdE (EC.isL qcy ((EC.encL qcy b3)++[[(z8 i b0)]]))<|
 (q12g (out+(List.length [[(z8 i b0)]])) (wI (wI i)) b0 b0_1 b0_2 b0_3 b0_4 b0_5 b0_6 b0_7 b0_8 b1 b1_1 b1_2 b2 b2_1 b2_2 (EC.decL qcy ((EC.encL qcy b3)++[[(z8 i b0)]]))))))))
 (gdE (zb i b0)<|
 (gdE ((((aL [[(z8 i b0)]] 1)&&(aL (EC.encL qcy b3) 1))&&(dQ (out+(List.length [[(z8 i b0)]])) 1))&&(decide ((out+(List.length [[(z8 i b0)]]))<=9223372036854775807)))<|
 (gdE (EC.isL qcy ((EC.encL qcy b3)++[[(z8 i b0)]]))<|
 (q12g (out+(List.length [[(z8 i b0)]])) (wI (wI i)) b0 b0_1 b0_2 b0_3 b0_4 b0_5 b0_6 b0_7 b0_8 b1 b1_1 b1_2 b2 b2_1 b2_2 (EC.decL qcy ((EC.encL qcy b3)++[[(z8 i b0)]]))))))))
 (some (.inl ((),((5,(b2_1,b2_2)),(b0,(b0_1,(b0_2,(b0_3,(b0_4,(b0_5,(b0_6,(b0_7,b0_8)))))))))))))
 (gdE ((((aL [[(C.int Go.IntKind.u8 (za i b0))]] 1)&&(aL (EC.encL qcy b3) 1))&&(dQ (out+(List.length [[(C.int Go.IntKind.u8 (za i b0))]])) 1))&&(decide ((out+(List.length [[(C.int Go.IntKind.u8 (za i b0))]]))<=9223372036854775807)))<|
 (gdE (EC.isL qcy ((EC.encL qcy b3)++[[(C.int Go.IntKind.u8 (za i b0))]]))<|
 (q12g (out+(List.length [[(C.int Go.IntKind.u8 (za i b0))]])) (wI i) b0 b0_1 b0_2 b0_3 b0_4 b0_5 b0_6 b0_7 b0_8 b1 b1_1 b1_2 b2 b2_1 b2_2 (EC.decL qcy ((EC.encL qcy b3)++[[(C.int Go.IntKind.u8 (za i b0))]]))))))))
 (gL qcy b3<|
 (some (.inr (((),((),((),(out,(i,false))))),((b0,(b0_1,(b0_2,(b0_3,(b0_4,(b0_5,(b0_6,(b0_7,b0_8)))))))),((b1,(b1_1,b1_2)),((b2,(b2_1,b2_2)),(dL qcy b3)))))))))
theorem q12i {out i b0 b0_1 b0_2 b0_3 b0_4 b0_5 b0_6 b0_7 b0_8 b1 b1_1 b1_2 b2 b2_1 b2_2 b3 r} (h:q12n out i b0 b0_1 b0_2 b0_3 b0_4 b0_5 b0_6 b0_7 b0_8 b1 b1_1 b1_2 b2 b2_1 b2_2 b3=some r):q12g out i b0 b0_1 b0_2 b0_3 b0_4 b0_5 b0_6 b0_7 b0_8 b1 b1_1 b1_2 b2 b2_1 b2_2 b3=some r :=
 qpn (es:=q1c6) (hs:=[]) [] (by kernel_rfl) trivial trivial (by kernel_rfl) h
def q12h:=qqh Tryz.prog lv X0 4 (qk8 (cdF Tryz.f41) 4) q12m q12j (λx=>q12g x.1.2.2.2.1 x.1.2.2.2.2 x.2.1.1 x.2.1.2.1 x.2.1.2.2.1 x.2.1.2.2.2.1 x.2.1.2.2.2.2.1 x.2.1.2.2.2.2.2.1 x.2.1.2.2.2.2.2.2.1 x.2.1.2.2.2.2.2.2.2.1 x.2.1.2.2.2.2.2.2.2.2 x.2.2.1.1 x.2.2.1.2.1 x.2.2.1.2.2 x.2.2.2.1.1 x.2.2.2.1.2.1 x.2.2.2.1.2.2 x.2.2.2.2) (λ_ _ h=>qpm h)
def q12p:SC ((Int×Int×BA)×(BA×Int×Int×Int×BA×Bool×Int×Int×Int)):=sLS [0] (qpl (vAgg (qpj (vC (cInt .i64)) (qpj (vC (cInt .i64)) (qpl (vC cStr)))))) (qpl (qu4 (bBox (qpj (vC cStr) (qpj (vC (cInt .i64)) (qpj (vC (cInt .i64)) (qpj (vC (cInt .i64)) (qpj (vC cStr) (qpj (vC cBool) (qpj (vC (cInt .i64)) (qpj (vC (cInt .i64)) (qpl (vC (cInt .i64)))))))))))))) [false] [0] (by decide) (λ_=>rfl)
def q12o:HC ((Int×Int×BA)×((Int×Int×BA)×(BA×Int×Int×Int×BA×Bool×Int×Int×Int))):=hPair (vAgg (qpj (vC (cInt .i64)) (qpj (vC (cInt .i64)) (qpl (vC cStr))))) q12p
def q12d (b0:BA) (b0_1 b0_2 b0_3:Int) (b0_4:BA) (b0_5:Bool) (b0_6 b0_7 b0_8:Int):=hS Tryz.prog lv X0 41 q12q q12o ((),(b0,b0_1,b0_2,b0_3,b0_4,b0_5,b0_6,b0_7,b0_8))
def q12r (b0:BA) (b0_1 b0_2 b0_3:Int) (b0_4:BA) (b0_5:Bool) (b0_6 b0_7 b0_8:Int):Oq ((Int×Int×BA)×((Int×Int×BA)×(BA×Int×Int×Int×BA×Bool×Int×Int×Int))) :=
 ((q12g 0 (wI b0_1) b0 b0_1 b0_2 b0_3 b0_4 b0_5 b0_6 b0_7 b0_8 0 0 ⟨#[]⟩ 1 b0_1 ⟨#[]⟩ (EC.decL qcy [])).bind λr0 =>
 (Sum.elim (λr1=>(some ((r1.2.1.1,(r1.2.1.2.1,r1.2.1.2.2)),((r1.2.1.1,(r1.2.1.2.1,r1.2.1.2.2)),(r1.2.2.1,(r1.2.2.2.1,(r1.2.2.2.2.1,(r1.2.2.2.2.2.1,(r1.2.2.2.2.2.2.1,(r1.2.2.2.2.2.2.2.1,(r1.2.2.2.2.2.2.2.2.1,(r1.2.2.2.2.2.2.2.2.2.1,r1.2.2.2.2.2.2.2.2.2.2))))))))))))
 (λr1=>(some ((5,(r1.2.2.2.1.2.1,r1.2.2.2.1.2.2)),((5,(r1.2.2.2.1.2.1,r1.2.2.2.1.2.2)),(r1.2.1.1,(r1.2.1.2.1,(r1.2.1.2.2.1,(r1.2.1.2.2.2.1,(r1.2.1.2.2.2.2.1,(r1.2.1.2.2.2.2.2.1,(r1.2.1.2.2.2.2.2.2.1,(r1.2.1.2.2.2.2.2.2.2.1,r1.2.1.2.2.2.2.2.2.2.2)))))))))))) r0))
theorem q12f {b0 b0_1 b0_2 b0_3 b0_4 b0_5 b0_6 b0_7 b0_8 r} (h:q12r b0 b0_1 b0_2 b0_3 b0_4 b0_5 b0_6 b0_7 b0_8=some r):q12d b0 b0_1 b0_2 b0_3 b0_4 b0_5 b0_6 b0_7 b0_8=some r :=
 qkh (fn:=Tryz.f41) (es:=q1c6) (hs:=[]) [q12h] (by kernel_rfl) rfl (by kernel_rfl) (by kernel_rfl) ⟨⟨_,rfl,rfl⟩,trivial⟩ trivial (by kernel_rfl) h
def q12e:=hentS Tryz.prog lv X0 41 [0,3,0,0,1,9,1,3,1,1,1,1,1,1,1,3,1,2,1,1,1,1,1,1,0] q12q q12o (λx=>q12d x.2.1 x.2.2.1 x.2.2.2.1 x.2.2.2.2.1 x.2.2.2.2.2.1 x.2.2.2.2.2.2.1 x.2.2.2.2.2.2.2.1 x.2.2.2.2.2.2.2.2.1 x.2.2.2.2.2.2.2.2.2) (λ_ _ h=>qkg h)
def qmu:=q12e::[]
def q10f:=sLS [0,2,3,5,6] (qpj (vPtr 0 0) (qpj (vFn 39 qpk) (qpj (vFn 40 qpk) (qpj z13 (qpl z13))))) (qpl z12) [false] [0] (by decide) (λ_=>rfl)
def q10e:=sLS [0,2,3,5,6,117] (qpj (vPtr 0 0) (qpj (vFn 39 qpk) (qpj (vFn 40 qpk) (qpj z13 (qpj z13 z1a))))) (qpl z12) [false] [0] (by decide) (λ_=>rfl)
def q10d:=oAt 4 q10e
def q10a (n kind:Int) (b0:BA) (b0_1 b0_2 b0_3:Int) (b0_4:BA) (b0_5:Bool) (b0_6 b0_7 b0_8:Int):=lS Tryz.prog lv X0 23 143 (qk8 (cdF Tryz.f23) 14) q10f q10d (((),(),(),n,kind),(b0,b0_1,b0_2,b0_3,b0_4,b0_5,b0_6,b0_7,b0_8))
def q10g (n kind:Int) (b0:BA) (b0_1 b0_2 b0_3:Int) (b0_4:BA) (b0_5:Bool) (b0_6 b0_7 b0_8:Int):Oq ((Unit×Unit×Unit×Int×Int×Bool)×(BA×Int×Int×Int×BA×Bool×Int×Int×Int)) :=
 (brE ((decide (n<(b0.size:Int)))==true)
 (gdE ((p0 n)&&(decide ((Int.toNat n)<b0.size)))<|
 ((qzy (((UInt8.toNat (Array.getD b0.data (Int.toNat n) (0:UInt8))):Nat):Int)).bind λr0 =>
 (brE (r0==false)
 (brE ((kind==2)==true)
 (gdE ((p0 n)&&(decide ((Int.toNat n)<b0.size)))<|
 ((qzs (((UInt8.toNat (Array.getD b0.data (Int.toNat n) (0:UInt8))):Nat):Int)).bind λr1 =>
 (brE r1
 (q10a (wI n) kind b0 b0_1 b0_2 b0_3 b0_4 b0_5 b0_6 b0_7 b0_8)
 (some (((),((),((),(n,(kind,false))))),(b0,(b0_1,(b0_2,(b0_3,(b0_4,(b0_5,(b0_6,(b0_7,b0_8)))))))))))))
 (some (((),((),((),(n,(kind,false))))),(b0,(b0_1,(b0_2,(b0_3,(b0_4,(b0_5,(b0_6,(b0_7,b0_8)))))))))))
 (q10a (wI n) kind b0 b0_1 b0_2 b0_3 b0_4 b0_5 b0_6 b0_7 b0_8))))
 (some (((),((),((),(n,(kind,false))))),(b0,(b0_1,(b0_2,(b0_3,(b0_4,(b0_5,(b0_6,(b0_7,b0_8)))))))))))
theorem q10c {n kind b0 b0_1 b0_2 b0_3 b0_4 b0_5 b0_6 b0_7 b0_8 r} (h:q10g n kind b0 b0_1 b0_2 b0_3 b0_4 b0_5 b0_6 b0_7 b0_8=some r):q10a n kind b0 b0_1 b0_2 b0_3 b0_4 b0_5 b0_6 b0_7 b0_8=some r :=
 qpn (es:=q1c6) (hs:=qmu) [] (by kernel_rfl) trivial trivial (by kernel_rfl) h
def q10b:=qqh Tryz.prog lv X0 14 (qk8 (cdF Tryz.f23) 14) q10f q10d (λx=>q10a x.1.2.2.2.1 x.1.2.2.2.2 x.2.1 x.2.2.1 x.2.2.2.1 x.2.2.2.2.1 x.2.2.2.2.2.1 x.2.2.2.2.2.2.1 x.2.2.2.2.2.2.2.1 x.2.2.2.2.2.2.2.2.1 x.2.2.2.2.2.2.2.2.2) (λ_ _ h=>qpm h)
def q10i:SC (Unit×(BA×Int×Int×Int×BA×Bool×Int×Int×Int)):=sLS [] qpk (qpl (qu4 (bBox (qpj (vC cStr) (qpj (vC (cInt .i64)) (qpj (vC (cInt .i64)) (qpj (vC (cInt .i64)) (qpj (vC cStr) (qpj (vC cBool) (qpj (vC (cInt .i64)) (qpj (vC (cInt .i64)) (qpl (vC (cInt .i64)))))))))))))) [false] [0] (by decide) (λ_=>rfl)
def q10h:HC (Unit×(Unit×(BA×Int×Int×Int×BA×Bool×Int×Int×Int))):=hPair (vTup qpk) q10i
def q100 (b0:BA) (b0_1 b0_2 b0_3:Int) (b0_4:BA) (b0_5:Bool) (b0_6 b0_7 b0_8:Int):=hS Tryz.prog lv X0 23 q10j q10h ((),(b0,b0_1,b0_2,b0_3,b0_4,b0_5,b0_6,b0_7,b0_8))
def q10k (b0:BA) (b0_1 b0_2 b0_3:Int) (b0_4:BA) (b0_5:Bool) (b0_6 b0_7 b0_8:Int):Oq (Unit×(Unit×(BA×Int×Int×Int×BA×Bool×Int×Int×Int))) :=
 ((q103 b0 b0_1 b0_2 b0_3 b0_4 b0_5 b0_6 b0_7 b0_8).bind λr0 =>
 (brE (r0.2.2.1==((r0.2.1.size:Nat):Int))
 (some ((),((),(r0.2.1,(r0.2.2.1,(0,(r0.2.2.1,(⟨#[]⟩,(r0.2.2.2.2.2.2.1,(r0.2.2.2.2.2.2.2.1,(r0.2.2.2.2.2.2.2.2.1,r0.2.2.2.2.2.2.2.2.2)))))))))))
 (gdE ((p0 r0.2.2.1)&&(decide ((Int.toNat r0.2.2.1)<r0.2.1.size)))<|
 (brE ((((UInt8.toNat (Array.getD r0.2.1.data (Int.toNat r0.2.2.1) (0:UInt8))):Nat):Int)==34)
 ((q12d r0.2.1 r0.2.2.1 r0.2.2.2.1 r0.2.2.2.2.1 r0.2.2.2.2.2.1 r0.2.2.2.2.2.2.1 r0.2.2.2.2.2.2.2.1 r0.2.2.2.2.2.2.2.2.1 r0.2.2.2.2.2.2.2.2.2).bind λr1 =>
 (some ((),((),(r1.2.2.1,(r1.2.2.2.1,(r1.1.1,(r1.1.2.1,(r1.1.2.2,(r1.2.2.2.2.2.2.2.1,(r1.2.2.2.2.2.2.2.2.1,(r1.2.2.2.2.2.2.2.2.2.1,r1.2.2.2.2.2.2.2.2.2.2))))))))))))
 ((qzs (((UInt8.toNat (Array.getD r0.2.1.data (Int.toNat r0.2.2.1) (0:UInt8))):Nat):Int)).bind λr1 =>
 (brE (r1==false)
 ((qzy (((UInt8.toNat (Array.getD r0.2.1.data (Int.toNat r0.2.2.1) (0:UInt8))):Nat):Int)).bind λr2 =>
 (brE r2
 ((qzs (((UInt8.toNat (Array.getD r0.2.1.data (Int.toNat r0.2.2.1) (0:UInt8))):Nat):Int)).bind λr3 =>
 (brE r3
 ((q10a (wI r0.2.2.1) 2 r0.2.1 r0.2.2.1 r0.2.2.2.1 r0.2.2.2.2.1 r0.2.2.2.2.2.1 r0.2.2.2.2.2.2.1 r0.2.2.2.2.2.2.2.1 r0.2.2.2.2.2.2.2.2.1 r0.2.2.2.2.2.2.2.2.2).bind λr4 =>
 (gdE ((p0 r4.1.2.2.2.1)&&(decide (r4.1.2.2.2.1<=((r4.2.1.size:Nat):Int))))<|
 (gdE ((p0 r4.2.2.1)&&(decide (r4.2.2.1<=(((Int.toNat r4.1.2.2.2.1):Nat):Int))))<|
 (some ((),((),(r4.2.1,(r4.1.2.2.2.1,(r4.1.2.2.2.2.1,(r4.2.2.1,((ByteArray.extract r4.2.1 (Int.toNat r4.2.2.1) (Int.toNat r4.1.2.2.2.1)),(r4.2.2.2.2.2.2.1,(r4.2.2.2.2.2.2.2.1,(r4.2.2.2.2.2.2.2.2.1,r4.2.2.2.2.2.2.2.2.2))))))))))))))
 ((q10a (wI r0.2.2.1) 3 r0.2.1 r0.2.2.1 r0.2.2.2.1 r0.2.2.2.2.1 r0.2.2.2.2.2.1 r0.2.2.2.2.2.2.1 r0.2.2.2.2.2.2.2.1 r0.2.2.2.2.2.2.2.2.1 r0.2.2.2.2.2.2.2.2.2).bind λr4 =>
 (gdE ((p0 r4.1.2.2.2.1)&&(decide (r4.1.2.2.2.1<=((r4.2.1.size:Nat):Int))))<|
 (gdE ((p0 r4.2.2.1)&&(decide (r4.2.2.1<=(((Int.toNat r4.1.2.2.2.1):Nat):Int))))<|
 (some ((),((),(r4.2.1,(r4.1.2.2.2.1,(r4.1.2.2.2.2.1,(r4.2.2.1,((ByteArray.extract r4.2.1 (Int.toNat r4.2.2.1) (Int.toNat r4.1.2.2.2.1)),(r4.2.2.2.2.2.2.1,(r4.2.2.2.2.2.2.2.1,(r4.2.2.2.2.2.2.2.2.1,r4.2.2.2.2.2.2.2.2.2))))))))))))))))
 (gdE ((p0 (wI r0.2.2.1))&&(decide ((wI r0.2.2.1)<=((r0.2.1.size:Nat):Int))))<|
 (gdE ((p0 r0.2.2.1)&&(decide (r0.2.2.1<=(((Int.toNat (wI r0.2.2.1)):Nat):Int))))<|
 (some ((),((),(r0.2.1,((wI r0.2.2.1),(4,(r0.2.2.1,((ByteArray.extract r0.2.1 (Int.toNat r0.2.2.1) (Int.toNat (wI r0.2.2.1))),(r0.2.2.2.2.2.2.1,(r0.2.2.2.2.2.2.2.1,(r0.2.2.2.2.2.2.2.2.1,r0.2.2.2.2.2.2.2.2.2)))))))))))))))
 ((qzs (((UInt8.toNat (Array.getD r0.2.1.data (Int.toNat r0.2.2.1) (0:UInt8))):Nat):Int)).bind λr2 =>
 (brE r2
 ((q10a (wI r0.2.2.1) 2 r0.2.1 r0.2.2.1 r0.2.2.2.1 r0.2.2.2.2.1 r0.2.2.2.2.2.1 r0.2.2.2.2.2.2.1 r0.2.2.2.2.2.2.2.1 r0.2.2.2.2.2.2.2.2.1 r0.2.2.2.2.2.2.2.2.2).bind λr3 =>
 (gdE ((p0 r3.1.2.2.2.1)&&(decide (r3.1.2.2.2.1<=((r3.2.1.size:Nat):Int))))<|
 (gdE ((p0 r3.2.2.1)&&(decide (r3.2.2.1<=(((Int.toNat r3.1.2.2.2.1):Nat):Int))))<|
 (some ((),((),(r3.2.1,(r3.1.2.2.2.1,(r3.1.2.2.2.2.1,(r3.2.2.1,((ByteArray.extract r3.2.1 (Int.toNat r3.2.2.1) (Int.toNat r3.1.2.2.2.1)),(r3.2.2.2.2.2.2.1,(r3.2.2.2.2.2.2.2.1,(r3.2.2.2.2.2.2.2.2.1,r3.2.2.2.2.2.2.2.2.2))))))))))))))
 ((q10a (wI r0.2.2.1) 3 r0.2.1 r0.2.2.1 r0.2.2.2.1 r0.2.2.2.2.1 r0.2.2.2.2.2.1 r0.2.2.2.2.2.2.1 r0.2.2.2.2.2.2.2.1 r0.2.2.2.2.2.2.2.2.1 r0.2.2.2.2.2.2.2.2.2).bind λr3 =>
 (gdE ((p0 r3.1.2.2.2.1)&&(decide (r3.1.2.2.2.1<=((r3.2.1.size:Nat):Int))))<|
 (gdE ((p0 r3.2.2.1)&&(decide (r3.2.2.1<=(((Int.toNat r3.1.2.2.2.1):Nat):Int))))<|
 (some ((),((),(r3.2.1,(r3.1.2.2.2.1,(r3.1.2.2.2.2.1,(r3.2.2.1,((ByteArray.extract r3.2.1 (Int.toNat r3.2.2.1) (Int.toNat r3.1.2.2.2.1)),(r3.2.2.2.2.2.2.1,(r3.2.2.2.2.2.2.2.1,(r3.2.2.2.2.2.2.2.2.1,r3.2.2.2.2.2.2.2.2.2))))))))))))))))))))))
theorem q102 {b0 b0_1 b0_2 b0_3 b0_4 b0_5 b0_6 b0_7 b0_8 r} (h:q10k b0 b0_1 b0_2 b0_3 b0_4 b0_5 b0_6 b0_7 b0_8=some r):q100 b0 b0_1 b0_2 b0_3 b0_4 b0_5 b0_6 b0_7 b0_8=some r :=
 qkh (fn:=Tryz.f23) (es:=q1c6) (hs:=qmu) [q104,q10b] (by kernel_rfl) rfl (by kernel_rfl) (by kernel_rfl) ⟨⟨_,rfl,rfl⟩,⟨_,rfl,rfl⟩,trivial⟩ trivial (by kernel_rfl) h
def q101:=hentS Tryz.prog lv X0 23 [0,3,0,0,1,9,1,3,1,1,1,1,1,1,1,3,1,2,1,1,1,1,1,1,0] q10j q10h (λx=>q100 x.2.1 x.2.2.1 x.2.2.2.1 x.2.2.2.2.1 x.2.2.2.2.2.1 x.2.2.2.2.2.2.1 x.2.2.2.2.2.2.2.1 x.2.2.2.2.2.2.2.2.1 x.2.2.2.2.2.2.2.2.2) (λ_ _ h=>qkg h)
def qmm:=q101::qmu
def q13b:=sLS [0] z18 (qpl z12) [false] [0] (by decide) (λ_=>rfl)
def q13a:SC ((List S38)×(BA×Int×Int×Int×BA×Bool×Int×Int×Int)):=sLS [0] (qpl (vC (cSl qcw))) (qpl (qu4 (bBox (qpj (vC cStr) (qpj (vC (cInt .i64)) (qpj (vC (cInt .i64)) (qpj (vC (cInt .i64)) (qpj (vC cStr) (qpj (vC cBool) (qpj (vC (cInt .i64)) (qpj (vC (cInt .i64)) (qpl (vC (cInt .i64)))))))))))))) [false] [0] (by decide) (λ_=>rfl)
def q139:HC ((List S38)×((List S38)×(BA×Int×Int×Int×BA×Bool×Int×Int×Int))):=hPair (vC (cSl qcw)) q13a
def q12z (b0:BA) (b0_1 b0_2 b0_3:Int) (b0_4:BA) (b0_5:Bool) (b0_6 b0_7 b0_8:Int):=hS Tryz.prog lv X0 24 q13b q139 ((),(b0,b0_1,b0_2,b0_3,b0_4,b0_5,b0_6,b0_7,b0_8))
def q130:=hentS Tryz.prog lv X0 24 [0,3,0,0,1,9,1,3,1,1,1,1,1,1,1,3,1,2,1,1,1,1,1,1,0] q13b q139 (λx=>q12z x.2.1 x.2.2.1 x.2.2.2.1 x.2.2.2.2.1 x.2.2.2.2.2.1 x.2.2.2.2.2.2.1 x.2.2.2.2.2.2.2.1 x.2.2.2.2.2.2.2.2.1 x.2.2.2.2.2.2.2.2.2) (λ_ _ h=>qkg h)
def qmw:=q130::qmm
def q12x:=sLS [0] z18 (qpl z12) [false] [0] (by decide) (λ_=>rfl)
def q12w:SC ((Int×Int×(List S35)×BA×Int×BA×Int×(List S38)×(List S38)×Int×BA×BA×Int)×(BA×Int×Int×Int×BA×Bool×Int×Int×Int)):=sLS [0] (qpl (vAgg (qpj (vC (cInt .i64)) (qpj (vC (cInt .i64)) (qpj (vC (cSl qcu)) (qpj (vC cStr) (qpj (vC (cInt .i64)) (qpj (vC cStr) (qpj (vC (cInt .i64)) (qpj (vC (cSl qcw)) (qpj (vC (cSl qcw)) (qpj (vC (cInt .i64)) (qpj (vC cStr) (qpj (vC cStr) (qpl (vC (cInt .i64))))))))))))))))) (qpl (qu4 (bBox (qpj (vC cStr) (qpj (vC (cInt .i64)) (qpj (vC (cInt .i64)) (qpj (vC (cInt .i64)) (qpj (vC cStr) (qpj (vC cBool) (qpj (vC (cInt .i64)) (qpj (vC (cInt .i64)) (qpl (vC (cInt .i64)))))))))))))) [false] [0] (by decide) (λ_=>rfl)
def q12v:HC ((Int×Int×(List S35)×BA×Int×BA×Int×(List S38)×(List S38)×Int×BA×BA×Int)×((Int×Int×(List S35)×BA×Int×BA×Int×(List S38)×(List S38)×Int×BA×BA×Int)×(BA×Int×Int×Int×BA×Bool×Int×Int×Int))):=hPair (vAgg (qpj (vC (cInt .i64)) (qpj (vC (cInt .i64)) (qpj (vC (cSl qcu)) (qpj (vC cStr) (qpj (vC (cInt .i64)) (qpj (vC cStr) (qpj (vC (cInt .i64)) (qpj (vC (cSl qcw)) (qpj (vC (cSl qcw)) (qpj (vC (cInt .i64)) (qpj (vC cStr) (qpj (vC cStr) (qpl (vC (cInt .i64)))))))))))))))) q12w
def q12s (b0:BA) (b0_1 b0_2 b0_3:Int) (b0_4:BA) (b0_5:Bool) (b0_6 b0_7 b0_8:Int):=hS Tryz.prog lv X0 42 q12x q12v ((),(b0,b0_1,b0_2,b0_3,b0_4,b0_5,b0_6,b0_7,b0_8))
def q12t:=hentS Tryz.prog lv X0 42 [0,3,0,0,1,9,1,3,1,1,1,1,1,1,1,3,1,2,1,1,1,1,1,1,0] q12x q12v (λx=>q12s x.2.1 x.2.2.1 x.2.2.2.1 x.2.2.2.2.1 x.2.2.2.2.2.1 x.2.2.2.2.2.2.1 x.2.2.2.2.2.2.2.1 x.2.2.2.2.2.2.2.2.1 x.2.2.2.2.2.2.2.2.2) (λ_ _ h=>qkg h)
def qmv:=q12t::qmw
def q114:=sLS [0,1,2] (qpj (vPtr 0 0) (qpj z13 (qpl (vC cStr)))) (qpl z12) [false] [0] (by decide) (λ_=>rfl)
def q113:SC (Bool×(BA×Int×Int×Int×BA×Bool×Int×Int×Int)):=sLS [0] (qpl (vC cBool)) (qpl (qu4 (bBox (qpj (vC cStr) (qpj (vC (cInt .i64)) (qpj (vC (cInt .i64)) (qpj (vC (cInt .i64)) (qpj (vC cStr) (qpj (vC cBool) (qpj (vC (cInt .i64)) (qpj (vC (cInt .i64)) (qpl (vC (cInt .i64)))))))))))))) [false] [0] (by decide) (λ_=>rfl)
def q112:HC (Bool×(Bool×(BA×Int×Int×Int×BA×Bool×Int×Int×Int))):=hPair (vC cBool) q113
def q10z (kind:Int) (s b0:BA) (b0_1 b0_2 b0_3:Int) (b0_4:BA) (b0_5:Bool) (b0_6 b0_7 b0_8:Int):=hS Tryz.prog lv X0 72 q114 q112 (((),kind,s),(b0,b0_1,b0_2,b0_3,b0_4,b0_5,b0_6,b0_7,b0_8))
def q115 (kind:Int) (s b0:BA) (b0_1 b0_2 b0_3:Int) (b0_4:BA) (b0_5:Bool) (b0_6 b0_7 b0_8:Int):Oq (Bool×(Bool×(BA×Int×Int×Int×BA×Bool×Int×Int×Int))) :=
 (brE (b0_5==false)
 (brE ((b0_2 != kind)==false)
 (brE (!(b0_4.toList==s.toList))
 (some (false,(false,(b0,(b0_1,(b0_2,(b0_3,(b0_4,(b0_5,(b0_6,(b0_7,b0_8)))))))))))
 ((q100 b0 b0_1 b0_2 b0_3 b0_4 b0_5 b0_6 b0_7 b0_8).bind λr0 =>
 (some (true,(true,(r0.2.2.1,(r0.2.2.2.1,(r0.2.2.2.2.1,(r0.2.2.2.2.2.1,(r0.2.2.2.2.2.2.1,(r0.2.2.2.2.2.2.2.1,(r0.2.2.2.2.2.2.2.2.1,(r0.2.2.2.2.2.2.2.2.2.1,r0.2.2.2.2.2.2.2.2.2.2)))))))))))))
 (some (false,(false,(b0,(b0_1,(b0_2,(b0_3,(b0_4,(b0_5,(b0_6,(b0_7,b0_8))))))))))))
 (some (false,(false,(b0,(b0_1,(b0_2,(b0_3,(b0_4,(b0_5,(b0_6,(b0_7,b0_8))))))))))))
theorem q111 {kind s b0 b0_1 b0_2 b0_3 b0_4 b0_5 b0_6 b0_7 b0_8 r} (h:q115 kind s b0 b0_1 b0_2 b0_3 b0_4 b0_5 b0_6 b0_7 b0_8=some r):q10z kind s b0 b0_1 b0_2 b0_3 b0_4 b0_5 b0_6 b0_7 b0_8=some r :=
 qkh (fn:=Tryz.f72) (es:=q1c6) (hs:=qmv) [] (by kernel_rfl) rfl (by kernel_rfl) (by kernel_rfl) trivial trivial (by kernel_rfl) h
def q110:=hentS Tryz.prog lv X0 72 [0,3,0,0,1,1,1,2,1,3,1,9,1,3,1,1,1,1,1,1,1,3,1,2,1,1,1,1,1,1,0] q114 q112 (λx=>q10z x.1.2.1 x.1.2.2 x.2.1 x.2.2.1 x.2.2.2.1 x.2.2.2.2.1 x.2.2.2.2.2.1 x.2.2.2.2.2.2.1 x.2.2.2.2.2.2.2.1 x.2.2.2.2.2.2.2.2.1 x.2.2.2.2.2.2.2.2.2) (λ_ _ h=>qkg h)
def qmp:=q110::qmv
def q13w:=sLS [0] z18 (qpl z12) [false] [0] (by decide) (λ_=>rfl)
def q13v:SC ((Int×(List S35)×BA×Int×BA×Int)×(BA×Int×Int×Int×BA×Bool×Int×Int×Int)):=sLS [0] (qpl (vAgg (qpj (vC (cInt .i64)) (qpj (vC (cSl qcu)) (qpj (vC cStr) (qpj (vC (cInt .i64)) (qpj (vC cStr) (qpl (vC (cInt .i64)))))))))) (qpl (qu4 (bBox (qpj (vC cStr) (qpj (vC (cInt .i64)) (qpj (vC (cInt .i64)) (qpj (vC (cInt .i64)) (qpj (vC cStr) (qpj (vC cBool) (qpj (vC (cInt .i64)) (qpj (vC (cInt .i64)) (qpl (vC (cInt .i64)))))))))))))) [false] [0] (by decide) (λ_=>rfl)
def q13u:HC ((Int×(List S35)×BA×Int×BA×Int)×((Int×(List S35)×BA×Int×BA×Int)×(BA×Int×Int×Int×BA×Bool×Int×Int×Int))):=hPair (vAgg (qpj (vC (cInt .i64)) (qpj (vC (cSl qcu)) (qpj (vC cStr) (qpj (vC (cInt .i64)) (qpj (vC cStr) (qpl (vC (cInt .i64))))))))) q13v
def q13r (b0:BA) (b0_1 b0_2 b0_3:Int) (b0_4:BA) (b0_5:Bool) (b0_6 b0_7 b0_8:Int):=hS Tryz.prog lv X0 73 q13w q13u ((),(b0,b0_1,b0_2,b0_3,b0_4,b0_5,b0_6,b0_7,b0_8))
def q13s:=hentS Tryz.prog lv X0 73 [0,3,0,0,1,9,1,3,1,1,1,1,1,1,1,3,1,2,1,1,1,1,1,1,0] q13w q13u (λx=>q13r x.2.1 x.2.2.1 x.2.2.2.1 x.2.2.2.2.1 x.2.2.2.2.2.1 x.2.2.2.2.2.2.1 x.2.2.2.2.2.2.2.1 x.2.2.2.2.2.2.2.2.1 x.2.2.2.2.2.2.2.2.2) (λ_ _ h=>qkg h)
def qmz:=q13s::qmp
def q13p:=sLS [0] z18 (qpj (qu4 (bBox (qpl (vPtr 1 0)))) (qpl z12)) [false,false] [0,1] (by decide) (λ_=>rfl)
def q13o:SC (Unit×(Unit×(BA×Int×Int×Int×BA×Bool×Int×Int×Int))):=sLS [] qpk (qpj (qu4 (bBox (qpl (vPtr 1 0)))) (qpl (qu4 (bBox (qpj (vC cStr) (qpj (vC (cInt .i64)) (qpj (vC (cInt .i64)) (qpj (vC (cInt .i64)) (qpj (vC cStr) (qpj (vC cBool) (qpj (vC (cInt .i64)) (qpj (vC (cInt .i64)) (qpl (vC (cInt .i64))))))))))))))) [false,false] [0,1] (by decide) (λ_=>rfl)
def q13n:HC (Unit×(Unit×(Unit×(BA×Int×Int×Int×BA×Bool×Int×Int×Int)))):=hPair (vTup qpk) q13o
def q13k (b1:BA) (b1_1 b1_2 b1_3:Int) (b1_4:BA) (b1_5:Bool) (b1_6 b1_7 b1_8:Int):=hS Tryz.prog lv X0 110 q13p q13n ((),((),(b1,b1_1,b1_2,b1_3,b1_4,b1_5,b1_6,b1_7,b1_8)))
def q13q (b1:BA) (b1_1 b1_2 b1_3:Int) (b1_4:BA) (b1_5:Bool) (b1_6 b1_7 b1_8:Int):Oq (Unit×(Unit×(Unit×(BA×Int×Int×Int×BA×Bool×Int×Int×Int)))) :=
 (some ((),((),((),(b1,(b1_1,(b1_2,(b1_3,(b1_4,(b1_5,(b1_6,(b1_7,(IntKind.wrap .i64 (b1_8 - 1))))))))))))))
theorem q13m {b1 b1_1 b1_2 b1_3 b1_4 b1_5 b1_6 b1_7 b1_8 r} (h:q13q b1 b1_1 b1_2 b1_3 b1_4 b1_5 b1_6 b1_7 b1_8=some r):q13k b1 b1_1 b1_2 b1_3 b1_4 b1_5 b1_6 b1_7 b1_8=some r :=
 qkh (fn:=Tryz.f110) (es:=q1c6) (hs:=qmz) [] (by kernel_rfl) rfl (by kernel_rfl) (by kernel_rfl) trivial trivial (by kernel_rfl) h
def q13l:=hentS Tryz.prog lv X0 110 [0,3,0,0,1,1,3,1,0,1,9,1,3,1,1,1,1,1,1,1,3,1,2,1,1,1,1,1,1,0,1] q13p q13n (λx=>q13k x.2.2.1 x.2.2.2.1 x.2.2.2.2.1 x.2.2.2.2.2.1 x.2.2.2.2.2.2.1 x.2.2.2.2.2.2.2.1 x.2.2.2.2.2.2.2.2.1 x.2.2.2.2.2.2.2.2.2.1 x.2.2.2.2.2.2.2.2.2.2) (λ_ _ h=>qkg h)
def qmy:=q13l::qmz
def q11i:=sLS [0] z18 (qpl z12) [false] [0] (by decide) (λ_=>rfl)
def q124:=sLS [0,1] (qpj (vPtr 0 0) (qpl (vC cStr))) (qpl z12) [false] [0] (by decide) (λ_=>rfl)
def q123:SC (Unit×(BA×Int×Int×Int×BA×Bool×Int×Int×Int)):=sLS [] qpk (qpl (qu4 (bBox (qpj (vC cStr) (qpj (vC (cInt .i64)) (qpj (vC (cInt .i64)) (qpj (vC (cInt .i64)) (qpj (vC cStr) (qpj (vC cBool) (qpj (vC (cInt .i64)) (qpj (vC (cInt .i64)) (qpl (vC (cInt .i64)))))))))))))) [false] [0] (by decide) (λ_=>rfl)
def q122:HC (Unit×(Unit×(BA×Int×Int×Int×BA×Bool×Int×Int×Int))):=hPair (vTup qpk) q123
def q11z (s b0:BA) (b0_1 b0_2 b0_3:Int) (b0_4:BA) (b0_5:Bool) (b0_6 b0_7 b0_8:Int):=hS Tryz.prog lv X0 76 q124 q122 (((),s),(b0,b0_1,b0_2,b0_3,b0_4,b0_5,b0_6,b0_7,b0_8))
def q125 (s b0:BA) (b0_1 b0_2 b0_3:Int) (b0_4:BA) (b0_5:Bool) (b0_6 b0_7 b0_8:Int):Oq (Unit×(Unit×(BA×Int×Int×Int×BA×Bool×Int×Int×Int))) :=
 ((q10z 4 s b0 b0_1 b0_2 b0_3 b0_4 b0_5 b0_6 b0_7 b0_8).bind λr0 =>
 (brE (!r0.1)
 (some ((),((),(r0.2.2.1,(r0.2.2.2.1,(r0.2.2.2.2.1,(r0.2.2.2.2.2.1,(r0.2.2.2.2.2.2.1,(true,(r0.2.2.2.2.2.2.2.2.1,(r0.2.2.2.2.2.2.2.2.2.1,r0.2.2.2.2.2.2.2.2.2.2)))))))))))
 (some ((),((),(r0.2.2.1,(r0.2.2.2.1,(r0.2.2.2.2.1,(r0.2.2.2.2.2.1,(r0.2.2.2.2.2.2.1,(r0.2.2.2.2.2.2.2.1,(r0.2.2.2.2.2.2.2.2.1,(r0.2.2.2.2.2.2.2.2.2.1,r0.2.2.2.2.2.2.2.2.2.2)))))))))))))
theorem q121 {s b0 b0_1 b0_2 b0_3 b0_4 b0_5 b0_6 b0_7 b0_8 r} (h:q125 s b0 b0_1 b0_2 b0_3 b0_4 b0_5 b0_6 b0_7 b0_8=some r):q11z s b0 b0_1 b0_2 b0_3 b0_4 b0_5 b0_6 b0_7 b0_8=some r :=
 qkh (fn:=Tryz.f76) (es:=q1c6) (hs:=qmy) [] (by kernel_rfl) rfl (by kernel_rfl) (by kernel_rfl) trivial trivial (by kernel_rfl) h
def q120:=hentS Tryz.prog lv X0 76 [0,3,0,0,1,1,3,1,9,1,3,1,1,1,1,1,1,1,3,1,2,1,1,1,1,1,1,0] q124 q122 (λx=>q11z x.1.2 x.2.1 x.2.2.1 x.2.2.2.1 x.2.2.2.2.1 x.2.2.2.2.2.1 x.2.2.2.2.2.2.1 x.2.2.2.2.2.2.2.1 x.2.2.2.2.2.2.2.2.1 x.2.2.2.2.2.2.2.2.2) (λ_ _ h=>qkg h)
def qms:=q120::qmy
def q11e:=sLS [0,3] (qpj (vPtr 0 0) (qpl (vRow 1))) (qpj z12 (qpl (qu4 (bRow qcu)))) [false,false] [0] (by decide) (λ_=>rfl)
def q11d:=sLS [0,3,10] (qpj (vPtr 0 0) (qpj (vRow 1) z1a)) (qpj z12 (qpl (qu4 (bRow qcu)))) [false,false] [0] (by decide) (λ_=>rfl)
def q11c:=oAt 2 q11d
def q119 (out:Nat) (b0:BA) (b0_1 b0_2 b0_3:Int) (b0_4:BA) (b0_5:Bool) (b0_6 b0_7 b0_8:Int) (b1:L35):=lS Tryz.prog lv X0 111 19 (qk8 (cdF Tryz.f111) 3) q11e q11c (((),out),((b0,b0_1,b0_2,b0_3,b0_4,b0_5,b0_6,b0_7,b0_8),b1))
def q11f (out:Nat) (b0:BA) (b0_1 b0_2 b0_3:Int) (b0_4:BA) (b0_5:Bool) (b0_6 b0_7 b0_8:Int) (b1:L35):Oq ((Unit×Nat×Bool)×((BA×Int×Int×Int×BA×Bool×Int×Int×Int)×L35)) :=
 ((q10z 4 (ByteArray.mk (List.toArray [44])) b0 b0_1 b0_2 b0_3 b0_4 b0_5 b0_6 b0_7 b0_8).bind λr0 =>
 (brE r0.1
 ((q13r r0.2.2.1 r0.2.2.2.1 r0.2.2.2.2.1 r0.2.2.2.2.2.1 r0.2.2.2.2.2.2.1 r0.2.2.2.2.2.2.2.1 r0.2.2.2.2.2.2.2.2.1 r0.2.2.2.2.2.2.2.2.2.1 r0.2.2.2.2.2.2.2.2.2.2).bind λr1 =>
 (gdE ((((aL [[(C.int Go.IntKind.i64 r1.1.1),(C.sl (EC.encL qcu r1.1.2.1)),(C.str r1.1.2.2.1),(C.int Go.IntKind.i64 r1.1.2.2.2.1),(C.str r1.1.2.2.2.2.1),(C.int Go.IntKind.i64 r1.1.2.2.2.2.2)]] 6)&&(aL (EC.encL qcu b1) 6))&&(dQ (out+(List.length [[(C.int Go.IntKind.i64 r1.1.1),(C.sl (EC.encL qcu r1.1.2.1)),(C.str r1.1.2.2.1),(C.int Go.IntKind.i64 r1.1.2.2.2.1),(C.str r1.1.2.2.2.2.1),(C.int Go.IntKind.i64 r1.1.2.2.2.2.2)]])) 80))&&(decide ((out+(List.length [[(C.int Go.IntKind.i64 r1.1.1),(C.sl (EC.encL qcu r1.1.2.1)),(C.str r1.1.2.2.1),(C.int Go.IntKind.i64 r1.1.2.2.2.1),(C.str r1.1.2.2.2.2.1),(C.int Go.IntKind.i64 r1.1.2.2.2.2.2)]]))<=9223372036854775807)))<|
 (gdE (EC.isL qcu ((EC.encL qcu b1)++[[(C.int Go.IntKind.i64 r1.1.1),(C.sl (EC.encL qcu r1.1.2.1)),(C.str r1.1.2.2.1),(C.int Go.IntKind.i64 r1.1.2.2.2.1),(C.str r1.1.2.2.2.2.1),(C.int Go.IntKind.i64 r1.1.2.2.2.2.2)]]))<|
 (q119 (out+(List.length [[(C.int Go.IntKind.i64 r1.1.1),(C.sl (EC.encL qcu r1.1.2.1)),(C.str r1.1.2.2.1),(C.int Go.IntKind.i64 r1.1.2.2.2.1),(C.str r1.1.2.2.2.2.1),(C.int Go.IntKind.i64 r1.1.2.2.2.2.2)]])) r1.2.2.1 r1.2.2.2.1 r1.2.2.2.2.1 r1.2.2.2.2.2.1 r1.2.2.2.2.2.2.1 r1.2.2.2.2.2.2.2.1 r1.2.2.2.2.2.2.2.2.1 r1.2.2.2.2.2.2.2.2.2.1 r1.2.2.2.2.2.2.2.2.2.2 (EC.decL qcu ((EC.encL qcu b1)++[[(C.int Go.IntKind.i64 r1.1.1),(C.sl (EC.encL qcu r1.1.2.1)),(C.str r1.1.2.2.1),(C.int Go.IntKind.i64 r1.1.2.2.2.1),(C.str r1.1.2.2.2.2.1),(C.int Go.IntKind.i64 r1.1.2.2.2.2.2)]]))))))
 (gL qcu b1<|
 (some (((),(out,false)),((r0.2.2.1,(r0.2.2.2.1,(r0.2.2.2.2.1,(r0.2.2.2.2.2.1,(r0.2.2.2.2.2.2.1,(r0.2.2.2.2.2.2.2.1,(r0.2.2.2.2.2.2.2.2.1,(r0.2.2.2.2.2.2.2.2.2.1,r0.2.2.2.2.2.2.2.2.2.2)))))))),(dL qcu b1)))))))
theorem q11b {out b0 b0_1 b0_2 b0_3 b0_4 b0_5 b0_6 b0_7 b0_8 b1 r} (h:q11f out b0 b0_1 b0_2 b0_3 b0_4 b0_5 b0_6 b0_7 b0_8 b1=some r):q119 out b0 b0_1 b0_2 b0_3 b0_4 b0_5 b0_6 b0_7 b0_8 b1=some r :=
 qpn (es:=q1c6) (hs:=qms) [] (by kernel_rfl) trivial trivial (by kernel_rfl) h
def q11a:=qqh Tryz.prog lv X0 3 (qk8 (cdF Tryz.f111) 3) q11e q11c (λx=>q119 x.1.2 x.2.1.1 x.2.1.2.1 x.2.1.2.2.1 x.2.1.2.2.2.1 x.2.1.2.2.2.2.1 x.2.1.2.2.2.2.2.1 x.2.1.2.2.2.2.2.2.1 x.2.1.2.2.2.2.2.2.2.1 x.2.1.2.2.2.2.2.2.2.2 x.2.2) (λ_ _ h=>qpm h)
def q11h:SC ((List S35)×(BA×Int×Int×Int×BA×Bool×Int×Int×Int)):=sLS [0] (qpl (vC (cSl qcu))) (qpl (qu4 (bBox (qpj (vC cStr) (qpj (vC (cInt .i64)) (qpj (vC (cInt .i64)) (qpj (vC (cInt .i64)) (qpj (vC cStr) (qpj (vC cBool) (qpj (vC (cInt .i64)) (qpj (vC (cInt .i64)) (qpl (vC (cInt .i64)))))))))))))) [false] [0] (by decide) (λ_=>rfl)
def q11g:HC ((List S35)×((List S35)×(BA×Int×Int×Int×BA×Bool×Int×Int×Int))):=hPair (vC (cSl qcu)) q11h
def q116 (b0:BA) (b0_1 b0_2 b0_3:Int) (b0_4:BA) (b0_5:Bool) (b0_6 b0_7 b0_8:Int):=hS Tryz.prog lv X0 111 q11i q11g ((),(b0,b0_1,b0_2,b0_3,b0_4,b0_5,b0_6,b0_7,b0_8))
def q11j (b0:BA) (b0_1 b0_2 b0_3:Int) (b0_4:BA) (b0_5:Bool) (b0_6 b0_7 b0_8:Int):Oq (L35×(L35×(BA×Int×Int×Int×BA×Bool×Int×Int×Int))) :=
 ((q11z (ByteArray.mk (List.toArray [40])) b0 b0_1 b0_2 b0_3 b0_4 b0_5 b0_6 b0_7 b0_8).bind λr0 =>
 ((q13r r0.2.2.1 r0.2.2.2.1 r0.2.2.2.2.1 r0.2.2.2.2.2.1 r0.2.2.2.2.2.2.1 r0.2.2.2.2.2.2.2.1 r0.2.2.2.2.2.2.2.2.1 r0.2.2.2.2.2.2.2.2.2.1 r0.2.2.2.2.2.2.2.2.2.2).bind λr1 =>
 (gdE (EC.isL qcu [[(C.int Go.IntKind.i64 r1.1.1),(C.sl (EC.encL qcu r1.1.2.1)),(C.str r1.1.2.2.1),(C.int Go.IntKind.i64 r1.1.2.2.2.1),(C.str r1.1.2.2.2.2.1),(C.int Go.IntKind.i64 r1.1.2.2.2.2.2)]])<|
 ((q119 1 r1.2.2.1 r1.2.2.2.1 r1.2.2.2.2.1 r1.2.2.2.2.2.1 r1.2.2.2.2.2.2.1 r1.2.2.2.2.2.2.2.1 r1.2.2.2.2.2.2.2.2.1 r1.2.2.2.2.2.2.2.2.2.1 r1.2.2.2.2.2.2.2.2.2.2 (EC.decL qcu [[(C.int Go.IntKind.i64 r1.1.1),(C.sl (EC.encL qcu r1.1.2.1)),(C.str r1.1.2.2.1),(C.int Go.IntKind.i64 r1.1.2.2.2.1),(C.str r1.1.2.2.2.2.1),(C.int Go.IntKind.i64 r1.1.2.2.2.2.2)]])).bind λr2 =>
 ((q11z (ByteArray.mk (List.toArray [41])) r2.2.1.1 r2.2.1.2.1 r2.2.1.2.2.1 r2.2.1.2.2.2.1 r2.2.1.2.2.2.2.1 r2.2.1.2.2.2.2.2.1 r2.2.1.2.2.2.2.2.2.1 r2.2.1.2.2.2.2.2.2.2.1 r2.2.1.2.2.2.2.2.2.2.2).bind λr3 =>
 (gL qcu r2.2.2<|
 (gL qcu r2.2.2<|
 (some ((dL qcu r2.2.2),((dL qcu r2.2.2),(r3.2.2.1,(r3.2.2.2.1,(r3.2.2.2.2.1,(r3.2.2.2.2.2.1,(r3.2.2.2.2.2.2.1,(r3.2.2.2.2.2.2.2.1,(r3.2.2.2.2.2.2.2.2.1,(r3.2.2.2.2.2.2.2.2.2.1,r3.2.2.2.2.2.2.2.2.2.2))))))))))))))))))
theorem q118 {b0 b0_1 b0_2 b0_3 b0_4 b0_5 b0_6 b0_7 b0_8 r} (h:q11j b0 b0_1 b0_2 b0_3 b0_4 b0_5 b0_6 b0_7 b0_8=some r):q116 b0 b0_1 b0_2 b0_3 b0_4 b0_5 b0_6 b0_7 b0_8=some r :=
 qkh (fn:=Tryz.f111) (es:=q1c6) (hs:=qms) [q11a] (by kernel_rfl) rfl (by kernel_rfl) (by kernel_rfl) ⟨⟨_,rfl,rfl⟩,trivial⟩ trivial (by kernel_rfl) h
def q117:=hentS Tryz.prog lv X0 111 [0,3,0,0,1,9,1,3,1,1,1,1,1,1,1,3,1,2,1,1,1,1,1,1,0] q11i q11g (λx=>q116 x.2.1 x.2.2.1 x.2.2.2.1 x.2.2.2.2.1 x.2.2.2.2.2.1 x.2.2.2.2.2.2.1 x.2.2.2.2.2.2.2.1 x.2.2.2.2.2.2.2.2.1 x.2.2.2.2.2.2.2.2.2) (λ_ _ h=>qkg h)
def qmq:=q117::qms
def q13i:=sLS [0,1] (qpj (vPtr 0 0) (qpl z13)) (qpl z12) [false] [0] (by decide) (λ_=>rfl)
def q13h:SC (BA×(BA×Int×Int×Int×BA×Bool×Int×Int×Int)):=sLS [0] (qpl (vC cStr)) (qpl (qu4 (bBox (qpj (vC cStr) (qpj (vC (cInt .i64)) (qpj (vC (cInt .i64)) (qpj (vC (cInt .i64)) (qpj (vC cStr) (qpj (vC cBool) (qpj (vC (cInt .i64)) (qpj (vC (cInt .i64)) (qpl (vC (cInt .i64)))))))))))))) [false] [0] (by decide) (λ_=>rfl)
def q13g:HC (BA×(BA×(BA×Int×Int×Int×BA×Bool×Int×Int×Int))):=hPair (vC cStr) q13h
def q13d (kind:Int) (b0:BA) (b0_1 b0_2 b0_3:Int) (b0_4:BA) (b0_5:Bool) (b0_6 b0_7 b0_8:Int):=hS Tryz.prog lv X0 75 q13i q13g (((),kind),(b0,b0_1,b0_2,b0_3,b0_4,b0_5,b0_6,b0_7,b0_8))
def q13j (kind:Int) (b0:BA) (b0_1 b0_2 b0_3:Int) (b0_4:BA) (b0_5:Bool) (b0_6 b0_7 b0_8:Int):Oq (BA×(BA×(BA×Int×Int×Int×BA×Bool×Int×Int×Int))) :=
 (brE (b0_5==false)
 (brE (b0_2 != kind)
 (some (⟨#[]⟩,(⟨#[]⟩,(b0,(b0_1,(b0_2,(b0_3,(b0_4,(true,(b0_6,(b0_7,b0_8)))))))))))
 ((q100 b0 b0_1 b0_2 b0_3 b0_4 b0_5 b0_6 b0_7 b0_8).bind λr0 =>
 (some (b0_4,(b0_4,(r0.2.2.1,(r0.2.2.2.1,(r0.2.2.2.2.1,(r0.2.2.2.2.2.1,(r0.2.2.2.2.2.2.1,(r0.2.2.2.2.2.2.2.1,(r0.2.2.2.2.2.2.2.2.1,(r0.2.2.2.2.2.2.2.2.2.1,r0.2.2.2.2.2.2.2.2.2.2)))))))))))))
 (some (⟨#[]⟩,(⟨#[]⟩,(b0,(b0_1,(b0_2,(b0_3,(b0_4,(true,(b0_6,(b0_7,b0_8))))))))))))
theorem q13f {kind b0 b0_1 b0_2 b0_3 b0_4 b0_5 b0_6 b0_7 b0_8 r} (h:q13j kind b0 b0_1 b0_2 b0_3 b0_4 b0_5 b0_6 b0_7 b0_8=some r):q13d kind b0 b0_1 b0_2 b0_3 b0_4 b0_5 b0_6 b0_7 b0_8=some r :=
 qkh (fn:=Tryz.f75) (es:=q1c6) (hs:=qmq) [] (by kernel_rfl) rfl (by kernel_rfl) (by kernel_rfl) trivial trivial (by kernel_rfl) h
def q13e:=hentS Tryz.prog lv X0 75 [0,3,0,0,1,1,1,1,9,1,3,1,1,1,1,1,1,1,3,1,2,1,1,1,1,1,1,0] q13i q13g (λx=>q13d x.1.2 x.2.1 x.2.2.1 x.2.2.2.1 x.2.2.2.2.1 x.2.2.2.2.2.1 x.2.2.2.2.2.2.1 x.2.2.2.2.2.2.2.1 x.2.2.2.2.2.2.2.2.1 x.2.2.2.2.2.2.2.2.2) (λ_ _ h=>qkg h)
def qmx:=q13e::qmq
abbrev z15:=(qpj z12 (qpj (qu4 (bBox (qpj z13 (qpj (vRow 2) (qpj (vC cStr) (qpj z13 (qpj (vC cStr) (qpl z13)))))))) (qpl (qu4 (bRow qcu)))))
def q11x:=sLS [0,1] (qpj (vPtr 0 0) (qpl (vPtr 1 0))) z15 [false,false,false] [0,1] (by decide) (λ_=>rfl)
def q11t:=sLS [0,1,6,7] (qpj (vPtr 0 0) (qpj (vPtr 1 0) (qpj z19 (qpl z13)))) z15 [false,false,false] [0,1] (by decide) (λ_=>rfl)
def q11s:=sLS [0,1,6,7,8] (qpj (vPtr 0 0) (qpj (vPtr 1 0) (qpj z19 (qpj z13 z1a)))) z15 [false,false,false] [0,1] (by decide) (λ_=>rfl)
def q11r:=sLS [] qpk z15 [false,false,false] [0,1] (by decide) (λ_=>rfl)
def q11q:=oOr 1 q11r (oAt 2 q11s) (λx=>(by decide:(2:Nat)≠1))
def q11n (t6 t6_1 t6_2:BA) (t7:Int) (b0:BA) (b0_1 b0_2 b0_3:Int) (b0_4:BA) (b0_5:Bool) (b0_6 b0_7:Int) (b0_8 b1:Int) (b1_1:Nat) (b1_2:BA) (b1_3:Int) (b1_4:BA) (b1_5:Int) (b2:L35):=lS Tryz.prog lv X0 112 28 (qk8 (cdF Tryz.f112) 1) q11t q11q (((),(),(t6,t6_1,t6_2),t7),((b0,b0_1,b0_2,b0_3,b0_4,b0_5,b0_6,b0_7,b0_8),(b1,b1_1,b1_2,b1_3,b1_4,b1_5),b2))
def q11u (t6 t6_1 t6_2:BA) (t7:Int) (b0:BA) (b0_1 b0_2 b0_3:Int) (b0_4:BA) (b0_5:Bool) (b0_6 b0_7:Int) (b0_8 b1:Int) (b1_1:Nat) (b1_2:BA) (b1_3:Int) (b1_4:BA) (b1_5:Int) (b2:L35):Oq ((Unit×((BA×Int×Int×Int×BA×Bool×Int×Int×Int)×(Int×Nat×BA×Int×BA×Int)×L35))⊕((Unit×Unit×(BA×BA×BA)×Int×Bool)×((BA×Int×Int×Int×BA×Bool×Int×Int×Int)×(Int×Nat×BA×Int×BA×Int)×L35))) :=
 (brE (decide (t7<3))
 (gdE (((p0 t7)&&(decide (t7<((3:Nat):Int))))&&(decide ((Int.toNat t7)<(List.length [t6,t6_1,t6_2]))))<|
 ((q10z 2 (List.getD [t6,t6_1,t6_2] (Int.toNat t7) ByteArray.empty) b0 b0_1 b0_2 b0_3 b0_4 b0_5 b0_6 b0_7 b0_8).bind λr0 =>
 (brE r0.1
 ((q13d 1 r0.2.2.1 r0.2.2.2.1 r0.2.2.2.2.1 r0.2.2.2.2.2.1 r0.2.2.2.2.2.2.1 r0.2.2.2.2.2.2.2.1 r0.2.2.2.2.2.2.2.2.1 r0.2.2.2.2.2.2.2.2.2.1 r0.2.2.2.2.2.2.2.2.2.2).bind λr1 =>
 (gL qcu b2<|
 (some (.inl ((),((r1.2.2.1,(r1.2.2.2.1,(r1.2.2.2.2.1,(r1.2.2.2.2.2.1,(r1.2.2.2.2.2.2.1,(r1.2.2.2.2.2.2.2.1,(r1.2.2.2.2.2.2.2.2.1,(r1.2.2.2.2.2.2.2.2.2.1,r1.2.2.2.2.2.2.2.2.2.2)))))))),((b1,(b1_1,(b1_2,((wI t7),(r1.1,b1_5))))),(dL qcu b2))))))))
 (gL qcu b2<|
 (q11n t6 t6_1 t6_2 (wI t7) r0.2.2.1 r0.2.2.2.1 r0.2.2.2.2.1 r0.2.2.2.2.2.1 r0.2.2.2.2.2.2.1 r0.2.2.2.2.2.2.2.1 r0.2.2.2.2.2.2.2.2.1 r0.2.2.2.2.2.2.2.2.2.1 r0.2.2.2.2.2.2.2.2.2.2 b1 b1_1 b1_2 b1_3 b1_4 b1_5 (dL qcu b2))))))
 (gL qcu b2<|
 (some (.inr (((),((),((t6,(t6_1,t6_2)),(t7,false)))),((b0,(b0_1,(b0_2,(b0_3,(b0_4,(b0_5,(b0_6,(b0_7,b0_8)))))))),((b1,(b1_1,(b1_2,(b1_3,(b1_4,b1_5))))),(dL qcu b2))))))))
theorem q11p {t6 t6_1 t6_2 t7 b0 b0_1 b0_2 b0_3 b0_4 b0_5 b0_6 b0_7 b0_8 b1 b1_1 b1_2 b1_3 b1_4 b1_5 b2 r} (h:q11u t6 t6_1 t6_2 t7 b0 b0_1 b0_2 b0_3 b0_4 b0_5 b0_6 b0_7 b0_8 b1 b1_1 b1_2 b1_3 b1_4 b1_5 b2=some r):q11n t6 t6_1 t6_2 t7 b0 b0_1 b0_2 b0_3 b0_4 b0_5 b0_6 b0_7 b0_8 b1 b1_1 b1_2 b1_3 b1_4 b1_5 b2=some r :=
 qpn (es:=q1c6) (hs:=qmx) [] (by kernel_rfl) trivial trivial (by kernel_rfl) h
def q11o:=qqh Tryz.prog lv X0 1 (qk8 (cdF Tryz.f112) 1) q11t q11q (λx=>q11n x.1.2.2.1.1 x.1.2.2.1.2.1 x.1.2.2.1.2.2 x.1.2.2.2 x.2.1.1 x.2.1.2.1 x.2.1.2.2.1 x.2.1.2.2.2.1 x.2.1.2.2.2.2.1 x.2.1.2.2.2.2.2.1 x.2.1.2.2.2.2.2.2.1 x.2.1.2.2.2.2.2.2.2.1 x.2.1.2.2.2.2.2.2.2.2 x.2.2.1.1 x.2.2.1.2.1 x.2.2.1.2.2.1 x.2.2.1.2.2.2.1 x.2.2.1.2.2.2.2.1 x.2.2.1.2.2.2.2.2 x.2.2.2) (λ_ _ h=>qpm h)
def q11w:SC (Unit×((BA×Int×Int×Int×BA×Bool×Int×Int×Int)×(Int×Nat×BA×Int×BA×Int)×(List S35))):=sLS [] qpk (qpj (qu4 (bBox (qpj (vC cStr) (qpj (vC (cInt .i64)) (qpj (vC (cInt .i64)) (qpj (vC (cInt .i64)) (qpj (vC cStr) (qpj (vC cBool) (qpj (vC (cInt .i64)) (qpj (vC (cInt .i64)) (qpl (vC (cInt .i64))))))))))))) (qpj (qu4 (bBox (qpj (vC (cInt .i64)) (qpj (vRow 2) (qpj (vC cStr) (qpj (vC (cInt .i64)) (qpj (vC cStr) (qpl (vC (cInt .i64)))))))))) (qpl (qu4 (bRow qcu))))) [false,false,false] [0,1] (by decide) (λ_=>rfl)
def q11v:HC (Unit×(Unit×((BA×Int×Int×Int×BA×Bool×Int×Int×Int)×(Int×Nat×BA×Int×BA×Int)×(List S35)))):=hPair (vTup qpk) q11w
def q11k (b0:BA) (b0_1 b0_2 b0_3:Int) (b0_4:BA) (b0_5:Bool) (b0_6 b0_7:Int) (b0_8 b1:Int) (b1_1:Nat) (b1_2:BA) (b1_3:Int) (b1_4:BA) (b1_5:Int) (b2:L35):=hS Tryz.prog lv X0 112 q11x q11v (((),()),((b0,b0_1,b0_2,b0_3,b0_4,b0_5,b0_6,b0_7,b0_8),(b1,b1_1,b1_2,b1_3,b1_4,b1_5),b2))
def q11y (b0:BA) (b0_1 b0_2 b0_3:Int) (b0_4:BA) (b0_5:Bool) (b0_6 b0_7:Int) (b0_8 b1:Int) (b1_1:Nat) (b1_2:BA) (b1_3:Int) (b1_4:BA) (b1_5:Int) (b2:L35):Oq (Unit×(Unit×((BA×Int×Int×Int×BA×Bool×Int×Int×Int)×(Int×Nat×BA×Int×BA×Int)×L35))) :=
 (Option.bind qz7 λr0 =>
 (gL qcu b2<|
 ((q11n r0.1 r0.2.1 r0.2.2 0 b0 b0_1 b0_2 b0_3 b0_4 b0_5 b0_6 b0_7 b0_8 b1 b1_1 b1_2 b1_3 b1_4 b1_5 (dL qcu b2)).bind λr1 =>
 (Sum.elim (λr2=>(gdE (EC.isL qcu (EC.encL qcu r2.2.2.2))<|
 (some ((),((),((r2.2.1.1,(r2.2.1.2.1,(r2.2.1.2.2.1,(r2.2.1.2.2.2.1,(r2.2.1.2.2.2.2.1,(r2.2.1.2.2.2.2.2.1,(r2.2.1.2.2.2.2.2.2.1,(r2.2.1.2.2.2.2.2.2.2.1,r2.2.1.2.2.2.2.2.2.2.2)))))))),((r2.2.2.1.1,(r2.2.2.1.2.1,(r2.2.2.1.2.2.1,(r2.2.2.1.2.2.2.1,(r2.2.2.1.2.2.2.2.1,r2.2.2.1.2.2.2.2.2))))),(dL qcu r2.2.2.2))))))))
 (λr2=>(gdE (EC.isL qcu (EC.encL qcu r2.2.2.2))<|
 (some ((),((),((r2.2.1.1,(r2.2.1.2.1,(r2.2.1.2.2.1,(r2.2.1.2.2.2.1,(r2.2.1.2.2.2.2.1,(true,(r2.2.1.2.2.2.2.2.2.1,(r2.2.1.2.2.2.2.2.2.2.1,r2.2.1.2.2.2.2.2.2.2.2)))))))),((r2.2.2.1.1,(r2.2.2.1.2.1,(r2.2.2.1.2.2.1,(r2.2.2.1.2.2.2.1,(r2.2.2.1.2.2.2.2.1,r2.2.2.1.2.2.2.2.2))))),(dL qcu r2.2.2.2)))))))) r1))))
theorem q11m {b0 b0_1 b0_2 b0_3 b0_4 b0_5 b0_6 b0_7 b0_8 b1 b1_1 b1_2 b1_3 b1_4 b1_5 b2 r} (h:q11y b0 b0_1 b0_2 b0_3 b0_4 b0_5 b0_6 b0_7 b0_8 b1 b1_1 b1_2 b1_3 b1_4 b1_5 b2=some r):q11k b0 b0_1 b0_2 b0_3 b0_4 b0_5 b0_6 b0_7 b0_8 b1 b1_1 b1_2 b1_3 b1_4 b1_5 b2=some r :=
 qkh (fn:=Tryz.f112) (es:=q1c6) (hs:=qmx) [q11o] (by kernel_rfl) rfl (by kernel_rfl) (by kernel_rfl) ⟨⟨_,rfl,rfl⟩,trivial⟩ trivial (by kernel_rfl) h
def q11l:=hentS Tryz.prog lv X0 112 [0,3,0,0,1,3,1,0,1,9,1,3,1,1,1,1,1,1,1,3,1,2,1,1,1,1,1,1,1,6,1,1,2,2,1,3,1,1,1,3,1,1,2,0,1] q11x q11v (λx=>q11k x.2.1.1 x.2.1.2.1 x.2.1.2.2.1 x.2.1.2.2.2.1 x.2.1.2.2.2.2.1 x.2.1.2.2.2.2.2.1 x.2.1.2.2.2.2.2.2.1 x.2.1.2.2.2.2.2.2.2.1 x.2.1.2.2.2.2.2.2.2.2 x.2.2.1.1 x.2.2.1.2.1 x.2.2.1.2.2.1 x.2.2.1.2.2.2.1 x.2.2.1.2.2.2.2.1 x.2.2.1.2.2.2.2.2 x.2.2.2) (λ_ _ h=>qkg h)
def qmr:=q11l::qmx
def q12b:=sLS [0] z18 (qpl z12) [false] [0] (by decide) (λ_=>rfl)
def q12a:SC (Int×(BA×Int×Int×Int×BA×Bool×Int×Int×Int)):=sLS [0] (qpl (vC (cInt .i64))) (qpl (qu4 (bBox (qpj (vC cStr) (qpj (vC (cInt .i64)) (qpj (vC (cInt .i64)) (qpj (vC (cInt .i64)) (qpj (vC cStr) (qpj (vC cBool) (qpj (vC (cInt .i64)) (qpj (vC (cInt .i64)) (qpl (vC (cInt .i64)))))))))))))) [false] [0] (by decide) (λ_=>rfl)
def q129:HC (Int×(Int×(BA×Int×Int×Int×BA×Bool×Int×Int×Int))):=hPair (vC (cInt .i64)) q12a
def q126 (b0:BA) (b0_1 b0_2 b0_3:Int) (b0_4:BA) (b0_5:Bool) (b0_6 b0_7 b0_8:Int):=hS Tryz.prog lv X0 113 q12b q129 ((),(b0,b0_1,b0_2,b0_3,b0_4,b0_5,b0_6,b0_7,b0_8))
def q12c (b0:BA) (b0_1 b0_2 b0_3:Int) (b0_4:BA) (b0_5:Bool) (b0_6 b0_7 b0_8:Int):Oq (Int×(Int×(BA×Int×Int×Int×BA×Bool×Int×Int×Int))) :=
 ((numP b0_4 9999999).bind λr0 =>
 (brE ((b0_2 != 3)==false)
 (brE (!r0.2)
 (some (0,(0,(b0,(b0_1,(b0_2,(b0_3,(b0_4,(true,(b0_6,(b0_7,b0_8)))))))))))
 ((q13d 3 b0 b0_1 b0_2 b0_3 b0_4 b0_5 b0_6 b0_7 b0_8).bind λr1 =>
 (some (r0.1,(r0.1,(r1.2.2.1,(r1.2.2.2.1,(r1.2.2.2.2.1,(r1.2.2.2.2.2.1,(r1.2.2.2.2.2.2.1,(r1.2.2.2.2.2.2.2.1,(r1.2.2.2.2.2.2.2.2.1,(r1.2.2.2.2.2.2.2.2.2.1,r1.2.2.2.2.2.2.2.2.2.2)))))))))))))
 (some (0,(0,(b0,(b0_1,(b0_2,(b0_3,(b0_4,(true,(b0_6,(b0_7,b0_8)))))))))))))
theorem q128 {b0 b0_1 b0_2 b0_3 b0_4 b0_5 b0_6 b0_7 b0_8 r} (h:q12c b0 b0_1 b0_2 b0_3 b0_4 b0_5 b0_6 b0_7 b0_8=some r):q126 b0 b0_1 b0_2 b0_3 b0_4 b0_5 b0_6 b0_7 b0_8=some r :=
 qkh (fn:=Tryz.f113) (es:=q1c6) (hs:=qmr) [] (by kernel_rfl) rfl (by kernel_rfl) (by kernel_rfl) trivial trivial (by kernel_rfl) h
def q127:=hentS Tryz.prog lv X0 113 [0,3,0,0,1,9,1,3,1,1,1,1,1,1,1,3,1,2,1,1,1,1,1,1,0] q12b q129 (λx=>q126 x.2.1 x.2.2.1 x.2.2.2.1 x.2.2.2.2.1 x.2.2.2.2.2.1 x.2.2.2.2.2.2.1 x.2.2.2.2.2.2.2.1 x.2.2.2.2.2.2.2.2.1 x.2.2.2.2.2.2.2.2.2) (λ_ _ h=>qkg h)
def qmt:=q127::qmr
def q13x (b0:BA) (b0_1 b0_2 b0_3:Int) (b0_4:BA) (b0_5:Bool) (b0_6 b0_7 b0_8:Int):Oq ((Int×L35×BA×Int×BA×Int)×((Int×L35×BA×Int×BA×Int)×(BA×Int×Int×Int×BA×Bool×Int×Int×Int))) :=
 (brE (decide ((wI b0_8)>8))
 ((q10z 2 (ByteArray.mk (List.toArray [116,114,117,101])) b0 b0_1 b0_2 b0_3 b0_4 true b0_6 b0_7 (wI b0_8)).bind λr0 =>
 (brE r0.1
 ((q13k r0.2.2.1 r0.2.2.2.1 r0.2.2.2.2.1 r0.2.2.2.2.2.1 r0.2.2.2.2.2.2.1 r0.2.2.2.2.2.2.2.1 r0.2.2.2.2.2.2.2.2.1 r0.2.2.2.2.2.2.2.2.2.1 r0.2.2.2.2.2.2.2.2.2.2).bind λr1 =>
 (some ((1,((EC.decL qcu []),(⟨#[]⟩,(0,(⟨#[]⟩,0))))),((1,((EC.decL qcu []),(⟨#[]⟩,(0,(⟨#[]⟩,0))))),(r1.2.2.2.1,(r1.2.2.2.2.1,(r1.2.2.2.2.2.1,(r1.2.2.2.2.2.2.1,(r1.2.2.2.2.2.2.2.1,(r1.2.2.2.2.2.2.2.2.1,(r1.2.2.2.2.2.2.2.2.2.1,(r1.2.2.2.2.2.2.2.2.2.2.1,r1.2.2.2.2.2.2.2.2.2.2.2))))))))))))
 ((q10z 2 (ByteArray.mk (List.toArray [110,111,116])) r0.2.2.1 r0.2.2.2.1 r0.2.2.2.2.1 r0.2.2.2.2.2.1 r0.2.2.2.2.2.2.1 r0.2.2.2.2.2.2.2.1 r0.2.2.2.2.2.2.2.2.1 r0.2.2.2.2.2.2.2.2.2.1 r0.2.2.2.2.2.2.2.2.2.2).bind λr1 =>
 (brE r1.1
 ((q13r r1.2.2.1 r1.2.2.2.1 r1.2.2.2.2.1 r1.2.2.2.2.2.1 r1.2.2.2.2.2.2.1 r1.2.2.2.2.2.2.2.1 r1.2.2.2.2.2.2.2.2.1 r1.2.2.2.2.2.2.2.2.2.1 r1.2.2.2.2.2.2.2.2.2.2).bind λr2 =>
 ((q13k r2.2.2.1 r2.2.2.2.1 r2.2.2.2.2.1 r2.2.2.2.2.2.1 r2.2.2.2.2.2.2.1 r2.2.2.2.2.2.2.2.1 r2.2.2.2.2.2.2.2.2.1 r2.2.2.2.2.2.2.2.2.2.1 r2.2.2.2.2.2.2.2.2.2.2).bind λr3 =>
 (gdE (EC.isL qcu [[(C.int Go.IntKind.i64 r2.1.1),(C.sl (EC.encL qcu r2.1.2.1)),(C.str r2.1.2.2.1),(C.int Go.IntKind.i64 r2.1.2.2.2.1),(C.str r2.1.2.2.2.2.1),(C.int Go.IntKind.i64 r2.1.2.2.2.2.2)]])<|
 (gdE (EC.isL qcu [[(C.int Go.IntKind.i64 r2.1.1),(C.sl (EC.encL qcu r2.1.2.1)),(C.str r2.1.2.2.1),(C.int Go.IntKind.i64 r2.1.2.2.2.1),(C.str r2.1.2.2.2.2.1),(C.int Go.IntKind.i64 r2.1.2.2.2.2.2)]])<|
 (some ((2,((EC.decL qcu [[(C.int Go.IntKind.i64 r2.1.1),(C.sl (EC.encL qcu r2.1.2.1)),(C.str r2.1.2.2.1),(C.int Go.IntKind.i64 r2.1.2.2.2.1),(C.str r2.1.2.2.2.2.1),(C.int Go.IntKind.i64 r2.1.2.2.2.2.2)]]),(⟨#[]⟩,(0,(⟨#[]⟩,0))))),((2,((EC.decL qcu [[(C.int Go.IntKind.i64 r2.1.1),(C.sl (EC.encL qcu r2.1.2.1)),(C.str r2.1.2.2.1),(C.int Go.IntKind.i64 r2.1.2.2.2.1),(C.str r2.1.2.2.2.2.1),(C.int Go.IntKind.i64 r2.1.2.2.2.2.2)]]),(⟨#[]⟩,(0,(⟨#[]⟩,0))))),(r3.2.2.2.1,(r3.2.2.2.2.1,(r3.2.2.2.2.2.1,(r3.2.2.2.2.2.2.1,(r3.2.2.2.2.2.2.2.1,(r3.2.2.2.2.2.2.2.2.1,(r3.2.2.2.2.2.2.2.2.2.1,(r3.2.2.2.2.2.2.2.2.2.2.1,r3.2.2.2.2.2.2.2.2.2.2.2)))))))))))))))
 ((q10z 2 (ByteArray.mk (List.toArray [97,108,108])) r1.2.2.1 r1.2.2.2.1 r1.2.2.2.2.1 r1.2.2.2.2.2.1 r1.2.2.2.2.2.2.1 r1.2.2.2.2.2.2.2.1 r1.2.2.2.2.2.2.2.2.1 r1.2.2.2.2.2.2.2.2.2.1 r1.2.2.2.2.2.2.2.2.2.2).bind λr2 =>
 (brE r2.1
 ((q116 r2.2.2.1 r2.2.2.2.1 r2.2.2.2.2.1 r2.2.2.2.2.2.1 r2.2.2.2.2.2.2.1 r2.2.2.2.2.2.2.2.1 r2.2.2.2.2.2.2.2.2.1 r2.2.2.2.2.2.2.2.2.2.1 r2.2.2.2.2.2.2.2.2.2.2).bind λr3 =>
 ((q13k r3.2.2.1 r3.2.2.2.1 r3.2.2.2.2.1 r3.2.2.2.2.2.1 r3.2.2.2.2.2.2.1 r3.2.2.2.2.2.2.2.1 r3.2.2.2.2.2.2.2.2.1 r3.2.2.2.2.2.2.2.2.2.1 r3.2.2.2.2.2.2.2.2.2.2).bind λr4 =>
 (gL qcu r3.1<|
 (gL qcu r3.1<|
 (some ((3,((dL qcu r3.1),(⟨#[]⟩,(0,(⟨#[]⟩,0))))),((3,((dL qcu r3.1),(⟨#[]⟩,(0,(⟨#[]⟩,0))))),(r4.2.2.2.1,(r4.2.2.2.2.1,(r4.2.2.2.2.2.1,(r4.2.2.2.2.2.2.1,(r4.2.2.2.2.2.2.2.1,(r4.2.2.2.2.2.2.2.2.1,(r4.2.2.2.2.2.2.2.2.2.1,(r4.2.2.2.2.2.2.2.2.2.2.1,r4.2.2.2.2.2.2.2.2.2.2.2)))))))))))))))
 ((q10z 2 (ByteArray.mk (List.toArray [97,110,121])) r2.2.2.1 r2.2.2.2.1 r2.2.2.2.2.1 r2.2.2.2.2.2.1 r2.2.2.2.2.2.2.1 r2.2.2.2.2.2.2.2.1 r2.2.2.2.2.2.2.2.2.1 r2.2.2.2.2.2.2.2.2.2.1 r2.2.2.2.2.2.2.2.2.2.2).bind λr3 =>
 (brE r3.1
 ((q116 r3.2.2.1 r3.2.2.2.1 r3.2.2.2.2.1 r3.2.2.2.2.2.1 r3.2.2.2.2.2.2.1 r3.2.2.2.2.2.2.2.1 r3.2.2.2.2.2.2.2.2.1 r3.2.2.2.2.2.2.2.2.2.1 r3.2.2.2.2.2.2.2.2.2.2).bind λr4 =>
 ((q13k r4.2.2.1 r4.2.2.2.1 r4.2.2.2.2.1 r4.2.2.2.2.2.1 r4.2.2.2.2.2.2.1 r4.2.2.2.2.2.2.2.1 r4.2.2.2.2.2.2.2.2.1 r4.2.2.2.2.2.2.2.2.2.1 r4.2.2.2.2.2.2.2.2.2.2).bind λr5 =>
 (gL qcu r4.1<|
 (gL qcu r4.1<|
 (some ((4,((dL qcu r4.1),(⟨#[]⟩,(0,(⟨#[]⟩,0))))),((4,((dL qcu r4.1),(⟨#[]⟩,(0,(⟨#[]⟩,0))))),(r5.2.2.2.1,(r5.2.2.2.2.1,(r5.2.2.2.2.2.1,(r5.2.2.2.2.2.2.1,(r5.2.2.2.2.2.2.2.1,(r5.2.2.2.2.2.2.2.2.1,(r5.2.2.2.2.2.2.2.2.2.1,(r5.2.2.2.2.2.2.2.2.2.2.1,r5.2.2.2.2.2.2.2.2.2.2.2)))))))))))))))
 ((q10z 2 (ByteArray.mk (List.toArray [104,101,97,100,101,114])) r3.2.2.1 r3.2.2.2.1 r3.2.2.2.2.1 r3.2.2.2.2.2.1 r3.2.2.2.2.2.2.1 r3.2.2.2.2.2.2.2.1 r3.2.2.2.2.2.2.2.2.1 r3.2.2.2.2.2.2.2.2.2.1 r3.2.2.2.2.2.2.2.2.2.2).bind λr4 =>
 (brE r4.1
 ((q13d 1 r4.2.2.1 r4.2.2.2.1 r4.2.2.2.2.1 r4.2.2.2.2.2.1 r4.2.2.2.2.2.2.1 r4.2.2.2.2.2.2.2.1 r4.2.2.2.2.2.2.2.2.1 r4.2.2.2.2.2.2.2.2.2.1 r4.2.2.2.2.2.2.2.2.2.2).bind λr5 =>
 ((q11k r5.2.2.1 r5.2.2.2.1 r5.2.2.2.2.1 r5.2.2.2.2.2.1 r5.2.2.2.2.2.2.1 r5.2.2.2.2.2.2.2.1 r5.2.2.2.2.2.2.2.2.1 r5.2.2.2.2.2.2.2.2.2.1 r5.2.2.2.2.2.2.2.2.2.2 5 0 r5.1 0 ⟨#[]⟩ 0 (EC.decL qcu [])).bind λr6 =>
 ((q13k r6.2.2.1.1 r6.2.2.1.2.1 r6.2.2.1.2.2.1 r6.2.2.1.2.2.2.1 r6.2.2.1.2.2.2.2.1 r6.2.2.1.2.2.2.2.2.1 r6.2.2.1.2.2.2.2.2.2.1 r6.2.2.1.2.2.2.2.2.2.2.1 r6.2.2.1.2.2.2.2.2.2.2.2).bind λr7 =>
 (gL qcu r6.2.2.2.2<|
 (gL qcu r6.2.2.2.2<|
 (some ((r6.2.2.2.1.1,((dL qcu r6.2.2.2.2),(r6.2.2.2.1.2.2.1,(r6.2.2.2.1.2.2.2.1,(r6.2.2.2.1.2.2.2.2.1,r6.2.2.2.1.2.2.2.2.2))))),((r6.2.2.2.1.1,((dL qcu r6.2.2.2.2),(r6.2.2.2.1.2.2.1,(r6.2.2.2.1.2.2.2.1,(r6.2.2.2.1.2.2.2.2.1,r6.2.2.2.1.2.2.2.2.2))))),(r7.2.2.2.1,(r7.2.2.2.2.1,(r7.2.2.2.2.2.1,(r7.2.2.2.2.2.2.1,(r7.2.2.2.2.2.2.2.1,(r7.2.2.2.2.2.2.2.2.1,(r7.2.2.2.2.2.2.2.2.2.1,(r7.2.2.2.2.2.2.2.2.2.2.1,r7.2.2.2.2.2.2.2.2.2.2.2))))))))))))))))
 ((q10z 2 (ByteArray.mk (List.toArray [102,114,111,109])) r4.2.2.1 r4.2.2.2.1 r4.2.2.2.2.1 r4.2.2.2.2.2.1 r4.2.2.2.2.2.2.1 r4.2.2.2.2.2.2.2.1 r4.2.2.2.2.2.2.2.2.1 r4.2.2.2.2.2.2.2.2.2.1 r4.2.2.2.2.2.2.2.2.2.2).bind λr5 =>
 (brE r5.1
 ((q11k r5.2.2.1 r5.2.2.2.1 r5.2.2.2.2.1 r5.2.2.2.2.2.1 r5.2.2.2.2.2.2.1 r5.2.2.2.2.2.2.2.1 r5.2.2.2.2.2.2.2.2.1 r5.2.2.2.2.2.2.2.2.2.1 r5.2.2.2.2.2.2.2.2.2.2 6 0 ⟨#[]⟩ 0 ⟨#[]⟩ 0 (EC.decL qcu [])).bind λr6 =>
 ((q13k r6.2.2.1.1 r6.2.2.1.2.1 r6.2.2.1.2.2.1 r6.2.2.1.2.2.2.1 r6.2.2.1.2.2.2.2.1 r6.2.2.1.2.2.2.2.2.1 r6.2.2.1.2.2.2.2.2.2.1 r6.2.2.1.2.2.2.2.2.2.2.1 r6.2.2.1.2.2.2.2.2.2.2.2).bind λr7 =>
 (gL qcu r6.2.2.2.2<|
 (gL qcu r6.2.2.2.2<|
 (some ((r6.2.2.2.1.1,((dL qcu r6.2.2.2.2),(r6.2.2.2.1.2.2.1,(r6.2.2.2.1.2.2.2.1,(r6.2.2.2.1.2.2.2.2.1,r6.2.2.2.1.2.2.2.2.2))))),((r6.2.2.2.1.1,((dL qcu r6.2.2.2.2),(r6.2.2.2.1.2.2.1,(r6.2.2.2.1.2.2.2.1,(r6.2.2.2.1.2.2.2.2.1,r6.2.2.2.1.2.2.2.2.2))))),(r7.2.2.2.1,(r7.2.2.2.2.1,(r7.2.2.2.2.2.1,(r7.2.2.2.2.2.2.1,(r7.2.2.2.2.2.2.2.1,(r7.2.2.2.2.2.2.2.2.1,(r7.2.2.2.2.2.2.2.2.2.1,(r7.2.2.2.2.2.2.2.2.2.2.1,r7.2.2.2.2.2.2.2.2.2.2.2)))))))))))))))
 ((q10z 2 (ByteArray.mk (List.toArray [116,111])) r5.2.2.1 r5.2.2.2.1 r5.2.2.2.2.1 r5.2.2.2.2.2.1 r5.2.2.2.2.2.2.1 r5.2.2.2.2.2.2.2.1 r5.2.2.2.2.2.2.2.2.1 r5.2.2.2.2.2.2.2.2.2.1 r5.2.2.2.2.2.2.2.2.2.2).bind λr6 =>
 (brE r6.1
 ((q11k r6.2.2.1 r6.2.2.2.1 r6.2.2.2.2.1 r6.2.2.2.2.2.1 r6.2.2.2.2.2.2.1 r6.2.2.2.2.2.2.2.1 r6.2.2.2.2.2.2.2.2.1 r6.2.2.2.2.2.2.2.2.2.1 r6.2.2.2.2.2.2.2.2.2.2 7 0 ⟨#[]⟩ 0 ⟨#[]⟩ 0 (EC.decL qcu [])).bind λr7 =>
 ((q13k r7.2.2.1.1 r7.2.2.1.2.1 r7.2.2.1.2.2.1 r7.2.2.1.2.2.2.1 r7.2.2.1.2.2.2.2.1 r7.2.2.1.2.2.2.2.2.1 r7.2.2.1.2.2.2.2.2.2.1 r7.2.2.1.2.2.2.2.2.2.2.1 r7.2.2.1.2.2.2.2.2.2.2.2).bind λr8 =>
 (gL qcu r7.2.2.2.2<|
 (gL qcu r7.2.2.2.2<|
 (some ((r7.2.2.2.1.1,((dL qcu r7.2.2.2.2),(r7.2.2.2.1.2.2.1,(r7.2.2.2.1.2.2.2.1,(r7.2.2.2.1.2.2.2.2.1,r7.2.2.2.1.2.2.2.2.2))))),((r7.2.2.2.1.1,((dL qcu r7.2.2.2.2),(r7.2.2.2.1.2.2.1,(r7.2.2.2.1.2.2.2.1,(r7.2.2.2.1.2.2.2.2.1,r7.2.2.2.1.2.2.2.2.2))))),(r8.2.2.2.1,(r8.2.2.2.2.1,(r8.2.2.2.2.2.1,(r8.2.2.2.2.2.2.1,(r8.2.2.2.2.2.2.2.1,(r8.2.2.2.2.2.2.2.2.1,(r8.2.2.2.2.2.2.2.2.2.1,(r8.2.2.2.2.2.2.2.2.2.2.1,r8.2.2.2.2.2.2.2.2.2.2.2)))))))))))))))
 ((q10z 2 (ByteArray.mk (List.toArray [115,105,122,101])) r6.2.2.1 r6.2.2.2.1 r6.2.2.2.2.1 r6.2.2.2.2.2.1 r6.2.2.2.2.2.2.1 r6.2.2.2.2.2.2.2.1 r6.2.2.2.2.2.2.2.2.1 r6.2.2.2.2.2.2.2.2.2.1 r6.2.2.2.2.2.2.2.2.2.2).bind λr7 =>
 (brE r7.1
 ((q126 r7.2.2.1 r7.2.2.2.1 r7.2.2.2.2.1 r7.2.2.2.2.2.1 r7.2.2.2.2.2.2.1 r7.2.2.2.2.2.2.2.1 r7.2.2.2.2.2.2.2.2.1 r7.2.2.2.2.2.2.2.2.2.1 r7.2.2.2.2.2.2.2.2.2.2).bind λr8 =>
 ((q13k r8.2.2.1 r8.2.2.2.1 r8.2.2.2.2.1 r8.2.2.2.2.2.1 r8.2.2.2.2.2.2.1 r8.2.2.2.2.2.2.2.1 r8.2.2.2.2.2.2.2.2.1 r8.2.2.2.2.2.2.2.2.2.1 r8.2.2.2.2.2.2.2.2.2.2).bind λr9 =>
 (some ((8,((EC.decL qcu []),(⟨#[]⟩,(0,(⟨#[]⟩,r8.1))))),((8,((EC.decL qcu []),(⟨#[]⟩,(0,(⟨#[]⟩,r8.1))))),(r9.2.2.2.1,(r9.2.2.2.2.1,(r9.2.2.2.2.2.1,(r9.2.2.2.2.2.2.1,(r9.2.2.2.2.2.2.2.1,(r9.2.2.2.2.2.2.2.2.1,(r9.2.2.2.2.2.2.2.2.2.1,(r9.2.2.2.2.2.2.2.2.2.2.1,r9.2.2.2.2.2.2.2.2.2.2.2)))))))))))))
 ((q10z 2 (ByteArray.mk (List.toArray [101,120,105,115,116,115])) r7.2.2.1 r7.2.2.2.1 r7.2.2.2.2.1 r7.2.2.2.2.2.1 r7.2.2.2.2.2.2.1 r7.2.2.2.2.2.2.2.1 r7.2.2.2.2.2.2.2.2.1 r7.2.2.2.2.2.2.2.2.2.1 r7.2.2.2.2.2.2.2.2.2.2).bind λr8 =>
 (brE r8.1
 ((q13d 1 r8.2.2.1 r8.2.2.2.1 r8.2.2.2.2.1 r8.2.2.2.2.2.1 r8.2.2.2.2.2.2.1 r8.2.2.2.2.2.2.2.1 r8.2.2.2.2.2.2.2.2.1 r8.2.2.2.2.2.2.2.2.2.1 r8.2.2.2.2.2.2.2.2.2.2).bind λr9 =>
 ((q13k r9.2.2.1 r9.2.2.2.1 r9.2.2.2.2.1 r9.2.2.2.2.2.1 r9.2.2.2.2.2.2.1 r9.2.2.2.2.2.2.2.1 r9.2.2.2.2.2.2.2.2.1 r9.2.2.2.2.2.2.2.2.2.1 r9.2.2.2.2.2.2.2.2.2.2).bind λr10 =>
 (some ((9,((EC.decL qcu []),(r9.1,(0,(⟨#[]⟩,0))))),((9,((EC.decL qcu []),(r9.1,(0,(⟨#[]⟩,0))))),(r10.2.2.2.1,(r10.2.2.2.2.1,(r10.2.2.2.2.2.1,(r10.2.2.2.2.2.2.1,(r10.2.2.2.2.2.2.2.1,(r10.2.2.2.2.2.2.2.2.1,(r10.2.2.2.2.2.2.2.2.2.1,(r10.2.2.2.2.2.2.2.2.2.2.1,r10.2.2.2.2.2.2.2.2.2.2.2)))))))))))))
 ((q13k r8.2.2.1 r8.2.2.2.1 r8.2.2.2.2.1 r8.2.2.2.2.2.1 r8.2.2.2.2.2.2.1 true r8.2.2.2.2.2.2.2.2.1 r8.2.2.2.2.2.2.2.2.2.1 r8.2.2.2.2.2.2.2.2.2.2).bind λr9 =>
 (some ((0,((EC.decL qcu []),(⟨#[]⟩,(0,(⟨#[]⟩,0))))),((0,((EC.decL qcu []),(⟨#[]⟩,(0,(⟨#[]⟩,0))))),(r9.2.2.2.1,(r9.2.2.2.2.1,(r9.2.2.2.2.2.1,(r9.2.2.2.2.2.2.1,(r9.2.2.2.2.2.2.2.1,(r9.2.2.2.2.2.2.2.2.1,(r9.2.2.2.2.2.2.2.2.2.1,(r9.2.2.2.2.2.2.2.2.2.2.1,r9.2.2.2.2.2.2.2.2.2.2.2))))))))))))))))))))))))))))))
 ((q10z 2 (ByteArray.mk (List.toArray [116,114,117,101])) b0 b0_1 b0_2 b0_3 b0_4 b0_5 b0_6 b0_7 (wI b0_8)).bind λr0 =>
 (brE r0.1
 ((q13k r0.2.2.1 r0.2.2.2.1 r0.2.2.2.2.1 r0.2.2.2.2.2.1 r0.2.2.2.2.2.2.1 r0.2.2.2.2.2.2.2.1 r0.2.2.2.2.2.2.2.2.1 r0.2.2.2.2.2.2.2.2.2.1 r0.2.2.2.2.2.2.2.2.2.2).bind λr1 =>
 (some ((1,((EC.decL qcu []),(⟨#[]⟩,(0,(⟨#[]⟩,0))))),((1,((EC.decL qcu []),(⟨#[]⟩,(0,(⟨#[]⟩,0))))),(r1.2.2.2.1,(r1.2.2.2.2.1,(r1.2.2.2.2.2.1,(r1.2.2.2.2.2.2.1,(r1.2.2.2.2.2.2.2.1,(r1.2.2.2.2.2.2.2.2.1,(r1.2.2.2.2.2.2.2.2.2.1,(r1.2.2.2.2.2.2.2.2.2.2.1,r1.2.2.2.2.2.2.2.2.2.2.2))))))))))))
 ((q10z 2 (ByteArray.mk (List.toArray [110,111,116])) r0.2.2.1 r0.2.2.2.1 r0.2.2.2.2.1 r0.2.2.2.2.2.1 r0.2.2.2.2.2.2.1 r0.2.2.2.2.2.2.2.1 r0.2.2.2.2.2.2.2.2.1 r0.2.2.2.2.2.2.2.2.2.1 r0.2.2.2.2.2.2.2.2.2.2).bind λr1 =>
 (brE r1.1
 ((q13r r1.2.2.1 r1.2.2.2.1 r1.2.2.2.2.1 r1.2.2.2.2.2.1 r1.2.2.2.2.2.2.1 r1.2.2.2.2.2.2.2.1 r1.2.2.2.2.2.2.2.2.1 r1.2.2.2.2.2.2.2.2.2.1 r1.2.2.2.2.2.2.2.2.2.2).bind λr2 =>
 ((q13k r2.2.2.1 r2.2.2.2.1 r2.2.2.2.2.1 r2.2.2.2.2.2.1 r2.2.2.2.2.2.2.1 r2.2.2.2.2.2.2.2.1 r2.2.2.2.2.2.2.2.2.1 r2.2.2.2.2.2.2.2.2.2.1 r2.2.2.2.2.2.2.2.2.2.2).bind λr3 =>
 (gdE (EC.isL qcu [[(C.int Go.IntKind.i64 r2.1.1),(C.sl (EC.encL qcu r2.1.2.1)),(C.str r2.1.2.2.1),(C.int Go.IntKind.i64 r2.1.2.2.2.1),(C.str r2.1.2.2.2.2.1),(C.int Go.IntKind.i64 r2.1.2.2.2.2.2)]])<|
 (gdE (EC.isL qcu [[(C.int Go.IntKind.i64 r2.1.1),(C.sl (EC.encL qcu r2.1.2.1)),(C.str r2.1.2.2.1),(C.int Go.IntKind.i64 r2.1.2.2.2.1),(C.str r2.1.2.2.2.2.1),(C.int Go.IntKind.i64 r2.1.2.2.2.2.2)]])<|
 (some ((2,((EC.decL qcu [[(C.int Go.IntKind.i64 r2.1.1),(C.sl (EC.encL qcu r2.1.2.1)),(C.str r2.1.2.2.1),(C.int Go.IntKind.i64 r2.1.2.2.2.1),(C.str r2.1.2.2.2.2.1),(C.int Go.IntKind.i64 r2.1.2.2.2.2.2)]]),(⟨#[]⟩,(0,(⟨#[]⟩,0))))),((2,((EC.decL qcu [[(C.int Go.IntKind.i64 r2.1.1),(C.sl (EC.encL qcu r2.1.2.1)),(C.str r2.1.2.2.1),(C.int Go.IntKind.i64 r2.1.2.2.2.1),(C.str r2.1.2.2.2.2.1),(C.int Go.IntKind.i64 r2.1.2.2.2.2.2)]]),(⟨#[]⟩,(0,(⟨#[]⟩,0))))),(r3.2.2.2.1,(r3.2.2.2.2.1,(r3.2.2.2.2.2.1,(r3.2.2.2.2.2.2.1,(r3.2.2.2.2.2.2.2.1,(r3.2.2.2.2.2.2.2.2.1,(r3.2.2.2.2.2.2.2.2.2.1,(r3.2.2.2.2.2.2.2.2.2.2.1,r3.2.2.2.2.2.2.2.2.2.2.2)))))))))))))))
 ((q10z 2 (ByteArray.mk (List.toArray [97,108,108])) r1.2.2.1 r1.2.2.2.1 r1.2.2.2.2.1 r1.2.2.2.2.2.1 r1.2.2.2.2.2.2.1 r1.2.2.2.2.2.2.2.1 r1.2.2.2.2.2.2.2.2.1 r1.2.2.2.2.2.2.2.2.2.1 r1.2.2.2.2.2.2.2.2.2.2).bind λr2 =>
 (brE r2.1
 ((q116 r2.2.2.1 r2.2.2.2.1 r2.2.2.2.2.1 r2.2.2.2.2.2.1 r2.2.2.2.2.2.2.1 r2.2.2.2.2.2.2.2.1 r2.2.2.2.2.2.2.2.2.1 r2.2.2.2.2.2.2.2.2.2.1 r2.2.2.2.2.2.2.2.2.2.2).bind λr3 =>
 ((q13k r3.2.2.1 r3.2.2.2.1 r3.2.2.2.2.1 r3.2.2.2.2.2.1 r3.2.2.2.2.2.2.1 r3.2.2.2.2.2.2.2.1 r3.2.2.2.2.2.2.2.2.1 r3.2.2.2.2.2.2.2.2.2.1 r3.2.2.2.2.2.2.2.2.2.2).bind λr4 =>
 (gL qcu r3.1<|
 (gL qcu r3.1<|
 (some ((3,((dL qcu r3.1),(⟨#[]⟩,(0,(⟨#[]⟩,0))))),((3,((dL qcu r3.1),(⟨#[]⟩,(0,(⟨#[]⟩,0))))),(r4.2.2.2.1,(r4.2.2.2.2.1,(r4.2.2.2.2.2.1,(r4.2.2.2.2.2.2.1,(r4.2.2.2.2.2.2.2.1,(r4.2.2.2.2.2.2.2.2.1,(r4.2.2.2.2.2.2.2.2.2.1,(r4.2.2.2.2.2.2.2.2.2.2.1,r4.2.2.2.2.2.2.2.2.2.2.2)))))))))))))))
 ((q10z 2 (ByteArray.mk (List.toArray [97,110,121])) r2.2.2.1 r2.2.2.2.1 r2.2.2.2.2.1 r2.2.2.2.2.2.1 r2.2.2.2.2.2.2.1 r2.2.2.2.2.2.2.2.1 r2.2.2.2.2.2.2.2.2.1 r2.2.2.2.2.2.2.2.2.2.1 r2.2.2.2.2.2.2.2.2.2.2).bind λr3 =>
 (brE r3.1
 ((q116 r3.2.2.1 r3.2.2.2.1 r3.2.2.2.2.1 r3.2.2.2.2.2.1 r3.2.2.2.2.2.2.1 r3.2.2.2.2.2.2.2.1 r3.2.2.2.2.2.2.2.2.1 r3.2.2.2.2.2.2.2.2.2.1 r3.2.2.2.2.2.2.2.2.2.2).bind λr4 =>
 ((q13k r4.2.2.1 r4.2.2.2.1 r4.2.2.2.2.1 r4.2.2.2.2.2.1 r4.2.2.2.2.2.2.1 r4.2.2.2.2.2.2.2.1 r4.2.2.2.2.2.2.2.2.1 r4.2.2.2.2.2.2.2.2.2.1 r4.2.2.2.2.2.2.2.2.2.2).bind λr5 =>
 (gL qcu r4.1<|
 (gL qcu r4.1<|
 (some ((4,((dL qcu r4.1),(⟨#[]⟩,(0,(⟨#[]⟩,0))))),((4,((dL qcu r4.1),(⟨#[]⟩,(0,(⟨#[]⟩,0))))),(r5.2.2.2.1,(r5.2.2.2.2.1,(r5.2.2.2.2.2.1,(r5.2.2.2.2.2.2.1,(r5.2.2.2.2.2.2.2.1,(r5.2.2.2.2.2.2.2.2.1,(r5.2.2.2.2.2.2.2.2.2.1,(r5.2.2.2.2.2.2.2.2.2.2.1,r5.2.2.2.2.2.2.2.2.2.2.2)))))))))))))))
 ((q10z 2 (ByteArray.mk (List.toArray [104,101,97,100,101,114])) r3.2.2.1 r3.2.2.2.1 r3.2.2.2.2.1 r3.2.2.2.2.2.1 r3.2.2.2.2.2.2.1 r3.2.2.2.2.2.2.2.1 r3.2.2.2.2.2.2.2.2.1 r3.2.2.2.2.2.2.2.2.2.1 r3.2.2.2.2.2.2.2.2.2.2).bind λr4 =>
 (brE r4.1
 ((q13d 1 r4.2.2.1 r4.2.2.2.1 r4.2.2.2.2.1 r4.2.2.2.2.2.1 r4.2.2.2.2.2.2.1 r4.2.2.2.2.2.2.2.1 r4.2.2.2.2.2.2.2.2.1 r4.2.2.2.2.2.2.2.2.2.1 r4.2.2.2.2.2.2.2.2.2.2).bind λr5 =>
 ((q11k r5.2.2.1 r5.2.2.2.1 r5.2.2.2.2.1 r5.2.2.2.2.2.1 r5.2.2.2.2.2.2.1 r5.2.2.2.2.2.2.2.1 r5.2.2.2.2.2.2.2.2.1 r5.2.2.2.2.2.2.2.2.2.1 r5.2.2.2.2.2.2.2.2.2.2 5 0 r5.1 0 ⟨#[]⟩ 0 (EC.decL qcu [])).bind λr6 =>
 ((q13k r6.2.2.1.1 r6.2.2.1.2.1 r6.2.2.1.2.2.1 r6.2.2.1.2.2.2.1 r6.2.2.1.2.2.2.2.1 r6.2.2.1.2.2.2.2.2.1 r6.2.2.1.2.2.2.2.2.2.1 r6.2.2.1.2.2.2.2.2.2.2.1 r6.2.2.1.2.2.2.2.2.2.2.2).bind λr7 =>
 (gL qcu r6.2.2.2.2<|
 (gL qcu r6.2.2.2.2<|
 (some ((r6.2.2.2.1.1,((dL qcu r6.2.2.2.2),(r6.2.2.2.1.2.2.1,(r6.2.2.2.1.2.2.2.1,(r6.2.2.2.1.2.2.2.2.1,r6.2.2.2.1.2.2.2.2.2))))),((r6.2.2.2.1.1,((dL qcu r6.2.2.2.2),(r6.2.2.2.1.2.2.1,(r6.2.2.2.1.2.2.2.1,(r6.2.2.2.1.2.2.2.2.1,r6.2.2.2.1.2.2.2.2.2))))),(r7.2.2.2.1,(r7.2.2.2.2.1,(r7.2.2.2.2.2.1,(r7.2.2.2.2.2.2.1,(r7.2.2.2.2.2.2.2.1,(r7.2.2.2.2.2.2.2.2.1,(r7.2.2.2.2.2.2.2.2.2.1,(r7.2.2.2.2.2.2.2.2.2.2.1,r7.2.2.2.2.2.2.2.2.2.2.2))))))))))))))))
 ((q10z 2 (ByteArray.mk (List.toArray [102,114,111,109])) r4.2.2.1 r4.2.2.2.1 r4.2.2.2.2.1 r4.2.2.2.2.2.1 r4.2.2.2.2.2.2.1 r4.2.2.2.2.2.2.2.1 r4.2.2.2.2.2.2.2.2.1 r4.2.2.2.2.2.2.2.2.2.1 r4.2.2.2.2.2.2.2.2.2.2).bind λr5 =>
 (brE r5.1
 ((q11k r5.2.2.1 r5.2.2.2.1 r5.2.2.2.2.1 r5.2.2.2.2.2.1 r5.2.2.2.2.2.2.1 r5.2.2.2.2.2.2.2.1 r5.2.2.2.2.2.2.2.2.1 r5.2.2.2.2.2.2.2.2.2.1 r5.2.2.2.2.2.2.2.2.2.2 6 0 ⟨#[]⟩ 0 ⟨#[]⟩ 0 (EC.decL qcu [])).bind λr6 =>
 ((q13k r6.2.2.1.1 r6.2.2.1.2.1 r6.2.2.1.2.2.1 r6.2.2.1.2.2.2.1 r6.2.2.1.2.2.2.2.1 r6.2.2.1.2.2.2.2.2.1 r6.2.2.1.2.2.2.2.2.2.1 r6.2.2.1.2.2.2.2.2.2.2.1 r6.2.2.1.2.2.2.2.2.2.2.2).bind λr7 =>
 (gL qcu r6.2.2.2.2<|
 (gL qcu r6.2.2.2.2<|
 (some ((r6.2.2.2.1.1,((dL qcu r6.2.2.2.2),(r6.2.2.2.1.2.2.1,(r6.2.2.2.1.2.2.2.1,(r6.2.2.2.1.2.2.2.2.1,r6.2.2.2.1.2.2.2.2.2))))),((r6.2.2.2.1.1,((dL qcu r6.2.2.2.2),(r6.2.2.2.1.2.2.1,(r6.2.2.2.1.2.2.2.1,(r6.2.2.2.1.2.2.2.2.1,r6.2.2.2.1.2.2.2.2.2))))),(r7.2.2.2.1,(r7.2.2.2.2.1,(r7.2.2.2.2.2.1,(r7.2.2.2.2.2.2.1,(r7.2.2.2.2.2.2.2.1,(r7.2.2.2.2.2.2.2.2.1,(r7.2.2.2.2.2.2.2.2.2.1,(r7.2.2.2.2.2.2.2.2.2.2.1,r7.2.2.2.2.2.2.2.2.2.2.2)))))))))))))))
 ((q10z 2 (ByteArray.mk (List.toArray [116,111])) r5.2.2.1 r5.2.2.2.1 r5.2.2.2.2.1 r5.2.2.2.2.2.1 r5.2.2.2.2.2.2.1 r5.2.2.2.2.2.2.2.1 r5.2.2.2.2.2.2.2.2.1 r5.2.2.2.2.2.2.2.2.2.1 r5.2.2.2.2.2.2.2.2.2.2).bind λr6 =>
 (brE r6.1
 ((q11k r6.2.2.1 r6.2.2.2.1 r6.2.2.2.2.1 r6.2.2.2.2.2.1 r6.2.2.2.2.2.2.1 r6.2.2.2.2.2.2.2.1 r6.2.2.2.2.2.2.2.2.1 r6.2.2.2.2.2.2.2.2.2.1 r6.2.2.2.2.2.2.2.2.2.2 7 0 ⟨#[]⟩ 0 ⟨#[]⟩ 0 (EC.decL qcu [])).bind λr7 =>
 ((q13k r7.2.2.1.1 r7.2.2.1.2.1 r7.2.2.1.2.2.1 r7.2.2.1.2.2.2.1 r7.2.2.1.2.2.2.2.1 r7.2.2.1.2.2.2.2.2.1 r7.2.2.1.2.2.2.2.2.2.1 r7.2.2.1.2.2.2.2.2.2.2.1 r7.2.2.1.2.2.2.2.2.2.2.2).bind λr8 =>
 (gL qcu r7.2.2.2.2<|
 (gL qcu r7.2.2.2.2<|
 (some ((r7.2.2.2.1.1,((dL qcu r7.2.2.2.2),(r7.2.2.2.1.2.2.1,(r7.2.2.2.1.2.2.2.1,(r7.2.2.2.1.2.2.2.2.1,r7.2.2.2.1.2.2.2.2.2))))),((r7.2.2.2.1.1,((dL qcu r7.2.2.2.2),(r7.2.2.2.1.2.2.1,(r7.2.2.2.1.2.2.2.1,(r7.2.2.2.1.2.2.2.2.1,r7.2.2.2.1.2.2.2.2.2))))),(r8.2.2.2.1,(r8.2.2.2.2.1,(r8.2.2.2.2.2.1,(r8.2.2.2.2.2.2.1,(r8.2.2.2.2.2.2.2.1,(r8.2.2.2.2.2.2.2.2.1,(r8.2.2.2.2.2.2.2.2.2.1,(r8.2.2.2.2.2.2.2.2.2.2.1,r8.2.2.2.2.2.2.2.2.2.2.2)))))))))))))))
 ((q10z 2 (ByteArray.mk (List.toArray [115,105,122,101])) r6.2.2.1 r6.2.2.2.1 r6.2.2.2.2.1 r6.2.2.2.2.2.1 r6.2.2.2.2.2.2.1 r6.2.2.2.2.2.2.2.1 r6.2.2.2.2.2.2.2.2.1 r6.2.2.2.2.2.2.2.2.2.1 r6.2.2.2.2.2.2.2.2.2.2).bind λr7 =>
 (brE r7.1
 ((q126 r7.2.2.1 r7.2.2.2.1 r7.2.2.2.2.1 r7.2.2.2.2.2.1 r7.2.2.2.2.2.2.1 r7.2.2.2.2.2.2.2.1 r7.2.2.2.2.2.2.2.2.1 r7.2.2.2.2.2.2.2.2.2.1 r7.2.2.2.2.2.2.2.2.2.2).bind λr8 =>
 ((q13k r8.2.2.1 r8.2.2.2.1 r8.2.2.2.2.1 r8.2.2.2.2.2.1 r8.2.2.2.2.2.2.1 r8.2.2.2.2.2.2.2.1 r8.2.2.2.2.2.2.2.2.1 r8.2.2.2.2.2.2.2.2.2.1 r8.2.2.2.2.2.2.2.2.2.2).bind λr9 =>
 (some ((8,((EC.decL qcu []),(⟨#[]⟩,(0,(⟨#[]⟩,r8.1))))),((8,((EC.decL qcu []),(⟨#[]⟩,(0,(⟨#[]⟩,r8.1))))),(r9.2.2.2.1,(r9.2.2.2.2.1,(r9.2.2.2.2.2.1,(r9.2.2.2.2.2.2.1,(r9.2.2.2.2.2.2.2.1,(r9.2.2.2.2.2.2.2.2.1,(r9.2.2.2.2.2.2.2.2.2.1,(r9.2.2.2.2.2.2.2.2.2.2.1,r9.2.2.2.2.2.2.2.2.2.2.2)))))))))))))
 ((q10z 2 (ByteArray.mk (List.toArray [101,120,105,115,116,115])) r7.2.2.1 r7.2.2.2.1 r7.2.2.2.2.1 r7.2.2.2.2.2.1 r7.2.2.2.2.2.2.1 r7.2.2.2.2.2.2.2.1 r7.2.2.2.2.2.2.2.2.1 r7.2.2.2.2.2.2.2.2.2.1 r7.2.2.2.2.2.2.2.2.2.2).bind λr8 =>
 (brE r8.1
 ((q13d 1 r8.2.2.1 r8.2.2.2.1 r8.2.2.2.2.1 r8.2.2.2.2.2.1 r8.2.2.2.2.2.2.1 r8.2.2.2.2.2.2.2.1 r8.2.2.2.2.2.2.2.2.1 r8.2.2.2.2.2.2.2.2.2.1 r8.2.2.2.2.2.2.2.2.2.2).bind λr9 =>
 ((q13k r9.2.2.1 r9.2.2.2.1 r9.2.2.2.2.1 r9.2.2.2.2.2.1 r9.2.2.2.2.2.2.1 r9.2.2.2.2.2.2.2.1 r9.2.2.2.2.2.2.2.2.1 r9.2.2.2.2.2.2.2.2.2.1 r9.2.2.2.2.2.2.2.2.2.2).bind λr10 =>
 (some ((9,((EC.decL qcu []),(r9.1,(0,(⟨#[]⟩,0))))),((9,((EC.decL qcu []),(r9.1,(0,(⟨#[]⟩,0))))),(r10.2.2.2.1,(r10.2.2.2.2.1,(r10.2.2.2.2.2.1,(r10.2.2.2.2.2.2.1,(r10.2.2.2.2.2.2.2.1,(r10.2.2.2.2.2.2.2.2.1,(r10.2.2.2.2.2.2.2.2.2.1,(r10.2.2.2.2.2.2.2.2.2.2.1,r10.2.2.2.2.2.2.2.2.2.2.2)))))))))))))
 ((q13k r8.2.2.1 r8.2.2.2.1 r8.2.2.2.2.1 r8.2.2.2.2.2.1 r8.2.2.2.2.2.2.1 true r8.2.2.2.2.2.2.2.2.1 r8.2.2.2.2.2.2.2.2.2.1 r8.2.2.2.2.2.2.2.2.2.2).bind λr9 =>
 (some ((0,((EC.decL qcu []),(⟨#[]⟩,(0,(⟨#[]⟩,0))))),((0,((EC.decL qcu []),(⟨#[]⟩,(0,(⟨#[]⟩,0))))),(r9.2.2.2.1,(r9.2.2.2.2.1,(r9.2.2.2.2.2.1,(r9.2.2.2.2.2.2.1,(r9.2.2.2.2.2.2.2.1,(r9.2.2.2.2.2.2.2.2.1,(r9.2.2.2.2.2.2.2.2.2.1,(r9.2.2.2.2.2.2.2.2.2.2.1,r9.2.2.2.2.2.2.2.2.2.2.2)))))))))))))))))))))))))))))))
theorem q13t {b0 b0_1 b0_2 b0_3 b0_4 b0_5 b0_6 b0_7 b0_8 r} (h:q13x b0 b0_1 b0_2 b0_3 b0_4 b0_5 b0_6 b0_7 b0_8=some r):q13r b0 b0_1 b0_2 b0_3 b0_4 b0_5 b0_6 b0_7 b0_8=some r :=
 qki (fn:=Tryz.f73) (es:=q1c6) (hs:=qmt) [] (by kernel_rfl) rfl (by kernel_rfl) (by kernel_rfl) (by kernel_rfl) (by kernel_rfl) (by kernel_rfl) (by kernel_rfl) trivial trivial (by kernel_rfl) h
def q10x:=sLS [0] z18 (qpl z12) [false] [0] (by decide) (λ_=>rfl)
def q10q:=sLS [0] z18 (qpj (qu4 (bBox (qpl (vPtr 1 0)))) (qpl z12)) [false,false] [0,1] (by decide) (λ_=>rfl)
def q10p:SC (Unit×(Unit×(BA×Int×Int×Int×BA×Bool×Int×Int×Int))):=sLS [] qpk (qpj (qu4 (bBox (qpl (vPtr 1 0)))) (qpl (qu4 (bBox (qpj (vC cStr) (qpj (vC (cInt .i64)) (qpj (vC (cInt .i64)) (qpj (vC (cInt .i64)) (qpj (vC cStr) (qpj (vC cBool) (qpj (vC (cInt .i64)) (qpj (vC (cInt .i64)) (qpl (vC (cInt .i64))))))))))))))) [false,false] [0,1] (by decide) (λ_=>rfl)
def q10o:HC (Unit×(Unit×(Unit×(BA×Int×Int×Int×BA×Bool×Int×Int×Int)))):=hPair (vTup qpk) q10p
def q10l (b1:BA) (b1_1 b1_2 b1_3:Int) (b1_4:BA) (b1_5:Bool) (b1_6 b1_7 b1_8:Int):=hS Tryz.prog lv X0 114 q10q q10o ((),((),(b1,b1_1,b1_2,b1_3,b1_4,b1_5,b1_6,b1_7,b1_8)))
def q10r (b1:BA) (b1_1 b1_2 b1_3:Int) (b1_4:BA) (b1_5:Bool) (b1_6 b1_7 b1_8:Int):Oq (Unit×(Unit×(Unit×(BA×Int×Int×Int×BA×Bool×Int×Int×Int)))) :=
 (some ((),((),((),(b1,(b1_1,(b1_2,(b1_3,(b1_4,(b1_5,(b1_6,((IntKind.wrap .i64 (b1_7 - 1)),b1_8))))))))))))
theorem q10n {b1 b1_1 b1_2 b1_3 b1_4 b1_5 b1_6 b1_7 b1_8 r} (h:q10r b1 b1_1 b1_2 b1_3 b1_4 b1_5 b1_6 b1_7 b1_8=some r):q10l b1 b1_1 b1_2 b1_3 b1_4 b1_5 b1_6 b1_7 b1_8=some r :=
 qkh (fn:=Tryz.f114) (es:=q1c6) (hs:=qmt) [] (by kernel_rfl) rfl (by kernel_rfl) (by kernel_rfl) trivial trivial (by kernel_rfl) h
def q10m:=hentS Tryz.prog lv X0 114 [0,3,0,0,1,1,3,1,0,1,9,1,3,1,1,1,1,1,1,1,3,1,2,1,1,1,1,1,1,0,1] q10q q10o (λx=>q10l x.2.2.1 x.2.2.2.1 x.2.2.2.2.1 x.2.2.2.2.2.1 x.2.2.2.2.2.2.1 x.2.2.2.2.2.2.2.1 x.2.2.2.2.2.2.2.2.1 x.2.2.2.2.2.2.2.2.2.1 x.2.2.2.2.2.2.2.2.2.2) (λ_ _ h=>qkg h)
def qmn:=q10m::qmt
def q10w:SC ((List S38)×(BA×Int×Int×Int×BA×Bool×Int×Int×Int)):=sLS [0] (qpl (vC (cSl qcw))) (qpl (qu4 (bBox (qpj (vC cStr) (qpj (vC (cInt .i64)) (qpj (vC (cInt .i64)) (qpj (vC (cInt .i64)) (qpj (vC cStr) (qpj (vC cBool) (qpj (vC (cInt .i64)) (qpj (vC (cInt .i64)) (qpl (vC (cInt .i64)))))))))))))) [false] [0] (by decide) (λ_=>rfl)
def q10v:HC ((List S38)×((List S38)×(BA×Int×Int×Int×BA×Bool×Int×Int×Int))):=hPair (vC (cSl qcw)) q10w
def q10s (b0:BA) (b0_1 b0_2 b0_3:Int) (b0_4:BA) (b0_5:Bool) (b0_6 b0_7 b0_8:Int):=hS Tryz.prog lv X0 74 q10x q10v ((),(b0,b0_1,b0_2,b0_3,b0_4,b0_5,b0_6,b0_7,b0_8))
def q10y (b0:BA) (b0_1 b0_2 b0_3:Int) (b0_4:BA) (b0_5:Bool) (b0_6 b0_7 b0_8:Int):Oq (L38×(L38×(BA×Int×Int×Int×BA×Bool×Int×Int×Int))) :=
 ((q11z (ByteArray.mk (List.toArray [123])) b0 b0_1 b0_2 b0_3 b0_4 b0_5 b0_6 b0_7 b0_8).bind λr0 =>
 ((q12z r0.2.2.1 r0.2.2.2.1 r0.2.2.2.2.1 r0.2.2.2.2.2.1 r0.2.2.2.2.2.2.1 r0.2.2.2.2.2.2.2.1 r0.2.2.2.2.2.2.2.2.1 (wI r0.2.2.2.2.2.2.2.2.2.1) r0.2.2.2.2.2.2.2.2.2.2).bind λr1 =>
 ((q11z (ByteArray.mk (List.toArray [125])) r1.2.2.1 r1.2.2.2.1 r1.2.2.2.2.1 r1.2.2.2.2.2.1 r1.2.2.2.2.2.2.1 r1.2.2.2.2.2.2.2.1 r1.2.2.2.2.2.2.2.2.1 r1.2.2.2.2.2.2.2.2.2.1 r1.2.2.2.2.2.2.2.2.2.2).bind λr2 =>
 ((q10l r2.2.2.1 r2.2.2.2.1 r2.2.2.2.2.1 r2.2.2.2.2.2.1 r2.2.2.2.2.2.2.1 r2.2.2.2.2.2.2.2.1 r2.2.2.2.2.2.2.2.2.1 r2.2.2.2.2.2.2.2.2.2.1 r2.2.2.2.2.2.2.2.2.2.2).bind λr3 =>
 (gL qcw r1.1<|
 (gL qcw r1.1<|
 (some ((dL qcw r1.1),((dL qcw r1.1),(r3.2.2.2.1,(r3.2.2.2.2.1,(r3.2.2.2.2.2.1,(r3.2.2.2.2.2.2.1,(r3.2.2.2.2.2.2.2.1,(r3.2.2.2.2.2.2.2.2.1,(r3.2.2.2.2.2.2.2.2.2.1,(r3.2.2.2.2.2.2.2.2.2.2.1,r3.2.2.2.2.2.2.2.2.2.2.2)))))))))))))))))
theorem q10u {b0 b0_1 b0_2 b0_3 b0_4 b0_5 b0_6 b0_7 b0_8 r} (h:q10y b0 b0_1 b0_2 b0_3 b0_4 b0_5 b0_6 b0_7 b0_8=some r):q10s b0 b0_1 b0_2 b0_3 b0_4 b0_5 b0_6 b0_7 b0_8=some r :=
 qki (fn:=Tryz.f74) (es:=q1c6) (hs:=qmn) [] (by kernel_rfl) rfl (by kernel_rfl) (by kernel_rfl) (by kernel_rfl) (by kernel_rfl) (by kernel_rfl) (by kernel_rfl) trivial trivial (by kernel_rfl) h
def q10t:=hentS Tryz.prog lv X0 74 [0,3,0,0,1,9,1,3,1,1,1,1,1,1,1,3,1,2,1,1,1,1,1,1,0] q10x q10v (λx=>q10s x.2.1 x.2.2.1 x.2.2.2.1 x.2.2.2.2.1 x.2.2.2.2.2.1 x.2.2.2.2.2.2.1 x.2.2.2.2.2.2.2.1 x.2.2.2.2.2.2.2.2.1 x.2.2.2.2.2.2.2.2.2) (λ_ _ h=>qkg h)
def qmo:=q10t::qmn
def qzm:=sLS [0] z18 (qpl z12) [false] [0] (by decide) (λ_=>rfl)
abbrev z14:=(qpj z12 (qpj (qu4 (bBox (qpj z13 (qpj z13 (qpj (vRow 3) (qpj (vC cStr) (qpj z13 (qpj (vC cStr) (qpj z13 (qpj (vRow 4) (qpj (vRow 5) (qpj z13 (qpj (vC cStr) (qpj (vC cStr) (qpl z13))))))))))))))) (qpj (qu4 (bBox (qpj z13 (qpj z13 (qpj (vRow 6) (qpj (vC cStr) (qpj z13 (qpj (vC cStr) (qpj z13 (qpj (vRow 7) (qpj (vRow 8) (qpj z13 (qpj (vC cStr) (qpj (vC cStr) (qpl z13))))))))))))))) (qpj (qu4 (bRow qcu)) (qpj (qu4 (bRow qcw)) (qpj (qu4 (bRow qcw)) (qpj (qu4 (bRow qcu)) (qpj (qu4 (bRow qcw)) (qpl (qu4 (bRow qcw)))))))))))
def qzi:=sLS [0,2,3,7,8] (qpj (vPtr 0 0) (qpj (vPtr 1 0) (qpj (vPtr 2 0) (qpj z16 (qpl z13))))) z14 [false,false,false,false,false,false,false,false,false] [0] (by decide) (λ_=>rfl)
def qzh:=sLS [0,2,3,7,8,9] (qpj (vPtr 0 0) (qpj (vPtr 1 0) (qpj (vPtr 2 0) (qpj z16 (qpj z13 z1a))))) z14 [false,false,false,false,false,false,false,false,false] [0] (by decide) (λ_=>rfl)
def qzg:=sLS [2] z18 (qpj (qu4 (bBox (qpj z13 (qpj z13 (qpj (vRow 2) (qpj (vC cStr) (qpj z13 (qpj (vC cStr) (qpj z13 (qpj (vRow 3) (qpj (vRow 4) (qpj z13 (qpj (vC cStr) (qpj (vC cStr) (qpl z13))))))))))))))) (qpj z12 (qpj (qu4 (bRow qcu)) (qpj (qu4 (bRow qcw)) (qpl (qu4 (bRow qcw))))))) [false,false,false,false,false] [1] (by decide) (λ_=>rfl)
def qzf:=oOr 1 qzg (oAt 2 qzh) (λx=>(by decide:(2:Nat)≠1))
def qzc (t7 t7_1:BA) (t7_2 t7_3:BA) (t7_4 t7_5 t7_6:BA) (t8:Int) (b0:BA) (b0_1 b0_2 b0_3:Int) (b0_4:BA) (b0_5:Bool) (b0_6 b0_7:Int) (b0_8 b1 b1_1:Int) (b1_2:Nat) (b1_3:BA) (b1_4:Int) (b1_5:BA) (b1_6:Int) (b1_7 b1_8:Nat) (b1_9:Int) (b1_10 b1_11:BA) (b1_12 b2 b2_1:Int) (b2_2:Nat) (b2_3:BA) (b2_4:Int) (b2_5:BA) (b2_6:Int) (b2_7 b2_8:Nat) (b2_9:Int) (b2_10 b2_11:BA) (b2_12:Int) (b3:L35) (b4 b5:L38) (b6:L35) (b7 b8:L38):=lS Tryz.prog lv X0 77 41 (qk8 (cdF Tryz.f77) 3) qzi qzf (((),(),(),(t7,t7_1,t7_2,t7_3,t7_4,t7_5,t7_6),t8),((b0,b0_1,b0_2,b0_3,b0_4,b0_5,b0_6,b0_7,b0_8),(b1,b1_1,b1_2,b1_3,b1_4,b1_5,b1_6,b1_7,b1_8,b1_9,b1_10,b1_11,b1_12),(b2,b2_1,b2_2,b2_3,b2_4,b2_5,b2_6,b2_7,b2_8,b2_9,b2_10,b2_11,b2_12),b3,b4,b5,b6,b7,b8))
def qzj (t7 t7_1:BA) (t7_2 t7_3:BA) (t7_4 t7_5 t7_6:BA) (t8:Int) (b0:BA) (b0_1 b0_2 b0_3:Int) (b0_4:BA) (b0_5:Bool) (b0_6 b0_7:Int) (b0_8 b1 b1_1:Int) (b1_2:Nat) (b1_3:BA) (b1_4:Int) (b1_5:BA) (b1_6:Int) (b1_7 b1_8:Nat) (b1_9:Int) (b1_10 b1_11:BA) (b1_12 b2 b2_1:Int) (b2_2:Nat) (b2_3:BA) (b2_4:Int) (b2_5:BA) (b2_6:Int) (b2_7 b2_8:Nat) (b2_9:Int) (b2_10 b2_11:BA) (b2_12:Int) (b3:L35) (b4 b5:L38) (b6:L35) (b7 b8:L38):Oq ((Unit×((Int×Int×Nat×BA×Int×BA×Int×Nat×Nat×Int×BA×BA×Int)×(BA×Int×Int×Int×BA×Bool×Int×Int×Int)×L35×L38×L38))⊕((Unit×Unit×Unit×(BA×BA×BA×BA×BA×BA×BA)×Int×Bool)×((BA×Int×Int×Int×BA×Bool×Int×Int×Int)×(Int×Int×Nat×BA×Int×BA×Int×Nat×Nat×Int×BA×BA×Int)×(Int×Int×Nat×BA×Int×BA×Int×Nat×Nat×Int×BA×BA×Int)×L35×L38×L38×L35×L38×L38))) :=
 (brE (decide (t8<7))
 (gdE (((p0 t8)&&(decide (t8<((7:Nat):Int))))&&(decide ((Int.toNat t8)<(List.length [t7,t7_1,t7_2,t7_3,t7_4,t7_5,t7_6]))))<|
 ((q10z 2 (List.getD [t7,t7_1,t7_2,t7_3,t7_4,t7_5,t7_6] (Int.toNat t8) ByteArray.empty) b0 b0_1 b0_2 b0_3 b0_4 b0_5 b0_6 b0_7 b0_8).bind λr0 =>
 (brE (!r0.1)
 (gL qcu b3<|
 (gL qcw b4<|
 (gL qcw b5<|
 (gL qcu b6<|
 (gL qcw b7<|
 (gL qcw b8<|
 (qzc t7 t7_1 t7_2 t7_3 t7_4 t7_5 t7_6 (wI t8) r0.2.2.1 r0.2.2.2.1 r0.2.2.2.2.1 r0.2.2.2.2.2.1 r0.2.2.2.2.2.2.1 r0.2.2.2.2.2.2.2.1 r0.2.2.2.2.2.2.2.2.1 r0.2.2.2.2.2.2.2.2.2.1 r0.2.2.2.2.2.2.2.2.2.2 b1 b1_1 b1_2 b1_3 b1_4 b1_5 b1_6 b1_7 b1_8 b1_9 b1_10 b1_11 b1_12 b2 b2_1 b2_2 b2_3 b2_4 b2_5 b2_6 b2_7 b2_8 b2_9 b2_10 b2_11 b2_12 (dL qcu b3) (dL qcw b4) (dL qcw b5) (dL qcu b6) (dL qcw b7) (dL qcw b8))))))))
 (brE ((wI t8)==6)
 ((q126 r0.2.2.1 r0.2.2.2.1 r0.2.2.2.2.1 r0.2.2.2.2.2.1 r0.2.2.2.2.2.2.1 r0.2.2.2.2.2.2.2.1 r0.2.2.2.2.2.2.2.2.1 r0.2.2.2.2.2.2.2.2.2.1 r0.2.2.2.2.2.2.2.2.2.2).bind λr1 =>
 ((q11z (ByteArray.mk (List.toArray [59])) r1.2.2.1 r1.2.2.2.1 r1.2.2.2.2.1 r1.2.2.2.2.2.1 r1.2.2.2.2.2.2.1 r1.2.2.2.2.2.2.2.1 r1.2.2.2.2.2.2.2.2.1 r1.2.2.2.2.2.2.2.2.2.1 r1.2.2.2.2.2.2.2.2.2.2).bind λr2 =>
 (gL qcu b6<|
 (gL qcw b7<|
 (gL qcw b8<|
 (some (.inl ((),((b2,(b2_1,(b2_2,(b2_3,(b2_4,(b2_5,(b2_6,(b2_7,(b2_8,((wI t8),(b2_10,(b2_11,r1.1)))))))))))),((r2.2.2.1,(r2.2.2.2.1,(r2.2.2.2.2.1,(r2.2.2.2.2.2.1,(r2.2.2.2.2.2.2.1,(r2.2.2.2.2.2.2.2.1,(r2.2.2.2.2.2.2.2.2.1,(r2.2.2.2.2.2.2.2.2.2.1,r2.2.2.2.2.2.2.2.2.2.2)))))))),((dL qcu b6),((dL qcw b7),(dL qcw b8)))))))))))))
 ((q142 (wI t8)).bind λr1 =>
 (brE r1
 ((q13d 1 r0.2.2.1 r0.2.2.2.1 r0.2.2.2.2.1 r0.2.2.2.2.2.1 r0.2.2.2.2.2.2.1 r0.2.2.2.2.2.2.2.1 r0.2.2.2.2.2.2.2.2.1 r0.2.2.2.2.2.2.2.2.2.1 r0.2.2.2.2.2.2.2.2.2.2).bind λr2 =>
 ((q11z (ByteArray.mk (List.toArray [59])) r2.2.2.1 r2.2.2.2.1 r2.2.2.2.2.1 r2.2.2.2.2.2.1 r2.2.2.2.2.2.2.1 r2.2.2.2.2.2.2.2.1 r2.2.2.2.2.2.2.2.2.1 r2.2.2.2.2.2.2.2.2.2.1 r2.2.2.2.2.2.2.2.2.2.2).bind λr3 =>
 (gL qcu b6<|
 (gL qcw b7<|
 (gL qcw b8<|
 (some (.inl ((),((b2,(b2_1,(b2_2,(b2_3,(b2_4,(b2_5,(b2_6,(b2_7,(b2_8,((wI t8),(b2_10,(r2.1,b2_12)))))))))))),((r3.2.2.1,(r3.2.2.2.1,(r3.2.2.2.2.1,(r3.2.2.2.2.2.1,(r3.2.2.2.2.2.2.1,(r3.2.2.2.2.2.2.2.1,(r3.2.2.2.2.2.2.2.2.1,(r3.2.2.2.2.2.2.2.2.2.1,r3.2.2.2.2.2.2.2.2.2.2)))))))),((dL qcu b6),((dL qcw b7),(dL qcw b8)))))))))))))
 ((q11z (ByteArray.mk (List.toArray [59])) r0.2.2.1 r0.2.2.2.1 r0.2.2.2.2.1 r0.2.2.2.2.2.1 r0.2.2.2.2.2.2.1 r0.2.2.2.2.2.2.2.1 r0.2.2.2.2.2.2.2.2.1 r0.2.2.2.2.2.2.2.2.2.1 r0.2.2.2.2.2.2.2.2.2.2).bind λr2 =>
 (gL qcu b6<|
 (gL qcw b7<|
 (gL qcw b8<|
 (some (.inl ((),((b2,(b2_1,(b2_2,(b2_3,(b2_4,(b2_5,(b2_6,(b2_7,(b2_8,((wI t8),(b2_10,(b2_11,b2_12)))))))))))),((r2.2.2.1,(r2.2.2.2.1,(r2.2.2.2.2.1,(r2.2.2.2.2.2.1,(r2.2.2.2.2.2.2.1,(r2.2.2.2.2.2.2.2.1,(r2.2.2.2.2.2.2.2.2.1,(r2.2.2.2.2.2.2.2.2.2.1,r2.2.2.2.2.2.2.2.2.2.2)))))))),((dL qcu b6),((dL qcw b7),(dL qcw b8))))))))))))))))))
 (gL qcu b3<|
 (gL qcw b4<|
 (gL qcw b5<|
 (gL qcu b6<|
 (gL qcw b7<|
 (gL qcw b8<|
 (some (.inr (((),((),((),((t7,(t7_1,(t7_2,(t7_3,(t7_4,(t7_5,t7_6)))))),(t8,false))))),((b0,(b0_1,(b0_2,(b0_3,(b0_4,(b0_5,(b0_6,(b0_7,b0_8)))))))),((b1,(b1_1,(b1_2,(b1_3,(b1_4,(b1_5,(b1_6,(b1_7,(b1_8,(b1_9,(b1_10,(b1_11,b1_12)))))))))))),((b2,(b2_1,(b2_2,(b2_3,(b2_4,(b2_5,(b2_6,(b2_7,(b2_8,(b2_9,(b2_10,(b2_11,b2_12)))))))))))),((dL qcu b3),((dL qcw b4),((dL qcw b5),((dL qcu b6),((dL qcw b7),(dL qcw b8)))))))))))))))))))
theorem qze {t7 t7_1 t7_2 t7_3 t7_4 t7_5 t7_6 t8 b0 b0_1 b0_2 b0_3 b0_4 b0_5 b0_6 b0_7 b0_8 b1 b1_1 b1_2 b1_3 b1_4 b1_5 b1_6 b1_7 b1_8 b1_9 b1_10 b1_11 b1_12 b2 b2_1 b2_2 b2_3 b2_4 b2_5 b2_6 b2_7 b2_8 b2_9 b2_10 b2_11 b2_12 b3 b4 b5 b6 b7 b8 r} (h:qzj t7 t7_1 t7_2 t7_3 t7_4 t7_5 t7_6 t8 b0 b0_1 b0_2 b0_3 b0_4 b0_5 b0_6 b0_7 b0_8 b1 b1_1 b1_2 b1_3 b1_4 b1_5 b1_6 b1_7 b1_8 b1_9 b1_10 b1_11 b1_12 b2 b2_1 b2_2 b2_3 b2_4 b2_5 b2_6 b2_7 b2_8 b2_9 b2_10 b2_11 b2_12 b3 b4 b5 b6 b7 b8=some r):qzc t7 t7_1 t7_2 t7_3 t7_4 t7_5 t7_6 t8 b0 b0_1 b0_2 b0_3 b0_4 b0_5 b0_6 b0_7 b0_8 b1 b1_1 b1_2 b1_3 b1_4 b1_5 b1_6 b1_7 b1_8 b1_9 b1_10 b1_11 b1_12 b2 b2_1 b2_2 b2_3 b2_4 b2_5 b2_6 b2_7 b2_8 b2_9 b2_10 b2_11 b2_12 b3 b4 b5 b6 b7 b8=some r :=
 qpn (es:=q1c6) (hs:=qmo) [] (by kernel_rfl) trivial trivial (by kernel_rfl) h
def qzd:=qqh Tryz.prog lv X0 3 (qk8 (cdF Tryz.f77) 3) qzi qzf (λx=>qzc x.1.2.2.2.1.1 x.1.2.2.2.1.2.1 x.1.2.2.2.1.2.2.1 x.1.2.2.2.1.2.2.2.1 x.1.2.2.2.1.2.2.2.2.1 x.1.2.2.2.1.2.2.2.2.2.1 x.1.2.2.2.1.2.2.2.2.2.2 x.1.2.2.2.2 x.2.1.1 x.2.1.2.1 x.2.1.2.2.1 x.2.1.2.2.2.1 x.2.1.2.2.2.2.1 x.2.1.2.2.2.2.2.1 x.2.1.2.2.2.2.2.2.1 x.2.1.2.2.2.2.2.2.2.1 x.2.1.2.2.2.2.2.2.2.2 x.2.2.1.1 x.2.2.1.2.1 x.2.2.1.2.2.1 x.2.2.1.2.2.2.1 x.2.2.1.2.2.2.2.1 x.2.2.1.2.2.2.2.2.1 x.2.2.1.2.2.2.2.2.2.1 x.2.2.1.2.2.2.2.2.2.2.1 x.2.2.1.2.2.2.2.2.2.2.2.1 x.2.2.1.2.2.2.2.2.2.2.2.2.1 x.2.2.1.2.2.2.2.2.2.2.2.2.2.1 x.2.2.1.2.2.2.2.2.2.2.2.2.2.2.1 x.2.2.1.2.2.2.2.2.2.2.2.2.2.2.2 x.2.2.2.1.1 x.2.2.2.1.2.1 x.2.2.2.1.2.2.1 x.2.2.2.1.2.2.2.1 x.2.2.2.1.2.2.2.2.1 x.2.2.2.1.2.2.2.2.2.1 x.2.2.2.1.2.2.2.2.2.2.1 x.2.2.2.1.2.2.2.2.2.2.2.1 x.2.2.2.1.2.2.2.2.2.2.2.2.1 x.2.2.2.1.2.2.2.2.2.2.2.2.2.1 x.2.2.2.1.2.2.2.2.2.2.2.2.2.2.1 x.2.2.2.1.2.2.2.2.2.2.2.2.2.2.2.1 x.2.2.2.1.2.2.2.2.2.2.2.2.2.2.2.2 x.2.2.2.2.1 x.2.2.2.2.2.1 x.2.2.2.2.2.2.1 x.2.2.2.2.2.2.2.1 x.2.2.2.2.2.2.2.2.1 x.2.2.2.2.2.2.2.2.2) (λ_ _ h=>qpm h)
def qzl:SC ((Int×Int×(List S35)×BA×Int×BA×Int×(List S38)×(List S38)×Int×BA×BA×Int)×(BA×Int×Int×Int×BA×Bool×Int×Int×Int)):=sLS [0] (qpl (vAgg (qpj (vC (cInt .i64)) (qpj (vC (cInt .i64)) (qpj (vC (cSl qcu)) (qpj (vC cStr) (qpj (vC (cInt .i64)) (qpj (vC cStr) (qpj (vC (cInt .i64)) (qpj (vC (cSl qcw)) (qpj (vC (cSl qcw)) (qpj (vC (cInt .i64)) (qpj (vC cStr) (qpj (vC cStr) (qpl (vC (cInt .i64))))))))))))))))) (qpl (qu4 (bBox (qpj (vC cStr) (qpj (vC (cInt .i64)) (qpj (vC (cInt .i64)) (qpj (vC (cInt .i64)) (qpj (vC cStr) (qpj (vC cBool) (qpj (vC (cInt .i64)) (qpj (vC (cInt .i64)) (qpl (vC (cInt .i64)))))))))))))) [false] [0] (by decide) (λ_=>rfl)
def qzk:HC ((Int×Int×(List S35)×BA×Int×BA×Int×(List S38)×(List S38)×Int×BA×BA×Int)×((Int×Int×(List S35)×BA×Int×BA×Int×(List S38)×(List S38)×Int×BA×BA×Int)×(BA×Int×Int×Int×BA×Bool×Int×Int×Int))):=hPair (vAgg (qpj (vC (cInt .i64)) (qpj (vC (cInt .i64)) (qpj (vC (cSl qcu)) (qpj (vC cStr) (qpj (vC (cInt .i64)) (qpj (vC cStr) (qpj (vC (cInt .i64)) (qpj (vC (cSl qcw)) (qpj (vC (cSl qcw)) (qpj (vC (cInt .i64)) (qpj (vC cStr) (qpj (vC cStr) (qpl (vC (cInt .i64)))))))))))))))) qzl
def qz9 (b0:BA) (b0_1 b0_2 b0_3:Int) (b0_4:BA) (b0_5:Bool) (b0_6 b0_7 b0_8:Int):=hS Tryz.prog lv X0 77 qzm qzk ((),(b0,b0_1,b0_2,b0_3,b0_4,b0_5,b0_6,b0_7,b0_8))
def qzn (b0:BA) (b0_1 b0_2 b0_3:Int) (b0_4:BA) (b0_5:Bool) (b0_6 b0_7 b0_8:Int):Oq ((Int×Int×L35×BA×Int×BA×Int×L38×L38×Int×BA×BA×Int)×((Int×Int×L35×BA×Int×BA×Int×L38×L38×Int×BA×BA×Int)×(BA×Int×Int×Int×BA×Bool×Int×Int×Int))) :=
 (Option.bind qz1 λr0 =>
 ((qzc r0.1 r0.2.1 r0.2.2.1 r0.2.2.2.1 r0.2.2.2.2.1 r0.2.2.2.2.2.1 r0.2.2.2.2.2.2 0 b0 b0_1 b0_2 b0_3 b0_4 b0_5 b0_6 b0_7 b0_8 0 0 0 ⟨#[]⟩ 0 ⟨#[]⟩ 0 0 0 0 ⟨#[]⟩ ⟨#[]⟩ 0 2 0 0 ⟨#[]⟩ 0 ⟨#[]⟩ 0 0 0 0 ⟨#[]⟩ ⟨#[]⟩ 0 (EC.decL qcu []) (EC.decL qcw []) (EC.decL qcw []) (EC.decL qcu []) (EC.decL qcw []) (EC.decL qcw [])).bind λr1 =>
 (Sum.elim (λr2=>(gdE (EC.isL qcu (EC.encL qcu r2.2.2.2.1))<|
 (gL qcw r2.2.2.2.2.1<|
 (gL qcw r2.2.2.2.2.2<|
 (gL qcu r2.2.2.2.1<|
 (gL qcw r2.2.2.2.2.1<|
 (gL qcw r2.2.2.2.2.2<|
 (some ((r2.2.1.1,(r2.2.1.2.1,((dL qcu r2.2.2.2.1),(r2.2.1.2.2.2.1,(r2.2.1.2.2.2.2.1,(r2.2.1.2.2.2.2.2.1,(r2.2.1.2.2.2.2.2.2.1,((dL qcw r2.2.2.2.2.1),((dL qcw r2.2.2.2.2.2),(r2.2.1.2.2.2.2.2.2.2.2.2.1,(r2.2.1.2.2.2.2.2.2.2.2.2.2.1,(r2.2.1.2.2.2.2.2.2.2.2.2.2.2.1,r2.2.1.2.2.2.2.2.2.2.2.2.2.2.2)))))))))))),((r2.2.1.1,(r2.2.1.2.1,((dL qcu r2.2.2.2.1),(r2.2.1.2.2.2.1,(r2.2.1.2.2.2.2.1,(r2.2.1.2.2.2.2.2.1,(r2.2.1.2.2.2.2.2.2.1,((dL qcw r2.2.2.2.2.1),((dL qcw r2.2.2.2.2.2),(r2.2.1.2.2.2.2.2.2.2.2.2.1,(r2.2.1.2.2.2.2.2.2.2.2.2.2.1,(r2.2.1.2.2.2.2.2.2.2.2.2.2.2.1,r2.2.1.2.2.2.2.2.2.2.2.2.2.2.2)))))))))))),(r2.2.2.1.1,(r2.2.2.1.2.1,(r2.2.2.1.2.2.1,(r2.2.2.1.2.2.2.1,(r2.2.2.1.2.2.2.2.1,(r2.2.2.1.2.2.2.2.2.1,(r2.2.2.1.2.2.2.2.2.2.1,(r2.2.2.1.2.2.2.2.2.2.2.1,r2.2.2.1.2.2.2.2.2.2.2.2))))))))))))))))))
 (λr2=>(gdE (EC.isL qcu (EC.encL qcu r2.2.2.2.2.2.2.2.1))<|
 (gL qcw r2.2.2.2.2.2.2.2.2.1<|
 (gL qcw r2.2.2.2.2.2.2.2.2.2<|
 (gL qcu r2.2.2.2.2.2.2.2.1<|
 (gL qcw r2.2.2.2.2.2.2.2.2.1<|
 (gL qcw r2.2.2.2.2.2.2.2.2.2<|
 (some ((r2.2.2.2.1.1,(r2.2.2.2.1.2.1,((dL qcu r2.2.2.2.2.2.2.2.1),(r2.2.2.2.1.2.2.2.1,(r2.2.2.2.1.2.2.2.2.1,(r2.2.2.2.1.2.2.2.2.2.1,(r2.2.2.2.1.2.2.2.2.2.2.1,((dL qcw r2.2.2.2.2.2.2.2.2.1),((dL qcw r2.2.2.2.2.2.2.2.2.2),(r2.2.2.2.1.2.2.2.2.2.2.2.2.2.1,(r2.2.2.2.1.2.2.2.2.2.2.2.2.2.2.1,(r2.2.2.2.1.2.2.2.2.2.2.2.2.2.2.2.1,r2.2.2.2.1.2.2.2.2.2.2.2.2.2.2.2.2)))))))))))),((r2.2.2.2.1.1,(r2.2.2.2.1.2.1,((dL qcu r2.2.2.2.2.2.2.2.1),(r2.2.2.2.1.2.2.2.1,(r2.2.2.2.1.2.2.2.2.1,(r2.2.2.2.1.2.2.2.2.2.1,(r2.2.2.2.1.2.2.2.2.2.2.1,((dL qcw r2.2.2.2.2.2.2.2.2.1),((dL qcw r2.2.2.2.2.2.2.2.2.2),(r2.2.2.2.1.2.2.2.2.2.2.2.2.2.1,(r2.2.2.2.1.2.2.2.2.2.2.2.2.2.2.1,(r2.2.2.2.1.2.2.2.2.2.2.2.2.2.2.2.1,r2.2.2.2.1.2.2.2.2.2.2.2.2.2.2.2.2)))))))))))),(r2.2.1.1,(r2.2.1.2.1,(r2.2.1.2.2.1,(r2.2.1.2.2.2.1,(r2.2.1.2.2.2.2.1,(true,(r2.2.1.2.2.2.2.2.2.1,(r2.2.1.2.2.2.2.2.2.2.1,r2.2.1.2.2.2.2.2.2.2.2)))))))))))))))))) r1)))
theorem qzb {b0 b0_1 b0_2 b0_3 b0_4 b0_5 b0_6 b0_7 b0_8 r} (h:qzn b0 b0_1 b0_2 b0_3 b0_4 b0_5 b0_6 b0_7 b0_8=some r):qz9 b0 b0_1 b0_2 b0_3 b0_4 b0_5 b0_6 b0_7 b0_8=some r :=
 qkh (fn:=Tryz.f77) (es:=q1c6) (hs:=qmo) [qzd] (by kernel_rfl) rfl (by kernel_rfl) (by kernel_rfl) ⟨⟨_,rfl,rfl⟩,trivial⟩ trivial (by kernel_rfl) h
def qza:=hentS Tryz.prog lv X0 77 [0,3,0,0,1,9,1,3,1,1,1,1,1,1,1,3,1,2,1,1,1,1,1,1,0] qzm qzk (λx=>qz9 x.2.1 x.2.2.1 x.2.2.2.1 x.2.2.2.2.1 x.2.2.2.2.2.1 x.2.2.2.2.2.2.1 x.2.2.2.2.2.2.2.1 x.2.2.2.2.2.2.2.2.1 x.2.2.2.2.2.2.2.2.2) (λ_ _ h=>qkg h)
def qml:=qza::qmo
def q12y (b0:BA) (b0_1 b0_2 b0_3:Int) (b0_4:BA) (b0_5:Bool) (b0_6 b0_7 b0_8:Int):Oq ((Int×Int×L35×BA×Int×BA×Int×L38×L38×Int×BA×BA×Int)×((Int×Int×L35×BA×Int×BA×Int×L38×L38×Int×BA×BA×Int)×(BA×Int×Int×Int×BA×Bool×Int×Int×Int))) :=
 (brE ((decide ((wI b0_6)>100))==false)
 (brE (decide (b0_7>8))
 (some ((0,(0,((EC.decL qcu []),(⟨#[]⟩,(0,(⟨#[]⟩,(0,((EC.decL qcw []),((EC.decL qcw []),(0,(⟨#[]⟩,(⟨#[]⟩,0)))))))))))),((0,(0,((EC.decL qcu []),(⟨#[]⟩,(0,(⟨#[]⟩,(0,((EC.decL qcw []),((EC.decL qcw []),(0,(⟨#[]⟩,(⟨#[]⟩,0)))))))))))),(b0,(b0_1,(b0_2,(b0_3,(b0_4,(true,((wI b0_6),(b0_7,b0_8)))))))))))
 ((q10z 2 (ByteArray.mk (List.toArray [105,102])) b0 b0_1 b0_2 b0_3 b0_4 b0_5 (wI b0_6) b0_7 b0_8).bind λr0 =>
 (brE r0.1
 ((q13r r0.2.2.1 r0.2.2.2.1 r0.2.2.2.2.1 r0.2.2.2.2.2.1 r0.2.2.2.2.2.2.1 r0.2.2.2.2.2.2.2.1 r0.2.2.2.2.2.2.2.2.1 r0.2.2.2.2.2.2.2.2.2.1 r0.2.2.2.2.2.2.2.2.2.2).bind λr1 =>
 ((q10s r1.2.2.1 r1.2.2.2.1 r1.2.2.2.2.1 r1.2.2.2.2.2.1 r1.2.2.2.2.2.2.1 r1.2.2.2.2.2.2.2.1 r1.2.2.2.2.2.2.2.2.1 r1.2.2.2.2.2.2.2.2.2.1 r1.2.2.2.2.2.2.2.2.2.2).bind λr2 =>
 ((q10z 2 (ByteArray.mk (List.toArray [101,108,115,101])) r2.2.2.1 r2.2.2.2.1 r2.2.2.2.2.1 r2.2.2.2.2.2.1 r2.2.2.2.2.2.2.1 r2.2.2.2.2.2.2.2.1 r2.2.2.2.2.2.2.2.2.1 r2.2.2.2.2.2.2.2.2.2.1 r2.2.2.2.2.2.2.2.2.2.2).bind λr3 =>
 (brE r3.1
 ((q10s r3.2.2.1 r3.2.2.2.1 r3.2.2.2.2.1 r3.2.2.2.2.2.1 r3.2.2.2.2.2.2.1 r3.2.2.2.2.2.2.2.1 r3.2.2.2.2.2.2.2.2.1 r3.2.2.2.2.2.2.2.2.2.1 r3.2.2.2.2.2.2.2.2.2.2).bind λr4 =>
 (gL qcu r1.1.2.1<|
 (gL qcw r2.1<|
 (gL qcw r4.1<|
 (gL qcu r1.1.2.1<|
 (gL qcw r2.1<|
 (gL qcw r4.1<|
 (some ((1,(r1.1.1,((dL qcu r1.1.2.1),(r1.1.2.2.1,(r1.1.2.2.2.1,(r1.1.2.2.2.2.1,(r1.1.2.2.2.2.2,((dL qcw r2.1),((dL qcw r4.1),(0,(⟨#[]⟩,(⟨#[]⟩,0)))))))))))),((1,(r1.1.1,((dL qcu r1.1.2.1),(r1.1.2.2.1,(r1.1.2.2.2.1,(r1.1.2.2.2.2.1,(r1.1.2.2.2.2.2,((dL qcw r2.1),((dL qcw r4.1),(0,(⟨#[]⟩,(⟨#[]⟩,0)))))))))))),(r4.2.2.1,(r4.2.2.2.1,(r4.2.2.2.2.1,(r4.2.2.2.2.2.1,(r4.2.2.2.2.2.2.1,(r4.2.2.2.2.2.2.2.1,(r4.2.2.2.2.2.2.2.2.1,(r4.2.2.2.2.2.2.2.2.2.1,r4.2.2.2.2.2.2.2.2.2.2))))))))))))))))))
 (gL qcu r1.1.2.1<|
 (gL qcw r2.1<|
 (gL qcu r1.1.2.1<|
 (gL qcw r2.1<|
 (some ((1,(r1.1.1,((dL qcu r1.1.2.1),(r1.1.2.2.1,(r1.1.2.2.2.1,(r1.1.2.2.2.2.1,(r1.1.2.2.2.2.2,((dL qcw r2.1),((EC.decL qcw []),(0,(⟨#[]⟩,(⟨#[]⟩,0)))))))))))),((1,(r1.1.1,((dL qcu r1.1.2.1),(r1.1.2.2.1,(r1.1.2.2.2.1,(r1.1.2.2.2.2.1,(r1.1.2.2.2.2.2,((dL qcw r2.1),((EC.decL qcw []),(0,(⟨#[]⟩,(⟨#[]⟩,0)))))))))))),(r3.2.2.1,(r3.2.2.2.1,(r3.2.2.2.2.1,(r3.2.2.2.2.2.1,(r3.2.2.2.2.2.2.1,(r3.2.2.2.2.2.2.2.1,(r3.2.2.2.2.2.2.2.2.1,(r3.2.2.2.2.2.2.2.2.2.1,r3.2.2.2.2.2.2.2.2.2.2)))))))))))))))))))
 ((q10z 2 (ByteArray.mk (List.toArray [115,101,116])) r0.2.2.1 r0.2.2.2.1 r0.2.2.2.2.1 r0.2.2.2.2.2.1 r0.2.2.2.2.2.2.1 r0.2.2.2.2.2.2.2.1 r0.2.2.2.2.2.2.2.2.1 r0.2.2.2.2.2.2.2.2.2.1 r0.2.2.2.2.2.2.2.2.2.2).bind λr1 =>
 (brE r1.1
 ((q13d 2 r1.2.2.1 r1.2.2.2.1 r1.2.2.2.2.1 r1.2.2.2.2.2.1 r1.2.2.2.2.2.2.1 r1.2.2.2.2.2.2.2.1 r1.2.2.2.2.2.2.2.2.1 r1.2.2.2.2.2.2.2.2.2.1 r1.2.2.2.2.2.2.2.2.2.2).bind λr2 =>
 ((q13d 1 r2.2.2.1 r2.2.2.2.1 r2.2.2.2.2.1 r2.2.2.2.2.2.1 r2.2.2.2.2.2.2.1 r2.2.2.2.2.2.2.2.1 r2.2.2.2.2.2.2.2.2.1 r2.2.2.2.2.2.2.2.2.2.1 r2.2.2.2.2.2.2.2.2.2.2).bind λr3 =>
 ((q11z (ByteArray.mk (List.toArray [59])) r3.2.2.1 r3.2.2.2.1 r3.2.2.2.2.1 r3.2.2.2.2.2.1 r3.2.2.2.2.2.2.1 r3.2.2.2.2.2.2.2.1 r3.2.2.2.2.2.2.2.2.1 r3.2.2.2.2.2.2.2.2.2.1 r3.2.2.2.2.2.2.2.2.2.2).bind λr4 =>
 (some ((3,(0,((EC.decL qcu []),(⟨#[]⟩,(0,(⟨#[]⟩,(0,((EC.decL qcw []),((EC.decL qcw []),(0,(r2.1,(r3.1,0)))))))))))),((3,(0,((EC.decL qcu []),(⟨#[]⟩,(0,(⟨#[]⟩,(0,((EC.decL qcw []),((EC.decL qcw []),(0,(r2.1,(r3.1,0)))))))))))),(r4.2.2.1,(r4.2.2.2.1,(r4.2.2.2.2.1,(r4.2.2.2.2.2.1,(r4.2.2.2.2.2.2.1,(r4.2.2.2.2.2.2.2.1,(r4.2.2.2.2.2.2.2.2.1,(r4.2.2.2.2.2.2.2.2.2.1,r4.2.2.2.2.2.2.2.2.2.2))))))))))))))
 ((q10z 2 (ByteArray.mk (List.toArray [115,116,111,112])) r1.2.2.1 r1.2.2.2.1 r1.2.2.2.2.1 r1.2.2.2.2.2.1 r1.2.2.2.2.2.2.1 r1.2.2.2.2.2.2.2.1 r1.2.2.2.2.2.2.2.2.1 r1.2.2.2.2.2.2.2.2.2.1 r1.2.2.2.2.2.2.2.2.2.2).bind λr2 =>
 (brE r2.1
 ((q11z (ByteArray.mk (List.toArray [59])) r2.2.2.1 r2.2.2.2.1 r2.2.2.2.2.1 r2.2.2.2.2.2.1 r2.2.2.2.2.2.2.1 r2.2.2.2.2.2.2.2.1 r2.2.2.2.2.2.2.2.2.1 r2.2.2.2.2.2.2.2.2.2.1 r2.2.2.2.2.2.2.2.2.2.2).bind λr3 =>
 (some ((4,(0,((EC.decL qcu []),(⟨#[]⟩,(0,(⟨#[]⟩,(0,((EC.decL qcw []),((EC.decL qcw []),(0,(⟨#[]⟩,(⟨#[]⟩,0)))))))))))),((4,(0,((EC.decL qcu []),(⟨#[]⟩,(0,(⟨#[]⟩,(0,((EC.decL qcw []),((EC.decL qcw []),(0,(⟨#[]⟩,(⟨#[]⟩,0)))))))))))),(r3.2.2.1,(r3.2.2.2.1,(r3.2.2.2.2.1,(r3.2.2.2.2.2.1,(r3.2.2.2.2.2.2.1,(r3.2.2.2.2.2.2.2.1,(r3.2.2.2.2.2.2.2.2.1,(r3.2.2.2.2.2.2.2.2.2.1,r3.2.2.2.2.2.2.2.2.2.2))))))))))))
 ((qz9 r2.2.2.1 r2.2.2.2.1 r2.2.2.2.2.1 r2.2.2.2.2.2.1 r2.2.2.2.2.2.2.1 r2.2.2.2.2.2.2.2.1 r2.2.2.2.2.2.2.2.2.1 r2.2.2.2.2.2.2.2.2.2.1 r2.2.2.2.2.2.2.2.2.2.2).bind λr3 =>
 (gL qcu r3.1.2.2.1<|
 (gL qcw r3.1.2.2.2.2.2.2.2.1<|
 (gL qcw r3.1.2.2.2.2.2.2.2.2.1<|
 (gL qcu r3.1.2.2.1<|
 (gL qcw r3.1.2.2.2.2.2.2.2.1<|
 (gL qcw r3.1.2.2.2.2.2.2.2.2.1<|
 (some ((r3.1.1,(r3.1.2.1,((dL qcu r3.1.2.2.1),(r3.1.2.2.2.1,(r3.1.2.2.2.2.1,(r3.1.2.2.2.2.2.1,(r3.1.2.2.2.2.2.2.1,((dL qcw r3.1.2.2.2.2.2.2.2.1),((dL qcw r3.1.2.2.2.2.2.2.2.2.1),(r3.1.2.2.2.2.2.2.2.2.2.1,(r3.1.2.2.2.2.2.2.2.2.2.2.1,(r3.1.2.2.2.2.2.2.2.2.2.2.2.1,r3.1.2.2.2.2.2.2.2.2.2.2.2.2)))))))))))),((r3.1.1,(r3.1.2.1,((dL qcu r3.1.2.2.1),(r3.1.2.2.2.1,(r3.1.2.2.2.2.1,(r3.1.2.2.2.2.2.1,(r3.1.2.2.2.2.2.2.1,((dL qcw r3.1.2.2.2.2.2.2.2.1),((dL qcw r3.1.2.2.2.2.2.2.2.2.1),(r3.1.2.2.2.2.2.2.2.2.2.1,(r3.1.2.2.2.2.2.2.2.2.2.2.1,(r3.1.2.2.2.2.2.2.2.2.2.2.2.1,r3.1.2.2.2.2.2.2.2.2.2.2.2.2)))))))))))),(r3.2.2.1,(r3.2.2.2.1,(r3.2.2.2.2.1,(r3.2.2.2.2.2.1,(r3.2.2.2.2.2.2.1,(r3.2.2.2.2.2.2.2.1,(r3.2.2.2.2.2.2.2.2.1,(r3.2.2.2.2.2.2.2.2.2.1,r3.2.2.2.2.2.2.2.2.2.2)))))))))))))))))))))))))
 (some ((0,(0,((EC.decL qcu []),(⟨#[]⟩,(0,(⟨#[]⟩,(0,((EC.decL qcw []),((EC.decL qcw []),(0,(⟨#[]⟩,(⟨#[]⟩,0)))))))))))),((0,(0,((EC.decL qcu []),(⟨#[]⟩,(0,(⟨#[]⟩,(0,((EC.decL qcw []),((EC.decL qcw []),(0,(⟨#[]⟩,(⟨#[]⟩,0)))))))))))),(b0,(b0_1,(b0_2,(b0_3,(b0_4,(true,((wI b0_6),(b0_7,b0_8))))))))))))
theorem q12u {b0 b0_1 b0_2 b0_3 b0_4 b0_5 b0_6 b0_7 b0_8 r} (h:q12y b0 b0_1 b0_2 b0_3 b0_4 b0_5 b0_6 b0_7 b0_8=some r):q12s b0 b0_1 b0_2 b0_3 b0_4 b0_5 b0_6 b0_7 b0_8=some r :=
 qkh (fn:=Tryz.f42) (es:=q1c6) (hs:=qml) [] (by kernel_rfl) rfl (by kernel_rfl) (by kernel_rfl) trivial trivial (by kernel_rfl) h
def q137:=sLS [0,3] (qpj (vPtr 0 0) (qpl (vRow 1))) (qpj z12 (qpl (qu4 (bRow qcw)))) [false,false] [0] (by decide) (λ_=>rfl)
def q136:=sLS [0,3,32] (qpj (vPtr 0 0) (qpj (vRow 1) z1a)) (qpj z12 (qpl (qu4 (bRow qcw)))) [false,false] [0] (by decide) (λ_=>rfl)
def q135:=oAt 2 q136
def q132 (out:Nat) (b0:BA) (b0_1 b0_2 b0_3:Int) (b0_4:BA) (b0_5:Bool) (b0_6 b0_7 b0_8:Int) (b1:L38):=lS Tryz.prog lv X0 24 39 (qk8 (cdF Tryz.f24) 2) q137 q135 (((),out),((b0,b0_1,b0_2,b0_3,b0_4,b0_5,b0_6,b0_7,b0_8),b1))
def q138 (out:Nat) (b0:BA) (b0_1 b0_2 b0_3:Int) (b0_4:BA) (b0_5:Bool) (b0_6 b0_7 b0_8:Int) (b1:L38):Oq ((Unit×Nat×Bool)×((BA×Int×Int×Int×BA×Bool×Int×Int×Int)×L38)) :=
 (brE ((!b0_5)==true)
 (brE ((b0_2 != 0)==true)
 (brE ((b0_2 != 4)==false)
 (brE (!(b0_4.toList==(ByteArray.toList (ByteArray.mk (List.toArray [125])))))
 ((q12s b0 b0_1 b0_2 b0_3 b0_4 b0_5 b0_6 b0_7 b0_8).bind λr0 =>
 (gdE ((((aL [[(C.int Go.IntKind.i64 r0.1.1),(C.int Go.IntKind.i64 r0.1.2.1),(C.sl (EC.encL qcu r0.1.2.2.1)),(C.str r0.1.2.2.2.1),(C.int Go.IntKind.i64 r0.1.2.2.2.2.1),(C.str r0.1.2.2.2.2.2.1),(C.int Go.IntKind.i64 r0.1.2.2.2.2.2.2.1),(C.sl (EC.encL qcw r0.1.2.2.2.2.2.2.2.1)),(C.sl (EC.encL qcw r0.1.2.2.2.2.2.2.2.2.1)),(C.int Go.IntKind.i64 r0.1.2.2.2.2.2.2.2.2.2.1),(C.str r0.1.2.2.2.2.2.2.2.2.2.2.1),(C.str r0.1.2.2.2.2.2.2.2.2.2.2.2.1),(C.int Go.IntKind.i64 r0.1.2.2.2.2.2.2.2.2.2.2.2.2)]] 13)&&(aL (EC.encL qcw b1) 13))&&(dQ (out+(List.length [[(C.int Go.IntKind.i64 r0.1.1),(C.int Go.IntKind.i64 r0.1.2.1),(C.sl (EC.encL qcu r0.1.2.2.1)),(C.str r0.1.2.2.2.1),(C.int Go.IntKind.i64 r0.1.2.2.2.2.1),(C.str r0.1.2.2.2.2.2.1),(C.int Go.IntKind.i64 r0.1.2.2.2.2.2.2.1),(C.sl (EC.encL qcw r0.1.2.2.2.2.2.2.2.1)),(C.sl (EC.encL qcw r0.1.2.2.2.2.2.2.2.2.1)),(C.int Go.IntKind.i64 r0.1.2.2.2.2.2.2.2.2.2.1),(C.str r0.1.2.2.2.2.2.2.2.2.2.2.1),(C.str r0.1.2.2.2.2.2.2.2.2.2.2.2.1),(C.int Go.IntKind.i64 r0.1.2.2.2.2.2.2.2.2.2.2.2.2)]])) 184))&&(decide ((out+(List.length [[(C.int Go.IntKind.i64 r0.1.1),(C.int Go.IntKind.i64 r0.1.2.1),(C.sl (EC.encL qcu r0.1.2.2.1)),(C.str r0.1.2.2.2.1),(C.int Go.IntKind.i64 r0.1.2.2.2.2.1),(C.str r0.1.2.2.2.2.2.1),(C.int Go.IntKind.i64 r0.1.2.2.2.2.2.2.1),(C.sl (EC.encL qcw r0.1.2.2.2.2.2.2.2.1)),(C.sl (EC.encL qcw r0.1.2.2.2.2.2.2.2.2.1)),(C.int Go.IntKind.i64 r0.1.2.2.2.2.2.2.2.2.2.1),(C.str r0.1.2.2.2.2.2.2.2.2.2.2.1),(C.str r0.1.2.2.2.2.2.2.2.2.2.2.2.1),(C.int Go.IntKind.i64 r0.1.2.2.2.2.2.2.2.2.2.2.2.2)]]))<=9223372036854775807)))<|
 (gdE (EC.isL qcw ((EC.encL qcw b1)++[[(C.int Go.IntKind.i64 r0.1.1),(C.int Go.IntKind.i64 r0.1.2.1),(C.sl (EC.encL qcu r0.1.2.2.1)),(C.str r0.1.2.2.2.1),(C.int Go.IntKind.i64 r0.1.2.2.2.2.1),(C.str r0.1.2.2.2.2.2.1),(C.int Go.IntKind.i64 r0.1.2.2.2.2.2.2.1),(C.sl (EC.encL qcw r0.1.2.2.2.2.2.2.2.1)),(C.sl (EC.encL qcw r0.1.2.2.2.2.2.2.2.2.1)),(C.int Go.IntKind.i64 r0.1.2.2.2.2.2.2.2.2.2.1),(C.str r0.1.2.2.2.2.2.2.2.2.2.2.1),(C.str r0.1.2.2.2.2.2.2.2.2.2.2.2.1),(C.int Go.IntKind.i64 r0.1.2.2.2.2.2.2.2.2.2.2.2.2)]]))<|
 (q132 (out+(List.length [[(C.int Go.IntKind.i64 r0.1.1),(C.int Go.IntKind.i64 r0.1.2.1),(C.sl (EC.encL qcu r0.1.2.2.1)),(C.str r0.1.2.2.2.1),(C.int Go.IntKind.i64 r0.1.2.2.2.2.1),(C.str r0.1.2.2.2.2.2.1),(C.int Go.IntKind.i64 r0.1.2.2.2.2.2.2.1),(C.sl (EC.encL qcw r0.1.2.2.2.2.2.2.2.1)),(C.sl (EC.encL qcw r0.1.2.2.2.2.2.2.2.2.1)),(C.int Go.IntKind.i64 r0.1.2.2.2.2.2.2.2.2.2.1),(C.str r0.1.2.2.2.2.2.2.2.2.2.2.1),(C.str r0.1.2.2.2.2.2.2.2.2.2.2.2.1),(C.int Go.IntKind.i64 r0.1.2.2.2.2.2.2.2.2.2.2.2.2)]])) r0.2.2.1 r0.2.2.2.1 r0.2.2.2.2.1 r0.2.2.2.2.2.1 r0.2.2.2.2.2.2.1 r0.2.2.2.2.2.2.2.1 r0.2.2.2.2.2.2.2.2.1 r0.2.2.2.2.2.2.2.2.2.1 r0.2.2.2.2.2.2.2.2.2.2 (EC.decL qcw ((EC.encL qcw b1)++[[(C.int Go.IntKind.i64 r0.1.1),(C.int Go.IntKind.i64 r0.1.2.1),(C.sl (EC.encL qcu r0.1.2.2.1)),(C.str r0.1.2.2.2.1),(C.int Go.IntKind.i64 r0.1.2.2.2.2.1),(C.str r0.1.2.2.2.2.2.1),(C.int Go.IntKind.i64 r0.1.2.2.2.2.2.2.1),(C.sl (EC.encL qcw r0.1.2.2.2.2.2.2.2.1)),(C.sl (EC.encL qcw r0.1.2.2.2.2.2.2.2.2.1)),(C.int Go.IntKind.i64 r0.1.2.2.2.2.2.2.2.2.2.1),(C.str r0.1.2.2.2.2.2.2.2.2.2.2.1),(C.str r0.1.2.2.2.2.2.2.2.2.2.2.2.1),(C.int Go.IntKind.i64 r0.1.2.2.2.2.2.2.2.2.2.2.2.2)]]))))))
 (gL qcw b1<|
 (some (((),(out,false)),((b0,(b0_1,(b0_2,(b0_3,(b0_4,(b0_5,(b0_6,(b0_7,b0_8)))))))),(dL qcw b1))))))
 ((q12s b0 b0_1 b0_2 b0_3 b0_4 b0_5 b0_6 b0_7 b0_8).bind λr0 =>
 (gdE ((((aL [[(C.int Go.IntKind.i64 r0.1.1),(C.int Go.IntKind.i64 r0.1.2.1),(C.sl (EC.encL qcu r0.1.2.2.1)),(C.str r0.1.2.2.2.1),(C.int Go.IntKind.i64 r0.1.2.2.2.2.1),(C.str r0.1.2.2.2.2.2.1),(C.int Go.IntKind.i64 r0.1.2.2.2.2.2.2.1),(C.sl (EC.encL qcw r0.1.2.2.2.2.2.2.2.1)),(C.sl (EC.encL qcw r0.1.2.2.2.2.2.2.2.2.1)),(C.int Go.IntKind.i64 r0.1.2.2.2.2.2.2.2.2.2.1),(C.str r0.1.2.2.2.2.2.2.2.2.2.2.1),(C.str r0.1.2.2.2.2.2.2.2.2.2.2.2.1),(C.int Go.IntKind.i64 r0.1.2.2.2.2.2.2.2.2.2.2.2.2)]] 13)&&(aL (EC.encL qcw b1) 13))&&(dQ (out+(List.length [[(C.int Go.IntKind.i64 r0.1.1),(C.int Go.IntKind.i64 r0.1.2.1),(C.sl (EC.encL qcu r0.1.2.2.1)),(C.str r0.1.2.2.2.1),(C.int Go.IntKind.i64 r0.1.2.2.2.2.1),(C.str r0.1.2.2.2.2.2.1),(C.int Go.IntKind.i64 r0.1.2.2.2.2.2.2.1),(C.sl (EC.encL qcw r0.1.2.2.2.2.2.2.2.1)),(C.sl (EC.encL qcw r0.1.2.2.2.2.2.2.2.2.1)),(C.int Go.IntKind.i64 r0.1.2.2.2.2.2.2.2.2.2.1),(C.str r0.1.2.2.2.2.2.2.2.2.2.2.1),(C.str r0.1.2.2.2.2.2.2.2.2.2.2.2.1),(C.int Go.IntKind.i64 r0.1.2.2.2.2.2.2.2.2.2.2.2.2)]])) 184))&&(decide ((out+(List.length [[(C.int Go.IntKind.i64 r0.1.1),(C.int Go.IntKind.i64 r0.1.2.1),(C.sl (EC.encL qcu r0.1.2.2.1)),(C.str r0.1.2.2.2.1),(C.int Go.IntKind.i64 r0.1.2.2.2.2.1),(C.str r0.1.2.2.2.2.2.1),(C.int Go.IntKind.i64 r0.1.2.2.2.2.2.2.1),(C.sl (EC.encL qcw r0.1.2.2.2.2.2.2.2.1)),(C.sl (EC.encL qcw r0.1.2.2.2.2.2.2.2.2.1)),(C.int Go.IntKind.i64 r0.1.2.2.2.2.2.2.2.2.2.1),(C.str r0.1.2.2.2.2.2.2.2.2.2.2.1),(C.str r0.1.2.2.2.2.2.2.2.2.2.2.2.1),(C.int Go.IntKind.i64 r0.1.2.2.2.2.2.2.2.2.2.2.2.2)]]))<=9223372036854775807)))<|
 (gdE (EC.isL qcw ((EC.encL qcw b1)++[[(C.int Go.IntKind.i64 r0.1.1),(C.int Go.IntKind.i64 r0.1.2.1),(C.sl (EC.encL qcu r0.1.2.2.1)),(C.str r0.1.2.2.2.1),(C.int Go.IntKind.i64 r0.1.2.2.2.2.1),(C.str r0.1.2.2.2.2.2.1),(C.int Go.IntKind.i64 r0.1.2.2.2.2.2.2.1),(C.sl (EC.encL qcw r0.1.2.2.2.2.2.2.2.1)),(C.sl (EC.encL qcw r0.1.2.2.2.2.2.2.2.2.1)),(C.int Go.IntKind.i64 r0.1.2.2.2.2.2.2.2.2.2.1),(C.str r0.1.2.2.2.2.2.2.2.2.2.2.1),(C.str r0.1.2.2.2.2.2.2.2.2.2.2.2.1),(C.int Go.IntKind.i64 r0.1.2.2.2.2.2.2.2.2.2.2.2.2)]]))<|
 (q132 (out+(List.length [[(C.int Go.IntKind.i64 r0.1.1),(C.int Go.IntKind.i64 r0.1.2.1),(C.sl (EC.encL qcu r0.1.2.2.1)),(C.str r0.1.2.2.2.1),(C.int Go.IntKind.i64 r0.1.2.2.2.2.1),(C.str r0.1.2.2.2.2.2.1),(C.int Go.IntKind.i64 r0.1.2.2.2.2.2.2.1),(C.sl (EC.encL qcw r0.1.2.2.2.2.2.2.2.1)),(C.sl (EC.encL qcw r0.1.2.2.2.2.2.2.2.2.1)),(C.int Go.IntKind.i64 r0.1.2.2.2.2.2.2.2.2.2.1),(C.str r0.1.2.2.2.2.2.2.2.2.2.2.1),(C.str r0.1.2.2.2.2.2.2.2.2.2.2.2.1),(C.int Go.IntKind.i64 r0.1.2.2.2.2.2.2.2.2.2.2.2.2)]])) r0.2.2.1 r0.2.2.2.1 r0.2.2.2.2.1 r0.2.2.2.2.2.1 r0.2.2.2.2.2.2.1 r0.2.2.2.2.2.2.2.1 r0.2.2.2.2.2.2.2.2.1 r0.2.2.2.2.2.2.2.2.2.1 r0.2.2.2.2.2.2.2.2.2.2 (EC.decL qcw ((EC.encL qcw b1)++[[(C.int Go.IntKind.i64 r0.1.1),(C.int Go.IntKind.i64 r0.1.2.1),(C.sl (EC.encL qcu r0.1.2.2.1)),(C.str r0.1.2.2.2.1),(C.int Go.IntKind.i64 r0.1.2.2.2.2.1),(C.str r0.1.2.2.2.2.2.1),(C.int Go.IntKind.i64 r0.1.2.2.2.2.2.2.1),(C.sl (EC.encL qcw r0.1.2.2.2.2.2.2.2.1)),(C.sl (EC.encL qcw r0.1.2.2.2.2.2.2.2.2.1)),(C.int Go.IntKind.i64 r0.1.2.2.2.2.2.2.2.2.2.1),(C.str r0.1.2.2.2.2.2.2.2.2.2.2.1),(C.str r0.1.2.2.2.2.2.2.2.2.2.2.2.1),(C.int Go.IntKind.i64 r0.1.2.2.2.2.2.2.2.2.2.2.2.2)]])))))))
 (gL qcw b1<|
 (some (((),(out,false)),((b0,(b0_1,(b0_2,(b0_3,(b0_4,(b0_5,(b0_6,(b0_7,b0_8)))))))),(dL qcw b1))))))
 (gL qcw b1<|
 (some (((),(out,false)),((b0,(b0_1,(b0_2,(b0_3,(b0_4,(b0_5,(b0_6,(b0_7,b0_8)))))))),(dL qcw b1))))))
theorem q134 {out b0 b0_1 b0_2 b0_3 b0_4 b0_5 b0_6 b0_7 b0_8 b1 r} (h:q138 out b0 b0_1 b0_2 b0_3 b0_4 b0_5 b0_6 b0_7 b0_8 b1=some r):q132 out b0 b0_1 b0_2 b0_3 b0_4 b0_5 b0_6 b0_7 b0_8 b1=some r :=
 qpn (es:=q1c6) (hs:=qml) [] (by kernel_rfl) trivial trivial (by kernel_rfl) h
def q133:=qqh Tryz.prog lv X0 2 (qk8 (cdF Tryz.f24) 2) q137 q135 (λx=>q132 x.1.2 x.2.1.1 x.2.1.2.1 x.2.1.2.2.1 x.2.1.2.2.2.1 x.2.1.2.2.2.2.1 x.2.1.2.2.2.2.2.1 x.2.1.2.2.2.2.2.2.1 x.2.1.2.2.2.2.2.2.2.1 x.2.1.2.2.2.2.2.2.2.2 x.2.2) (λ_ _ h=>qpm h)
def q13c (b0:BA) (b0_1 b0_2 b0_3:Int) (b0_4:BA) (b0_5:Bool) (b0_6 b0_7 b0_8:Int):Oq (L38×(L38×(BA×Int×Int×Int×BA×Bool×Int×Int×Int))) :=
 ((q132 0 b0 b0_1 b0_2 b0_3 b0_4 b0_5 b0_6 b0_7 b0_8 (EC.decL qcw [])).bind λr0 =>
 (gL qcw r0.2.2<|
 (gL qcw r0.2.2<|
 (some ((dL qcw r0.2.2),((dL qcw r0.2.2),(r0.2.1.1,(r0.2.1.2.1,(r0.2.1.2.2.1,(r0.2.1.2.2.2.1,(r0.2.1.2.2.2.2.1,(r0.2.1.2.2.2.2.2.1,(r0.2.1.2.2.2.2.2.2.1,(r0.2.1.2.2.2.2.2.2.2.1,r0.2.1.2.2.2.2.2.2.2.2))))))))))))))
theorem q131 {b0 b0_1 b0_2 b0_3 b0_4 b0_5 b0_6 b0_7 b0_8 r} (h:q13c b0 b0_1 b0_2 b0_3 b0_4 b0_5 b0_6 b0_7 b0_8=some r):q12z b0 b0_1 b0_2 b0_3 b0_4 b0_5 b0_6 b0_7 b0_8=some r :=
 qkh (fn:=Tryz.f24) (es:=q1c6) (hs:=qml) [q133] (by kernel_rfl) rfl (by kernel_rfl) (by kernel_rfl) ⟨⟨_,rfl,rfl⟩,trivial⟩ trivial (by kernel_rfl) h
def qyk:Cod (V×List B) ((List S38)×(Int×Int)):=(cFstU (cPair (vTup (qpj (vC (cSl qcw)) (qpl (vAgg (qpj z13 (qpl z13)))))) qpk))
def qyn (s:BA):=fS Tryz.prog lv X0 8 qyj qyk s
def qyo (s:BA):Oq (L38×(Int×Int)) :=
 (brE (decide ((s.size:Int)>4000))
 ((q62 1 (-1)).bind λr0 =>
 (some ((EC.decL qcw []),(r0.1,r0.2))))
 ((q100 s 0 0 0 ⟨#[]⟩ false 0 1 0).bind λr0 =>
 ((q12z r0.2.2.1 r0.2.2.2.1 r0.2.2.2.2.1 r0.2.2.2.2.2.1 r0.2.2.2.2.2.2.1 r0.2.2.2.2.2.2.2.1 r0.2.2.2.2.2.2.2.2.1 r0.2.2.2.2.2.2.2.2.2.1 r0.2.2.2.2.2.2.2.2.2.2).bind λr1 =>
 (brE (r1.2.2.2.2.2.2.2.1==false)
 (brE (r1.2.2.2.2.1 != 0)
 ((q62 11 r1.2.2.2.2.2.1).bind λr2 =>
 (some ((EC.decL qcw []),(r2.1,r2.2))))
 (gL qcw r1.1<|
 ((qyw (dL qcw r1.1)).bind λr2 =>
 ((q5w r2.1 r2.2).bind λr3 =>
 (brE r3
 ((q62 r2.1 (-2)).bind λr4 =>
 (some ((EC.decL qcw []),(r4.1,r4.2))))
 (Option.bind q73 λr4 =>
 (gL qcw r1.1<|
 (some ((dL qcw r1.1),(r4.1,r4.2))))))))))
 ((q62 11 r1.2.2.2.2.2.1).bind λr2 =>
 (some ((EC.decL qcw []),(r2.1,r2.2))))))))
theorem qym {s r} (h:qyo s=some r):qyn s=some r :=
 qg7 (es:=q1c6) (hs:=qml) [] Tryz.func8 rfl (by kernel_rfl) rfl (by kernel_rfl) (by kernel_rfl) trivial trivial (by kernel_rfl) h
def qyl:=entS Tryz.prog lv X0 8 [] qyj qyk (λx=>qyn x) (λ_ _ h=>qg5 h)
def q1c3:=qyl::q1c6
end
end Go.Proofs.YtmlcmoaonaomfaaGreatDoor
