/- Functions of the program as plain functions: made by program from the machine. -/
import Derived.Test.YtognhcibcocbkaaGreatDoorH1
namespace Go.Proofs.YtognhcibcocbkaaGreatDoor
open Go.RowKit
set_option maxRecDepth 100000
noncomputable section
def qkq:=(qaj (vC (cInt .u8)))
def qkr:Cod (V×List B) Bool:=(cFstU (cPair (vC cBool) qai))
def qku (c:Int):=fS Tryz.prog lv X0 37 qkq qkr c
def qkv (c:Int):Oq Bool :=
 (brE ((decide (c≥97))==true)
 (some (decide (c≤122)))
 (some false))
theorem qkt {c r} (h:qkv c=some r):qku c=some r :=
 q6x (es:=qtm) (hs:=q92) [] Tryz.func37 rfl (by kernel_rfl) rfl (by kernel_rfl) (by kernel_rfl) trivial trivial (by kernel_rfl) h
def qks:=entS Tryz.prog lv X0 37 [] qkq qkr (fun x=>qku x) (fun _ _ h=>q6w h)
def qtv:=qks::qtm
def qkw:=(qaj (vC (cInt .u8)))
def qkx:Cod (V×List B) Bool:=(cFstU (cPair (vC cBool) qai))
def ql0 (c:Int):=fS Tryz.prog lv X0 38 qkw qkx c
def ql1 (c:Int):Oq Bool :=
 (brE ((decide (c≥48))==true)
 (some (decide (c≤57)))
 (some false))
theorem qkz {c r} (h:ql1 c=some r):ql0 c=some r :=
 q6x (es:=qtv) (hs:=q92) [] Tryz.func38 rfl (by kernel_rfl) rfl (by kernel_rfl) (by kernel_rfl) trivial trivial (by kernel_rfl) h
def qky:=entS Tryz.prog lv X0 38 [] qkw qkx (fun x=>ql0 x) (fun _ _ h=>q6w h)
def qtw:=qky::qtv
def qip:Cod (List V) Unit:=qai
abbrev z1l:=(vAgg (qah (vC cStr) (qah (vC cStr) (qaj (vC cStr)))))
def qiq:Cod (V×List B) (ByteArray×ByteArray×ByteArray):=(cFstU (cPair z1l qai))
def qit :=fS Tryz.prog lv X0 94 qip qiq ()
def qiu :Oq (BA×BA×BA) :=
 (some ((ByteArray.mk (List.toArray [(105:UInt8),(115:UInt8)])),((ByteArray.mk (List.toArray [(99:UInt8),(111:UInt8),(110:UInt8),(116:UInt8),(97:UInt8),(105:UInt8),(110:UInt8),(115:UInt8)])),(ByteArray.mk (List.toArray [(108:UInt8),(105:UInt8),(107:UInt8),(101:UInt8)])))))
theorem qis {r} (h:qiu =some r):qit =some r :=
 q6x (es:=qtw) (hs:=q92) [] Tryz.func94 rfl (by kernel_rfl) rfl (by kernel_rfl) (by kernel_rfl) trivial trivial (by kernel_rfl) h
def qir:=entS Tryz.prog lv X0 94 [] qip qiq (fun x=>qit ) (fun _ _ h=>q6w h)
def qtq:=qir::qtw
def qi6:Cod (List V) Unit:=qai
abbrev z1i:=(vAgg (qah (vC cStr) (qah (vC cStr) (qah (vC cStr) (qah (vC cStr) (qah (vC cStr) (qah (vC cStr) (qaj (vC cStr)))))))))
def qi7:Cod (V×List B) (ByteArray×ByteArray×ByteArray×ByteArray×ByteArray×ByteArray×ByteArray):=(cFstU (cPair z1i qai))
def qia :=fS Tryz.prog lv X0 64 qi6 qi7 ()
def qib :Oq (BA×BA×BA×BA×BA×BA×BA) :=
 (some ((ByteArray.mk (List.toArray [(107:UInt8),(101:UInt8),(101:UInt8),(112:UInt8)])),((ByteArray.mk (List.toArray [(102:UInt8),(105:UInt8),(108:UInt8),(101:UInt8)])),((ByteArray.mk (List.toArray [(100:UInt8),(105:UInt8),(115:UInt8),(99:UInt8),(97:UInt8),(114:UInt8),(100:UInt8)])),((ByteArray.mk (List.toArray [(114:UInt8),(101:UInt8),(100:UInt8),(105:UInt8),(114:UInt8),(101:UInt8),(99:UInt8),(116:UInt8)])),((ByteArray.mk (List.toArray [(114:UInt8),(101:UInt8),(106:UInt8),(101:UInt8),(99:UInt8),(116:UInt8)])),((ByteArray.mk (List.toArray [(102:UInt8),(108:UInt8),(97:UInt8),(103:UInt8)])),(ByteArray.mk (List.toArray [(114:UInt8),(101:UInt8),(112:UInt8),(108:UInt8),(121:UInt8)])))))))))
theorem qi9 {r} (h:qib =some r):qia =some r :=
 q6x (es:=qtq) (hs:=q92) [] Tryz.func64 rfl (by kernel_rfl) rfl (by kernel_rfl) (by kernel_rfl) trivial trivial (by kernel_rfl) h
def qi8:=entS Tryz.prog lv X0 64 [] qi6 qi7 (fun x=>qia ) (fun _ _ h=>q6w h)
def qtn:=qi8::qtq
def q5j:EC Int where
 enc x:=[.int .u8 x]
 dec c:=q9n (c.getD 0 .ne)
 is c:=isE [.int .u8] 0 c
 enc_dec h:=q4x h
 dec_enc x:=by rfl
 is_enc x:=by simp [isE,isK]
theorem enc_5 (x:Int):q5j.enc x=[.int .u8 x]:=rfl
theorem lit_5 (a0:Int):([.int .u8 a0]:List C)=q5j.enc a0:=rfl
theorem apd_5 (xs:List Int) (a0:Int):q5j.encL xs++[[.int .u8 a0]]=q5j.encL (xs++[a0]):=by rw [lit_5];simp [EC.encL]
theorem all_5 (xs:List Int):(q5j.encL xs).all (fun (el:List C)=>el.length==1)=true:=by induction xs with|nil=>rfl|cons x xs ih=>first|(simp [EC.encL,enc_5];done)|simpa [EC.encL,enc_5] using ih
def qh1:=(qaj (vC cStr))
abbrev z1e:=(qd1 (bBox (qah (vC cStr) (qah (vC (cInt .i64)) (qah (vC (cInt .i64)) (qah (vC (cInt .i64)) (qah (vC cStr) (qah (vC cBool) (qah (vC (cInt .i64)) (qah (vC (cInt .i64)) (qaj (vC (cInt .i64)))))))))))))
abbrev z1k:=(qaj (vPtr 0 0))
def qll:=sLS [0] z1k (qaj z1e) [false] [0] (by decide) (fun _=>rfl)
def qla:=sLS [0] z1k (qaj z1e) [false] [0] (by decide) (fun _=>rfl)
abbrev z1m:=(qaj (vC cBool))
def ql9:=sLS [0,29] (qah (vPtr 0 0) z1m) (qaj z1e) [false] [0] (by decide) (fun _=>rfl)
def ql8:=oAt 2 ql9
def ql5 (b0:BA) (b0_1 b0_2 b0_3:Int) (b0_4:BA) (b0_5:Bool) (b0_6 b0_7 b0_8:Int):=lS Tryz.prog lv X0 19 143 (q8l (cdF Tryz.f19) 0) qla ql8 ((),(b0,b0_1,b0_2,b0_3,b0_4,b0_5,b0_6,b0_7,b0_8))
def qlb (b0:BA) (b0_1 b0_2 b0_3:Int) (b0_4:BA) (b0_5:Bool) (b0_6 b0_7 b0_8:Int):Oq ((Unit×Bool)×(BA×Int×Int×Int×BA×Bool×Int×Int×Int)) :=
 (brE ((decide (b0_1<(b0.size:Int)))==true)
 (gdE ((p0 b0_1)&&(decide ((Int.toNat b0_1)<b0.size)))<|
 (brE (decide ((Go.Lib.indexByte (Array.toList (List.toArray [(32:UInt8),(9:UInt8),(13:UInt8),(10:UInt8)])) (Nat.toUInt8 (Int.toNat (((UInt8.toNat (Array.getD b0.data (Int.toNat b0_1) (0:UInt8))):Nat):Int))))≥0))
 (ql5 b0 (wI b0_1) b0_2 b0_3 b0_4 b0_5 b0_6 b0_7 b0_8)
 (some (((),false),(b0,(b0_1,(b0_2,(b0_3,(b0_4,(b0_5,(b0_6,(b0_7,b0_8))))))))))))
 (some (((),false),(b0,(b0_1,(b0_2,(b0_3,(b0_4,(b0_5,(b0_6,(b0_7,b0_8)))))))))))
theorem ql7 {b0 b0_1 b0_2 b0_3 b0_4 b0_5 b0_6 b0_7 b0_8 r} (h:qlb b0 b0_1 b0_2 b0_3 b0_4 b0_5 b0_6 b0_7 b0_8=some r):ql5 b0 b0_1 b0_2 b0_3 b0_4 b0_5 b0_6 b0_7 b0_8=some r :=
 qal (es:=qtn) (hs:=q92) [] (by kernel_rfl) trivial trivial (by kernel_rfl) h
def ql6:=qb9 Tryz.prog lv X0 0 (q8l (cdF Tryz.f19) 0) qla ql8 (fun x=>ql5 x.2.1 x.2.2.1 x.2.2.2.1 x.2.2.2.2.1 x.2.2.2.2.2.1 x.2.2.2.2.2.2.1 x.2.2.2.2.2.2.2.1 x.2.2.2.2.2.2.2.2.1 x.2.2.2.2.2.2.2.2.2) (fun _ _ h=>qak h)
def qns:=sLS [0] z1k (qaj z1e) [false] [0] (by decide) (fun _=>rfl)
abbrev z1f:=(vC (cInt .i64))
abbrev z1j:=(qd1 (bBox (qah z1f (qah z1f (qaj (vC cStr))))))
def qno:=sLS [0,2,3,4,5] (qah (vPtr 0 0) (qah (vPtr 1 0) (qah (vPtr 2 0) (qah (vRow 3) (qaj z1f))))) (qah z1e (qah z1j (qah z1j (qaj (qd1 (bRow q5j)))))) [false,false,false,false] [0] (by decide) (fun _=>rfl)
def qnn:=sLS [0,2,3,4,5,23] (qah (vPtr 0 0) (qah (vPtr 1 0) (qah (vPtr 2 0) (qah (vRow 3) (qah z1f z1m))))) (qah z1e (qah z1j (qah z1j (qaj (qd1 (bRow q5j)))))) [false,false,false,false] [0] (by decide) (fun _=>rfl)
def qnm:=sLS [2] z1k (qah z1j (qaj z1e)) [false,false] [1] (by decide) (fun _=>rfl)
def qnl:=oOr 1 qnm (oAt 2 qnn) (fun x=>(by decide:(2:Nat)≠1))
def qni (out:Nat) (i:Int) (b0:BA) (b0_1 b0_2 b0_3:Int) (b0_4:BA) (b0_5:Bool) (b0_6 b0_7:Int) (b0_8 b1 b1_1:Int) (b1_2:BA) (b2 b2_1:Int) (b2_2:BA) (b3:(List Int)):=lS Tryz.prog lv X0 39 90 (q8l (cdF Tryz.f39) 4) qno qnl (((),(),(),out,i),((b0,b0_1,b0_2,b0_3,b0_4,b0_5,b0_6,b0_7,b0_8),(b1,b1_1,b1_2),(b2,b2_1,b2_2),b3))
abbrev zq (i:Int) (b0:BA):=(C.int Go.IntKind.u8 (((UInt8.toNat (Array.getD b0.data (Int.toNat (wI i)) (0:UInt8))):Nat):Int))
abbrev zr (i:Int) (b0:BA):=(((UInt8.toNat (Array.getD b0.data (Int.toNat i) (0:UInt8))):Nat):Int)
abbrev zt (i:Int) (b0:BA):=((p0 (wI i))&&(decide ((Int.toNat (wI i))<b0.size)))
def qnp (out:Nat) (i:Int) (b0:BA) (b0_1 b0_2 b0_3:Int) (b0_4:BA) (b0_5:Bool) (b0_6 b0_7:Int) (b0_8 b1 b1_1:Int) (b1_2:BA) (b2 b2_1:Int) (b2_2:BA) (b3:(List Int)):Oq ((Unit×((Int×Int×BA)×(BA×Int×Int×Int×BA×Bool×Int×Int×Int)))⊕((Unit×Unit×Unit×Nat×Int×Bool)×((BA×Int×Int×Int×BA×Bool×Int×Int×Int)×(Int×Int×BA)×(Int×Int×BA)×(List Int)))) :=
 (brE (decide (i<(b0.size:Int)))
 (gdE ((p0 i)&&(decide ((Int.toNat i)<b0.size)))<|
 (brE ((zr i b0)==34)
 ((bytesOf (EC.encL q5j b3)).bind fun r0 =>
 (some (.inl ((),((b2,(b2_1,(ByteArray.mk (List.toArray r0)))),(b0,((wI i),(b0_2,(b0_3,(b0_4,(b0_5,(b0_6,(b0_7,b0_8)))))))))))))
 (brE ((zr i b0)==92)
 (brE (((wI i)==(b0.size:Int))==false)
 (gdE (zt i b0)<|
 (brE (((((UInt8.toNat (Array.getD b0.data (Int.toNat (wI i)) (0:UInt8))):Nat):Int) != 34)==true)
 (gdE (zt i b0)<|
 (brE ((((UInt8.toNat (Array.getD b0.data (Int.toNat (wI i)) (0:UInt8))):Nat):Int) != 92)
 (some (.inl ((),((5,(b2_1,b2_2)),(b0,(b0_1,(b0_2,(b0_3,(b0_4,(b0_5,(b0_6,(b0_7,b0_8))))))))))))
 (gdE (zt i b0)<|
 (gdE ((((aL [[(zq i b0)]] 1)&&(aL (EC.encL q5j b3) 1))&&(dQ (out+(List.length [[(zq i b0)]])) 1))&&(decide ((out+(List.length [[(zq i b0)]]))≤9223372036854775807)))<|
 (gdE (EC.isL q5j ((EC.encL q5j b3)++[[(zq i b0)]]))<|
 (qni (out+(List.length [[(zq i b0)]])) (wI (wI i)) b0 b0_1 b0_2 b0_3 b0_4 b0_5 b0_6 b0_7 b0_8 b1 b1_1 b1_2 b2 b2_1 b2_2 (EC.decL q5j ((EC.encL q5j b3)++[[(zq i b0)]]))))))))
 (gdE (zt i b0)<|
 (gdE ((((aL [[(zq i b0)]] 1)&&(aL (EC.encL q5j b3) 1))&&(dQ (out+(List.length [[(zq i b0)]])) 1))&&(decide ((out+(List.length [[(zq i b0)]]))≤9223372036854775807)))<|
 (gdE (EC.isL q5j ((EC.encL q5j b3)++[[(zq i b0)]]))<|
 (qni (out+(List.length [[(zq i b0)]])) (wI (wI i)) b0 b0_1 b0_2 b0_3 b0_4 b0_5 b0_6 b0_7 b0_8 b1 b1_1 b1_2 b2 b2_1 b2_2 (EC.decL q5j ((EC.encL q5j b3)++[[(zq i b0)]]))))))))
 (some (.inl ((),((5,(b2_1,b2_2)),(b0,(b0_1,(b0_2,(b0_3,(b0_4,(b0_5,(b0_6,(b0_7,b0_8)))))))))))))
 (gdE ((((aL [[(C.int Go.IntKind.u8 (zr i b0))]] 1)&&(aL (EC.encL q5j b3) 1))&&(dQ (out+(List.length [[(C.int Go.IntKind.u8 (zr i b0))]])) 1))&&(decide ((out+(List.length [[(C.int Go.IntKind.u8 (zr i b0))]]))≤9223372036854775807)))<|
 (gdE (EC.isL q5j ((EC.encL q5j b3)++[[(C.int Go.IntKind.u8 (zr i b0))]]))<|
 (qni (out+(List.length [[(C.int Go.IntKind.u8 (zr i b0))]])) (wI i) b0 b0_1 b0_2 b0_3 b0_4 b0_5 b0_6 b0_7 b0_8 b1 b1_1 b1_2 b2 b2_1 b2_2 (EC.decL q5j ((EC.encL q5j b3)++[[(C.int Go.IntKind.u8 (zr i b0))]]))))))))
 (gL q5j b3<|
 (some (.inr (((),((),((),(out,(i,false))))),((b0,(b0_1,(b0_2,(b0_3,(b0_4,(b0_5,(b0_6,(b0_7,b0_8)))))))),((b1,(b1_1,b1_2)),((b2,(b2_1,b2_2)),(dL q5j b3)))))))))
theorem qnk {out i b0 b0_1 b0_2 b0_3 b0_4 b0_5 b0_6 b0_7 b0_8 b1 b1_1 b1_2 b2 b2_1 b2_2 b3 r} (h:qnp out i b0 b0_1 b0_2 b0_3 b0_4 b0_5 b0_6 b0_7 b0_8 b1 b1_1 b1_2 b2 b2_1 b2_2 b3=some r):qni out i b0 b0_1 b0_2 b0_3 b0_4 b0_5 b0_6 b0_7 b0_8 b1 b1_1 b1_2 b2 b2_1 b2_2 b3=some r :=
 qal (es:=qtn) (hs:=q92) [] (by kernel_rfl) trivial trivial (by kernel_rfl) h
def qnj:=qb9 Tryz.prog lv X0 4 (q8l (cdF Tryz.f39) 4) qno qnl (fun x=>qni x.1.2.2.2.1 x.1.2.2.2.2 x.2.1.1 x.2.1.2.1 x.2.1.2.2.1 x.2.1.2.2.2.1 x.2.1.2.2.2.2.1 x.2.1.2.2.2.2.2.1 x.2.1.2.2.2.2.2.2.1 x.2.1.2.2.2.2.2.2.2.1 x.2.1.2.2.2.2.2.2.2.2 x.2.2.1.1 x.2.2.1.2.1 x.2.2.1.2.2 x.2.2.2.1.1 x.2.2.2.1.2.1 x.2.2.2.1.2.2 x.2.2.2.2) (fun _ _ h=>qak h)
def qnr:SC ((Int×Int×ByteArray)×(ByteArray×Int×Int×Int×ByteArray×Bool×Int×Int×Int)):=sLS [0] (qaj (vAgg (qah (vC (cInt .i64)) (qah (vC (cInt .i64)) (qaj (vC cStr)))))) (qaj (qd1 (bBox (qah (vC cStr) (qah (vC (cInt .i64)) (qah (vC (cInt .i64)) (qah (vC (cInt .i64)) (qah (vC cStr) (qah (vC cBool) (qah (vC (cInt .i64)) (qah (vC (cInt .i64)) (qaj (vC (cInt .i64)))))))))))))) [false] [0] (by decide) (fun _=>rfl)
def qnq:HC ((Int×Int×ByteArray)×((Int×Int×ByteArray)×(ByteArray×Int×Int×Int×ByteArray×Bool×Int×Int×Int))):=hPair (vAgg (qah (vC (cInt .i64)) (qah (vC (cInt .i64)) (qaj (vC cStr))))) qnr
def qnf (b0:BA) (b0_1 b0_2 b0_3:Int) (b0_4:BA) (b0_5:Bool) (b0_6 b0_7 b0_8:Int):=hS Tryz.prog lv X0 39 qns qnq ((),(b0,b0_1,b0_2,b0_3,b0_4,b0_5,b0_6,b0_7,b0_8))
def qnt (b0:BA) (b0_1 b0_2 b0_3:Int) (b0_4:BA) (b0_5:Bool) (b0_6 b0_7 b0_8:Int):Oq ((Int×Int×BA)×((Int×Int×BA)×(BA×Int×Int×Int×BA×Bool×Int×Int×Int))) :=
 ((qni 0 (wI b0_1) b0 b0_1 b0_2 b0_3 b0_4 b0_5 b0_6 b0_7 b0_8 0 0 ⟨#[]⟩ 1 b0_1 ⟨#[]⟩ (EC.decL q5j [])).bind fun r0 =>
 (Sum.elim (fun r1=>(some ((r1.2.1.1,(r1.2.1.2.1,r1.2.1.2.2)),((r1.2.1.1,(r1.2.1.2.1,r1.2.1.2.2)),(r1.2.2.1,(r1.2.2.2.1,(r1.2.2.2.2.1,(r1.2.2.2.2.2.1,(r1.2.2.2.2.2.2.1,(r1.2.2.2.2.2.2.2.1,(r1.2.2.2.2.2.2.2.2.1,(r1.2.2.2.2.2.2.2.2.2.1,r1.2.2.2.2.2.2.2.2.2.2))))))))))))
 (fun r1=>(some ((5,(r1.2.2.2.1.2.1,r1.2.2.2.1.2.2)),((5,(r1.2.2.2.1.2.1,r1.2.2.2.1.2.2)),(r1.2.1.1,(r1.2.1.2.1,(r1.2.1.2.2.1,(r1.2.1.2.2.2.1,(r1.2.1.2.2.2.2.1,(r1.2.1.2.2.2.2.2.1,(r1.2.1.2.2.2.2.2.2.1,(r1.2.1.2.2.2.2.2.2.2.1,r1.2.1.2.2.2.2.2.2.2.2)))))))))))) r0))
theorem qnh {b0 b0_1 b0_2 b0_3 b0_4 b0_5 b0_6 b0_7 b0_8 r} (h:qnt b0 b0_1 b0_2 b0_3 b0_4 b0_5 b0_6 b0_7 b0_8=some r):qnf b0 b0_1 b0_2 b0_3 b0_4 b0_5 b0_6 b0_7 b0_8=some r :=
 q8q (fn:=Tryz.f39) (es:=qtn) (hs:=q92) [qnj] (by kernel_rfl) rfl (by kernel_rfl) (by kernel_rfl) ⟨⟨_,rfl,rfl⟩,trivial⟩ trivial (by kernel_rfl) h
def qng:=hentS Tryz.prog lv X0 39 [0,3,0,0,1,9,1,3,1,1,1,1,1,1,1,3,1,2,1,1,1,1,1,1,0] qns qnq (fun x=>qnf x.2.1 x.2.2.1 x.2.2.2.1 x.2.2.2.2.1 x.2.2.2.2.2.1 x.2.2.2.2.2.2.1 x.2.2.2.2.2.2.2.1 x.2.2.2.2.2.2.2.2.1 x.2.2.2.2.2.2.2.2.2) (fun _ _ h=>q8p h)
def q9c:=qng::q92
def qlh:=sLS [0,2,3,5,6] (qah (vPtr 0 0) (qah (vFn 37 qai) (qah (vFn 38 qai) (qah z1f (qaj z1f))))) (qaj z1e) [false] [0] (by decide) (fun _=>rfl)
def qlg:=sLS [0,2,3,5,6,117] (qah (vPtr 0 0) (qah (vFn 37 qai) (qah (vFn 38 qai) (qah z1f (qah z1f z1m))))) (qaj z1e) [false] [0] (by decide) (fun _=>rfl)
def qlf:=oAt 4 qlg
def qlc (n kind:Int) (b0:BA) (b0_1 b0_2 b0_3:Int) (b0_4:BA) (b0_5:Bool) (b0_6 b0_7 b0_8:Int):=lS Tryz.prog lv X0 19 143 (q8l (cdF Tryz.f19) 14) qlh qlf (((),(),(),n,kind),(b0,b0_1,b0_2,b0_3,b0_4,b0_5,b0_6,b0_7,b0_8))
def qli (n kind:Int) (b0:BA) (b0_1 b0_2 b0_3:Int) (b0_4:BA) (b0_5:Bool) (b0_6 b0_7 b0_8:Int):Oq ((Unit×Unit×Unit×Int×Int×Bool)×(BA×Int×Int×Int×BA×Bool×Int×Int×Int)) :=
 (brE ((decide (n<(b0.size:Int)))==true)
 (gdE ((p0 n)&&(decide ((Int.toNat n)<b0.size)))<|
 ((ql0 (((UInt8.toNat (Array.getD b0.data (Int.toNat n) (0:UInt8))):Nat):Int)).bind fun r0 =>
 (brE (r0==false)
 (brE ((kind==2)==true)
 (gdE ((p0 n)&&(decide ((Int.toNat n)<b0.size)))<|
 ((qku (((UInt8.toNat (Array.getD b0.data (Int.toNat n) (0:UInt8))):Nat):Int)).bind fun r1 =>
 (brE r1
 (qlc (wI n) kind b0 b0_1 b0_2 b0_3 b0_4 b0_5 b0_6 b0_7 b0_8)
 (some (((),((),((),(n,(kind,false))))),(b0,(b0_1,(b0_2,(b0_3,(b0_4,(b0_5,(b0_6,(b0_7,b0_8)))))))))))))
 (some (((),((),((),(n,(kind,false))))),(b0,(b0_1,(b0_2,(b0_3,(b0_4,(b0_5,(b0_6,(b0_7,b0_8)))))))))))
 (qlc (wI n) kind b0 b0_1 b0_2 b0_3 b0_4 b0_5 b0_6 b0_7 b0_8))))
 (some (((),((),((),(n,(kind,false))))),(b0,(b0_1,(b0_2,(b0_3,(b0_4,(b0_5,(b0_6,(b0_7,b0_8)))))))))))
theorem qle {n kind b0 b0_1 b0_2 b0_3 b0_4 b0_5 b0_6 b0_7 b0_8 r} (h:qli n kind b0 b0_1 b0_2 b0_3 b0_4 b0_5 b0_6 b0_7 b0_8=some r):qlc n kind b0 b0_1 b0_2 b0_3 b0_4 b0_5 b0_6 b0_7 b0_8=some r :=
 qal (es:=qtn) (hs:=q9c) [] (by kernel_rfl) trivial trivial (by kernel_rfl) h
def qld:=qb9 Tryz.prog lv X0 14 (q8l (cdF Tryz.f19) 14) qlh qlf (fun x=>qlc x.1.2.2.2.1 x.1.2.2.2.2 x.2.1 x.2.2.1 x.2.2.2.1 x.2.2.2.2.1 x.2.2.2.2.2.1 x.2.2.2.2.2.2.1 x.2.2.2.2.2.2.2.1 x.2.2.2.2.2.2.2.2.1 x.2.2.2.2.2.2.2.2.2) (fun _ _ h=>qak h)
def qlk:SC (Unit×(ByteArray×Int×Int×Int×ByteArray×Bool×Int×Int×Int)):=sLS [] qai (qaj (qd1 (bBox (qah (vC cStr) (qah (vC (cInt .i64)) (qah (vC (cInt .i64)) (qah (vC (cInt .i64)) (qah (vC cStr) (qah (vC cBool) (qah (vC (cInt .i64)) (qah (vC (cInt .i64)) (qaj (vC (cInt .i64)))))))))))))) [false] [0] (by decide) (fun _=>rfl)
def qlj:HC (Unit×(Unit×(ByteArray×Int×Int×Int×ByteArray×Bool×Int×Int×Int))):=hPair (vTup qai) qlk
def ql2 (b0:BA) (b0_1 b0_2 b0_3:Int) (b0_4:BA) (b0_5:Bool) (b0_6 b0_7 b0_8:Int):=hS Tryz.prog lv X0 19 qll qlj ((),(b0,b0_1,b0_2,b0_3,b0_4,b0_5,b0_6,b0_7,b0_8))
def qlm (b0:BA) (b0_1 b0_2 b0_3:Int) (b0_4:BA) (b0_5:Bool) (b0_6 b0_7 b0_8:Int):Oq (Unit×(Unit×(BA×Int×Int×Int×BA×Bool×Int×Int×Int))) :=
 ((ql5 b0 b0_1 b0_2 b0_3 b0_4 b0_5 b0_6 b0_7 b0_8).bind fun r0 =>
 (brE (r0.2.2.1==((r0.2.1.size:Nat):Int))
 (some ((),((),(r0.2.1,(r0.2.2.1,(0,(r0.2.2.1,(⟨#[]⟩,(r0.2.2.2.2.2.2.1,(r0.2.2.2.2.2.2.2.1,(r0.2.2.2.2.2.2.2.2.1,r0.2.2.2.2.2.2.2.2.2)))))))))))
 (gdE ((p0 r0.2.2.1)&&(decide ((Int.toNat r0.2.2.1)<r0.2.1.size)))<|
 (brE ((((UInt8.toNat (Array.getD r0.2.1.data (Int.toNat r0.2.2.1) (0:UInt8))):Nat):Int)==34)
 ((qnf r0.2.1 r0.2.2.1 r0.2.2.2.1 r0.2.2.2.2.1 r0.2.2.2.2.2.1 r0.2.2.2.2.2.2.1 r0.2.2.2.2.2.2.2.1 r0.2.2.2.2.2.2.2.2.1 r0.2.2.2.2.2.2.2.2.2).bind fun r1 =>
 (some ((),((),(r1.2.2.1,(r1.2.2.2.1,(r1.1.1,(r1.1.2.1,(r1.1.2.2,(r1.2.2.2.2.2.2.2.1,(r1.2.2.2.2.2.2.2.2.1,(r1.2.2.2.2.2.2.2.2.2.1,r1.2.2.2.2.2.2.2.2.2.2))))))))))))
 ((qku (((UInt8.toNat (Array.getD r0.2.1.data (Int.toNat r0.2.2.1) (0:UInt8))):Nat):Int)).bind fun r1 =>
 (brE (r1==false)
 ((ql0 (((UInt8.toNat (Array.getD r0.2.1.data (Int.toNat r0.2.2.1) (0:UInt8))):Nat):Int)).bind fun r2 =>
 (brE r2
 ((qku (((UInt8.toNat (Array.getD r0.2.1.data (Int.toNat r0.2.2.1) (0:UInt8))):Nat):Int)).bind fun r3 =>
 (brE r3
 ((qlc (wI r0.2.2.1) 2 r0.2.1 r0.2.2.1 r0.2.2.2.1 r0.2.2.2.2.1 r0.2.2.2.2.2.1 r0.2.2.2.2.2.2.1 r0.2.2.2.2.2.2.2.1 r0.2.2.2.2.2.2.2.2.1 r0.2.2.2.2.2.2.2.2.2).bind fun r4 =>
 (gdE ((p0 r4.1.2.2.2.1)&&(decide (r4.1.2.2.2.1≤((r4.2.1.size:Nat):Int))))<|
 (gdE ((p0 r4.2.2.1)&&(decide (r4.2.2.1≤(((Int.toNat r4.1.2.2.2.1):Nat):Int))))<|
 (some ((),((),(r4.2.1,(r4.1.2.2.2.1,(r4.1.2.2.2.2.1,(r4.2.2.1,((ByteArray.extract r4.2.1 (Int.toNat r4.2.2.1) (Int.toNat r4.1.2.2.2.1)),(r4.2.2.2.2.2.2.1,(r4.2.2.2.2.2.2.2.1,(r4.2.2.2.2.2.2.2.2.1,r4.2.2.2.2.2.2.2.2.2))))))))))))))
 ((qlc (wI r0.2.2.1) 3 r0.2.1 r0.2.2.1 r0.2.2.2.1 r0.2.2.2.2.1 r0.2.2.2.2.2.1 r0.2.2.2.2.2.2.1 r0.2.2.2.2.2.2.2.1 r0.2.2.2.2.2.2.2.2.1 r0.2.2.2.2.2.2.2.2.2).bind fun r4 =>
 (gdE ((p0 r4.1.2.2.2.1)&&(decide (r4.1.2.2.2.1≤((r4.2.1.size:Nat):Int))))<|
 (gdE ((p0 r4.2.2.1)&&(decide (r4.2.2.1≤(((Int.toNat r4.1.2.2.2.1):Nat):Int))))<|
 (some ((),((),(r4.2.1,(r4.1.2.2.2.1,(r4.1.2.2.2.2.1,(r4.2.2.1,((ByteArray.extract r4.2.1 (Int.toNat r4.2.2.1) (Int.toNat r4.1.2.2.2.1)),(r4.2.2.2.2.2.2.1,(r4.2.2.2.2.2.2.2.1,(r4.2.2.2.2.2.2.2.2.1,r4.2.2.2.2.2.2.2.2.2))))))))))))))))
 (gdE ((p0 (wI r0.2.2.1))&&(decide ((wI r0.2.2.1)≤((r0.2.1.size:Nat):Int))))<|
 (gdE ((p0 r0.2.2.1)&&(decide (r0.2.2.1≤(((Int.toNat (wI r0.2.2.1)):Nat):Int))))<|
 (some ((),((),(r0.2.1,((wI r0.2.2.1),(4,(r0.2.2.1,((ByteArray.extract r0.2.1 (Int.toNat r0.2.2.1) (Int.toNat (wI r0.2.2.1))),(r0.2.2.2.2.2.2.1,(r0.2.2.2.2.2.2.2.1,(r0.2.2.2.2.2.2.2.2.1,r0.2.2.2.2.2.2.2.2.2)))))))))))))))
 ((qku (((UInt8.toNat (Array.getD r0.2.1.data (Int.toNat r0.2.2.1) (0:UInt8))):Nat):Int)).bind fun r2 =>
 (brE r2
 ((qlc (wI r0.2.2.1) 2 r0.2.1 r0.2.2.1 r0.2.2.2.1 r0.2.2.2.2.1 r0.2.2.2.2.2.1 r0.2.2.2.2.2.2.1 r0.2.2.2.2.2.2.2.1 r0.2.2.2.2.2.2.2.2.1 r0.2.2.2.2.2.2.2.2.2).bind fun r3 =>
 (gdE ((p0 r3.1.2.2.2.1)&&(decide (r3.1.2.2.2.1≤((r3.2.1.size:Nat):Int))))<|
 (gdE ((p0 r3.2.2.1)&&(decide (r3.2.2.1≤(((Int.toNat r3.1.2.2.2.1):Nat):Int))))<|
 (some ((),((),(r3.2.1,(r3.1.2.2.2.1,(r3.1.2.2.2.2.1,(r3.2.2.1,((ByteArray.extract r3.2.1 (Int.toNat r3.2.2.1) (Int.toNat r3.1.2.2.2.1)),(r3.2.2.2.2.2.2.1,(r3.2.2.2.2.2.2.2.1,(r3.2.2.2.2.2.2.2.2.1,r3.2.2.2.2.2.2.2.2.2))))))))))))))
 ((qlc (wI r0.2.2.1) 3 r0.2.1 r0.2.2.1 r0.2.2.2.1 r0.2.2.2.2.1 r0.2.2.2.2.2.1 r0.2.2.2.2.2.2.1 r0.2.2.2.2.2.2.2.1 r0.2.2.2.2.2.2.2.2.1 r0.2.2.2.2.2.2.2.2.2).bind fun r3 =>
 (gdE ((p0 r3.1.2.2.2.1)&&(decide (r3.1.2.2.2.1≤((r3.2.1.size:Nat):Int))))<|
 (gdE ((p0 r3.2.2.1)&&(decide (r3.2.2.1≤(((Int.toNat r3.1.2.2.2.1):Nat):Int))))<|
 (some ((),((),(r3.2.1,(r3.1.2.2.2.1,(r3.1.2.2.2.2.1,(r3.2.2.1,((ByteArray.extract r3.2.1 (Int.toNat r3.2.2.1) (Int.toNat r3.1.2.2.2.1)),(r3.2.2.2.2.2.2.1,(r3.2.2.2.2.2.2.2.1,(r3.2.2.2.2.2.2.2.2.1,r3.2.2.2.2.2.2.2.2.2))))))))))))))))))))))
theorem ql4 {b0 b0_1 b0_2 b0_3 b0_4 b0_5 b0_6 b0_7 b0_8 r} (h:qlm b0 b0_1 b0_2 b0_3 b0_4 b0_5 b0_6 b0_7 b0_8=some r):ql2 b0 b0_1 b0_2 b0_3 b0_4 b0_5 b0_6 b0_7 b0_8=some r :=
 q8q (fn:=Tryz.f19) (es:=qtn) (hs:=q9c) [ql6,qld] (by kernel_rfl) rfl (by kernel_rfl) (by kernel_rfl) ⟨⟨_,rfl,rfl⟩,⟨_,rfl,rfl⟩,trivial⟩ trivial (by kernel_rfl) h
def ql3:=hentS Tryz.prog lv X0 19 [0,3,0,0,1,9,1,3,1,1,1,1,1,1,1,3,1,2,1,1,1,1,1,1,0] qll qlj (fun x=>ql2 x.2.1 x.2.2.1 x.2.2.2.1 x.2.2.2.2.1 x.2.2.2.2.2.1 x.2.2.2.2.2.2.1 x.2.2.2.2.2.2.2.1 x.2.2.2.2.2.2.2.2.1 x.2.2.2.2.2.2.2.2.2) (fun _ _ h=>q8p h)
def q94:=ql3::q9c
def qod:=sLS [0] z1k (qaj z1e) [false] [0] (by decide) (fun _=>rfl)
def qoc:SC ((List S59)×(ByteArray×Int×Int×Int×ByteArray×Bool×Int×Int×Int)):=sLS [0] (qaj (vC (cSl q5l))) (qaj (qd1 (bBox (qah (vC cStr) (qah (vC (cInt .i64)) (qah (vC (cInt .i64)) (qah (vC (cInt .i64)) (qah (vC cStr) (qah (vC cBool) (qah (vC (cInt .i64)) (qah (vC (cInt .i64)) (qaj (vC (cInt .i64)))))))))))))) [false] [0] (by decide) (fun _=>rfl)
def qob:HC ((List S59)×((List S59)×(ByteArray×Int×Int×Int×ByteArray×Bool×Int×Int×Int))):=hPair (vC (cSl q5l)) qoc
def qo1 (b0:BA) (b0_1 b0_2 b0_3:Int) (b0_4:BA) (b0_5:Bool) (b0_6 b0_7 b0_8:Int):=hS Tryz.prog lv X0 20 qod qob ((),(b0,b0_1,b0_2,b0_3,b0_4,b0_5,b0_6,b0_7,b0_8))
def qo2:=hentS Tryz.prog lv X0 20 [0,3,0,0,1,9,1,3,1,1,1,1,1,1,1,3,1,2,1,1,1,1,1,1,0] qod qob (fun x=>qo1 x.2.1 x.2.2.1 x.2.2.2.1 x.2.2.2.2.1 x.2.2.2.2.2.1 x.2.2.2.2.2.2.1 x.2.2.2.2.2.2.2.1 x.2.2.2.2.2.2.2.2.1 x.2.2.2.2.2.2.2.2.2) (fun _ _ h=>q8p h)
def q9e:=qo2::q94
def qnz:=sLS [0] z1k (qaj z1e) [false] [0] (by decide) (fun _=>rfl)
def qny:SC ((Int×Int×(List S57)×ByteArray×Int×ByteArray×Int×(List S59)×(List S59)×Int×ByteArray×ByteArray×Int)×(ByteArray×Int×Int×Int×ByteArray×Bool×Int×Int×Int)):=sLS [0] (qaj (vAgg (qah (vC (cInt .i64)) (qah (vC (cInt .i64)) (qah (vC (cSl q5k)) (qah (vC cStr) (qah (vC (cInt .i64)) (qah (vC cStr) (qah (vC (cInt .i64)) (qah (vC (cSl q5l)) (qah (vC (cSl q5l)) (qah (vC (cInt .i64)) (qah (vC cStr) (qah (vC cStr) (qaj (vC (cInt .i64))))))))))))))))) (qaj (qd1 (bBox (qah (vC cStr) (qah (vC (cInt .i64)) (qah (vC (cInt .i64)) (qah (vC (cInt .i64)) (qah (vC cStr) (qah (vC cBool) (qah (vC (cInt .i64)) (qah (vC (cInt .i64)) (qaj (vC (cInt .i64)))))))))))))) [false] [0] (by decide) (fun _=>rfl)
def qnx:HC ((Int×Int×(List S57)×ByteArray×Int×ByteArray×Int×(List S59)×(List S59)×Int×ByteArray×ByteArray×Int)×((Int×Int×(List S57)×ByteArray×Int×ByteArray×Int×(List S59)×(List S59)×Int×ByteArray×ByteArray×Int)×(ByteArray×Int×Int×Int×ByteArray×Bool×Int×Int×Int))):=hPair (vAgg (qah (vC (cInt .i64)) (qah (vC (cInt .i64)) (qah (vC (cSl q5k)) (qah (vC cStr) (qah (vC (cInt .i64)) (qah (vC cStr) (qah (vC (cInt .i64)) (qah (vC (cSl q5l)) (qah (vC (cSl q5l)) (qah (vC (cInt .i64)) (qah (vC cStr) (qah (vC cStr) (qaj (vC (cInt .i64)))))))))))))))) qny
def qnu (b0:BA) (b0_1 b0_2 b0_3:Int) (b0_4:BA) (b0_5:Bool) (b0_6 b0_7 b0_8:Int):=hS Tryz.prog lv X0 40 qnz qnx ((),(b0,b0_1,b0_2,b0_3,b0_4,b0_5,b0_6,b0_7,b0_8))
def qnv:=hentS Tryz.prog lv X0 40 [0,3,0,0,1,9,1,3,1,1,1,1,1,1,1,3,1,2,1,1,1,1,1,1,0] qnz qnx (fun x=>qnu x.2.1 x.2.2.1 x.2.2.2.1 x.2.2.2.2.1 x.2.2.2.2.2.1 x.2.2.2.2.2.2.1 x.2.2.2.2.2.2.2.1 x.2.2.2.2.2.2.2.2.1 x.2.2.2.2.2.2.2.2.2) (fun _ _ h=>q8p h)
def q9d:=qnv::q9e
def qm6:=sLS [0,1,2] (qah (vPtr 0 0) (qah z1f (qaj (vC cStr)))) (qaj z1e) [false] [0] (by decide) (fun _=>rfl)
def qm5:SC (Bool×(ByteArray×Int×Int×Int×ByteArray×Bool×Int×Int×Int)):=sLS [0] (qaj (vC cBool)) (qaj (qd1 (bBox (qah (vC cStr) (qah (vC (cInt .i64)) (qah (vC (cInt .i64)) (qah (vC (cInt .i64)) (qah (vC cStr) (qah (vC cBool) (qah (vC (cInt .i64)) (qah (vC (cInt .i64)) (qaj (vC (cInt .i64)))))))))))))) [false] [0] (by decide) (fun _=>rfl)
def qm4:HC (Bool×(Bool×(ByteArray×Int×Int×Int×ByteArray×Bool×Int×Int×Int))):=hPair (vC cBool) qm5
def qm1 (kind:Int) (s b0:BA) (b0_1 b0_2 b0_3:Int) (b0_4:BA) (b0_5:Bool) (b0_6 b0_7 b0_8:Int):=hS Tryz.prog lv X0 54 qm6 qm4 (((),kind,s),(b0,b0_1,b0_2,b0_3,b0_4,b0_5,b0_6,b0_7,b0_8))
def qm7 (kind:Int) (s b0:BA) (b0_1 b0_2 b0_3:Int) (b0_4:BA) (b0_5:Bool) (b0_6 b0_7 b0_8:Int):Oq (Bool×(Bool×(BA×Int×Int×Int×BA×Bool×Int×Int×Int))) :=
 (brE (b0_5==false)
 (brE ((b0_2 != kind)==false)
 (brE (!(b0_4.toList==s.toList))
 (some (false,(false,(b0,(b0_1,(b0_2,(b0_3,(b0_4,(b0_5,(b0_6,(b0_7,b0_8)))))))))))
 ((ql2 b0 b0_1 b0_2 b0_3 b0_4 b0_5 b0_6 b0_7 b0_8).bind fun r0 =>
 (some (true,(true,(r0.2.2.1,(r0.2.2.2.1,(r0.2.2.2.2.1,(r0.2.2.2.2.2.1,(r0.2.2.2.2.2.2.1,(r0.2.2.2.2.2.2.2.1,(r0.2.2.2.2.2.2.2.2.1,(r0.2.2.2.2.2.2.2.2.2.1,r0.2.2.2.2.2.2.2.2.2.2)))))))))))))
 (some (false,(false,(b0,(b0_1,(b0_2,(b0_3,(b0_4,(b0_5,(b0_6,(b0_7,b0_8))))))))))))
 (some (false,(false,(b0,(b0_1,(b0_2,(b0_3,(b0_4,(b0_5,(b0_6,(b0_7,b0_8))))))))))))
theorem qm3 {kind s b0 b0_1 b0_2 b0_3 b0_4 b0_5 b0_6 b0_7 b0_8 r} (h:qm7 kind s b0 b0_1 b0_2 b0_3 b0_4 b0_5 b0_6 b0_7 b0_8=some r):qm1 kind s b0 b0_1 b0_2 b0_3 b0_4 b0_5 b0_6 b0_7 b0_8=some r :=
 q8q (fn:=Tryz.f54) (es:=qtn) (hs:=q9d) [] (by kernel_rfl) rfl (by kernel_rfl) (by kernel_rfl) trivial trivial (by kernel_rfl) h
def qm2:=hentS Tryz.prog lv X0 54 [0,3,0,0,1,1,1,2,1,3,1,9,1,3,1,1,1,1,1,1,1,3,1,2,1,1,1,1,1,1,0] qm6 qm4 (fun x=>qm1 x.1.2.1 x.1.2.2 x.2.1 x.2.2.1 x.2.2.2.1 x.2.2.2.2.1 x.2.2.2.2.2.1 x.2.2.2.2.2.2.1 x.2.2.2.2.2.2.2.1 x.2.2.2.2.2.2.2.2.1 x.2.2.2.2.2.2.2.2.2) (fun _ _ h=>q8p h)
def q97:=qm2::q9d
def qoy:=sLS [0] z1k (qaj z1e) [false] [0] (by decide) (fun _=>rfl)
def qox:SC ((Int×(List S57)×ByteArray×Int×ByteArray×Int)×(ByteArray×Int×Int×Int×ByteArray×Bool×Int×Int×Int)):=sLS [0] (qaj (vAgg (qah (vC (cInt .i64)) (qah (vC (cSl q5k)) (qah (vC cStr) (qah (vC (cInt .i64)) (qah (vC cStr) (qaj (vC (cInt .i64)))))))))) (qaj (qd1 (bBox (qah (vC cStr) (qah (vC (cInt .i64)) (qah (vC (cInt .i64)) (qah (vC (cInt .i64)) (qah (vC cStr) (qah (vC cBool) (qah (vC (cInt .i64)) (qah (vC (cInt .i64)) (qaj (vC (cInt .i64)))))))))))))) [false] [0] (by decide) (fun _=>rfl)
def qow:HC ((Int×(List S57)×ByteArray×Int×ByteArray×Int)×((Int×(List S57)×ByteArray×Int×ByteArray×Int)×(ByteArray×Int×Int×Int×ByteArray×Bool×Int×Int×Int))):=hPair (vAgg (qah (vC (cInt .i64)) (qah (vC (cSl q5k)) (qah (vC cStr) (qah (vC (cInt .i64)) (qah (vC cStr) (qaj (vC (cInt .i64))))))))) qox
def qot (b0:BA) (b0_1 b0_2 b0_3:Int) (b0_4:BA) (b0_5:Bool) (b0_6 b0_7 b0_8:Int):=hS Tryz.prog lv X0 55 qoy qow ((),(b0,b0_1,b0_2,b0_3,b0_4,b0_5,b0_6,b0_7,b0_8))
def qou:=hentS Tryz.prog lv X0 55 [0,3,0,0,1,9,1,3,1,1,1,1,1,1,1,3,1,2,1,1,1,1,1,1,0] qoy qow (fun x=>qot x.2.1 x.2.2.1 x.2.2.2.1 x.2.2.2.2.1 x.2.2.2.2.2.1 x.2.2.2.2.2.2.1 x.2.2.2.2.2.2.2.1 x.2.2.2.2.2.2.2.2.1 x.2.2.2.2.2.2.2.2.2) (fun _ _ h=>q8p h)
def q9h:=qou::q97
def qor:=sLS [0] z1k (qah (qd1 (bBox (qaj (vPtr 1 0)))) (qaj z1e)) [false,false] [0,1] (by decide) (fun _=>rfl)
def qoq:SC (Unit×(Unit×(ByteArray×Int×Int×Int×ByteArray×Bool×Int×Int×Int))):=sLS [] qai (qah (qd1 (bBox (qaj (vPtr 1 0)))) (qaj (qd1 (bBox (qah (vC cStr) (qah (vC (cInt .i64)) (qah (vC (cInt .i64)) (qah (vC (cInt .i64)) (qah (vC cStr) (qah (vC cBool) (qah (vC (cInt .i64)) (qah (vC (cInt .i64)) (qaj (vC (cInt .i64))))))))))))))) [false,false] [0,1] (by decide) (fun _=>rfl)
def qop:HC (Unit×(Unit×(Unit×(ByteArray×Int×Int×Int×ByteArray×Bool×Int×Int×Int)))):=hPair (vTup qai) qoq
def qom (b1:BA) (b1_1 b1_2 b1_3:Int) (b1_4:BA) (b1_5:Bool) (b1_6 b1_7 b1_8:Int):=hS Tryz.prog lv X0 74 qor qop ((),((),(b1,b1_1,b1_2,b1_3,b1_4,b1_5,b1_6,b1_7,b1_8)))
def qos (b1:BA) (b1_1 b1_2 b1_3:Int) (b1_4:BA) (b1_5:Bool) (b1_6 b1_7 b1_8:Int):Oq (Unit×(Unit×(Unit×(BA×Int×Int×Int×BA×Bool×Int×Int×Int)))) :=
 (some ((),((),((),(b1,(b1_1,(b1_2,(b1_3,(b1_4,(b1_5,(b1_6,(b1_7,(IntKind.wrap .i64 (b1_8 - 1))))))))))))))
theorem qoo {b1 b1_1 b1_2 b1_3 b1_4 b1_5 b1_6 b1_7 b1_8 r} (h:qos b1 b1_1 b1_2 b1_3 b1_4 b1_5 b1_6 b1_7 b1_8=some r):qom b1 b1_1 b1_2 b1_3 b1_4 b1_5 b1_6 b1_7 b1_8=some r :=
 q8q (fn:=Tryz.f74) (es:=qtn) (hs:=q9h) [] (by kernel_rfl) rfl (by kernel_rfl) (by kernel_rfl) trivial trivial (by kernel_rfl) h
def qon:=hentS Tryz.prog lv X0 74 [0,3,0,0,1,1,3,1,0,1,9,1,3,1,1,1,1,1,1,1,3,1,2,1,1,1,1,1,1,0,1] qor qop (fun x=>qom x.2.2.1 x.2.2.2.1 x.2.2.2.2.1 x.2.2.2.2.2.1 x.2.2.2.2.2.2.1 x.2.2.2.2.2.2.2.1 x.2.2.2.2.2.2.2.2.1 x.2.2.2.2.2.2.2.2.2.1 x.2.2.2.2.2.2.2.2.2.2) (fun _ _ h=>q8p h)
def q9g:=qon::q9h
def qmk:=sLS [0] z1k (qaj z1e) [false] [0] (by decide) (fun _=>rfl)
def qn6:=sLS [0,1] (qah (vPtr 0 0) (qaj (vC cStr))) (qaj z1e) [false] [0] (by decide) (fun _=>rfl)
def qn5:SC (Unit×(ByteArray×Int×Int×Int×ByteArray×Bool×Int×Int×Int)):=sLS [] qai (qaj (qd1 (bBox (qah (vC cStr) (qah (vC (cInt .i64)) (qah (vC (cInt .i64)) (qah (vC (cInt .i64)) (qah (vC cStr) (qah (vC cBool) (qah (vC (cInt .i64)) (qah (vC (cInt .i64)) (qaj (vC (cInt .i64)))))))))))))) [false] [0] (by decide) (fun _=>rfl)
def qn4:HC (Unit×(Unit×(ByteArray×Int×Int×Int×ByteArray×Bool×Int×Int×Int))):=hPair (vTup qai) qn5
def qn1 (s b0:BA) (b0_1 b0_2 b0_3:Int) (b0_4:BA) (b0_5:Bool) (b0_6 b0_7 b0_8:Int):=hS Tryz.prog lv X0 58 qn6 qn4 (((),s),(b0,b0_1,b0_2,b0_3,b0_4,b0_5,b0_6,b0_7,b0_8))
def qn7 (s b0:BA) (b0_1 b0_2 b0_3:Int) (b0_4:BA) (b0_5:Bool) (b0_6 b0_7 b0_8:Int):Oq (Unit×(Unit×(BA×Int×Int×Int×BA×Bool×Int×Int×Int))) :=
 ((qm1 4 s b0 b0_1 b0_2 b0_3 b0_4 b0_5 b0_6 b0_7 b0_8).bind fun r0 =>
 (brE (!r0.1)
 (some ((),((),(r0.2.2.1,(r0.2.2.2.1,(r0.2.2.2.2.1,(r0.2.2.2.2.2.1,(r0.2.2.2.2.2.2.1,(true,(r0.2.2.2.2.2.2.2.2.1,(r0.2.2.2.2.2.2.2.2.2.1,r0.2.2.2.2.2.2.2.2.2.2)))))))))))
 (some ((),((),(r0.2.2.1,(r0.2.2.2.1,(r0.2.2.2.2.1,(r0.2.2.2.2.2.1,(r0.2.2.2.2.2.2.1,(r0.2.2.2.2.2.2.2.1,(r0.2.2.2.2.2.2.2.2.1,(r0.2.2.2.2.2.2.2.2.2.1,r0.2.2.2.2.2.2.2.2.2.2)))))))))))))
theorem qn3 {s b0 b0_1 b0_2 b0_3 b0_4 b0_5 b0_6 b0_7 b0_8 r} (h:qn7 s b0 b0_1 b0_2 b0_3 b0_4 b0_5 b0_6 b0_7 b0_8=some r):qn1 s b0 b0_1 b0_2 b0_3 b0_4 b0_5 b0_6 b0_7 b0_8=some r :=
 q8q (fn:=Tryz.f58) (es:=qtn) (hs:=q9g) [] (by kernel_rfl) rfl (by kernel_rfl) (by kernel_rfl) trivial trivial (by kernel_rfl) h
def qn2:=hentS Tryz.prog lv X0 58 [0,3,0,0,1,1,3,1,9,1,3,1,1,1,1,1,1,1,3,1,2,1,1,1,1,1,1,0] qn6 qn4 (fun x=>qn1 x.1.2 x.2.1 x.2.2.1 x.2.2.2.1 x.2.2.2.2.1 x.2.2.2.2.2.1 x.2.2.2.2.2.2.1 x.2.2.2.2.2.2.2.1 x.2.2.2.2.2.2.2.2.1 x.2.2.2.2.2.2.2.2.2) (fun _ _ h=>q8p h)
def q9a:=qn2::q9g
def qmg:=sLS [0,3] (qah (vPtr 0 0) (qaj (vRow 1))) (qah z1e (qaj (qd1 (bRow q5k)))) [false,false] [0] (by decide) (fun _=>rfl)
def qmf:=sLS [0,3,10] (qah (vPtr 0 0) (qah (vRow 1) z1m)) (qah z1e (qaj (qd1 (bRow q5k)))) [false,false] [0] (by decide) (fun _=>rfl)
def qme:=oAt 2 qmf
def qmb (out:Nat) (b0:BA) (b0_1 b0_2 b0_3:Int) (b0_4:BA) (b0_5:Bool) (b0_6 b0_7 b0_8:Int) (b1:L57):=lS Tryz.prog lv X0 75 19 (q8l (cdF Tryz.f75) 3) qmg qme (((),out),((b0,b0_1,b0_2,b0_3,b0_4,b0_5,b0_6,b0_7,b0_8),b1))
def qmh (out:Nat) (b0:BA) (b0_1 b0_2 b0_3:Int) (b0_4:BA) (b0_5:Bool) (b0_6 b0_7 b0_8:Int) (b1:L57):Oq ((Unit×Nat×Bool)×((BA×Int×Int×Int×BA×Bool×Int×Int×Int)×L57)) :=
 ((qm1 4 (ByteArray.mk (List.toArray [(44:UInt8)])) b0 b0_1 b0_2 b0_3 b0_4 b0_5 b0_6 b0_7 b0_8).bind fun r0 =>
 (brE r0.1
 ((qot r0.2.2.1 r0.2.2.2.1 r0.2.2.2.2.1 r0.2.2.2.2.2.1 r0.2.2.2.2.2.2.1 r0.2.2.2.2.2.2.2.1 r0.2.2.2.2.2.2.2.2.1 r0.2.2.2.2.2.2.2.2.2.1 r0.2.2.2.2.2.2.2.2.2.2).bind fun r1 =>
 (gdE ((((aL [[(C.int Go.IntKind.i64 r1.1.1),(C.sl (EC.encL q5k r1.1.2.1)),(C.str r1.1.2.2.1),(C.int Go.IntKind.i64 r1.1.2.2.2.1),(C.str r1.1.2.2.2.2.1),(C.int Go.IntKind.i64 r1.1.2.2.2.2.2)]] 6)&&(aL (EC.encL q5k b1) 6))&&(dQ (out+(List.length [[(C.int Go.IntKind.i64 r1.1.1),(C.sl (EC.encL q5k r1.1.2.1)),(C.str r1.1.2.2.1),(C.int Go.IntKind.i64 r1.1.2.2.2.1),(C.str r1.1.2.2.2.2.1),(C.int Go.IntKind.i64 r1.1.2.2.2.2.2)]])) 80))&&(decide ((out+(List.length [[(C.int Go.IntKind.i64 r1.1.1),(C.sl (EC.encL q5k r1.1.2.1)),(C.str r1.1.2.2.1),(C.int Go.IntKind.i64 r1.1.2.2.2.1),(C.str r1.1.2.2.2.2.1),(C.int Go.IntKind.i64 r1.1.2.2.2.2.2)]]))≤9223372036854775807)))<|
 (gdE (EC.isL q5k ((EC.encL q5k b1)++[[(C.int Go.IntKind.i64 r1.1.1),(C.sl (EC.encL q5k r1.1.2.1)),(C.str r1.1.2.2.1),(C.int Go.IntKind.i64 r1.1.2.2.2.1),(C.str r1.1.2.2.2.2.1),(C.int Go.IntKind.i64 r1.1.2.2.2.2.2)]]))<|
 (qmb (out+(List.length [[(C.int Go.IntKind.i64 r1.1.1),(C.sl (EC.encL q5k r1.1.2.1)),(C.str r1.1.2.2.1),(C.int Go.IntKind.i64 r1.1.2.2.2.1),(C.str r1.1.2.2.2.2.1),(C.int Go.IntKind.i64 r1.1.2.2.2.2.2)]])) r1.2.2.1 r1.2.2.2.1 r1.2.2.2.2.1 r1.2.2.2.2.2.1 r1.2.2.2.2.2.2.1 r1.2.2.2.2.2.2.2.1 r1.2.2.2.2.2.2.2.2.1 r1.2.2.2.2.2.2.2.2.2.1 r1.2.2.2.2.2.2.2.2.2.2 (EC.decL q5k ((EC.encL q5k b1)++[[(C.int Go.IntKind.i64 r1.1.1),(C.sl (EC.encL q5k r1.1.2.1)),(C.str r1.1.2.2.1),(C.int Go.IntKind.i64 r1.1.2.2.2.1),(C.str r1.1.2.2.2.2.1),(C.int Go.IntKind.i64 r1.1.2.2.2.2.2)]]))))))
 (gL q5k b1<|
 (some (((),(out,false)),((r0.2.2.1,(r0.2.2.2.1,(r0.2.2.2.2.1,(r0.2.2.2.2.2.1,(r0.2.2.2.2.2.2.1,(r0.2.2.2.2.2.2.2.1,(r0.2.2.2.2.2.2.2.2.1,(r0.2.2.2.2.2.2.2.2.2.1,r0.2.2.2.2.2.2.2.2.2.2)))))))),(dL q5k b1)))))))
theorem qmd {out b0 b0_1 b0_2 b0_3 b0_4 b0_5 b0_6 b0_7 b0_8 b1 r} (h:qmh out b0 b0_1 b0_2 b0_3 b0_4 b0_5 b0_6 b0_7 b0_8 b1=some r):qmb out b0 b0_1 b0_2 b0_3 b0_4 b0_5 b0_6 b0_7 b0_8 b1=some r :=
 qal (es:=qtn) (hs:=q9a) [] (by kernel_rfl) trivial trivial (by kernel_rfl) h
def qmc:=qb9 Tryz.prog lv X0 3 (q8l (cdF Tryz.f75) 3) qmg qme (fun x=>qmb x.1.2 x.2.1.1 x.2.1.2.1 x.2.1.2.2.1 x.2.1.2.2.2.1 x.2.1.2.2.2.2.1 x.2.1.2.2.2.2.2.1 x.2.1.2.2.2.2.2.2.1 x.2.1.2.2.2.2.2.2.2.1 x.2.1.2.2.2.2.2.2.2.2 x.2.2) (fun _ _ h=>qak h)
def qmj:SC ((List S57)×(ByteArray×Int×Int×Int×ByteArray×Bool×Int×Int×Int)):=sLS [0] (qaj (vC (cSl q5k))) (qaj (qd1 (bBox (qah (vC cStr) (qah (vC (cInt .i64)) (qah (vC (cInt .i64)) (qah (vC (cInt .i64)) (qah (vC cStr) (qah (vC cBool) (qah (vC (cInt .i64)) (qah (vC (cInt .i64)) (qaj (vC (cInt .i64)))))))))))))) [false] [0] (by decide) (fun _=>rfl)
def qmi:HC ((List S57)×((List S57)×(ByteArray×Int×Int×Int×ByteArray×Bool×Int×Int×Int))):=hPair (vC (cSl q5k)) qmj
def qm8 (b0:BA) (b0_1 b0_2 b0_3:Int) (b0_4:BA) (b0_5:Bool) (b0_6 b0_7 b0_8:Int):=hS Tryz.prog lv X0 75 qmk qmi ((),(b0,b0_1,b0_2,b0_3,b0_4,b0_5,b0_6,b0_7,b0_8))
def qml (b0:BA) (b0_1 b0_2 b0_3:Int) (b0_4:BA) (b0_5:Bool) (b0_6 b0_7 b0_8:Int):Oq (L57×(L57×(BA×Int×Int×Int×BA×Bool×Int×Int×Int))) :=
 ((qn1 (ByteArray.mk (List.toArray [(40:UInt8)])) b0 b0_1 b0_2 b0_3 b0_4 b0_5 b0_6 b0_7 b0_8).bind fun r0 =>
 ((qot r0.2.2.1 r0.2.2.2.1 r0.2.2.2.2.1 r0.2.2.2.2.2.1 r0.2.2.2.2.2.2.1 r0.2.2.2.2.2.2.2.1 r0.2.2.2.2.2.2.2.2.1 r0.2.2.2.2.2.2.2.2.2.1 r0.2.2.2.2.2.2.2.2.2.2).bind fun r1 =>
 (gdE (EC.isL q5k [[(C.int Go.IntKind.i64 r1.1.1),(C.sl (EC.encL q5k r1.1.2.1)),(C.str r1.1.2.2.1),(C.int Go.IntKind.i64 r1.1.2.2.2.1),(C.str r1.1.2.2.2.2.1),(C.int Go.IntKind.i64 r1.1.2.2.2.2.2)]])<|
 ((qmb 1 r1.2.2.1 r1.2.2.2.1 r1.2.2.2.2.1 r1.2.2.2.2.2.1 r1.2.2.2.2.2.2.1 r1.2.2.2.2.2.2.2.1 r1.2.2.2.2.2.2.2.2.1 r1.2.2.2.2.2.2.2.2.2.1 r1.2.2.2.2.2.2.2.2.2.2 (EC.decL q5k [[(C.int Go.IntKind.i64 r1.1.1),(C.sl (EC.encL q5k r1.1.2.1)),(C.str r1.1.2.2.1),(C.int Go.IntKind.i64 r1.1.2.2.2.1),(C.str r1.1.2.2.2.2.1),(C.int Go.IntKind.i64 r1.1.2.2.2.2.2)]])).bind fun r2 =>
 ((qn1 (ByteArray.mk (List.toArray [(41:UInt8)])) r2.2.1.1 r2.2.1.2.1 r2.2.1.2.2.1 r2.2.1.2.2.2.1 r2.2.1.2.2.2.2.1 r2.2.1.2.2.2.2.2.1 r2.2.1.2.2.2.2.2.2.1 r2.2.1.2.2.2.2.2.2.2.1 r2.2.1.2.2.2.2.2.2.2.2).bind fun r3 =>
 (gL q5k r2.2.2<|
 (gL q5k r2.2.2<|
 (some ((dL q5k r2.2.2),((dL q5k r2.2.2),(r3.2.2.1,(r3.2.2.2.1,(r3.2.2.2.2.1,(r3.2.2.2.2.2.1,(r3.2.2.2.2.2.2.1,(r3.2.2.2.2.2.2.2.1,(r3.2.2.2.2.2.2.2.2.1,(r3.2.2.2.2.2.2.2.2.2.1,r3.2.2.2.2.2.2.2.2.2.2))))))))))))))))))
theorem qma {b0 b0_1 b0_2 b0_3 b0_4 b0_5 b0_6 b0_7 b0_8 r} (h:qml b0 b0_1 b0_2 b0_3 b0_4 b0_5 b0_6 b0_7 b0_8=some r):qm8 b0 b0_1 b0_2 b0_3 b0_4 b0_5 b0_6 b0_7 b0_8=some r :=
 q8q (fn:=Tryz.f75) (es:=qtn) (hs:=q9a) [qmc] (by kernel_rfl) rfl (by kernel_rfl) (by kernel_rfl) ⟨⟨_,rfl,rfl⟩,trivial⟩ trivial (by kernel_rfl) h
def qm9:=hentS Tryz.prog lv X0 75 [0,3,0,0,1,9,1,3,1,1,1,1,1,1,1,3,1,2,1,1,1,1,1,1,0] qmk qmi (fun x=>qm8 x.2.1 x.2.2.1 x.2.2.2.1 x.2.2.2.2.1 x.2.2.2.2.2.1 x.2.2.2.2.2.2.1 x.2.2.2.2.2.2.2.1 x.2.2.2.2.2.2.2.2.1 x.2.2.2.2.2.2.2.2.2) (fun _ _ h=>q8p h)
def q98:=qm9::q9a
def qok:=sLS [0,1] (qah (vPtr 0 0) (qaj z1f)) (qaj z1e) [false] [0] (by decide) (fun _=>rfl)
def qoj:SC (ByteArray×(ByteArray×Int×Int×Int×ByteArray×Bool×Int×Int×Int)):=sLS [0] (qaj (vC cStr)) (qaj (qd1 (bBox (qah (vC cStr) (qah (vC (cInt .i64)) (qah (vC (cInt .i64)) (qah (vC (cInt .i64)) (qah (vC cStr) (qah (vC cBool) (qah (vC (cInt .i64)) (qah (vC (cInt .i64)) (qaj (vC (cInt .i64)))))))))))))) [false] [0] (by decide) (fun _=>rfl)
def qoi:HC (ByteArray×(ByteArray×(ByteArray×Int×Int×Int×ByteArray×Bool×Int×Int×Int))):=hPair (vC cStr) qoj
def qof (kind:Int) (b0:BA) (b0_1 b0_2 b0_3:Int) (b0_4:BA) (b0_5:Bool) (b0_6 b0_7 b0_8:Int):=hS Tryz.prog lv X0 57 qok qoi (((),kind),(b0,b0_1,b0_2,b0_3,b0_4,b0_5,b0_6,b0_7,b0_8))
def qol (kind:Int) (b0:BA) (b0_1 b0_2 b0_3:Int) (b0_4:BA) (b0_5:Bool) (b0_6 b0_7 b0_8:Int):Oq (BA×(BA×(BA×Int×Int×Int×BA×Bool×Int×Int×Int))) :=
 (brE (b0_5==false)
 (brE (b0_2 != kind)
 (some (⟨#[]⟩,(⟨#[]⟩,(b0,(b0_1,(b0_2,(b0_3,(b0_4,(true,(b0_6,(b0_7,b0_8)))))))))))
 ((ql2 b0 b0_1 b0_2 b0_3 b0_4 b0_5 b0_6 b0_7 b0_8).bind fun r0 =>
 (some (b0_4,(b0_4,(r0.2.2.1,(r0.2.2.2.1,(r0.2.2.2.2.1,(r0.2.2.2.2.2.1,(r0.2.2.2.2.2.2.1,(r0.2.2.2.2.2.2.2.1,(r0.2.2.2.2.2.2.2.2.1,(r0.2.2.2.2.2.2.2.2.2.1,r0.2.2.2.2.2.2.2.2.2.2)))))))))))))
 (some (⟨#[]⟩,(⟨#[]⟩,(b0,(b0_1,(b0_2,(b0_3,(b0_4,(true,(b0_6,(b0_7,b0_8))))))))))))
theorem qoh {kind b0 b0_1 b0_2 b0_3 b0_4 b0_5 b0_6 b0_7 b0_8 r} (h:qol kind b0 b0_1 b0_2 b0_3 b0_4 b0_5 b0_6 b0_7 b0_8=some r):qof kind b0 b0_1 b0_2 b0_3 b0_4 b0_5 b0_6 b0_7 b0_8=some r :=
 q8q (fn:=Tryz.f57) (es:=qtn) (hs:=q98) [] (by kernel_rfl) rfl (by kernel_rfl) (by kernel_rfl) trivial trivial (by kernel_rfl) h
def qog:=hentS Tryz.prog lv X0 57 [0,3,0,0,1,1,1,1,9,1,3,1,1,1,1,1,1,1,3,1,2,1,1,1,1,1,1,0] qok qoi (fun x=>qof x.1.2 x.2.1 x.2.2.1 x.2.2.2.1 x.2.2.2.2.1 x.2.2.2.2.2.1 x.2.2.2.2.2.2.1 x.2.2.2.2.2.2.2.1 x.2.2.2.2.2.2.2.2.1 x.2.2.2.2.2.2.2.2.2) (fun _ _ h=>q8p h)
def q9f:=qog::q98
abbrev z1h:=(qah z1e (qah (qd1 (bBox (qah z1f (qah (vRow 2) (qah (vC cStr) (qah z1f (qah (vC cStr) (qaj z1f)))))))) (qaj (qd1 (bRow q5k)))))
def qmz:=sLS [0,1] (qah (vPtr 0 0) (qaj (vPtr 1 0))) z1h [false,false,false] [0,1] (by decide) (fun _=>rfl)
def qmv:=sLS [0,1,6,7] (qah (vPtr 0 0) (qah (vPtr 1 0) (qah z1l (qaj z1f)))) z1h [false,false,false] [0,1] (by decide) (fun _=>rfl)
def qmu:=sLS [0,1,6,7,8] (qah (vPtr 0 0) (qah (vPtr 1 0) (qah z1l (qah z1f z1m)))) z1h [false,false,false] [0,1] (by decide) (fun _=>rfl)
def qmt:=sLS [] qai z1h [false,false,false] [0,1] (by decide) (fun _=>rfl)
def qms:=oOr 1 qmt (oAt 2 qmu) (fun x=>(by decide:(2:Nat)≠1))
def qmp (t6 t6_1 t6_2:BA) (t7:Int) (b0:BA) (b0_1 b0_2 b0_3:Int) (b0_4:BA) (b0_5:Bool) (b0_6 b0_7:Int) (b0_8 b1:Int) (b1_1:Nat) (b1_2:BA) (b1_3:Int) (b1_4:BA) (b1_5:Int) (b2:L57):=lS Tryz.prog lv X0 76 28 (q8l (cdF Tryz.f76) 1) qmv qms (((),(),(t6,t6_1,t6_2),t7),((b0,b0_1,b0_2,b0_3,b0_4,b0_5,b0_6,b0_7,b0_8),(b1,b1_1,b1_2,b1_3,b1_4,b1_5),b2))
def qmw (t6 t6_1 t6_2:BA) (t7:Int) (b0:BA) (b0_1 b0_2 b0_3:Int) (b0_4:BA) (b0_5:Bool) (b0_6 b0_7:Int) (b0_8 b1:Int) (b1_1:Nat) (b1_2:BA) (b1_3:Int) (b1_4:BA) (b1_5:Int) (b2:L57):Oq ((Unit×((BA×Int×Int×Int×BA×Bool×Int×Int×Int)×(Int×Nat×BA×Int×BA×Int)×L57))⊕((Unit×Unit×(BA×BA×BA)×Int×Bool)×((BA×Int×Int×Int×BA×Bool×Int×Int×Int)×(Int×Nat×BA×Int×BA×Int)×L57))) :=
 (brE (decide (t7<3))
 (gdE (((p0 t7)&&(decide (t7<((3:Nat):Int))))&&(decide ((Int.toNat t7)<(List.length [t6,t6_1,t6_2]))))<|
 ((qm1 2 (List.getD [t6,t6_1,t6_2] (Int.toNat t7) ByteArray.empty) b0 b0_1 b0_2 b0_3 b0_4 b0_5 b0_6 b0_7 b0_8).bind fun r0 =>
 (brE r0.1
 ((qof 1 r0.2.2.1 r0.2.2.2.1 r0.2.2.2.2.1 r0.2.2.2.2.2.1 r0.2.2.2.2.2.2.1 r0.2.2.2.2.2.2.2.1 r0.2.2.2.2.2.2.2.2.1 r0.2.2.2.2.2.2.2.2.2.1 r0.2.2.2.2.2.2.2.2.2.2).bind fun r1 =>
 (gL q5k b2<|
 (some (.inl ((),((r1.2.2.1,(r1.2.2.2.1,(r1.2.2.2.2.1,(r1.2.2.2.2.2.1,(r1.2.2.2.2.2.2.1,(r1.2.2.2.2.2.2.2.1,(r1.2.2.2.2.2.2.2.2.1,(r1.2.2.2.2.2.2.2.2.2.1,r1.2.2.2.2.2.2.2.2.2.2)))))))),((b1,(b1_1,(b1_2,((wI t7),(r1.1,b1_5))))),(dL q5k b2))))))))
 (gL q5k b2<|
 (qmp t6 t6_1 t6_2 (wI t7) r0.2.2.1 r0.2.2.2.1 r0.2.2.2.2.1 r0.2.2.2.2.2.1 r0.2.2.2.2.2.2.1 r0.2.2.2.2.2.2.2.1 r0.2.2.2.2.2.2.2.2.1 r0.2.2.2.2.2.2.2.2.2.1 r0.2.2.2.2.2.2.2.2.2.2 b1 b1_1 b1_2 b1_3 b1_4 b1_5 (dL q5k b2))))))
 (gL q5k b2<|
 (some (.inr (((),((),((t6,(t6_1,t6_2)),(t7,false)))),((b0,(b0_1,(b0_2,(b0_3,(b0_4,(b0_5,(b0_6,(b0_7,b0_8)))))))),((b1,(b1_1,(b1_2,(b1_3,(b1_4,b1_5))))),(dL q5k b2))))))))
theorem qmr {t6 t6_1 t6_2 t7 b0 b0_1 b0_2 b0_3 b0_4 b0_5 b0_6 b0_7 b0_8 b1 b1_1 b1_2 b1_3 b1_4 b1_5 b2 r} (h:qmw t6 t6_1 t6_2 t7 b0 b0_1 b0_2 b0_3 b0_4 b0_5 b0_6 b0_7 b0_8 b1 b1_1 b1_2 b1_3 b1_4 b1_5 b2=some r):qmp t6 t6_1 t6_2 t7 b0 b0_1 b0_2 b0_3 b0_4 b0_5 b0_6 b0_7 b0_8 b1 b1_1 b1_2 b1_3 b1_4 b1_5 b2=some r :=
 qal (es:=qtn) (hs:=q9f) [] (by kernel_rfl) trivial trivial (by kernel_rfl) h
def qmq:=qb9 Tryz.prog lv X0 1 (q8l (cdF Tryz.f76) 1) qmv qms (fun x=>qmp x.1.2.2.1.1 x.1.2.2.1.2.1 x.1.2.2.1.2.2 x.1.2.2.2 x.2.1.1 x.2.1.2.1 x.2.1.2.2.1 x.2.1.2.2.2.1 x.2.1.2.2.2.2.1 x.2.1.2.2.2.2.2.1 x.2.1.2.2.2.2.2.2.1 x.2.1.2.2.2.2.2.2.2.1 x.2.1.2.2.2.2.2.2.2.2 x.2.2.1.1 x.2.2.1.2.1 x.2.2.1.2.2.1 x.2.2.1.2.2.2.1 x.2.2.1.2.2.2.2.1 x.2.2.1.2.2.2.2.2 x.2.2.2) (fun _ _ h=>qak h)
def qmy:SC (Unit×((ByteArray×Int×Int×Int×ByteArray×Bool×Int×Int×Int)×(Int×Nat×ByteArray×Int×ByteArray×Int)×(List S57))):=sLS [] qai (qah (qd1 (bBox (qah (vC cStr) (qah (vC (cInt .i64)) (qah (vC (cInt .i64)) (qah (vC (cInt .i64)) (qah (vC cStr) (qah (vC cBool) (qah (vC (cInt .i64)) (qah (vC (cInt .i64)) (qaj (vC (cInt .i64))))))))))))) (qah (qd1 (bBox (qah (vC (cInt .i64)) (qah (vRow 2) (qah (vC cStr) (qah (vC (cInt .i64)) (qah (vC cStr) (qaj (vC (cInt .i64)))))))))) (qaj (qd1 (bRow q5k))))) [false,false,false] [0,1] (by decide) (fun _=>rfl)
def qmx:HC (Unit×(Unit×((ByteArray×Int×Int×Int×ByteArray×Bool×Int×Int×Int)×(Int×Nat×ByteArray×Int×ByteArray×Int)×(List S57)))):=hPair (vTup qai) qmy
def qmm (b0:BA) (b0_1 b0_2 b0_3:Int) (b0_4:BA) (b0_5:Bool) (b0_6 b0_7:Int) (b0_8 b1:Int) (b1_1:Nat) (b1_2:BA) (b1_3:Int) (b1_4:BA) (b1_5:Int) (b2:L57):=hS Tryz.prog lv X0 76 qmz qmx (((),()),((b0,b0_1,b0_2,b0_3,b0_4,b0_5,b0_6,b0_7,b0_8),(b1,b1_1,b1_2,b1_3,b1_4,b1_5),b2))
def qn0 (b0:BA) (b0_1 b0_2 b0_3:Int) (b0_4:BA) (b0_5:Bool) (b0_6 b0_7:Int) (b0_8 b1:Int) (b1_1:Nat) (b1_2:BA) (b1_3:Int) (b1_4:BA) (b1_5:Int) (b2:L57):Oq (Unit×(Unit×((BA×Int×Int×Int×BA×Bool×Int×Int×Int)×(Int×Nat×BA×Int×BA×Int)×L57))) :=
 (Option.bind qit fun r0 =>
 (gL q5k b2<|
 ((qmp r0.1 r0.2.1 r0.2.2 0 b0 b0_1 b0_2 b0_3 b0_4 b0_5 b0_6 b0_7 b0_8 b1 b1_1 b1_2 b1_3 b1_4 b1_5 (dL q5k b2)).bind fun r1 =>
 (Sum.elim (fun r2=>(gdE (EC.isL q5k (EC.encL q5k r2.2.2.2))<|
 (some ((),((),((r2.2.1.1,(r2.2.1.2.1,(r2.2.1.2.2.1,(r2.2.1.2.2.2.1,(r2.2.1.2.2.2.2.1,(r2.2.1.2.2.2.2.2.1,(r2.2.1.2.2.2.2.2.2.1,(r2.2.1.2.2.2.2.2.2.2.1,r2.2.1.2.2.2.2.2.2.2.2)))))))),((r2.2.2.1.1,(r2.2.2.1.2.1,(r2.2.2.1.2.2.1,(r2.2.2.1.2.2.2.1,(r2.2.2.1.2.2.2.2.1,r2.2.2.1.2.2.2.2.2))))),(dL q5k r2.2.2.2))))))))
 (fun r2=>(gdE (EC.isL q5k (EC.encL q5k r2.2.2.2))<|
 (some ((),((),((r2.2.1.1,(r2.2.1.2.1,(r2.2.1.2.2.1,(r2.2.1.2.2.2.1,(r2.2.1.2.2.2.2.1,(true,(r2.2.1.2.2.2.2.2.2.1,(r2.2.1.2.2.2.2.2.2.2.1,r2.2.1.2.2.2.2.2.2.2.2)))))))),((r2.2.2.1.1,(r2.2.2.1.2.1,(r2.2.2.1.2.2.1,(r2.2.2.1.2.2.2.1,(r2.2.2.1.2.2.2.2.1,r2.2.2.1.2.2.2.2.2))))),(dL q5k r2.2.2.2)))))))) r1))))
theorem qmo {b0 b0_1 b0_2 b0_3 b0_4 b0_5 b0_6 b0_7 b0_8 b1 b1_1 b1_2 b1_3 b1_4 b1_5 b2 r} (h:qn0 b0 b0_1 b0_2 b0_3 b0_4 b0_5 b0_6 b0_7 b0_8 b1 b1_1 b1_2 b1_3 b1_4 b1_5 b2=some r):qmm b0 b0_1 b0_2 b0_3 b0_4 b0_5 b0_6 b0_7 b0_8 b1 b1_1 b1_2 b1_3 b1_4 b1_5 b2=some r :=
 q8q (fn:=Tryz.f76) (es:=qtn) (hs:=q9f) [qmq] (by kernel_rfl) rfl (by kernel_rfl) (by kernel_rfl) ⟨⟨_,rfl,rfl⟩,trivial⟩ trivial (by kernel_rfl) h
def qmn:=hentS Tryz.prog lv X0 76 [0,3,0,0,1,3,1,0,1,9,1,3,1,1,1,1,1,1,1,3,1,2,1,1,1,1,1,1,1,6,1,1,2,2,1,3,1,1,1,3,1,1,2,0,1] qmz qmx (fun x=>qmm x.2.1.1 x.2.1.2.1 x.2.1.2.2.1 x.2.1.2.2.2.1 x.2.1.2.2.2.2.1 x.2.1.2.2.2.2.2.1 x.2.1.2.2.2.2.2.2.1 x.2.1.2.2.2.2.2.2.2.1 x.2.1.2.2.2.2.2.2.2.2 x.2.2.1.1 x.2.2.1.2.1 x.2.2.1.2.2.1 x.2.2.1.2.2.2.1 x.2.2.1.2.2.2.2.1 x.2.2.1.2.2.2.2.2 x.2.2.2) (fun _ _ h=>q8p h)
def q99:=qmn::q9f
def qnd:=sLS [0] z1k (qaj z1e) [false] [0] (by decide) (fun _=>rfl)
def qnc:SC (Int×(ByteArray×Int×Int×Int×ByteArray×Bool×Int×Int×Int)):=sLS [0] (qaj (vC (cInt .i64))) (qaj (qd1 (bBox (qah (vC cStr) (qah (vC (cInt .i64)) (qah (vC (cInt .i64)) (qah (vC (cInt .i64)) (qah (vC cStr) (qah (vC cBool) (qah (vC (cInt .i64)) (qah (vC (cInt .i64)) (qaj (vC (cInt .i64)))))))))))))) [false] [0] (by decide) (fun _=>rfl)
def qnb:HC (Int×(Int×(ByteArray×Int×Int×Int×ByteArray×Bool×Int×Int×Int))):=hPair (vC (cInt .i64)) qnc
def qn8 (b0:BA) (b0_1 b0_2 b0_3:Int) (b0_4:BA) (b0_5:Bool) (b0_6 b0_7 b0_8:Int):=hS Tryz.prog lv X0 77 qnd qnb ((),(b0,b0_1,b0_2,b0_3,b0_4,b0_5,b0_6,b0_7,b0_8))
def qne (b0:BA) (b0_1 b0_2 b0_3:Int) (b0_4:BA) (b0_5:Bool) (b0_6 b0_7 b0_8:Int):Oq (Int×(Int×(BA×Int×Int×Int×BA×Bool×Int×Int×Int))) :=
 ((numP b0_4 9999999).bind fun r0 =>
 (brE ((b0_2 != 3)==false)
 (brE (!r0.2)
 (some (0,(0,(b0,(b0_1,(b0_2,(b0_3,(b0_4,(true,(b0_6,(b0_7,b0_8)))))))))))
 ((qof 3 b0 b0_1 b0_2 b0_3 b0_4 b0_5 b0_6 b0_7 b0_8).bind fun r1 =>
 (some (r0.1,(r0.1,(r1.2.2.1,(r1.2.2.2.1,(r1.2.2.2.2.1,(r1.2.2.2.2.2.1,(r1.2.2.2.2.2.2.1,(r1.2.2.2.2.2.2.2.1,(r1.2.2.2.2.2.2.2.2.1,(r1.2.2.2.2.2.2.2.2.2.1,r1.2.2.2.2.2.2.2.2.2.2)))))))))))))
 (some (0,(0,(b0,(b0_1,(b0_2,(b0_3,(b0_4,(true,(b0_6,(b0_7,b0_8)))))))))))))
theorem qna {b0 b0_1 b0_2 b0_3 b0_4 b0_5 b0_6 b0_7 b0_8 r} (h:qne b0 b0_1 b0_2 b0_3 b0_4 b0_5 b0_6 b0_7 b0_8=some r):qn8 b0 b0_1 b0_2 b0_3 b0_4 b0_5 b0_6 b0_7 b0_8=some r :=
 q8q (fn:=Tryz.f77) (es:=qtn) (hs:=q99) [] (by kernel_rfl) rfl (by kernel_rfl) (by kernel_rfl) trivial trivial (by kernel_rfl) h
def qn9:=hentS Tryz.prog lv X0 77 [0,3,0,0,1,9,1,3,1,1,1,1,1,1,1,3,1,2,1,1,1,1,1,1,0] qnd qnb (fun x=>qn8 x.2.1 x.2.2.1 x.2.2.2.1 x.2.2.2.2.1 x.2.2.2.2.2.1 x.2.2.2.2.2.2.1 x.2.2.2.2.2.2.2.1 x.2.2.2.2.2.2.2.2.1 x.2.2.2.2.2.2.2.2.2) (fun _ _ h=>q8p h)
def q9b:=qn9::q99
def qoz (b0:BA) (b0_1 b0_2 b0_3:Int) (b0_4:BA) (b0_5:Bool) (b0_6 b0_7 b0_8:Int):Oq ((Int×L57×BA×Int×BA×Int)×((Int×L57×BA×Int×BA×Int)×(BA×Int×Int×Int×BA×Bool×Int×Int×Int))) :=
 (brE (decide ((wI b0_8)>8))
 ((qm1 2 (ByteArray.mk (List.toArray [(116:UInt8),(114:UInt8),(117:UInt8),(101:UInt8)])) b0 b0_1 b0_2 b0_3 b0_4 true b0_6 b0_7 (wI b0_8)).bind fun r0 =>
 (brE r0.1
 ((qom r0.2.2.1 r0.2.2.2.1 r0.2.2.2.2.1 r0.2.2.2.2.2.1 r0.2.2.2.2.2.2.1 r0.2.2.2.2.2.2.2.1 r0.2.2.2.2.2.2.2.2.1 r0.2.2.2.2.2.2.2.2.2.1 r0.2.2.2.2.2.2.2.2.2.2).bind fun r1 =>
 (some ((1,((EC.decL q5k []),(⟨#[]⟩,(0,(⟨#[]⟩,0))))),((1,((EC.decL q5k []),(⟨#[]⟩,(0,(⟨#[]⟩,0))))),(r1.2.2.2.1,(r1.2.2.2.2.1,(r1.2.2.2.2.2.1,(r1.2.2.2.2.2.2.1,(r1.2.2.2.2.2.2.2.1,(r1.2.2.2.2.2.2.2.2.1,(r1.2.2.2.2.2.2.2.2.2.1,(r1.2.2.2.2.2.2.2.2.2.2.1,r1.2.2.2.2.2.2.2.2.2.2.2))))))))))))
 ((qm1 2 (ByteArray.mk (List.toArray [(110:UInt8),(111:UInt8),(116:UInt8)])) r0.2.2.1 r0.2.2.2.1 r0.2.2.2.2.1 r0.2.2.2.2.2.1 r0.2.2.2.2.2.2.1 r0.2.2.2.2.2.2.2.1 r0.2.2.2.2.2.2.2.2.1 r0.2.2.2.2.2.2.2.2.2.1 r0.2.2.2.2.2.2.2.2.2.2).bind fun r1 =>
 (brE r1.1
 ((qot r1.2.2.1 r1.2.2.2.1 r1.2.2.2.2.1 r1.2.2.2.2.2.1 r1.2.2.2.2.2.2.1 r1.2.2.2.2.2.2.2.1 r1.2.2.2.2.2.2.2.2.1 r1.2.2.2.2.2.2.2.2.2.1 r1.2.2.2.2.2.2.2.2.2.2).bind fun r2 =>
 ((qom r2.2.2.1 r2.2.2.2.1 r2.2.2.2.2.1 r2.2.2.2.2.2.1 r2.2.2.2.2.2.2.1 r2.2.2.2.2.2.2.2.1 r2.2.2.2.2.2.2.2.2.1 r2.2.2.2.2.2.2.2.2.2.1 r2.2.2.2.2.2.2.2.2.2.2).bind fun r3 =>
 (gdE (EC.isL q5k [[(C.int Go.IntKind.i64 r2.1.1),(C.sl (EC.encL q5k r2.1.2.1)),(C.str r2.1.2.2.1),(C.int Go.IntKind.i64 r2.1.2.2.2.1),(C.str r2.1.2.2.2.2.1),(C.int Go.IntKind.i64 r2.1.2.2.2.2.2)]])<|
 (gdE (EC.isL q5k [[(C.int Go.IntKind.i64 r2.1.1),(C.sl (EC.encL q5k r2.1.2.1)),(C.str r2.1.2.2.1),(C.int Go.IntKind.i64 r2.1.2.2.2.1),(C.str r2.1.2.2.2.2.1),(C.int Go.IntKind.i64 r2.1.2.2.2.2.2)]])<|
 (some ((2,((EC.decL q5k [[(C.int Go.IntKind.i64 r2.1.1),(C.sl (EC.encL q5k r2.1.2.1)),(C.str r2.1.2.2.1),(C.int Go.IntKind.i64 r2.1.2.2.2.1),(C.str r2.1.2.2.2.2.1),(C.int Go.IntKind.i64 r2.1.2.2.2.2.2)]]),(⟨#[]⟩,(0,(⟨#[]⟩,0))))),((2,((EC.decL q5k [[(C.int Go.IntKind.i64 r2.1.1),(C.sl (EC.encL q5k r2.1.2.1)),(C.str r2.1.2.2.1),(C.int Go.IntKind.i64 r2.1.2.2.2.1),(C.str r2.1.2.2.2.2.1),(C.int Go.IntKind.i64 r2.1.2.2.2.2.2)]]),(⟨#[]⟩,(0,(⟨#[]⟩,0))))),(r3.2.2.2.1,(r3.2.2.2.2.1,(r3.2.2.2.2.2.1,(r3.2.2.2.2.2.2.1,(r3.2.2.2.2.2.2.2.1,(r3.2.2.2.2.2.2.2.2.1,(r3.2.2.2.2.2.2.2.2.2.1,(r3.2.2.2.2.2.2.2.2.2.2.1,r3.2.2.2.2.2.2.2.2.2.2.2)))))))))))))))
 ((qm1 2 (ByteArray.mk (List.toArray [(97:UInt8),(108:UInt8),(108:UInt8)])) r1.2.2.1 r1.2.2.2.1 r1.2.2.2.2.1 r1.2.2.2.2.2.1 r1.2.2.2.2.2.2.1 r1.2.2.2.2.2.2.2.1 r1.2.2.2.2.2.2.2.2.1 r1.2.2.2.2.2.2.2.2.2.1 r1.2.2.2.2.2.2.2.2.2.2).bind fun r2 =>
 (brE r2.1
 ((qm8 r2.2.2.1 r2.2.2.2.1 r2.2.2.2.2.1 r2.2.2.2.2.2.1 r2.2.2.2.2.2.2.1 r2.2.2.2.2.2.2.2.1 r2.2.2.2.2.2.2.2.2.1 r2.2.2.2.2.2.2.2.2.2.1 r2.2.2.2.2.2.2.2.2.2.2).bind fun r3 =>
 ((qom r3.2.2.1 r3.2.2.2.1 r3.2.2.2.2.1 r3.2.2.2.2.2.1 r3.2.2.2.2.2.2.1 r3.2.2.2.2.2.2.2.1 r3.2.2.2.2.2.2.2.2.1 r3.2.2.2.2.2.2.2.2.2.1 r3.2.2.2.2.2.2.2.2.2.2).bind fun r4 =>
 (gL q5k r3.1<|
 (gL q5k r3.1<|
 (some ((3,((dL q5k r3.1),(⟨#[]⟩,(0,(⟨#[]⟩,0))))),((3,((dL q5k r3.1),(⟨#[]⟩,(0,(⟨#[]⟩,0))))),(r4.2.2.2.1,(r4.2.2.2.2.1,(r4.2.2.2.2.2.1,(r4.2.2.2.2.2.2.1,(r4.2.2.2.2.2.2.2.1,(r4.2.2.2.2.2.2.2.2.1,(r4.2.2.2.2.2.2.2.2.2.1,(r4.2.2.2.2.2.2.2.2.2.2.1,r4.2.2.2.2.2.2.2.2.2.2.2)))))))))))))))
 ((qm1 2 (ByteArray.mk (List.toArray [(97:UInt8),(110:UInt8),(121:UInt8)])) r2.2.2.1 r2.2.2.2.1 r2.2.2.2.2.1 r2.2.2.2.2.2.1 r2.2.2.2.2.2.2.1 r2.2.2.2.2.2.2.2.1 r2.2.2.2.2.2.2.2.2.1 r2.2.2.2.2.2.2.2.2.2.1 r2.2.2.2.2.2.2.2.2.2.2).bind fun r3 =>
 (brE r3.1
 ((qm8 r3.2.2.1 r3.2.2.2.1 r3.2.2.2.2.1 r3.2.2.2.2.2.1 r3.2.2.2.2.2.2.1 r3.2.2.2.2.2.2.2.1 r3.2.2.2.2.2.2.2.2.1 r3.2.2.2.2.2.2.2.2.2.1 r3.2.2.2.2.2.2.2.2.2.2).bind fun r4 =>
 ((qom r4.2.2.1 r4.2.2.2.1 r4.2.2.2.2.1 r4.2.2.2.2.2.1 r4.2.2.2.2.2.2.1 r4.2.2.2.2.2.2.2.1 r4.2.2.2.2.2.2.2.2.1 r4.2.2.2.2.2.2.2.2.2.1 r4.2.2.2.2.2.2.2.2.2.2).bind fun r5 =>
 (gL q5k r4.1<|
 (gL q5k r4.1<|
 (some ((4,((dL q5k r4.1),(⟨#[]⟩,(0,(⟨#[]⟩,0))))),((4,((dL q5k r4.1),(⟨#[]⟩,(0,(⟨#[]⟩,0))))),(r5.2.2.2.1,(r5.2.2.2.2.1,(r5.2.2.2.2.2.1,(r5.2.2.2.2.2.2.1,(r5.2.2.2.2.2.2.2.1,(r5.2.2.2.2.2.2.2.2.1,(r5.2.2.2.2.2.2.2.2.2.1,(r5.2.2.2.2.2.2.2.2.2.2.1,r5.2.2.2.2.2.2.2.2.2.2.2)))))))))))))))
 ((qm1 2 (ByteArray.mk (List.toArray [(104:UInt8),(101:UInt8),(97:UInt8),(100:UInt8),(101:UInt8),(114:UInt8)])) r3.2.2.1 r3.2.2.2.1 r3.2.2.2.2.1 r3.2.2.2.2.2.1 r3.2.2.2.2.2.2.1 r3.2.2.2.2.2.2.2.1 r3.2.2.2.2.2.2.2.2.1 r3.2.2.2.2.2.2.2.2.2.1 r3.2.2.2.2.2.2.2.2.2.2).bind fun r4 =>
 (brE r4.1
 ((qof 1 r4.2.2.1 r4.2.2.2.1 r4.2.2.2.2.1 r4.2.2.2.2.2.1 r4.2.2.2.2.2.2.1 r4.2.2.2.2.2.2.2.1 r4.2.2.2.2.2.2.2.2.1 r4.2.2.2.2.2.2.2.2.2.1 r4.2.2.2.2.2.2.2.2.2.2).bind fun r5 =>
 ((qmm r5.2.2.1 r5.2.2.2.1 r5.2.2.2.2.1 r5.2.2.2.2.2.1 r5.2.2.2.2.2.2.1 r5.2.2.2.2.2.2.2.1 r5.2.2.2.2.2.2.2.2.1 r5.2.2.2.2.2.2.2.2.2.1 r5.2.2.2.2.2.2.2.2.2.2 5 0 r5.1 0 ⟨#[]⟩ 0 (EC.decL q5k [])).bind fun r6 =>
 ((qom r6.2.2.1.1 r6.2.2.1.2.1 r6.2.2.1.2.2.1 r6.2.2.1.2.2.2.1 r6.2.2.1.2.2.2.2.1 r6.2.2.1.2.2.2.2.2.1 r6.2.2.1.2.2.2.2.2.2.1 r6.2.2.1.2.2.2.2.2.2.2.1 r6.2.2.1.2.2.2.2.2.2.2.2).bind fun r7 =>
 (gL q5k r6.2.2.2.2<|
 (gL q5k r6.2.2.2.2<|
 (some ((r6.2.2.2.1.1,((dL q5k r6.2.2.2.2),(r6.2.2.2.1.2.2.1,(r6.2.2.2.1.2.2.2.1,(r6.2.2.2.1.2.2.2.2.1,r6.2.2.2.1.2.2.2.2.2))))),((r6.2.2.2.1.1,((dL q5k r6.2.2.2.2),(r6.2.2.2.1.2.2.1,(r6.2.2.2.1.2.2.2.1,(r6.2.2.2.1.2.2.2.2.1,r6.2.2.2.1.2.2.2.2.2))))),(r7.2.2.2.1,(r7.2.2.2.2.1,(r7.2.2.2.2.2.1,(r7.2.2.2.2.2.2.1,(r7.2.2.2.2.2.2.2.1,(r7.2.2.2.2.2.2.2.2.1,(r7.2.2.2.2.2.2.2.2.2.1,(r7.2.2.2.2.2.2.2.2.2.2.1,r7.2.2.2.2.2.2.2.2.2.2.2))))))))))))))))
 ((qm1 2 (ByteArray.mk (List.toArray [(102:UInt8),(114:UInt8),(111:UInt8),(109:UInt8)])) r4.2.2.1 r4.2.2.2.1 r4.2.2.2.2.1 r4.2.2.2.2.2.1 r4.2.2.2.2.2.2.1 r4.2.2.2.2.2.2.2.1 r4.2.2.2.2.2.2.2.2.1 r4.2.2.2.2.2.2.2.2.2.1 r4.2.2.2.2.2.2.2.2.2.2).bind fun r5 =>
 (brE r5.1
 ((qmm r5.2.2.1 r5.2.2.2.1 r5.2.2.2.2.1 r5.2.2.2.2.2.1 r5.2.2.2.2.2.2.1 r5.2.2.2.2.2.2.2.1 r5.2.2.2.2.2.2.2.2.1 r5.2.2.2.2.2.2.2.2.2.1 r5.2.2.2.2.2.2.2.2.2.2 6 0 ⟨#[]⟩ 0 ⟨#[]⟩ 0 (EC.decL q5k [])).bind fun r6 =>
 ((qom r6.2.2.1.1 r6.2.2.1.2.1 r6.2.2.1.2.2.1 r6.2.2.1.2.2.2.1 r6.2.2.1.2.2.2.2.1 r6.2.2.1.2.2.2.2.2.1 r6.2.2.1.2.2.2.2.2.2.1 r6.2.2.1.2.2.2.2.2.2.2.1 r6.2.2.1.2.2.2.2.2.2.2.2).bind fun r7 =>
 (gL q5k r6.2.2.2.2<|
 (gL q5k r6.2.2.2.2<|
 (some ((r6.2.2.2.1.1,((dL q5k r6.2.2.2.2),(r6.2.2.2.1.2.2.1,(r6.2.2.2.1.2.2.2.1,(r6.2.2.2.1.2.2.2.2.1,r6.2.2.2.1.2.2.2.2.2))))),((r6.2.2.2.1.1,((dL q5k r6.2.2.2.2),(r6.2.2.2.1.2.2.1,(r6.2.2.2.1.2.2.2.1,(r6.2.2.2.1.2.2.2.2.1,r6.2.2.2.1.2.2.2.2.2))))),(r7.2.2.2.1,(r7.2.2.2.2.1,(r7.2.2.2.2.2.1,(r7.2.2.2.2.2.2.1,(r7.2.2.2.2.2.2.2.1,(r7.2.2.2.2.2.2.2.2.1,(r7.2.2.2.2.2.2.2.2.2.1,(r7.2.2.2.2.2.2.2.2.2.2.1,r7.2.2.2.2.2.2.2.2.2.2.2)))))))))))))))
 ((qm1 2 (ByteArray.mk (List.toArray [(116:UInt8),(111:UInt8)])) r5.2.2.1 r5.2.2.2.1 r5.2.2.2.2.1 r5.2.2.2.2.2.1 r5.2.2.2.2.2.2.1 r5.2.2.2.2.2.2.2.1 r5.2.2.2.2.2.2.2.2.1 r5.2.2.2.2.2.2.2.2.2.1 r5.2.2.2.2.2.2.2.2.2.2).bind fun r6 =>
 (brE r6.1
 ((qmm r6.2.2.1 r6.2.2.2.1 r6.2.2.2.2.1 r6.2.2.2.2.2.1 r6.2.2.2.2.2.2.1 r6.2.2.2.2.2.2.2.1 r6.2.2.2.2.2.2.2.2.1 r6.2.2.2.2.2.2.2.2.2.1 r6.2.2.2.2.2.2.2.2.2.2 7 0 ⟨#[]⟩ 0 ⟨#[]⟩ 0 (EC.decL q5k [])).bind fun r7 =>
 ((qom r7.2.2.1.1 r7.2.2.1.2.1 r7.2.2.1.2.2.1 r7.2.2.1.2.2.2.1 r7.2.2.1.2.2.2.2.1 r7.2.2.1.2.2.2.2.2.1 r7.2.2.1.2.2.2.2.2.2.1 r7.2.2.1.2.2.2.2.2.2.2.1 r7.2.2.1.2.2.2.2.2.2.2.2).bind fun r8 =>
 (gL q5k r7.2.2.2.2<|
 (gL q5k r7.2.2.2.2<|
 (some ((r7.2.2.2.1.1,((dL q5k r7.2.2.2.2),(r7.2.2.2.1.2.2.1,(r7.2.2.2.1.2.2.2.1,(r7.2.2.2.1.2.2.2.2.1,r7.2.2.2.1.2.2.2.2.2))))),((r7.2.2.2.1.1,((dL q5k r7.2.2.2.2),(r7.2.2.2.1.2.2.1,(r7.2.2.2.1.2.2.2.1,(r7.2.2.2.1.2.2.2.2.1,r7.2.2.2.1.2.2.2.2.2))))),(r8.2.2.2.1,(r8.2.2.2.2.1,(r8.2.2.2.2.2.1,(r8.2.2.2.2.2.2.1,(r8.2.2.2.2.2.2.2.1,(r8.2.2.2.2.2.2.2.2.1,(r8.2.2.2.2.2.2.2.2.2.1,(r8.2.2.2.2.2.2.2.2.2.2.1,r8.2.2.2.2.2.2.2.2.2.2.2)))))))))))))))
 ((qm1 2 (ByteArray.mk (List.toArray [(115:UInt8),(105:UInt8),(122:UInt8),(101:UInt8)])) r6.2.2.1 r6.2.2.2.1 r6.2.2.2.2.1 r6.2.2.2.2.2.1 r6.2.2.2.2.2.2.1 r6.2.2.2.2.2.2.2.1 r6.2.2.2.2.2.2.2.2.1 r6.2.2.2.2.2.2.2.2.2.1 r6.2.2.2.2.2.2.2.2.2.2).bind fun r7 =>
 (brE r7.1
 ((qn8 r7.2.2.1 r7.2.2.2.1 r7.2.2.2.2.1 r7.2.2.2.2.2.1 r7.2.2.2.2.2.2.1 r7.2.2.2.2.2.2.2.1 r7.2.2.2.2.2.2.2.2.1 r7.2.2.2.2.2.2.2.2.2.1 r7.2.2.2.2.2.2.2.2.2.2).bind fun r8 =>
 ((qom r8.2.2.1 r8.2.2.2.1 r8.2.2.2.2.1 r8.2.2.2.2.2.1 r8.2.2.2.2.2.2.1 r8.2.2.2.2.2.2.2.1 r8.2.2.2.2.2.2.2.2.1 r8.2.2.2.2.2.2.2.2.2.1 r8.2.2.2.2.2.2.2.2.2.2).bind fun r9 =>
 (some ((8,((EC.decL q5k []),(⟨#[]⟩,(0,(⟨#[]⟩,r8.1))))),((8,((EC.decL q5k []),(⟨#[]⟩,(0,(⟨#[]⟩,r8.1))))),(r9.2.2.2.1,(r9.2.2.2.2.1,(r9.2.2.2.2.2.1,(r9.2.2.2.2.2.2.1,(r9.2.2.2.2.2.2.2.1,(r9.2.2.2.2.2.2.2.2.1,(r9.2.2.2.2.2.2.2.2.2.1,(r9.2.2.2.2.2.2.2.2.2.2.1,r9.2.2.2.2.2.2.2.2.2.2.2)))))))))))))
 ((qm1 2 (ByteArray.mk (List.toArray [(101:UInt8),(120:UInt8),(105:UInt8),(115:UInt8),(116:UInt8),(115:UInt8)])) r7.2.2.1 r7.2.2.2.1 r7.2.2.2.2.1 r7.2.2.2.2.2.1 r7.2.2.2.2.2.2.1 r7.2.2.2.2.2.2.2.1 r7.2.2.2.2.2.2.2.2.1 r7.2.2.2.2.2.2.2.2.2.1 r7.2.2.2.2.2.2.2.2.2.2).bind fun r8 =>
 (brE r8.1
 ((qof 1 r8.2.2.1 r8.2.2.2.1 r8.2.2.2.2.1 r8.2.2.2.2.2.1 r8.2.2.2.2.2.2.1 r8.2.2.2.2.2.2.2.1 r8.2.2.2.2.2.2.2.2.1 r8.2.2.2.2.2.2.2.2.2.1 r8.2.2.2.2.2.2.2.2.2.2).bind fun r9 =>
 ((qom r9.2.2.1 r9.2.2.2.1 r9.2.2.2.2.1 r9.2.2.2.2.2.1 r9.2.2.2.2.2.2.1 r9.2.2.2.2.2.2.2.1 r9.2.2.2.2.2.2.2.2.1 r9.2.2.2.2.2.2.2.2.2.1 r9.2.2.2.2.2.2.2.2.2.2).bind fun r10 =>
 (some ((9,((EC.decL q5k []),(r9.1,(0,(⟨#[]⟩,0))))),((9,((EC.decL q5k []),(r9.1,(0,(⟨#[]⟩,0))))),(r10.2.2.2.1,(r10.2.2.2.2.1,(r10.2.2.2.2.2.1,(r10.2.2.2.2.2.2.1,(r10.2.2.2.2.2.2.2.1,(r10.2.2.2.2.2.2.2.2.1,(r10.2.2.2.2.2.2.2.2.2.1,(r10.2.2.2.2.2.2.2.2.2.2.1,r10.2.2.2.2.2.2.2.2.2.2.2)))))))))))))
 ((qom r8.2.2.1 r8.2.2.2.1 r8.2.2.2.2.1 r8.2.2.2.2.2.1 r8.2.2.2.2.2.2.1 true r8.2.2.2.2.2.2.2.2.1 r8.2.2.2.2.2.2.2.2.2.1 r8.2.2.2.2.2.2.2.2.2.2).bind fun r9 =>
 (some ((0,((EC.decL q5k []),(⟨#[]⟩,(0,(⟨#[]⟩,0))))),((0,((EC.decL q5k []),(⟨#[]⟩,(0,(⟨#[]⟩,0))))),(r9.2.2.2.1,(r9.2.2.2.2.1,(r9.2.2.2.2.2.1,(r9.2.2.2.2.2.2.1,(r9.2.2.2.2.2.2.2.1,(r9.2.2.2.2.2.2.2.2.1,(r9.2.2.2.2.2.2.2.2.2.1,(r9.2.2.2.2.2.2.2.2.2.2.1,r9.2.2.2.2.2.2.2.2.2.2.2))))))))))))))))))))))))))))))
 ((qm1 2 (ByteArray.mk (List.toArray [(116:UInt8),(114:UInt8),(117:UInt8),(101:UInt8)])) b0 b0_1 b0_2 b0_3 b0_4 b0_5 b0_6 b0_7 (wI b0_8)).bind fun r0 =>
 (brE r0.1
 ((qom r0.2.2.1 r0.2.2.2.1 r0.2.2.2.2.1 r0.2.2.2.2.2.1 r0.2.2.2.2.2.2.1 r0.2.2.2.2.2.2.2.1 r0.2.2.2.2.2.2.2.2.1 r0.2.2.2.2.2.2.2.2.2.1 r0.2.2.2.2.2.2.2.2.2.2).bind fun r1 =>
 (some ((1,((EC.decL q5k []),(⟨#[]⟩,(0,(⟨#[]⟩,0))))),((1,((EC.decL q5k []),(⟨#[]⟩,(0,(⟨#[]⟩,0))))),(r1.2.2.2.1,(r1.2.2.2.2.1,(r1.2.2.2.2.2.1,(r1.2.2.2.2.2.2.1,(r1.2.2.2.2.2.2.2.1,(r1.2.2.2.2.2.2.2.2.1,(r1.2.2.2.2.2.2.2.2.2.1,(r1.2.2.2.2.2.2.2.2.2.2.1,r1.2.2.2.2.2.2.2.2.2.2.2))))))))))))
 ((qm1 2 (ByteArray.mk (List.toArray [(110:UInt8),(111:UInt8),(116:UInt8)])) r0.2.2.1 r0.2.2.2.1 r0.2.2.2.2.1 r0.2.2.2.2.2.1 r0.2.2.2.2.2.2.1 r0.2.2.2.2.2.2.2.1 r0.2.2.2.2.2.2.2.2.1 r0.2.2.2.2.2.2.2.2.2.1 r0.2.2.2.2.2.2.2.2.2.2).bind fun r1 =>
 (brE r1.1
 ((qot r1.2.2.1 r1.2.2.2.1 r1.2.2.2.2.1 r1.2.2.2.2.2.1 r1.2.2.2.2.2.2.1 r1.2.2.2.2.2.2.2.1 r1.2.2.2.2.2.2.2.2.1 r1.2.2.2.2.2.2.2.2.2.1 r1.2.2.2.2.2.2.2.2.2.2).bind fun r2 =>
 ((qom r2.2.2.1 r2.2.2.2.1 r2.2.2.2.2.1 r2.2.2.2.2.2.1 r2.2.2.2.2.2.2.1 r2.2.2.2.2.2.2.2.1 r2.2.2.2.2.2.2.2.2.1 r2.2.2.2.2.2.2.2.2.2.1 r2.2.2.2.2.2.2.2.2.2.2).bind fun r3 =>
 (gdE (EC.isL q5k [[(C.int Go.IntKind.i64 r2.1.1),(C.sl (EC.encL q5k r2.1.2.1)),(C.str r2.1.2.2.1),(C.int Go.IntKind.i64 r2.1.2.2.2.1),(C.str r2.1.2.2.2.2.1),(C.int Go.IntKind.i64 r2.1.2.2.2.2.2)]])<|
 (gdE (EC.isL q5k [[(C.int Go.IntKind.i64 r2.1.1),(C.sl (EC.encL q5k r2.1.2.1)),(C.str r2.1.2.2.1),(C.int Go.IntKind.i64 r2.1.2.2.2.1),(C.str r2.1.2.2.2.2.1),(C.int Go.IntKind.i64 r2.1.2.2.2.2.2)]])<|
 (some ((2,((EC.decL q5k [[(C.int Go.IntKind.i64 r2.1.1),(C.sl (EC.encL q5k r2.1.2.1)),(C.str r2.1.2.2.1),(C.int Go.IntKind.i64 r2.1.2.2.2.1),(C.str r2.1.2.2.2.2.1),(C.int Go.IntKind.i64 r2.1.2.2.2.2.2)]]),(⟨#[]⟩,(0,(⟨#[]⟩,0))))),((2,((EC.decL q5k [[(C.int Go.IntKind.i64 r2.1.1),(C.sl (EC.encL q5k r2.1.2.1)),(C.str r2.1.2.2.1),(C.int Go.IntKind.i64 r2.1.2.2.2.1),(C.str r2.1.2.2.2.2.1),(C.int Go.IntKind.i64 r2.1.2.2.2.2.2)]]),(⟨#[]⟩,(0,(⟨#[]⟩,0))))),(r3.2.2.2.1,(r3.2.2.2.2.1,(r3.2.2.2.2.2.1,(r3.2.2.2.2.2.2.1,(r3.2.2.2.2.2.2.2.1,(r3.2.2.2.2.2.2.2.2.1,(r3.2.2.2.2.2.2.2.2.2.1,(r3.2.2.2.2.2.2.2.2.2.2.1,r3.2.2.2.2.2.2.2.2.2.2.2)))))))))))))))
 ((qm1 2 (ByteArray.mk (List.toArray [(97:UInt8),(108:UInt8),(108:UInt8)])) r1.2.2.1 r1.2.2.2.1 r1.2.2.2.2.1 r1.2.2.2.2.2.1 r1.2.2.2.2.2.2.1 r1.2.2.2.2.2.2.2.1 r1.2.2.2.2.2.2.2.2.1 r1.2.2.2.2.2.2.2.2.2.1 r1.2.2.2.2.2.2.2.2.2.2).bind fun r2 =>
 (brE r2.1
 ((qm8 r2.2.2.1 r2.2.2.2.1 r2.2.2.2.2.1 r2.2.2.2.2.2.1 r2.2.2.2.2.2.2.1 r2.2.2.2.2.2.2.2.1 r2.2.2.2.2.2.2.2.2.1 r2.2.2.2.2.2.2.2.2.2.1 r2.2.2.2.2.2.2.2.2.2.2).bind fun r3 =>
 ((qom r3.2.2.1 r3.2.2.2.1 r3.2.2.2.2.1 r3.2.2.2.2.2.1 r3.2.2.2.2.2.2.1 r3.2.2.2.2.2.2.2.1 r3.2.2.2.2.2.2.2.2.1 r3.2.2.2.2.2.2.2.2.2.1 r3.2.2.2.2.2.2.2.2.2.2).bind fun r4 =>
 (gL q5k r3.1<|
 (gL q5k r3.1<|
 (some ((3,((dL q5k r3.1),(⟨#[]⟩,(0,(⟨#[]⟩,0))))),((3,((dL q5k r3.1),(⟨#[]⟩,(0,(⟨#[]⟩,0))))),(r4.2.2.2.1,(r4.2.2.2.2.1,(r4.2.2.2.2.2.1,(r4.2.2.2.2.2.2.1,(r4.2.2.2.2.2.2.2.1,(r4.2.2.2.2.2.2.2.2.1,(r4.2.2.2.2.2.2.2.2.2.1,(r4.2.2.2.2.2.2.2.2.2.2.1,r4.2.2.2.2.2.2.2.2.2.2.2)))))))))))))))
 ((qm1 2 (ByteArray.mk (List.toArray [(97:UInt8),(110:UInt8),(121:UInt8)])) r2.2.2.1 r2.2.2.2.1 r2.2.2.2.2.1 r2.2.2.2.2.2.1 r2.2.2.2.2.2.2.1 r2.2.2.2.2.2.2.2.1 r2.2.2.2.2.2.2.2.2.1 r2.2.2.2.2.2.2.2.2.2.1 r2.2.2.2.2.2.2.2.2.2.2).bind fun r3 =>
 (brE r3.1
 ((qm8 r3.2.2.1 r3.2.2.2.1 r3.2.2.2.2.1 r3.2.2.2.2.2.1 r3.2.2.2.2.2.2.1 r3.2.2.2.2.2.2.2.1 r3.2.2.2.2.2.2.2.2.1 r3.2.2.2.2.2.2.2.2.2.1 r3.2.2.2.2.2.2.2.2.2.2).bind fun r4 =>
 ((qom r4.2.2.1 r4.2.2.2.1 r4.2.2.2.2.1 r4.2.2.2.2.2.1 r4.2.2.2.2.2.2.1 r4.2.2.2.2.2.2.2.1 r4.2.2.2.2.2.2.2.2.1 r4.2.2.2.2.2.2.2.2.2.1 r4.2.2.2.2.2.2.2.2.2.2).bind fun r5 =>
 (gL q5k r4.1<|
 (gL q5k r4.1<|
 (some ((4,((dL q5k r4.1),(⟨#[]⟩,(0,(⟨#[]⟩,0))))),((4,((dL q5k r4.1),(⟨#[]⟩,(0,(⟨#[]⟩,0))))),(r5.2.2.2.1,(r5.2.2.2.2.1,(r5.2.2.2.2.2.1,(r5.2.2.2.2.2.2.1,(r5.2.2.2.2.2.2.2.1,(r5.2.2.2.2.2.2.2.2.1,(r5.2.2.2.2.2.2.2.2.2.1,(r5.2.2.2.2.2.2.2.2.2.2.1,r5.2.2.2.2.2.2.2.2.2.2.2)))))))))))))))
 ((qm1 2 (ByteArray.mk (List.toArray [(104:UInt8),(101:UInt8),(97:UInt8),(100:UInt8),(101:UInt8),(114:UInt8)])) r3.2.2.1 r3.2.2.2.1 r3.2.2.2.2.1 r3.2.2.2.2.2.1 r3.2.2.2.2.2.2.1 r3.2.2.2.2.2.2.2.1 r3.2.2.2.2.2.2.2.2.1 r3.2.2.2.2.2.2.2.2.2.1 r3.2.2.2.2.2.2.2.2.2.2).bind fun r4 =>
 (brE r4.1
 ((qof 1 r4.2.2.1 r4.2.2.2.1 r4.2.2.2.2.1 r4.2.2.2.2.2.1 r4.2.2.2.2.2.2.1 r4.2.2.2.2.2.2.2.1 r4.2.2.2.2.2.2.2.2.1 r4.2.2.2.2.2.2.2.2.2.1 r4.2.2.2.2.2.2.2.2.2.2).bind fun r5 =>
 ((qmm r5.2.2.1 r5.2.2.2.1 r5.2.2.2.2.1 r5.2.2.2.2.2.1 r5.2.2.2.2.2.2.1 r5.2.2.2.2.2.2.2.1 r5.2.2.2.2.2.2.2.2.1 r5.2.2.2.2.2.2.2.2.2.1 r5.2.2.2.2.2.2.2.2.2.2 5 0 r5.1 0 ⟨#[]⟩ 0 (EC.decL q5k [])).bind fun r6 =>
 ((qom r6.2.2.1.1 r6.2.2.1.2.1 r6.2.2.1.2.2.1 r6.2.2.1.2.2.2.1 r6.2.2.1.2.2.2.2.1 r6.2.2.1.2.2.2.2.2.1 r6.2.2.1.2.2.2.2.2.2.1 r6.2.2.1.2.2.2.2.2.2.2.1 r6.2.2.1.2.2.2.2.2.2.2.2).bind fun r7 =>
 (gL q5k r6.2.2.2.2<|
 (gL q5k r6.2.2.2.2<|
 (some ((r6.2.2.2.1.1,((dL q5k r6.2.2.2.2),(r6.2.2.2.1.2.2.1,(r6.2.2.2.1.2.2.2.1,(r6.2.2.2.1.2.2.2.2.1,r6.2.2.2.1.2.2.2.2.2))))),((r6.2.2.2.1.1,((dL q5k r6.2.2.2.2),(r6.2.2.2.1.2.2.1,(r6.2.2.2.1.2.2.2.1,(r6.2.2.2.1.2.2.2.2.1,r6.2.2.2.1.2.2.2.2.2))))),(r7.2.2.2.1,(r7.2.2.2.2.1,(r7.2.2.2.2.2.1,(r7.2.2.2.2.2.2.1,(r7.2.2.2.2.2.2.2.1,(r7.2.2.2.2.2.2.2.2.1,(r7.2.2.2.2.2.2.2.2.2.1,(r7.2.2.2.2.2.2.2.2.2.2.1,r7.2.2.2.2.2.2.2.2.2.2.2))))))))))))))))
 ((qm1 2 (ByteArray.mk (List.toArray [(102:UInt8),(114:UInt8),(111:UInt8),(109:UInt8)])) r4.2.2.1 r4.2.2.2.1 r4.2.2.2.2.1 r4.2.2.2.2.2.1 r4.2.2.2.2.2.2.1 r4.2.2.2.2.2.2.2.1 r4.2.2.2.2.2.2.2.2.1 r4.2.2.2.2.2.2.2.2.2.1 r4.2.2.2.2.2.2.2.2.2.2).bind fun r5 =>
 (brE r5.1
 ((qmm r5.2.2.1 r5.2.2.2.1 r5.2.2.2.2.1 r5.2.2.2.2.2.1 r5.2.2.2.2.2.2.1 r5.2.2.2.2.2.2.2.1 r5.2.2.2.2.2.2.2.2.1 r5.2.2.2.2.2.2.2.2.2.1 r5.2.2.2.2.2.2.2.2.2.2 6 0 ⟨#[]⟩ 0 ⟨#[]⟩ 0 (EC.decL q5k [])).bind fun r6 =>
 ((qom r6.2.2.1.1 r6.2.2.1.2.1 r6.2.2.1.2.2.1 r6.2.2.1.2.2.2.1 r6.2.2.1.2.2.2.2.1 r6.2.2.1.2.2.2.2.2.1 r6.2.2.1.2.2.2.2.2.2.1 r6.2.2.1.2.2.2.2.2.2.2.1 r6.2.2.1.2.2.2.2.2.2.2.2).bind fun r7 =>
 (gL q5k r6.2.2.2.2<|
 (gL q5k r6.2.2.2.2<|
 (some ((r6.2.2.2.1.1,((dL q5k r6.2.2.2.2),(r6.2.2.2.1.2.2.1,(r6.2.2.2.1.2.2.2.1,(r6.2.2.2.1.2.2.2.2.1,r6.2.2.2.1.2.2.2.2.2))))),((r6.2.2.2.1.1,((dL q5k r6.2.2.2.2),(r6.2.2.2.1.2.2.1,(r6.2.2.2.1.2.2.2.1,(r6.2.2.2.1.2.2.2.2.1,r6.2.2.2.1.2.2.2.2.2))))),(r7.2.2.2.1,(r7.2.2.2.2.1,(r7.2.2.2.2.2.1,(r7.2.2.2.2.2.2.1,(r7.2.2.2.2.2.2.2.1,(r7.2.2.2.2.2.2.2.2.1,(r7.2.2.2.2.2.2.2.2.2.1,(r7.2.2.2.2.2.2.2.2.2.2.1,r7.2.2.2.2.2.2.2.2.2.2.2)))))))))))))))
 ((qm1 2 (ByteArray.mk (List.toArray [(116:UInt8),(111:UInt8)])) r5.2.2.1 r5.2.2.2.1 r5.2.2.2.2.1 r5.2.2.2.2.2.1 r5.2.2.2.2.2.2.1 r5.2.2.2.2.2.2.2.1 r5.2.2.2.2.2.2.2.2.1 r5.2.2.2.2.2.2.2.2.2.1 r5.2.2.2.2.2.2.2.2.2.2).bind fun r6 =>
 (brE r6.1
 ((qmm r6.2.2.1 r6.2.2.2.1 r6.2.2.2.2.1 r6.2.2.2.2.2.1 r6.2.2.2.2.2.2.1 r6.2.2.2.2.2.2.2.1 r6.2.2.2.2.2.2.2.2.1 r6.2.2.2.2.2.2.2.2.2.1 r6.2.2.2.2.2.2.2.2.2.2 7 0 ⟨#[]⟩ 0 ⟨#[]⟩ 0 (EC.decL q5k [])).bind fun r7 =>
 ((qom r7.2.2.1.1 r7.2.2.1.2.1 r7.2.2.1.2.2.1 r7.2.2.1.2.2.2.1 r7.2.2.1.2.2.2.2.1 r7.2.2.1.2.2.2.2.2.1 r7.2.2.1.2.2.2.2.2.2.1 r7.2.2.1.2.2.2.2.2.2.2.1 r7.2.2.1.2.2.2.2.2.2.2.2).bind fun r8 =>
 (gL q5k r7.2.2.2.2<|
 (gL q5k r7.2.2.2.2<|
 (some ((r7.2.2.2.1.1,((dL q5k r7.2.2.2.2),(r7.2.2.2.1.2.2.1,(r7.2.2.2.1.2.2.2.1,(r7.2.2.2.1.2.2.2.2.1,r7.2.2.2.1.2.2.2.2.2))))),((r7.2.2.2.1.1,((dL q5k r7.2.2.2.2),(r7.2.2.2.1.2.2.1,(r7.2.2.2.1.2.2.2.1,(r7.2.2.2.1.2.2.2.2.1,r7.2.2.2.1.2.2.2.2.2))))),(r8.2.2.2.1,(r8.2.2.2.2.1,(r8.2.2.2.2.2.1,(r8.2.2.2.2.2.2.1,(r8.2.2.2.2.2.2.2.1,(r8.2.2.2.2.2.2.2.2.1,(r8.2.2.2.2.2.2.2.2.2.1,(r8.2.2.2.2.2.2.2.2.2.2.1,r8.2.2.2.2.2.2.2.2.2.2.2)))))))))))))))
 ((qm1 2 (ByteArray.mk (List.toArray [(115:UInt8),(105:UInt8),(122:UInt8),(101:UInt8)])) r6.2.2.1 r6.2.2.2.1 r6.2.2.2.2.1 r6.2.2.2.2.2.1 r6.2.2.2.2.2.2.1 r6.2.2.2.2.2.2.2.1 r6.2.2.2.2.2.2.2.2.1 r6.2.2.2.2.2.2.2.2.2.1 r6.2.2.2.2.2.2.2.2.2.2).bind fun r7 =>
 (brE r7.1
 ((qn8 r7.2.2.1 r7.2.2.2.1 r7.2.2.2.2.1 r7.2.2.2.2.2.1 r7.2.2.2.2.2.2.1 r7.2.2.2.2.2.2.2.1 r7.2.2.2.2.2.2.2.2.1 r7.2.2.2.2.2.2.2.2.2.1 r7.2.2.2.2.2.2.2.2.2.2).bind fun r8 =>
 ((qom r8.2.2.1 r8.2.2.2.1 r8.2.2.2.2.1 r8.2.2.2.2.2.1 r8.2.2.2.2.2.2.1 r8.2.2.2.2.2.2.2.1 r8.2.2.2.2.2.2.2.2.1 r8.2.2.2.2.2.2.2.2.2.1 r8.2.2.2.2.2.2.2.2.2.2).bind fun r9 =>
 (some ((8,((EC.decL q5k []),(⟨#[]⟩,(0,(⟨#[]⟩,r8.1))))),((8,((EC.decL q5k []),(⟨#[]⟩,(0,(⟨#[]⟩,r8.1))))),(r9.2.2.2.1,(r9.2.2.2.2.1,(r9.2.2.2.2.2.1,(r9.2.2.2.2.2.2.1,(r9.2.2.2.2.2.2.2.1,(r9.2.2.2.2.2.2.2.2.1,(r9.2.2.2.2.2.2.2.2.2.1,(r9.2.2.2.2.2.2.2.2.2.2.1,r9.2.2.2.2.2.2.2.2.2.2.2)))))))))))))
 ((qm1 2 (ByteArray.mk (List.toArray [(101:UInt8),(120:UInt8),(105:UInt8),(115:UInt8),(116:UInt8),(115:UInt8)])) r7.2.2.1 r7.2.2.2.1 r7.2.2.2.2.1 r7.2.2.2.2.2.1 r7.2.2.2.2.2.2.1 r7.2.2.2.2.2.2.2.1 r7.2.2.2.2.2.2.2.2.1 r7.2.2.2.2.2.2.2.2.2.1 r7.2.2.2.2.2.2.2.2.2.2).bind fun r8 =>
 (brE r8.1
 ((qof 1 r8.2.2.1 r8.2.2.2.1 r8.2.2.2.2.1 r8.2.2.2.2.2.1 r8.2.2.2.2.2.2.1 r8.2.2.2.2.2.2.2.1 r8.2.2.2.2.2.2.2.2.1 r8.2.2.2.2.2.2.2.2.2.1 r8.2.2.2.2.2.2.2.2.2.2).bind fun r9 =>
 ((qom r9.2.2.1 r9.2.2.2.1 r9.2.2.2.2.1 r9.2.2.2.2.2.1 r9.2.2.2.2.2.2.1 r9.2.2.2.2.2.2.2.1 r9.2.2.2.2.2.2.2.2.1 r9.2.2.2.2.2.2.2.2.2.1 r9.2.2.2.2.2.2.2.2.2.2).bind fun r10 =>
 (some ((9,((EC.decL q5k []),(r9.1,(0,(⟨#[]⟩,0))))),((9,((EC.decL q5k []),(r9.1,(0,(⟨#[]⟩,0))))),(r10.2.2.2.1,(r10.2.2.2.2.1,(r10.2.2.2.2.2.1,(r10.2.2.2.2.2.2.1,(r10.2.2.2.2.2.2.2.1,(r10.2.2.2.2.2.2.2.2.1,(r10.2.2.2.2.2.2.2.2.2.1,(r10.2.2.2.2.2.2.2.2.2.2.1,r10.2.2.2.2.2.2.2.2.2.2.2)))))))))))))
 ((qom r8.2.2.1 r8.2.2.2.1 r8.2.2.2.2.1 r8.2.2.2.2.2.1 r8.2.2.2.2.2.2.1 true r8.2.2.2.2.2.2.2.2.1 r8.2.2.2.2.2.2.2.2.2.1 r8.2.2.2.2.2.2.2.2.2.2).bind fun r9 =>
 (some ((0,((EC.decL q5k []),(⟨#[]⟩,(0,(⟨#[]⟩,0))))),((0,((EC.decL q5k []),(⟨#[]⟩,(0,(⟨#[]⟩,0))))),(r9.2.2.2.1,(r9.2.2.2.2.1,(r9.2.2.2.2.2.1,(r9.2.2.2.2.2.2.1,(r9.2.2.2.2.2.2.2.1,(r9.2.2.2.2.2.2.2.2.1,(r9.2.2.2.2.2.2.2.2.2.1,(r9.2.2.2.2.2.2.2.2.2.2.1,r9.2.2.2.2.2.2.2.2.2.2.2)))))))))))))))))))))))))))))))
theorem qov {b0 b0_1 b0_2 b0_3 b0_4 b0_5 b0_6 b0_7 b0_8 r} (h:qoz b0 b0_1 b0_2 b0_3 b0_4 b0_5 b0_6 b0_7 b0_8=some r):qot b0 b0_1 b0_2 b0_3 b0_4 b0_5 b0_6 b0_7 b0_8=some r :=
 q8r (fn:=Tryz.f55) (es:=qtn) (hs:=q9b) [] (by kernel_rfl) rfl (by kernel_rfl) (by kernel_rfl) (by kernel_rfl) (by kernel_rfl) (by kernel_rfl) (by kernel_rfl) trivial trivial (by kernel_rfl) h
def qlz:=sLS [0] z1k (qaj z1e) [false] [0] (by decide) (fun _=>rfl)
def qls:=sLS [0] z1k (qah (qd1 (bBox (qaj (vPtr 1 0)))) (qaj z1e)) [false,false] [0,1] (by decide) (fun _=>rfl)
def qlr:SC (Unit×(Unit×(ByteArray×Int×Int×Int×ByteArray×Bool×Int×Int×Int))):=sLS [] qai (qah (qd1 (bBox (qaj (vPtr 1 0)))) (qaj (qd1 (bBox (qah (vC cStr) (qah (vC (cInt .i64)) (qah (vC (cInt .i64)) (qah (vC (cInt .i64)) (qah (vC cStr) (qah (vC cBool) (qah (vC (cInt .i64)) (qah (vC (cInt .i64)) (qaj (vC (cInt .i64))))))))))))))) [false,false] [0,1] (by decide) (fun _=>rfl)
def qlq:HC (Unit×(Unit×(Unit×(ByteArray×Int×Int×Int×ByteArray×Bool×Int×Int×Int)))):=hPair (vTup qai) qlr
def qln (b1:BA) (b1_1 b1_2 b1_3:Int) (b1_4:BA) (b1_5:Bool) (b1_6 b1_7 b1_8:Int):=hS Tryz.prog lv X0 78 qls qlq ((),((),(b1,b1_1,b1_2,b1_3,b1_4,b1_5,b1_6,b1_7,b1_8)))
def qlt (b1:BA) (b1_1 b1_2 b1_3:Int) (b1_4:BA) (b1_5:Bool) (b1_6 b1_7 b1_8:Int):Oq (Unit×(Unit×(Unit×(BA×Int×Int×Int×BA×Bool×Int×Int×Int)))) :=
 (some ((),((),((),(b1,(b1_1,(b1_2,(b1_3,(b1_4,(b1_5,(b1_6,((IntKind.wrap .i64 (b1_7 - 1)),b1_8))))))))))))
theorem qlp {b1 b1_1 b1_2 b1_3 b1_4 b1_5 b1_6 b1_7 b1_8 r} (h:qlt b1 b1_1 b1_2 b1_3 b1_4 b1_5 b1_6 b1_7 b1_8=some r):qln b1 b1_1 b1_2 b1_3 b1_4 b1_5 b1_6 b1_7 b1_8=some r :=
 q8q (fn:=Tryz.f78) (es:=qtn) (hs:=q9b) [] (by kernel_rfl) rfl (by kernel_rfl) (by kernel_rfl) trivial trivial (by kernel_rfl) h
def qlo:=hentS Tryz.prog lv X0 78 [0,3,0,0,1,1,3,1,0,1,9,1,3,1,1,1,1,1,1,1,3,1,2,1,1,1,1,1,1,0,1] qls qlq (fun x=>qln x.2.2.1 x.2.2.2.1 x.2.2.2.2.1 x.2.2.2.2.2.1 x.2.2.2.2.2.2.1 x.2.2.2.2.2.2.2.1 x.2.2.2.2.2.2.2.2.1 x.2.2.2.2.2.2.2.2.2.1 x.2.2.2.2.2.2.2.2.2.2) (fun _ _ h=>q8p h)
def q95:=qlo::q9b
def qly:SC ((List S59)×(ByteArray×Int×Int×Int×ByteArray×Bool×Int×Int×Int)):=sLS [0] (qaj (vC (cSl q5l))) (qaj (qd1 (bBox (qah (vC cStr) (qah (vC (cInt .i64)) (qah (vC (cInt .i64)) (qah (vC (cInt .i64)) (qah (vC cStr) (qah (vC cBool) (qah (vC (cInt .i64)) (qah (vC (cInt .i64)) (qaj (vC (cInt .i64)))))))))))))) [false] [0] (by decide) (fun _=>rfl)
def qlx:HC ((List S59)×((List S59)×(ByteArray×Int×Int×Int×ByteArray×Bool×Int×Int×Int))):=hPair (vC (cSl q5l)) qly
def qlu (b0:BA) (b0_1 b0_2 b0_3:Int) (b0_4:BA) (b0_5:Bool) (b0_6 b0_7 b0_8:Int):=hS Tryz.prog lv X0 56 qlz qlx ((),(b0,b0_1,b0_2,b0_3,b0_4,b0_5,b0_6,b0_7,b0_8))
def qm0 (b0:BA) (b0_1 b0_2 b0_3:Int) (b0_4:BA) (b0_5:Bool) (b0_6 b0_7 b0_8:Int):Oq (L59×(L59×(BA×Int×Int×Int×BA×Bool×Int×Int×Int))) :=
 ((qn1 (ByteArray.mk (List.toArray [(123:UInt8)])) b0 b0_1 b0_2 b0_3 b0_4 b0_5 b0_6 b0_7 b0_8).bind fun r0 =>
 ((qo1 r0.2.2.1 r0.2.2.2.1 r0.2.2.2.2.1 r0.2.2.2.2.2.1 r0.2.2.2.2.2.2.1 r0.2.2.2.2.2.2.2.1 r0.2.2.2.2.2.2.2.2.1 (wI r0.2.2.2.2.2.2.2.2.2.1) r0.2.2.2.2.2.2.2.2.2.2).bind fun r1 =>
 ((qn1 (ByteArray.mk (List.toArray [(125:UInt8)])) r1.2.2.1 r1.2.2.2.1 r1.2.2.2.2.1 r1.2.2.2.2.2.1 r1.2.2.2.2.2.2.1 r1.2.2.2.2.2.2.2.1 r1.2.2.2.2.2.2.2.2.1 r1.2.2.2.2.2.2.2.2.2.1 r1.2.2.2.2.2.2.2.2.2.2).bind fun r2 =>
 ((qln r2.2.2.1 r2.2.2.2.1 r2.2.2.2.2.1 r2.2.2.2.2.2.1 r2.2.2.2.2.2.2.1 r2.2.2.2.2.2.2.2.1 r2.2.2.2.2.2.2.2.2.1 r2.2.2.2.2.2.2.2.2.2.1 r2.2.2.2.2.2.2.2.2.2.2).bind fun r3 =>
 (gL q5l r1.1<|
 (gL q5l r1.1<|
 (some ((dL q5l r1.1),((dL q5l r1.1),(r3.2.2.2.1,(r3.2.2.2.2.1,(r3.2.2.2.2.2.1,(r3.2.2.2.2.2.2.1,(r3.2.2.2.2.2.2.2.1,(r3.2.2.2.2.2.2.2.2.1,(r3.2.2.2.2.2.2.2.2.2.1,(r3.2.2.2.2.2.2.2.2.2.2.1,r3.2.2.2.2.2.2.2.2.2.2.2)))))))))))))))))
theorem qlw {b0 b0_1 b0_2 b0_3 b0_4 b0_5 b0_6 b0_7 b0_8 r} (h:qm0 b0 b0_1 b0_2 b0_3 b0_4 b0_5 b0_6 b0_7 b0_8=some r):qlu b0 b0_1 b0_2 b0_3 b0_4 b0_5 b0_6 b0_7 b0_8=some r :=
 q8r (fn:=Tryz.f56) (es:=qtn) (hs:=q95) [] (by kernel_rfl) rfl (by kernel_rfl) (by kernel_rfl) (by kernel_rfl) (by kernel_rfl) (by kernel_rfl) (by kernel_rfl) trivial trivial (by kernel_rfl) h
def qlv:=hentS Tryz.prog lv X0 56 [0,3,0,0,1,9,1,3,1,1,1,1,1,1,1,3,1,2,1,1,1,1,1,1,0] qlz qlx (fun x=>qlu x.2.1 x.2.2.1 x.2.2.2.1 x.2.2.2.2.1 x.2.2.2.2.2.1 x.2.2.2.2.2.2.1 x.2.2.2.2.2.2.2.1 x.2.2.2.2.2.2.2.2.1 x.2.2.2.2.2.2.2.2.2) (fun _ _ h=>q8p h)
def q96:=qlv::q95
def qko:=sLS [0] z1k (qaj z1e) [false] [0] (by decide) (fun _=>rfl)
abbrev z1g:=(qah z1e (qah (qd1 (bBox (qah z1f (qah z1f (qah (vRow 3) (qah (vC cStr) (qah z1f (qah (vC cStr) (qah z1f (qah (vRow 4) (qah (vRow 5) (qah z1f (qah (vC cStr) (qah (vC cStr) (qaj z1f))))))))))))))) (qah (qd1 (bBox (qah z1f (qah z1f (qah (vRow 6) (qah (vC cStr) (qah z1f (qah (vC cStr) (qah z1f (qah (vRow 7) (qah (vRow 8) (qah z1f (qah (vC cStr) (qah (vC cStr) (qaj z1f))))))))))))))) (qah (qd1 (bRow q5k)) (qah (qd1 (bRow q5l)) (qah (qd1 (bRow q5l)) (qah (qd1 (bRow q5k)) (qah (qd1 (bRow q5l)) (qaj (qd1 (bRow q5l)))))))))))
def qkk:=sLS [0,2,3,7,8] (qah (vPtr 0 0) (qah (vPtr 1 0) (qah (vPtr 2 0) (qah z1i (qaj z1f))))) z1g [false,false,false,false,false,false,false,false,false] [0] (by decide) (fun _=>rfl)
def qkj:=sLS [0,2,3,7,8,9] (qah (vPtr 0 0) (qah (vPtr 1 0) (qah (vPtr 2 0) (qah z1i (qah z1f z1m))))) z1g [false,false,false,false,false,false,false,false,false] [0] (by decide) (fun _=>rfl)
def qki:=sLS [2] z1k (qah (qd1 (bBox (qah z1f (qah z1f (qah (vRow 2) (qah (vC cStr) (qah z1f (qah (vC cStr) (qah z1f (qah (vRow 3) (qah (vRow 4) (qah z1f (qah (vC cStr) (qah (vC cStr) (qaj z1f))))))))))))))) (qah z1e (qah (qd1 (bRow q5k)) (qah (qd1 (bRow q5l)) (qaj (qd1 (bRow q5l))))))) [false,false,false,false,false] [1] (by decide) (fun _=>rfl)
def qkh:=oOr 1 qki (oAt 2 qkj) (fun x=>(by decide:(2:Nat)≠1))
def qke (t7 t7_1:BA) (t7_2 t7_3:BA) (t7_4 t7_5 t7_6:BA) (t8:Int) (b0:BA) (b0_1 b0_2 b0_3:Int) (b0_4:BA) (b0_5:Bool) (b0_6 b0_7:Int) (b0_8 b1 b1_1:Int) (b1_2:Nat) (b1_3:BA) (b1_4:Int) (b1_5:BA) (b1_6:Int) (b1_7 b1_8:Nat) (b1_9:Int) (b1_10 b1_11:BA) (b1_12 b2 b2_1:Int) (b2_2:Nat) (b2_3:BA) (b2_4:Int) (b2_5:BA) (b2_6:Int) (b2_7 b2_8:Nat) (b2_9:Int) (b2_10 b2_11:BA) (b2_12:Int) (b3:L57) (b4 b5:L59) (b6:L57) (b7 b8:L59):=lS Tryz.prog lv X0 59 41 (q8l (cdF Tryz.f59) 3) qkk qkh (((),(),(),(t7,t7_1,t7_2,t7_3,t7_4,t7_5,t7_6),t8),((b0,b0_1,b0_2,b0_3,b0_4,b0_5,b0_6,b0_7,b0_8),(b1,b1_1,b1_2,b1_3,b1_4,b1_5,b1_6,b1_7,b1_8,b1_9,b1_10,b1_11,b1_12),(b2,b2_1,b2_2,b2_3,b2_4,b2_5,b2_6,b2_7,b2_8,b2_9,b2_10,b2_11,b2_12),b3,b4,b5,b6,b7,b8))
def qkl (t7 t7_1:BA) (t7_2 t7_3:BA) (t7_4 t7_5 t7_6:BA) (t8:Int) (b0:BA) (b0_1 b0_2 b0_3:Int) (b0_4:BA) (b0_5:Bool) (b0_6 b0_7:Int) (b0_8 b1 b1_1:Int) (b1_2:Nat) (b1_3:BA) (b1_4:Int) (b1_5:BA) (b1_6:Int) (b1_7 b1_8:Nat) (b1_9:Int) (b1_10 b1_11:BA) (b1_12 b2 b2_1:Int) (b2_2:Nat) (b2_3:BA) (b2_4:Int) (b2_5:BA) (b2_6:Int) (b2_7 b2_8:Nat) (b2_9:Int) (b2_10 b2_11:BA) (b2_12:Int) (b3:L57) (b4 b5:L59) (b6:L57) (b7 b8:L59):Oq ((Unit×((Int×Int×Nat×BA×Int×BA×Int×Nat×Nat×Int×BA×BA×Int)×(BA×Int×Int×Int×BA×Bool×Int×Int×Int)×L57×L59×L59))⊕((Unit×Unit×Unit×(BA×BA×BA×BA×BA×BA×BA)×Int×Bool)×((BA×Int×Int×Int×BA×Bool×Int×Int×Int)×(Int×Int×Nat×BA×Int×BA×Int×Nat×Nat×Int×BA×BA×Int)×(Int×Int×Nat×BA×Int×BA×Int×Nat×Nat×Int×BA×BA×Int)×L57×L59×L59×L57×L59×L59))) :=
 (brE (decide (t8<7))
 (gdE (((p0 t8)&&(decide (t8<((7:Nat):Int))))&&(decide ((Int.toNat t8)<(List.length [t7,t7_1,t7_2,t7_3,t7_4,t7_5,t7_6]))))<|
 ((qm1 2 (List.getD [t7,t7_1,t7_2,t7_3,t7_4,t7_5,t7_6] (Int.toNat t8) ByteArray.empty) b0 b0_1 b0_2 b0_3 b0_4 b0_5 b0_6 b0_7 b0_8).bind fun r0 =>
 (brE (!r0.1)
 (gL q5k b3<|
 (gL q5l b4<|
 (gL q5l b5<|
 (gL q5k b6<|
 (gL q5l b7<|
 (gL q5l b8<|
 (qke t7 t7_1 t7_2 t7_3 t7_4 t7_5 t7_6 (wI t8) r0.2.2.1 r0.2.2.2.1 r0.2.2.2.2.1 r0.2.2.2.2.2.1 r0.2.2.2.2.2.2.1 r0.2.2.2.2.2.2.2.1 r0.2.2.2.2.2.2.2.2.1 r0.2.2.2.2.2.2.2.2.2.1 r0.2.2.2.2.2.2.2.2.2.2 b1 b1_1 b1_2 b1_3 b1_4 b1_5 b1_6 b1_7 b1_8 b1_9 b1_10 b1_11 b1_12 b2 b2_1 b2_2 b2_3 b2_4 b2_5 b2_6 b2_7 b2_8 b2_9 b2_10 b2_11 b2_12 (dL q5k b3) (dL q5l b4) (dL q5l b5) (dL q5k b6) (dL q5l b7) (dL q5l b8))))))))
 (brE ((wI t8)==6)
 ((qn8 r0.2.2.1 r0.2.2.2.1 r0.2.2.2.2.1 r0.2.2.2.2.2.1 r0.2.2.2.2.2.2.1 r0.2.2.2.2.2.2.2.1 r0.2.2.2.2.2.2.2.2.1 r0.2.2.2.2.2.2.2.2.2.1 r0.2.2.2.2.2.2.2.2.2.2).bind fun r1 =>
 ((qn1 (ByteArray.mk (List.toArray [(59:UInt8)])) r1.2.2.1 r1.2.2.2.1 r1.2.2.2.2.1 r1.2.2.2.2.2.1 r1.2.2.2.2.2.2.1 r1.2.2.2.2.2.2.2.1 r1.2.2.2.2.2.2.2.2.1 r1.2.2.2.2.2.2.2.2.2.1 r1.2.2.2.2.2.2.2.2.2.2).bind fun r2 =>
 (gL q5k b6<|
 (gL q5l b7<|
 (gL q5l b8<|
 (some (.inl ((),((b2,(b2_1,(b2_2,(b2_3,(b2_4,(b2_5,(b2_6,(b2_7,(b2_8,((wI t8),(b2_10,(b2_11,r1.1)))))))))))),((r2.2.2.1,(r2.2.2.2.1,(r2.2.2.2.2.1,(r2.2.2.2.2.2.1,(r2.2.2.2.2.2.2.1,(r2.2.2.2.2.2.2.2.1,(r2.2.2.2.2.2.2.2.2.1,(r2.2.2.2.2.2.2.2.2.2.1,r2.2.2.2.2.2.2.2.2.2.2)))))))),((dL q5k b6),((dL q5l b7),(dL q5l b8)))))))))))))
 ((qq1 (wI t8)).bind fun r1 =>
 (brE r1
 ((qof 1 r0.2.2.1 r0.2.2.2.1 r0.2.2.2.2.1 r0.2.2.2.2.2.1 r0.2.2.2.2.2.2.1 r0.2.2.2.2.2.2.2.1 r0.2.2.2.2.2.2.2.2.1 r0.2.2.2.2.2.2.2.2.2.1 r0.2.2.2.2.2.2.2.2.2.2).bind fun r2 =>
 ((qn1 (ByteArray.mk (List.toArray [(59:UInt8)])) r2.2.2.1 r2.2.2.2.1 r2.2.2.2.2.1 r2.2.2.2.2.2.1 r2.2.2.2.2.2.2.1 r2.2.2.2.2.2.2.2.1 r2.2.2.2.2.2.2.2.2.1 r2.2.2.2.2.2.2.2.2.2.1 r2.2.2.2.2.2.2.2.2.2.2).bind fun r3 =>
 (gL q5k b6<|
 (gL q5l b7<|
 (gL q5l b8<|
 (some (.inl ((),((b2,(b2_1,(b2_2,(b2_3,(b2_4,(b2_5,(b2_6,(b2_7,(b2_8,((wI t8),(b2_10,(r2.1,b2_12)))))))))))),((r3.2.2.1,(r3.2.2.2.1,(r3.2.2.2.2.1,(r3.2.2.2.2.2.1,(r3.2.2.2.2.2.2.1,(r3.2.2.2.2.2.2.2.1,(r3.2.2.2.2.2.2.2.2.1,(r3.2.2.2.2.2.2.2.2.2.1,r3.2.2.2.2.2.2.2.2.2.2)))))))),((dL q5k b6),((dL q5l b7),(dL q5l b8)))))))))))))
 ((qn1 (ByteArray.mk (List.toArray [(59:UInt8)])) r0.2.2.1 r0.2.2.2.1 r0.2.2.2.2.1 r0.2.2.2.2.2.1 r0.2.2.2.2.2.2.1 r0.2.2.2.2.2.2.2.1 r0.2.2.2.2.2.2.2.2.1 r0.2.2.2.2.2.2.2.2.2.1 r0.2.2.2.2.2.2.2.2.2.2).bind fun r2 =>
 (gL q5k b6<|
 (gL q5l b7<|
 (gL q5l b8<|
 (some (.inl ((),((b2,(b2_1,(b2_2,(b2_3,(b2_4,(b2_5,(b2_6,(b2_7,(b2_8,((wI t8),(b2_10,(b2_11,b2_12)))))))))))),((r2.2.2.1,(r2.2.2.2.1,(r2.2.2.2.2.1,(r2.2.2.2.2.2.1,(r2.2.2.2.2.2.2.1,(r2.2.2.2.2.2.2.2.1,(r2.2.2.2.2.2.2.2.2.1,(r2.2.2.2.2.2.2.2.2.2.1,r2.2.2.2.2.2.2.2.2.2.2)))))))),((dL q5k b6),((dL q5l b7),(dL q5l b8))))))))))))))))))
 (gL q5k b3<|
 (gL q5l b4<|
 (gL q5l b5<|
 (gL q5k b6<|
 (gL q5l b7<|
 (gL q5l b8<|
 (some (.inr (((),((),((),((t7,(t7_1,(t7_2,(t7_3,(t7_4,(t7_5,t7_6)))))),(t8,false))))),((b0,(b0_1,(b0_2,(b0_3,(b0_4,(b0_5,(b0_6,(b0_7,b0_8)))))))),((b1,(b1_1,(b1_2,(b1_3,(b1_4,(b1_5,(b1_6,(b1_7,(b1_8,(b1_9,(b1_10,(b1_11,b1_12)))))))))))),((b2,(b2_1,(b2_2,(b2_3,(b2_4,(b2_5,(b2_6,(b2_7,(b2_8,(b2_9,(b2_10,(b2_11,b2_12)))))))))))),((dL q5k b3),((dL q5l b4),((dL q5l b5),((dL q5k b6),((dL q5l b7),(dL q5l b8)))))))))))))))))))
theorem qkg {t7 t7_1 t7_2 t7_3 t7_4 t7_5 t7_6 t8 b0 b0_1 b0_2 b0_3 b0_4 b0_5 b0_6 b0_7 b0_8 b1 b1_1 b1_2 b1_3 b1_4 b1_5 b1_6 b1_7 b1_8 b1_9 b1_10 b1_11 b1_12 b2 b2_1 b2_2 b2_3 b2_4 b2_5 b2_6 b2_7 b2_8 b2_9 b2_10 b2_11 b2_12 b3 b4 b5 b6 b7 b8 r} (h:qkl t7 t7_1 t7_2 t7_3 t7_4 t7_5 t7_6 t8 b0 b0_1 b0_2 b0_3 b0_4 b0_5 b0_6 b0_7 b0_8 b1 b1_1 b1_2 b1_3 b1_4 b1_5 b1_6 b1_7 b1_8 b1_9 b1_10 b1_11 b1_12 b2 b2_1 b2_2 b2_3 b2_4 b2_5 b2_6 b2_7 b2_8 b2_9 b2_10 b2_11 b2_12 b3 b4 b5 b6 b7 b8=some r):qke t7 t7_1 t7_2 t7_3 t7_4 t7_5 t7_6 t8 b0 b0_1 b0_2 b0_3 b0_4 b0_5 b0_6 b0_7 b0_8 b1 b1_1 b1_2 b1_3 b1_4 b1_5 b1_6 b1_7 b1_8 b1_9 b1_10 b1_11 b1_12 b2 b2_1 b2_2 b2_3 b2_4 b2_5 b2_6 b2_7 b2_8 b2_9 b2_10 b2_11 b2_12 b3 b4 b5 b6 b7 b8=some r :=
 qal (es:=qtn) (hs:=q96) [] (by kernel_rfl) trivial trivial (by kernel_rfl) h
def qkf:=qb9 Tryz.prog lv X0 3 (q8l (cdF Tryz.f59) 3) qkk qkh (fun x=>qke x.1.2.2.2.1.1 x.1.2.2.2.1.2.1 x.1.2.2.2.1.2.2.1 x.1.2.2.2.1.2.2.2.1 x.1.2.2.2.1.2.2.2.2.1 x.1.2.2.2.1.2.2.2.2.2.1 x.1.2.2.2.1.2.2.2.2.2.2 x.1.2.2.2.2 x.2.1.1 x.2.1.2.1 x.2.1.2.2.1 x.2.1.2.2.2.1 x.2.1.2.2.2.2.1 x.2.1.2.2.2.2.2.1 x.2.1.2.2.2.2.2.2.1 x.2.1.2.2.2.2.2.2.2.1 x.2.1.2.2.2.2.2.2.2.2 x.2.2.1.1 x.2.2.1.2.1 x.2.2.1.2.2.1 x.2.2.1.2.2.2.1 x.2.2.1.2.2.2.2.1 x.2.2.1.2.2.2.2.2.1 x.2.2.1.2.2.2.2.2.2.1 x.2.2.1.2.2.2.2.2.2.2.1 x.2.2.1.2.2.2.2.2.2.2.2.1 x.2.2.1.2.2.2.2.2.2.2.2.2.1 x.2.2.1.2.2.2.2.2.2.2.2.2.2.1 x.2.2.1.2.2.2.2.2.2.2.2.2.2.2.1 x.2.2.1.2.2.2.2.2.2.2.2.2.2.2.2 x.2.2.2.1.1 x.2.2.2.1.2.1 x.2.2.2.1.2.2.1 x.2.2.2.1.2.2.2.1 x.2.2.2.1.2.2.2.2.1 x.2.2.2.1.2.2.2.2.2.1 x.2.2.2.1.2.2.2.2.2.2.1 x.2.2.2.1.2.2.2.2.2.2.2.1 x.2.2.2.1.2.2.2.2.2.2.2.2.1 x.2.2.2.1.2.2.2.2.2.2.2.2.2.1 x.2.2.2.1.2.2.2.2.2.2.2.2.2.2.1 x.2.2.2.1.2.2.2.2.2.2.2.2.2.2.2.1 x.2.2.2.1.2.2.2.2.2.2.2.2.2.2.2.2 x.2.2.2.2.1 x.2.2.2.2.2.1 x.2.2.2.2.2.2.1 x.2.2.2.2.2.2.2.1 x.2.2.2.2.2.2.2.2.1 x.2.2.2.2.2.2.2.2.2) (fun _ _ h=>qak h)
def qkn:SC ((Int×Int×(List S57)×ByteArray×Int×ByteArray×Int×(List S59)×(List S59)×Int×ByteArray×ByteArray×Int)×(ByteArray×Int×Int×Int×ByteArray×Bool×Int×Int×Int)):=sLS [0] (qaj (vAgg (qah (vC (cInt .i64)) (qah (vC (cInt .i64)) (qah (vC (cSl q5k)) (qah (vC cStr) (qah (vC (cInt .i64)) (qah (vC cStr) (qah (vC (cInt .i64)) (qah (vC (cSl q5l)) (qah (vC (cSl q5l)) (qah (vC (cInt .i64)) (qah (vC cStr) (qah (vC cStr) (qaj (vC (cInt .i64))))))))))))))))) (qaj (qd1 (bBox (qah (vC cStr) (qah (vC (cInt .i64)) (qah (vC (cInt .i64)) (qah (vC (cInt .i64)) (qah (vC cStr) (qah (vC cBool) (qah (vC (cInt .i64)) (qah (vC (cInt .i64)) (qaj (vC (cInt .i64)))))))))))))) [false] [0] (by decide) (fun _=>rfl)
def qkm:HC ((Int×Int×(List S57)×ByteArray×Int×ByteArray×Int×(List S59)×(List S59)×Int×ByteArray×ByteArray×Int)×((Int×Int×(List S57)×ByteArray×Int×ByteArray×Int×(List S59)×(List S59)×Int×ByteArray×ByteArray×Int)×(ByteArray×Int×Int×Int×ByteArray×Bool×Int×Int×Int))):=hPair (vAgg (qah (vC (cInt .i64)) (qah (vC (cInt .i64)) (qah (vC (cSl q5k)) (qah (vC cStr) (qah (vC (cInt .i64)) (qah (vC cStr) (qah (vC (cInt .i64)) (qah (vC (cSl q5l)) (qah (vC (cSl q5l)) (qah (vC (cInt .i64)) (qah (vC cStr) (qah (vC cStr) (qaj (vC (cInt .i64)))))))))))))))) qkn
def qkb (b0:BA) (b0_1 b0_2 b0_3:Int) (b0_4:BA) (b0_5:Bool) (b0_6 b0_7 b0_8:Int):=hS Tryz.prog lv X0 59 qko qkm ((),(b0,b0_1,b0_2,b0_3,b0_4,b0_5,b0_6,b0_7,b0_8))
def qkp (b0:BA) (b0_1 b0_2 b0_3:Int) (b0_4:BA) (b0_5:Bool) (b0_6 b0_7 b0_8:Int):Oq ((Int×Int×L57×BA×Int×BA×Int×L59×L59×Int×BA×BA×Int)×((Int×Int×L57×BA×Int×BA×Int×L59×L59×Int×BA×BA×Int)×(BA×Int×Int×Int×BA×Bool×Int×Int×Int))) :=
 (Option.bind qia fun r0 =>
 ((qke r0.1 r0.2.1 r0.2.2.1 r0.2.2.2.1 r0.2.2.2.2.1 r0.2.2.2.2.2.1 r0.2.2.2.2.2.2 0 b0 b0_1 b0_2 b0_3 b0_4 b0_5 b0_6 b0_7 b0_8 0 0 0 ⟨#[]⟩ 0 ⟨#[]⟩ 0 0 0 0 ⟨#[]⟩ ⟨#[]⟩ 0 2 0 0 ⟨#[]⟩ 0 ⟨#[]⟩ 0 0 0 0 ⟨#[]⟩ ⟨#[]⟩ 0 (EC.decL q5k []) (EC.decL q5l []) (EC.decL q5l []) (EC.decL q5k []) (EC.decL q5l []) (EC.decL q5l [])).bind fun r1 =>
 (Sum.elim (fun r2=>(gdE (EC.isL q5k (EC.encL q5k r2.2.2.2.1))<|
 (gL q5l r2.2.2.2.2.1<|
 (gL q5l r2.2.2.2.2.2<|
 (gL q5k r2.2.2.2.1<|
 (gL q5l r2.2.2.2.2.1<|
 (gL q5l r2.2.2.2.2.2<|
 (some ((r2.2.1.1,(r2.2.1.2.1,((dL q5k r2.2.2.2.1),(r2.2.1.2.2.2.1,(r2.2.1.2.2.2.2.1,(r2.2.1.2.2.2.2.2.1,(r2.2.1.2.2.2.2.2.2.1,((dL q5l r2.2.2.2.2.1),((dL q5l r2.2.2.2.2.2),(r2.2.1.2.2.2.2.2.2.2.2.2.1,(r2.2.1.2.2.2.2.2.2.2.2.2.2.1,(r2.2.1.2.2.2.2.2.2.2.2.2.2.2.1,r2.2.1.2.2.2.2.2.2.2.2.2.2.2.2)))))))))))),((r2.2.1.1,(r2.2.1.2.1,((dL q5k r2.2.2.2.1),(r2.2.1.2.2.2.1,(r2.2.1.2.2.2.2.1,(r2.2.1.2.2.2.2.2.1,(r2.2.1.2.2.2.2.2.2.1,((dL q5l r2.2.2.2.2.1),((dL q5l r2.2.2.2.2.2),(r2.2.1.2.2.2.2.2.2.2.2.2.1,(r2.2.1.2.2.2.2.2.2.2.2.2.2.1,(r2.2.1.2.2.2.2.2.2.2.2.2.2.2.1,r2.2.1.2.2.2.2.2.2.2.2.2.2.2.2)))))))))))),(r2.2.2.1.1,(r2.2.2.1.2.1,(r2.2.2.1.2.2.1,(r2.2.2.1.2.2.2.1,(r2.2.2.1.2.2.2.2.1,(r2.2.2.1.2.2.2.2.2.1,(r2.2.2.1.2.2.2.2.2.2.1,(r2.2.2.1.2.2.2.2.2.2.2.1,r2.2.2.1.2.2.2.2.2.2.2.2))))))))))))))))))
 (fun r2=>(gdE (EC.isL q5k (EC.encL q5k r2.2.2.2.2.2.2.2.1))<|
 (gL q5l r2.2.2.2.2.2.2.2.2.1<|
 (gL q5l r2.2.2.2.2.2.2.2.2.2<|
 (gL q5k r2.2.2.2.2.2.2.2.1<|
 (gL q5l r2.2.2.2.2.2.2.2.2.1<|
 (gL q5l r2.2.2.2.2.2.2.2.2.2<|
 (some ((r2.2.2.2.1.1,(r2.2.2.2.1.2.1,((dL q5k r2.2.2.2.2.2.2.2.1),(r2.2.2.2.1.2.2.2.1,(r2.2.2.2.1.2.2.2.2.1,(r2.2.2.2.1.2.2.2.2.2.1,(r2.2.2.2.1.2.2.2.2.2.2.1,((dL q5l r2.2.2.2.2.2.2.2.2.1),((dL q5l r2.2.2.2.2.2.2.2.2.2),(r2.2.2.2.1.2.2.2.2.2.2.2.2.2.1,(r2.2.2.2.1.2.2.2.2.2.2.2.2.2.2.1,(r2.2.2.2.1.2.2.2.2.2.2.2.2.2.2.2.1,r2.2.2.2.1.2.2.2.2.2.2.2.2.2.2.2.2)))))))))))),((r2.2.2.2.1.1,(r2.2.2.2.1.2.1,((dL q5k r2.2.2.2.2.2.2.2.1),(r2.2.2.2.1.2.2.2.1,(r2.2.2.2.1.2.2.2.2.1,(r2.2.2.2.1.2.2.2.2.2.1,(r2.2.2.2.1.2.2.2.2.2.2.1,((dL q5l r2.2.2.2.2.2.2.2.2.1),((dL q5l r2.2.2.2.2.2.2.2.2.2),(r2.2.2.2.1.2.2.2.2.2.2.2.2.2.1,(r2.2.2.2.1.2.2.2.2.2.2.2.2.2.2.1,(r2.2.2.2.1.2.2.2.2.2.2.2.2.2.2.2.1,r2.2.2.2.1.2.2.2.2.2.2.2.2.2.2.2.2)))))))))))),(r2.2.1.1,(r2.2.1.2.1,(r2.2.1.2.2.1,(r2.2.1.2.2.2.1,(r2.2.1.2.2.2.2.1,(true,(r2.2.1.2.2.2.2.2.2.1,(r2.2.1.2.2.2.2.2.2.2.1,r2.2.1.2.2.2.2.2.2.2.2)))))))))))))))))) r1)))
theorem qkd {b0 b0_1 b0_2 b0_3 b0_4 b0_5 b0_6 b0_7 b0_8 r} (h:qkp b0 b0_1 b0_2 b0_3 b0_4 b0_5 b0_6 b0_7 b0_8=some r):qkb b0 b0_1 b0_2 b0_3 b0_4 b0_5 b0_6 b0_7 b0_8=some r :=
 q8q (fn:=Tryz.f59) (es:=qtn) (hs:=q96) [qkf] (by kernel_rfl) rfl (by kernel_rfl) (by kernel_rfl) ⟨⟨_,rfl,rfl⟩,trivial⟩ trivial (by kernel_rfl) h
def qkc:=hentS Tryz.prog lv X0 59 [0,3,0,0,1,9,1,3,1,1,1,1,1,1,1,3,1,2,1,1,1,1,1,1,0] qko qkm (fun x=>qkb x.2.1 x.2.2.1 x.2.2.2.1 x.2.2.2.2.1 x.2.2.2.2.2.1 x.2.2.2.2.2.2.1 x.2.2.2.2.2.2.2.1 x.2.2.2.2.2.2.2.2.1 x.2.2.2.2.2.2.2.2.2) (fun _ _ h=>q8p h)
def q93:=qkc::q96
def qo0 (b0:BA) (b0_1 b0_2 b0_3:Int) (b0_4:BA) (b0_5:Bool) (b0_6 b0_7 b0_8:Int):Oq ((Int×Int×L57×BA×Int×BA×Int×L59×L59×Int×BA×BA×Int)×((Int×Int×L57×BA×Int×BA×Int×L59×L59×Int×BA×BA×Int)×(BA×Int×Int×Int×BA×Bool×Int×Int×Int))) :=
 (brE ((decide ((wI b0_6)>100))==false)
 (brE (decide (b0_7>8))
 (some ((0,(0,((EC.decL q5k []),(⟨#[]⟩,(0,(⟨#[]⟩,(0,((EC.decL q5l []),((EC.decL q5l []),(0,(⟨#[]⟩,(⟨#[]⟩,0)))))))))))),((0,(0,((EC.decL q5k []),(⟨#[]⟩,(0,(⟨#[]⟩,(0,((EC.decL q5l []),((EC.decL q5l []),(0,(⟨#[]⟩,(⟨#[]⟩,0)))))))))))),(b0,(b0_1,(b0_2,(b0_3,(b0_4,(true,((wI b0_6),(b0_7,b0_8)))))))))))
 ((qm1 2 (ByteArray.mk (List.toArray [(105:UInt8),(102:UInt8)])) b0 b0_1 b0_2 b0_3 b0_4 b0_5 (wI b0_6) b0_7 b0_8).bind fun r0 =>
 (brE r0.1
 ((qot r0.2.2.1 r0.2.2.2.1 r0.2.2.2.2.1 r0.2.2.2.2.2.1 r0.2.2.2.2.2.2.1 r0.2.2.2.2.2.2.2.1 r0.2.2.2.2.2.2.2.2.1 r0.2.2.2.2.2.2.2.2.2.1 r0.2.2.2.2.2.2.2.2.2.2).bind fun r1 =>
 ((qlu r1.2.2.1 r1.2.2.2.1 r1.2.2.2.2.1 r1.2.2.2.2.2.1 r1.2.2.2.2.2.2.1 r1.2.2.2.2.2.2.2.1 r1.2.2.2.2.2.2.2.2.1 r1.2.2.2.2.2.2.2.2.2.1 r1.2.2.2.2.2.2.2.2.2.2).bind fun r2 =>
 ((qm1 2 (ByteArray.mk (List.toArray [(101:UInt8),(108:UInt8),(115:UInt8),(101:UInt8)])) r2.2.2.1 r2.2.2.2.1 r2.2.2.2.2.1 r2.2.2.2.2.2.1 r2.2.2.2.2.2.2.1 r2.2.2.2.2.2.2.2.1 r2.2.2.2.2.2.2.2.2.1 r2.2.2.2.2.2.2.2.2.2.1 r2.2.2.2.2.2.2.2.2.2.2).bind fun r3 =>
 (brE r3.1
 ((qlu r3.2.2.1 r3.2.2.2.1 r3.2.2.2.2.1 r3.2.2.2.2.2.1 r3.2.2.2.2.2.2.1 r3.2.2.2.2.2.2.2.1 r3.2.2.2.2.2.2.2.2.1 r3.2.2.2.2.2.2.2.2.2.1 r3.2.2.2.2.2.2.2.2.2.2).bind fun r4 =>
 (gL q5k r1.1.2.1<|
 (gL q5l r2.1<|
 (gL q5l r4.1<|
 (gL q5k r1.1.2.1<|
 (gL q5l r2.1<|
 (gL q5l r4.1<|
 (some ((1,(r1.1.1,((dL q5k r1.1.2.1),(r1.1.2.2.1,(r1.1.2.2.2.1,(r1.1.2.2.2.2.1,(r1.1.2.2.2.2.2,((dL q5l r2.1),((dL q5l r4.1),(0,(⟨#[]⟩,(⟨#[]⟩,0)))))))))))),((1,(r1.1.1,((dL q5k r1.1.2.1),(r1.1.2.2.1,(r1.1.2.2.2.1,(r1.1.2.2.2.2.1,(r1.1.2.2.2.2.2,((dL q5l r2.1),((dL q5l r4.1),(0,(⟨#[]⟩,(⟨#[]⟩,0)))))))))))),(r4.2.2.1,(r4.2.2.2.1,(r4.2.2.2.2.1,(r4.2.2.2.2.2.1,(r4.2.2.2.2.2.2.1,(r4.2.2.2.2.2.2.2.1,(r4.2.2.2.2.2.2.2.2.1,(r4.2.2.2.2.2.2.2.2.2.1,r4.2.2.2.2.2.2.2.2.2.2))))))))))))))))))
 (gL q5k r1.1.2.1<|
 (gL q5l r2.1<|
 (gL q5k r1.1.2.1<|
 (gL q5l r2.1<|
 (some ((1,(r1.1.1,((dL q5k r1.1.2.1),(r1.1.2.2.1,(r1.1.2.2.2.1,(r1.1.2.2.2.2.1,(r1.1.2.2.2.2.2,((dL q5l r2.1),((EC.decL q5l []),(0,(⟨#[]⟩,(⟨#[]⟩,0)))))))))))),((1,(r1.1.1,((dL q5k r1.1.2.1),(r1.1.2.2.1,(r1.1.2.2.2.1,(r1.1.2.2.2.2.1,(r1.1.2.2.2.2.2,((dL q5l r2.1),((EC.decL q5l []),(0,(⟨#[]⟩,(⟨#[]⟩,0)))))))))))),(r3.2.2.1,(r3.2.2.2.1,(r3.2.2.2.2.1,(r3.2.2.2.2.2.1,(r3.2.2.2.2.2.2.1,(r3.2.2.2.2.2.2.2.1,(r3.2.2.2.2.2.2.2.2.1,(r3.2.2.2.2.2.2.2.2.2.1,r3.2.2.2.2.2.2.2.2.2.2)))))))))))))))))))
 ((qm1 2 (ByteArray.mk (List.toArray [(115:UInt8),(101:UInt8),(116:UInt8)])) r0.2.2.1 r0.2.2.2.1 r0.2.2.2.2.1 r0.2.2.2.2.2.1 r0.2.2.2.2.2.2.1 r0.2.2.2.2.2.2.2.1 r0.2.2.2.2.2.2.2.2.1 r0.2.2.2.2.2.2.2.2.2.1 r0.2.2.2.2.2.2.2.2.2.2).bind fun r1 =>
 (brE r1.1
 ((qof 2 r1.2.2.1 r1.2.2.2.1 r1.2.2.2.2.1 r1.2.2.2.2.2.1 r1.2.2.2.2.2.2.1 r1.2.2.2.2.2.2.2.1 r1.2.2.2.2.2.2.2.2.1 r1.2.2.2.2.2.2.2.2.2.1 r1.2.2.2.2.2.2.2.2.2.2).bind fun r2 =>
 ((qof 1 r2.2.2.1 r2.2.2.2.1 r2.2.2.2.2.1 r2.2.2.2.2.2.1 r2.2.2.2.2.2.2.1 r2.2.2.2.2.2.2.2.1 r2.2.2.2.2.2.2.2.2.1 r2.2.2.2.2.2.2.2.2.2.1 r2.2.2.2.2.2.2.2.2.2.2).bind fun r3 =>
 ((qn1 (ByteArray.mk (List.toArray [(59:UInt8)])) r3.2.2.1 r3.2.2.2.1 r3.2.2.2.2.1 r3.2.2.2.2.2.1 r3.2.2.2.2.2.2.1 r3.2.2.2.2.2.2.2.1 r3.2.2.2.2.2.2.2.2.1 r3.2.2.2.2.2.2.2.2.2.1 r3.2.2.2.2.2.2.2.2.2.2).bind fun r4 =>
 (some ((3,(0,((EC.decL q5k []),(⟨#[]⟩,(0,(⟨#[]⟩,(0,((EC.decL q5l []),((EC.decL q5l []),(0,(r2.1,(r3.1,0)))))))))))),((3,(0,((EC.decL q5k []),(⟨#[]⟩,(0,(⟨#[]⟩,(0,((EC.decL q5l []),((EC.decL q5l []),(0,(r2.1,(r3.1,0)))))))))))),(r4.2.2.1,(r4.2.2.2.1,(r4.2.2.2.2.1,(r4.2.2.2.2.2.1,(r4.2.2.2.2.2.2.1,(r4.2.2.2.2.2.2.2.1,(r4.2.2.2.2.2.2.2.2.1,(r4.2.2.2.2.2.2.2.2.2.1,r4.2.2.2.2.2.2.2.2.2.2))))))))))))))
 ((qm1 2 (ByteArray.mk (List.toArray [(115:UInt8),(116:UInt8),(111:UInt8),(112:UInt8)])) r1.2.2.1 r1.2.2.2.1 r1.2.2.2.2.1 r1.2.2.2.2.2.1 r1.2.2.2.2.2.2.1 r1.2.2.2.2.2.2.2.1 r1.2.2.2.2.2.2.2.2.1 r1.2.2.2.2.2.2.2.2.2.1 r1.2.2.2.2.2.2.2.2.2.2).bind fun r2 =>
 (brE r2.1
 ((qn1 (ByteArray.mk (List.toArray [(59:UInt8)])) r2.2.2.1 r2.2.2.2.1 r2.2.2.2.2.1 r2.2.2.2.2.2.1 r2.2.2.2.2.2.2.1 r2.2.2.2.2.2.2.2.1 r2.2.2.2.2.2.2.2.2.1 r2.2.2.2.2.2.2.2.2.2.1 r2.2.2.2.2.2.2.2.2.2.2).bind fun r3 =>
 (some ((4,(0,((EC.decL q5k []),(⟨#[]⟩,(0,(⟨#[]⟩,(0,((EC.decL q5l []),((EC.decL q5l []),(0,(⟨#[]⟩,(⟨#[]⟩,0)))))))))))),((4,(0,((EC.decL q5k []),(⟨#[]⟩,(0,(⟨#[]⟩,(0,((EC.decL q5l []),((EC.decL q5l []),(0,(⟨#[]⟩,(⟨#[]⟩,0)))))))))))),(r3.2.2.1,(r3.2.2.2.1,(r3.2.2.2.2.1,(r3.2.2.2.2.2.1,(r3.2.2.2.2.2.2.1,(r3.2.2.2.2.2.2.2.1,(r3.2.2.2.2.2.2.2.2.1,(r3.2.2.2.2.2.2.2.2.2.1,r3.2.2.2.2.2.2.2.2.2.2))))))))))))
 ((qkb r2.2.2.1 r2.2.2.2.1 r2.2.2.2.2.1 r2.2.2.2.2.2.1 r2.2.2.2.2.2.2.1 r2.2.2.2.2.2.2.2.1 r2.2.2.2.2.2.2.2.2.1 r2.2.2.2.2.2.2.2.2.2.1 r2.2.2.2.2.2.2.2.2.2.2).bind fun r3 =>
 (gL q5k r3.1.2.2.1<|
 (gL q5l r3.1.2.2.2.2.2.2.2.1<|
 (gL q5l r3.1.2.2.2.2.2.2.2.2.1<|
 (gL q5k r3.1.2.2.1<|
 (gL q5l r3.1.2.2.2.2.2.2.2.1<|
 (gL q5l r3.1.2.2.2.2.2.2.2.2.1<|
 (some ((r3.1.1,(r3.1.2.1,((dL q5k r3.1.2.2.1),(r3.1.2.2.2.1,(r3.1.2.2.2.2.1,(r3.1.2.2.2.2.2.1,(r3.1.2.2.2.2.2.2.1,((dL q5l r3.1.2.2.2.2.2.2.2.1),((dL q5l r3.1.2.2.2.2.2.2.2.2.1),(r3.1.2.2.2.2.2.2.2.2.2.1,(r3.1.2.2.2.2.2.2.2.2.2.2.1,(r3.1.2.2.2.2.2.2.2.2.2.2.2.1,r3.1.2.2.2.2.2.2.2.2.2.2.2.2)))))))))))),((r3.1.1,(r3.1.2.1,((dL q5k r3.1.2.2.1),(r3.1.2.2.2.1,(r3.1.2.2.2.2.1,(r3.1.2.2.2.2.2.1,(r3.1.2.2.2.2.2.2.1,((dL q5l r3.1.2.2.2.2.2.2.2.1),((dL q5l r3.1.2.2.2.2.2.2.2.2.1),(r3.1.2.2.2.2.2.2.2.2.2.1,(r3.1.2.2.2.2.2.2.2.2.2.2.1,(r3.1.2.2.2.2.2.2.2.2.2.2.2.1,r3.1.2.2.2.2.2.2.2.2.2.2.2.2)))))))))))),(r3.2.2.1,(r3.2.2.2.1,(r3.2.2.2.2.1,(r3.2.2.2.2.2.1,(r3.2.2.2.2.2.2.1,(r3.2.2.2.2.2.2.2.1,(r3.2.2.2.2.2.2.2.2.1,(r3.2.2.2.2.2.2.2.2.2.1,r3.2.2.2.2.2.2.2.2.2.2)))))))))))))))))))))))))
 (some ((0,(0,((EC.decL q5k []),(⟨#[]⟩,(0,(⟨#[]⟩,(0,((EC.decL q5l []),((EC.decL q5l []),(0,(⟨#[]⟩,(⟨#[]⟩,0)))))))))))),((0,(0,((EC.decL q5k []),(⟨#[]⟩,(0,(⟨#[]⟩,(0,((EC.decL q5l []),((EC.decL q5l []),(0,(⟨#[]⟩,(⟨#[]⟩,0)))))))))))),(b0,(b0_1,(b0_2,(b0_3,(b0_4,(true,((wI b0_6),(b0_7,b0_8))))))))))))
theorem qnw {b0 b0_1 b0_2 b0_3 b0_4 b0_5 b0_6 b0_7 b0_8 r} (h:qo0 b0 b0_1 b0_2 b0_3 b0_4 b0_5 b0_6 b0_7 b0_8=some r):qnu b0 b0_1 b0_2 b0_3 b0_4 b0_5 b0_6 b0_7 b0_8=some r :=
 q8q (fn:=Tryz.f40) (es:=qtn) (hs:=q93) [] (by kernel_rfl) rfl (by kernel_rfl) (by kernel_rfl) trivial trivial (by kernel_rfl) h
def qo9:=sLS [0,3] (qah (vPtr 0 0) (qaj (vRow 1))) (qah z1e (qaj (qd1 (bRow q5l)))) [false,false] [0] (by decide) (fun _=>rfl)
def qo8:=sLS [0,3,32] (qah (vPtr 0 0) (qah (vRow 1) z1m)) (qah z1e (qaj (qd1 (bRow q5l)))) [false,false] [0] (by decide) (fun _=>rfl)
def qo7:=oAt 2 qo8
def qo4 (out:Nat) (b0:BA) (b0_1 b0_2 b0_3:Int) (b0_4:BA) (b0_5:Bool) (b0_6 b0_7 b0_8:Int) (b1:L59):=lS Tryz.prog lv X0 20 39 (q8l (cdF Tryz.f20) 2) qo9 qo7 (((),out),((b0,b0_1,b0_2,b0_3,b0_4,b0_5,b0_6,b0_7,b0_8),b1))
def qoa (out:Nat) (b0:BA) (b0_1 b0_2 b0_3:Int) (b0_4:BA) (b0_5:Bool) (b0_6 b0_7 b0_8:Int) (b1:L59):Oq ((Unit×Nat×Bool)×((BA×Int×Int×Int×BA×Bool×Int×Int×Int)×L59)) :=
 (brE ((!b0_5)==true)
 (brE ((b0_2 != 0)==true)
 (brE ((b0_2 != 4)==false)
 (brE (!(b0_4.toList==(ByteArray.toList (ByteArray.mk (List.toArray [(125:UInt8)])))))
 ((qnu b0 b0_1 b0_2 b0_3 b0_4 b0_5 b0_6 b0_7 b0_8).bind fun r0 =>
 (gdE ((((aL [[(C.int Go.IntKind.i64 r0.1.1),(C.int Go.IntKind.i64 r0.1.2.1),(C.sl (EC.encL q5k r0.1.2.2.1)),(C.str r0.1.2.2.2.1),(C.int Go.IntKind.i64 r0.1.2.2.2.2.1),(C.str r0.1.2.2.2.2.2.1),(C.int Go.IntKind.i64 r0.1.2.2.2.2.2.2.1),(C.sl (EC.encL q5l r0.1.2.2.2.2.2.2.2.1)),(C.sl (EC.encL q5l r0.1.2.2.2.2.2.2.2.2.1)),(C.int Go.IntKind.i64 r0.1.2.2.2.2.2.2.2.2.2.1),(C.str r0.1.2.2.2.2.2.2.2.2.2.2.1),(C.str r0.1.2.2.2.2.2.2.2.2.2.2.2.1),(C.int Go.IntKind.i64 r0.1.2.2.2.2.2.2.2.2.2.2.2.2)]] 13)&&(aL (EC.encL q5l b1) 13))&&(dQ (out+(List.length [[(C.int Go.IntKind.i64 r0.1.1),(C.int Go.IntKind.i64 r0.1.2.1),(C.sl (EC.encL q5k r0.1.2.2.1)),(C.str r0.1.2.2.2.1),(C.int Go.IntKind.i64 r0.1.2.2.2.2.1),(C.str r0.1.2.2.2.2.2.1),(C.int Go.IntKind.i64 r0.1.2.2.2.2.2.2.1),(C.sl (EC.encL q5l r0.1.2.2.2.2.2.2.2.1)),(C.sl (EC.encL q5l r0.1.2.2.2.2.2.2.2.2.1)),(C.int Go.IntKind.i64 r0.1.2.2.2.2.2.2.2.2.2.1),(C.str r0.1.2.2.2.2.2.2.2.2.2.2.1),(C.str r0.1.2.2.2.2.2.2.2.2.2.2.2.1),(C.int Go.IntKind.i64 r0.1.2.2.2.2.2.2.2.2.2.2.2.2)]])) 184))&&(decide ((out+(List.length [[(C.int Go.IntKind.i64 r0.1.1),(C.int Go.IntKind.i64 r0.1.2.1),(C.sl (EC.encL q5k r0.1.2.2.1)),(C.str r0.1.2.2.2.1),(C.int Go.IntKind.i64 r0.1.2.2.2.2.1),(C.str r0.1.2.2.2.2.2.1),(C.int Go.IntKind.i64 r0.1.2.2.2.2.2.2.1),(C.sl (EC.encL q5l r0.1.2.2.2.2.2.2.2.1)),(C.sl (EC.encL q5l r0.1.2.2.2.2.2.2.2.2.1)),(C.int Go.IntKind.i64 r0.1.2.2.2.2.2.2.2.2.2.1),(C.str r0.1.2.2.2.2.2.2.2.2.2.2.1),(C.str r0.1.2.2.2.2.2.2.2.2.2.2.2.1),(C.int Go.IntKind.i64 r0.1.2.2.2.2.2.2.2.2.2.2.2.2)]]))≤9223372036854775807)))<|
 (gdE (EC.isL q5l ((EC.encL q5l b1)++[[(C.int Go.IntKind.i64 r0.1.1),(C.int Go.IntKind.i64 r0.1.2.1),(C.sl (EC.encL q5k r0.1.2.2.1)),(C.str r0.1.2.2.2.1),(C.int Go.IntKind.i64 r0.1.2.2.2.2.1),(C.str r0.1.2.2.2.2.2.1),(C.int Go.IntKind.i64 r0.1.2.2.2.2.2.2.1),(C.sl (EC.encL q5l r0.1.2.2.2.2.2.2.2.1)),(C.sl (EC.encL q5l r0.1.2.2.2.2.2.2.2.2.1)),(C.int Go.IntKind.i64 r0.1.2.2.2.2.2.2.2.2.2.1),(C.str r0.1.2.2.2.2.2.2.2.2.2.2.1),(C.str r0.1.2.2.2.2.2.2.2.2.2.2.2.1),(C.int Go.IntKind.i64 r0.1.2.2.2.2.2.2.2.2.2.2.2.2)]]))<|
 (qo4 (out+(List.length [[(C.int Go.IntKind.i64 r0.1.1),(C.int Go.IntKind.i64 r0.1.2.1),(C.sl (EC.encL q5k r0.1.2.2.1)),(C.str r0.1.2.2.2.1),(C.int Go.IntKind.i64 r0.1.2.2.2.2.1),(C.str r0.1.2.2.2.2.2.1),(C.int Go.IntKind.i64 r0.1.2.2.2.2.2.2.1),(C.sl (EC.encL q5l r0.1.2.2.2.2.2.2.2.1)),(C.sl (EC.encL q5l r0.1.2.2.2.2.2.2.2.2.1)),(C.int Go.IntKind.i64 r0.1.2.2.2.2.2.2.2.2.2.1),(C.str r0.1.2.2.2.2.2.2.2.2.2.2.1),(C.str r0.1.2.2.2.2.2.2.2.2.2.2.2.1),(C.int Go.IntKind.i64 r0.1.2.2.2.2.2.2.2.2.2.2.2.2)]])) r0.2.2.1 r0.2.2.2.1 r0.2.2.2.2.1 r0.2.2.2.2.2.1 r0.2.2.2.2.2.2.1 r0.2.2.2.2.2.2.2.1 r0.2.2.2.2.2.2.2.2.1 r0.2.2.2.2.2.2.2.2.2.1 r0.2.2.2.2.2.2.2.2.2.2 (EC.decL q5l ((EC.encL q5l b1)++[[(C.int Go.IntKind.i64 r0.1.1),(C.int Go.IntKind.i64 r0.1.2.1),(C.sl (EC.encL q5k r0.1.2.2.1)),(C.str r0.1.2.2.2.1),(C.int Go.IntKind.i64 r0.1.2.2.2.2.1),(C.str r0.1.2.2.2.2.2.1),(C.int Go.IntKind.i64 r0.1.2.2.2.2.2.2.1),(C.sl (EC.encL q5l r0.1.2.2.2.2.2.2.2.1)),(C.sl (EC.encL q5l r0.1.2.2.2.2.2.2.2.2.1)),(C.int Go.IntKind.i64 r0.1.2.2.2.2.2.2.2.2.2.1),(C.str r0.1.2.2.2.2.2.2.2.2.2.2.1),(C.str r0.1.2.2.2.2.2.2.2.2.2.2.2.1),(C.int Go.IntKind.i64 r0.1.2.2.2.2.2.2.2.2.2.2.2.2)]]))))))
 (gL q5l b1<|
 (some (((),(out,false)),((b0,(b0_1,(b0_2,(b0_3,(b0_4,(b0_5,(b0_6,(b0_7,b0_8)))))))),(dL q5l b1))))))
 ((qnu b0 b0_1 b0_2 b0_3 b0_4 b0_5 b0_6 b0_7 b0_8).bind fun r0 =>
 (gdE ((((aL [[(C.int Go.IntKind.i64 r0.1.1),(C.int Go.IntKind.i64 r0.1.2.1),(C.sl (EC.encL q5k r0.1.2.2.1)),(C.str r0.1.2.2.2.1),(C.int Go.IntKind.i64 r0.1.2.2.2.2.1),(C.str r0.1.2.2.2.2.2.1),(C.int Go.IntKind.i64 r0.1.2.2.2.2.2.2.1),(C.sl (EC.encL q5l r0.1.2.2.2.2.2.2.2.1)),(C.sl (EC.encL q5l r0.1.2.2.2.2.2.2.2.2.1)),(C.int Go.IntKind.i64 r0.1.2.2.2.2.2.2.2.2.2.1),(C.str r0.1.2.2.2.2.2.2.2.2.2.2.1),(C.str r0.1.2.2.2.2.2.2.2.2.2.2.2.1),(C.int Go.IntKind.i64 r0.1.2.2.2.2.2.2.2.2.2.2.2.2)]] 13)&&(aL (EC.encL q5l b1) 13))&&(dQ (out+(List.length [[(C.int Go.IntKind.i64 r0.1.1),(C.int Go.IntKind.i64 r0.1.2.1),(C.sl (EC.encL q5k r0.1.2.2.1)),(C.str r0.1.2.2.2.1),(C.int Go.IntKind.i64 r0.1.2.2.2.2.1),(C.str r0.1.2.2.2.2.2.1),(C.int Go.IntKind.i64 r0.1.2.2.2.2.2.2.1),(C.sl (EC.encL q5l r0.1.2.2.2.2.2.2.2.1)),(C.sl (EC.encL q5l r0.1.2.2.2.2.2.2.2.2.1)),(C.int Go.IntKind.i64 r0.1.2.2.2.2.2.2.2.2.2.1),(C.str r0.1.2.2.2.2.2.2.2.2.2.2.1),(C.str r0.1.2.2.2.2.2.2.2.2.2.2.2.1),(C.int Go.IntKind.i64 r0.1.2.2.2.2.2.2.2.2.2.2.2.2)]])) 184))&&(decide ((out+(List.length [[(C.int Go.IntKind.i64 r0.1.1),(C.int Go.IntKind.i64 r0.1.2.1),(C.sl (EC.encL q5k r0.1.2.2.1)),(C.str r0.1.2.2.2.1),(C.int Go.IntKind.i64 r0.1.2.2.2.2.1),(C.str r0.1.2.2.2.2.2.1),(C.int Go.IntKind.i64 r0.1.2.2.2.2.2.2.1),(C.sl (EC.encL q5l r0.1.2.2.2.2.2.2.2.1)),(C.sl (EC.encL q5l r0.1.2.2.2.2.2.2.2.2.1)),(C.int Go.IntKind.i64 r0.1.2.2.2.2.2.2.2.2.2.1),(C.str r0.1.2.2.2.2.2.2.2.2.2.2.1),(C.str r0.1.2.2.2.2.2.2.2.2.2.2.2.1),(C.int Go.IntKind.i64 r0.1.2.2.2.2.2.2.2.2.2.2.2.2)]]))≤9223372036854775807)))<|
 (gdE (EC.isL q5l ((EC.encL q5l b1)++[[(C.int Go.IntKind.i64 r0.1.1),(C.int Go.IntKind.i64 r0.1.2.1),(C.sl (EC.encL q5k r0.1.2.2.1)),(C.str r0.1.2.2.2.1),(C.int Go.IntKind.i64 r0.1.2.2.2.2.1),(C.str r0.1.2.2.2.2.2.1),(C.int Go.IntKind.i64 r0.1.2.2.2.2.2.2.1),(C.sl (EC.encL q5l r0.1.2.2.2.2.2.2.2.1)),(C.sl (EC.encL q5l r0.1.2.2.2.2.2.2.2.2.1)),(C.int Go.IntKind.i64 r0.1.2.2.2.2.2.2.2.2.2.1),(C.str r0.1.2.2.2.2.2.2.2.2.2.2.1),(C.str r0.1.2.2.2.2.2.2.2.2.2.2.2.1),(C.int Go.IntKind.i64 r0.1.2.2.2.2.2.2.2.2.2.2.2.2)]]))<|
 (qo4 (out+(List.length [[(C.int Go.IntKind.i64 r0.1.1),(C.int Go.IntKind.i64 r0.1.2.1),(C.sl (EC.encL q5k r0.1.2.2.1)),(C.str r0.1.2.2.2.1),(C.int Go.IntKind.i64 r0.1.2.2.2.2.1),(C.str r0.1.2.2.2.2.2.1),(C.int Go.IntKind.i64 r0.1.2.2.2.2.2.2.1),(C.sl (EC.encL q5l r0.1.2.2.2.2.2.2.2.1)),(C.sl (EC.encL q5l r0.1.2.2.2.2.2.2.2.2.1)),(C.int Go.IntKind.i64 r0.1.2.2.2.2.2.2.2.2.2.1),(C.str r0.1.2.2.2.2.2.2.2.2.2.2.1),(C.str r0.1.2.2.2.2.2.2.2.2.2.2.2.1),(C.int Go.IntKind.i64 r0.1.2.2.2.2.2.2.2.2.2.2.2.2)]])) r0.2.2.1 r0.2.2.2.1 r0.2.2.2.2.1 r0.2.2.2.2.2.1 r0.2.2.2.2.2.2.1 r0.2.2.2.2.2.2.2.1 r0.2.2.2.2.2.2.2.2.1 r0.2.2.2.2.2.2.2.2.2.1 r0.2.2.2.2.2.2.2.2.2.2 (EC.decL q5l ((EC.encL q5l b1)++[[(C.int Go.IntKind.i64 r0.1.1),(C.int Go.IntKind.i64 r0.1.2.1),(C.sl (EC.encL q5k r0.1.2.2.1)),(C.str r0.1.2.2.2.1),(C.int Go.IntKind.i64 r0.1.2.2.2.2.1),(C.str r0.1.2.2.2.2.2.1),(C.int Go.IntKind.i64 r0.1.2.2.2.2.2.2.1),(C.sl (EC.encL q5l r0.1.2.2.2.2.2.2.2.1)),(C.sl (EC.encL q5l r0.1.2.2.2.2.2.2.2.2.1)),(C.int Go.IntKind.i64 r0.1.2.2.2.2.2.2.2.2.2.1),(C.str r0.1.2.2.2.2.2.2.2.2.2.2.1),(C.str r0.1.2.2.2.2.2.2.2.2.2.2.2.1),(C.int Go.IntKind.i64 r0.1.2.2.2.2.2.2.2.2.2.2.2.2)]])))))))
 (gL q5l b1<|
 (some (((),(out,false)),((b0,(b0_1,(b0_2,(b0_3,(b0_4,(b0_5,(b0_6,(b0_7,b0_8)))))))),(dL q5l b1))))))
 (gL q5l b1<|
 (some (((),(out,false)),((b0,(b0_1,(b0_2,(b0_3,(b0_4,(b0_5,(b0_6,(b0_7,b0_8)))))))),(dL q5l b1))))))
theorem qo6 {out b0 b0_1 b0_2 b0_3 b0_4 b0_5 b0_6 b0_7 b0_8 b1 r} (h:qoa out b0 b0_1 b0_2 b0_3 b0_4 b0_5 b0_6 b0_7 b0_8 b1=some r):qo4 out b0 b0_1 b0_2 b0_3 b0_4 b0_5 b0_6 b0_7 b0_8 b1=some r :=
 qal (es:=qtn) (hs:=q93) [] (by kernel_rfl) trivial trivial (by kernel_rfl) h
def qo5:=qb9 Tryz.prog lv X0 2 (q8l (cdF Tryz.f20) 2) qo9 qo7 (fun x=>qo4 x.1.2 x.2.1.1 x.2.1.2.1 x.2.1.2.2.1 x.2.1.2.2.2.1 x.2.1.2.2.2.2.1 x.2.1.2.2.2.2.2.1 x.2.1.2.2.2.2.2.2.1 x.2.1.2.2.2.2.2.2.2.1 x.2.1.2.2.2.2.2.2.2.2 x.2.2) (fun _ _ h=>qak h)
def qoe (b0:BA) (b0_1 b0_2 b0_3:Int) (b0_4:BA) (b0_5:Bool) (b0_6 b0_7 b0_8:Int):Oq (L59×(L59×(BA×Int×Int×Int×BA×Bool×Int×Int×Int))) :=
 ((qo4 0 b0 b0_1 b0_2 b0_3 b0_4 b0_5 b0_6 b0_7 b0_8 (EC.decL q5l [])).bind fun r0 =>
 (gL q5l r0.2.2<|
 (gL q5l r0.2.2<|
 (some ((dL q5l r0.2.2),((dL q5l r0.2.2),(r0.2.1.1,(r0.2.1.2.1,(r0.2.1.2.2.1,(r0.2.1.2.2.2.1,(r0.2.1.2.2.2.2.1,(r0.2.1.2.2.2.2.2.1,(r0.2.1.2.2.2.2.2.2.1,(r0.2.1.2.2.2.2.2.2.2.1,r0.2.1.2.2.2.2.2.2.2.2))))))))))))))
theorem qo3 {b0 b0_1 b0_2 b0_3 b0_4 b0_5 b0_6 b0_7 b0_8 r} (h:qoe b0 b0_1 b0_2 b0_3 b0_4 b0_5 b0_6 b0_7 b0_8=some r):qo1 b0 b0_1 b0_2 b0_3 b0_4 b0_5 b0_6 b0_7 b0_8=some r :=
 q8q (fn:=Tryz.f20) (es:=qtn) (hs:=q93) [qo5] (by kernel_rfl) rfl (by kernel_rfl) (by kernel_rfl) ⟨⟨_,rfl,rfl⟩,trivial⟩ trivial (by kernel_rfl) h
def qh2:Cod (V×List B) ((List S59)×(Int×Int)):=(cFstU (cPair (vTup (qah (vC (cSl q5l)) (qaj (vAgg (qah z1f (qaj z1f)))))) qai))
def qh5 (s:BA):=fS Tryz.prog lv X0 8 qh1 qh2 s
def qh6 (s:BA):Oq (L59×(Int×Int)) :=
 (brE (decide ((s.size:Int)>4000))
 ((q32 1 (-1)).bind fun r0 =>
 (some ((EC.decL q5l []),(r0.1,r0.2))))
 ((ql2 s 0 0 0 ⟨#[]⟩ false 0 1 0).bind fun r0 =>
 ((qo1 r0.2.2.1 r0.2.2.2.1 r0.2.2.2.2.1 r0.2.2.2.2.2.1 r0.2.2.2.2.2.2.1 r0.2.2.2.2.2.2.2.1 r0.2.2.2.2.2.2.2.2.1 r0.2.2.2.2.2.2.2.2.2.1 r0.2.2.2.2.2.2.2.2.2.2).bind fun r1 =>
 (brE (r1.2.2.2.2.2.2.2.1==false)
 (brE (r1.2.2.2.2.1 != 0)
 ((q32 11 r1.2.2.2.2.2.1).bind fun r2 =>
 (some ((EC.decL q5l []),(r2.1,r2.2))))
 (gL q5l r1.1<|
 ((qi4 (dL q5l r1.1)).bind fun r2 =>
 ((q2w r2.1 r2.2).bind fun r3 =>
 (brE r3
 ((q32 r2.1 (-2)).bind fun r4 =>
 (some ((EC.decL q5l []),(r4.1,r4.2))))
 (Option.bind q38 fun r4 =>
 (gL q5l r1.1<|
 (some ((dL q5l r1.1),(r4.1,r4.2))))))))))
 ((q32 11 r1.2.2.2.2.2.1).bind fun r2 =>
 (some ((EC.decL q5l []),(r2.1,r2.2))))))))
theorem qh4 {s r} (h:qh6 s=some r):qh5 s=some r :=
 q6x (es:=qtn) (hs:=q93) [] Tryz.func8 rfl (by kernel_rfl) rfl (by kernel_rfl) (by kernel_rfl) trivial trivial (by kernel_rfl) h
def qh3:=entS Tryz.prog lv X0 8 [] qh1 qh2 (fun x=>qh5 x) (fun _ _ h=>q6w h)
def qtk:=qh3::qtn
end
end Go.Proofs.YtognhcibcocbkaaGreatDoor
