/- Functions of the program as plain functions: made by program from the machine. -/
import Derived.Test.YtognhcibcocbkaaGreatDoorH1
namespace Go.Proofs.YtognhcibcocbkaaGreatDoor
open Go.RowKit
set_option maxRecDepth 100000
noncomputable section
def qub:=(qb9 (vC (cInt .u8)))
def quc:Cod (V×List B) Bool:=(cFstU (cPair (vC cBool) qb8))
def quf (c:Int):=fS Tryz.prog lv X0 37 qub quc c
def qug (c:Int):Oq Bool :=
 (brE ((decide (c≥97))==true)
 (some (decide (c≤122)))
 (some false))
theorem que {c r} (h:qug c=some r):quf c=some r :=
 q75 (es:=q14e) (hs:=q9e) [] Tryz.func37 rfl (by kernel_rfl) rfl (by kernel_rfl) (by kernel_rfl) trivial trivial (by kernel_rfl) h
def qud:=entS Tryz.prog lv X0 37 [] qub quc (fun x=>quf x) (fun _ _ h=>q74 h)
def q14j:=qud::q14e
def quh:=(qb9 (vC (cInt .u8)))
def qui:Cod (V×List B) Bool:=(cFstU (cPair (vC cBool) qb8))
def qul (c:Int):=fS Tryz.prog lv X0 38 quh qui c
def qum (c:Int):Oq Bool :=
 (brE ((decide (c≥48))==true)
 (some (decide (c≤57)))
 (some false))
theorem quk {c r} (h:qum c=some r):qul c=some r :=
 q75 (es:=q14j) (hs:=q9e) [] Tryz.func38 rfl (by kernel_rfl) rfl (by kernel_rfl) (by kernel_rfl) trivial trivial (by kernel_rfl) h
def quj:=entS Tryz.prog lv X0 38 [] quh qui (fun x=>qul x) (fun _ _ h=>q74 h)
def q14k:=quj::q14j
def qtk:Cod (List V) Unit:=qb8
abbrev z1u:=(vAgg (qb7 (vC cStr) (qb7 (vC cStr) (qb9 (vC cStr)))))
def qtl:Cod (V×List B) (ByteArray×ByteArray×ByteArray):=(cFstU (cPair z1u qb8))
def qto :=fS Tryz.prog lv X0 94 qtk qtl ()
def qtp :Oq (BA×BA×BA) :=
 (some ((ByteArray.mk (List.toArray [(105:UInt8),(115:UInt8)])),((ByteArray.mk (List.toArray [(99:UInt8),(111:UInt8),(110:UInt8),(116:UInt8),(97:UInt8),(105:UInt8),(110:UInt8),(115:UInt8)])),(ByteArray.mk (List.toArray [(108:UInt8),(105:UInt8),(107:UInt8),(101:UInt8)])))))
theorem qtn {r} (h:qtp =some r):qto =some r :=
 q75 (es:=q14k) (hs:=q9e) [] Tryz.func94 rfl (by kernel_rfl) rfl (by kernel_rfl) (by kernel_rfl) trivial trivial (by kernel_rfl) h
def qtm:=entS Tryz.prog lv X0 94 [] qtk qtl (fun x=>qto ) (fun _ _ h=>q74 h)
def q14h:=qtm::q14k
def qt8:Cod (List V) Unit:=qb8
abbrev z1r:=(vAgg (qb7 (vC cStr) (qb7 (vC cStr) (qb7 (vC cStr) (qb7 (vC cStr) (qb7 (vC cStr) (qb7 (vC cStr) (qb9 (vC cStr)))))))))
def qt9:Cod (V×List B) (ByteArray×ByteArray×ByteArray×ByteArray×ByteArray×ByteArray×ByteArray):=(cFstU (cPair z1r qb8))
def qtc :=fS Tryz.prog lv X0 64 qt8 qt9 ()
def qtd :Oq (BA×BA×BA×BA×BA×BA×BA) :=
 (some ((ByteArray.mk (List.toArray [(107:UInt8),(101:UInt8),(101:UInt8),(112:UInt8)])),((ByteArray.mk (List.toArray [(102:UInt8),(105:UInt8),(108:UInt8),(101:UInt8)])),((ByteArray.mk (List.toArray [(100:UInt8),(105:UInt8),(115:UInt8),(99:UInt8),(97:UInt8),(114:UInt8),(100:UInt8)])),((ByteArray.mk (List.toArray [(114:UInt8),(101:UInt8),(100:UInt8),(105:UInt8),(114:UInt8),(101:UInt8),(99:UInt8),(116:UInt8)])),((ByteArray.mk (List.toArray [(114:UInt8),(101:UInt8),(106:UInt8),(101:UInt8),(99:UInt8),(116:UInt8)])),((ByteArray.mk (List.toArray [(102:UInt8),(108:UInt8),(97:UInt8),(103:UInt8)])),(ByteArray.mk (List.toArray [(114:UInt8),(101:UInt8),(112:UInt8),(108:UInt8),(121:UInt8)])))))))))
theorem qtb {r} (h:qtd =some r):qtc =some r :=
 q75 (es:=q14h) (hs:=q9e) [] Tryz.func64 rfl (by kernel_rfl) rfl (by kernel_rfl) (by kernel_rfl) trivial trivial (by kernel_rfl) h
def qta:=entS Tryz.prog lv X0 64 [] qt8 qt9 (fun x=>qtc ) (fun _ _ h=>q74 h)
def q14f:=qta::q14h
def q5r:EC Int where
 enc x:=[.int .u8 x]
 dec c:=qa0 (c.getD 0 .ne)
 is c:=isE [.int .u8] 0 c
 enc_dec h:=q57 h
 dec_enc x:=by rfl
 is_enc x:=by simp [isE,isK]
theorem enc_5 (x:Int):q5r.enc x=[.int .u8 x]:=rfl
theorem lit_5 (a0:Int):([.int .u8 a0]:List C)=q5r.enc a0:=rfl
theorem q1z (xs:List Int) (a0:Int):q5r.encL xs++[[.int .u8 a0]]=q5r.encL (xs++[a0]):=by rw [lit_5];simp [EC.encL]
theorem q1j (xs:List Int):(q5r.encL xs).all (fun (el:List C)=>el.length==1)=true:=by induction xs with|nil=>rfl|cons x xs ih=>first|(simp [EC.encL,enc_5];done)|simpa [EC.encL,enc_5] using ih
def qs9:=(qb9 (vC cStr))
abbrev z1n:=(qdm (bBox (qb7 (vC cStr) (qb7 (vC (cInt .i64)) (qb7 (vC (cInt .i64)) (qb7 (vC (cInt .i64)) (qb7 (vC cStr) (qb7 (vC cBool) (qb7 (vC (cInt .i64)) (qb7 (vC (cInt .i64)) (qb9 (vC (cInt .i64)))))))))))))
abbrev z1t:=(qb9 (vPtr 0 0))
def qv7:=sLS [0] z1t (qb9 z1n) [false] [0] (by decide) (fun _=>rfl)
def quw:=sLS [0] z1t (qb9 z1n) [false] [0] (by decide) (fun _=>rfl)
abbrev z1v:=(qb9 (vC cBool))
def quv:=sLS [0,29] (qb7 (vPtr 0 0) z1v) (qb9 z1n) [false] [0] (by decide) (fun _=>rfl)
def quu:=oAt 2 quv
def qur (b0:BA) (b0_1 b0_2 b0_3:Int) (b0_4:BA) (b0_5:Bool) (b0_6 b0_7 b0_8:Int):=lS Tryz.prog lv X0 19 143 (q8x (cdF Tryz.f19) 0) quw quu ((),(b0,b0_1,b0_2,b0_3,b0_4,b0_5,b0_6,b0_7,b0_8))
def qux (b0:BA) (b0_1 b0_2 b0_3:Int) (b0_4:BA) (b0_5:Bool) (b0_6 b0_7 b0_8:Int):Oq ((Unit×Bool)×(BA×Int×Int×Int×BA×Bool×Int×Int×Int)) :=
 (brE ((decide (b0_1<(b0.size:Int)))==true)
 (gdE ((p0 b0_1)&&(decide ((Int.toNat b0_1)<b0.size)))<|
 (brE (decide ((Go.Lib.indexByte (Array.toList (List.toArray [(32:UInt8),(9:UInt8),(13:UInt8),(10:UInt8)])) (Nat.toUInt8 (Int.toNat (((UInt8.toNat (Array.getD b0.data (Int.toNat b0_1) (0:UInt8))):Nat):Int))))≥0))
 (qur b0 (wI b0_1) b0_2 b0_3 b0_4 b0_5 b0_6 b0_7 b0_8)
 (some (((),false),(b0,(b0_1,(b0_2,(b0_3,(b0_4,(b0_5,(b0_6,(b0_7,b0_8))))))))))))
 (some (((),false),(b0,(b0_1,(b0_2,(b0_3,(b0_4,(b0_5,(b0_6,(b0_7,b0_8)))))))))))
theorem qut {b0 b0_1 b0_2 b0_3 b0_4 b0_5 b0_6 b0_7 b0_8 r} (h:qux b0 b0_1 b0_2 b0_3 b0_4 b0_5 b0_6 b0_7 b0_8=some r):qur b0 b0_1 b0_2 b0_3 b0_4 b0_5 b0_6 b0_7 b0_8=some r :=
 qbb (es:=q14f) (hs:=q9e) [] (by kernel_rfl) trivial trivial (by kernel_rfl) h
def qus:=qby Tryz.prog lv X0 0 (q8x (cdF Tryz.f19) 0) quw quu (fun x=>qur x.2.1 x.2.2.1 x.2.2.2.1 x.2.2.2.2.1 x.2.2.2.2.2.1 x.2.2.2.2.2.2.1 x.2.2.2.2.2.2.2.1 x.2.2.2.2.2.2.2.2.1 x.2.2.2.2.2.2.2.2.2) (fun _ _ h=>qba h)
def qxe:=sLS [0] z1t (qb9 z1n) [false] [0] (by decide) (fun _=>rfl)
abbrev z1o:=(vC (cInt .i64))
abbrev z1s:=(qdm (bBox (qb7 z1o (qb7 z1o (qb9 (vC cStr))))))
def qxa:=sLS [0,2,3,4,5] (qb7 (vPtr 0 0) (qb7 (vPtr 1 0) (qb7 (vPtr 2 0) (qb7 (vRow 3) (qb9 z1o))))) (qb7 z1n (qb7 z1s (qb7 z1s (qb9 (qdm (bRow q5r)))))) [false,false,false,false] [0] (by decide) (fun _=>rfl)
def qx9:=sLS [0,2,3,4,5,23] (qb7 (vPtr 0 0) (qb7 (vPtr 1 0) (qb7 (vPtr 2 0) (qb7 (vRow 3) (qb7 z1o z1v))))) (qb7 z1n (qb7 z1s (qb7 z1s (qb9 (qdm (bRow q5r)))))) [false,false,false,false] [0] (by decide) (fun _=>rfl)
def qx8:=sLS [2] z1t (qb7 z1s (qb9 z1n)) [false,false] [1] (by decide) (fun _=>rfl)
def qx7:=oOr 1 qx8 (oAt 2 qx9) (fun x=>(by decide:(2:Nat)≠1))
def qx4 (out:Nat) (i:Int) (b0:BA) (b0_1 b0_2 b0_3:Int) (b0_4:BA) (b0_5:Bool) (b0_6 b0_7:Int) (b0_8 b1 b1_1:Int) (b1_2:BA) (b2 b2_1:Int) (b2_2:BA) (b3:(List Int)):=lS Tryz.prog lv X0 39 90 (q8x (cdF Tryz.f39) 4) qxa qx7 (((),(),(),out,i),((b0,b0_1,b0_2,b0_3,b0_4,b0_5,b0_6,b0_7,b0_8),(b1,b1_1,b1_2),(b2,b2_1,b2_2),b3))
abbrev zq (i:Int) (b0:BA):=(C.int Go.IntKind.u8 (((UInt8.toNat (Array.getD b0.data (Int.toNat (wI i)) (0:UInt8))):Nat):Int))
abbrev zr (i:Int) (b0:BA):=(((UInt8.toNat (Array.getD b0.data (Int.toNat i) (0:UInt8))):Nat):Int)
abbrev zt (i:Int) (b0:BA):=((p0 (wI i))&&(decide ((Int.toNat (wI i))<b0.size)))
def qxb (out:Nat) (i:Int) (b0:BA) (b0_1 b0_2 b0_3:Int) (b0_4:BA) (b0_5:Bool) (b0_6 b0_7:Int) (b0_8 b1 b1_1:Int) (b1_2:BA) (b2 b2_1:Int) (b2_2:BA) (b3:(List Int)):Oq ((Unit×((Int×Int×BA)×(BA×Int×Int×Int×BA×Bool×Int×Int×Int)))⊕((Unit×Unit×Unit×Nat×Int×Bool)×((BA×Int×Int×Int×BA×Bool×Int×Int×Int)×(Int×Int×BA)×(Int×Int×BA)×(List Int)))) :=
 (brE (decide (i<(b0.size:Int)))
 (gdE ((p0 i)&&(decide ((Int.toNat i)<b0.size)))<|
 (brE ((zr i b0)==34)
 ((bytesOf (EC.encL q5r b3)).bind fun r0 =>
 (some (.inl ((),((b2,(b2_1,(ByteArray.mk (List.toArray r0)))),(b0,((wI i),(b0_2,(b0_3,(b0_4,(b0_5,(b0_6,(b0_7,b0_8)))))))))))))
 (brE ((zr i b0)==92)
 (brE (((wI i)==(b0.size:Int))==false)
 (gdE (zt i b0)<|
 (brE (((((UInt8.toNat (Array.getD b0.data (Int.toNat (wI i)) (0:UInt8))):Nat):Int) != 34)==true)
 (gdE (zt i b0)<|
 (brE ((((UInt8.toNat (Array.getD b0.data (Int.toNat (wI i)) (0:UInt8))):Nat):Int) != 92)
 (some (.inl ((),((5,(b2_1,b2_2)),(b0,(b0_1,(b0_2,(b0_3,(b0_4,(b0_5,(b0_6,(b0_7,b0_8))))))))))))
 (gdE (zt i b0)<|
 (gdE ((((aL [[(zq i b0)]] 1)&&(aL (EC.encL q5r b3) 1))&&(dQ (out+(List.length [[(zq i b0)]])) 1))&&(decide ((out+(List.length [[(zq i b0)]]))≤9223372036854775807)))<|
 (gdE (EC.isL q5r ((EC.encL q5r b3)++[[(zq i b0)]]))<|
 (qx4 (out+(List.length [[(zq i b0)]])) (wI (wI i)) b0 b0_1 b0_2 b0_3 b0_4 b0_5 b0_6 b0_7 b0_8 b1 b1_1 b1_2 b2 b2_1 b2_2 (EC.decL q5r ((EC.encL q5r b3)++[[(zq i b0)]]))))))))
 (gdE (zt i b0)<|
 (gdE ((((aL [[(zq i b0)]] 1)&&(aL (EC.encL q5r b3) 1))&&(dQ (out+(List.length [[(zq i b0)]])) 1))&&(decide ((out+(List.length [[(zq i b0)]]))≤9223372036854775807)))<|
 (gdE (EC.isL q5r ((EC.encL q5r b3)++[[(zq i b0)]]))<|
 (qx4 (out+(List.length [[(zq i b0)]])) (wI (wI i)) b0 b0_1 b0_2 b0_3 b0_4 b0_5 b0_6 b0_7 b0_8 b1 b1_1 b1_2 b2 b2_1 b2_2 (EC.decL q5r ((EC.encL q5r b3)++[[(zq i b0)]]))))))))
 (some (.inl ((),((5,(b2_1,b2_2)),(b0,(b0_1,(b0_2,(b0_3,(b0_4,(b0_5,(b0_6,(b0_7,b0_8)))))))))))))
 (gdE ((((aL [[(C.int Go.IntKind.u8 (zr i b0))]] 1)&&(aL (EC.encL q5r b3) 1))&&(dQ (out+(List.length [[(C.int Go.IntKind.u8 (zr i b0))]])) 1))&&(decide ((out+(List.length [[(C.int Go.IntKind.u8 (zr i b0))]]))≤9223372036854775807)))<|
 (gdE (EC.isL q5r ((EC.encL q5r b3)++[[(C.int Go.IntKind.u8 (zr i b0))]]))<|
 (qx4 (out+(List.length [[(C.int Go.IntKind.u8 (zr i b0))]])) (wI i) b0 b0_1 b0_2 b0_3 b0_4 b0_5 b0_6 b0_7 b0_8 b1 b1_1 b1_2 b2 b2_1 b2_2 (EC.decL q5r ((EC.encL q5r b3)++[[(C.int Go.IntKind.u8 (zr i b0))]]))))))))
 (gL q5r b3<|
 (some (.inr (((),((),((),(out,(i,false))))),((b0,(b0_1,(b0_2,(b0_3,(b0_4,(b0_5,(b0_6,(b0_7,b0_8)))))))),((b1,(b1_1,b1_2)),((b2,(b2_1,b2_2)),(dL q5r b3)))))))))
theorem qx6 {out i b0 b0_1 b0_2 b0_3 b0_4 b0_5 b0_6 b0_7 b0_8 b1 b1_1 b1_2 b2 b2_1 b2_2 b3 r} (h:qxb out i b0 b0_1 b0_2 b0_3 b0_4 b0_5 b0_6 b0_7 b0_8 b1 b1_1 b1_2 b2 b2_1 b2_2 b3=some r):qx4 out i b0 b0_1 b0_2 b0_3 b0_4 b0_5 b0_6 b0_7 b0_8 b1 b1_1 b1_2 b2 b2_1 b2_2 b3=some r :=
 qbb (es:=q14f) (hs:=q9e) [] (by kernel_rfl) trivial trivial (by kernel_rfl) h
def qx5:=qby Tryz.prog lv X0 4 (q8x (cdF Tryz.f39) 4) qxa qx7 (fun x=>qx4 x.1.2.2.2.1 x.1.2.2.2.2 x.2.1.1 x.2.1.2.1 x.2.1.2.2.1 x.2.1.2.2.2.1 x.2.1.2.2.2.2.1 x.2.1.2.2.2.2.2.1 x.2.1.2.2.2.2.2.2.1 x.2.1.2.2.2.2.2.2.2.1 x.2.1.2.2.2.2.2.2.2.2 x.2.2.1.1 x.2.2.1.2.1 x.2.2.1.2.2 x.2.2.2.1.1 x.2.2.2.1.2.1 x.2.2.2.1.2.2 x.2.2.2.2) (fun _ _ h=>qba h)
def qxd:SC ((Int×Int×ByteArray)×(ByteArray×Int×Int×Int×ByteArray×Bool×Int×Int×Int)):=sLS [0] (qb9 (vAgg (qb7 (vC (cInt .i64)) (qb7 (vC (cInt .i64)) (qb9 (vC cStr)))))) (qb9 (qdm (bBox (qb7 (vC cStr) (qb7 (vC (cInt .i64)) (qb7 (vC (cInt .i64)) (qb7 (vC (cInt .i64)) (qb7 (vC cStr) (qb7 (vC cBool) (qb7 (vC (cInt .i64)) (qb7 (vC (cInt .i64)) (qb9 (vC (cInt .i64)))))))))))))) [false] [0] (by decide) (fun _=>rfl)
def qxc:HC ((Int×Int×ByteArray)×((Int×Int×ByteArray)×(ByteArray×Int×Int×Int×ByteArray×Bool×Int×Int×Int))):=hPair (vAgg (qb7 (vC (cInt .i64)) (qb7 (vC (cInt .i64)) (qb9 (vC cStr))))) qxd
def qx1 (b0:BA) (b0_1 b0_2 b0_3:Int) (b0_4:BA) (b0_5:Bool) (b0_6 b0_7 b0_8:Int):=hS Tryz.prog lv X0 39 qxe qxc ((),(b0,b0_1,b0_2,b0_3,b0_4,b0_5,b0_6,b0_7,b0_8))
def qxf (b0:BA) (b0_1 b0_2 b0_3:Int) (b0_4:BA) (b0_5:Bool) (b0_6 b0_7 b0_8:Int):Oq ((Int×Int×BA)×((Int×Int×BA)×(BA×Int×Int×Int×BA×Bool×Int×Int×Int))) :=
 ((qx4 0 (wI b0_1) b0 b0_1 b0_2 b0_3 b0_4 b0_5 b0_6 b0_7 b0_8 0 0 ⟨#[]⟩ 1 b0_1 ⟨#[]⟩ (EC.decL q5r [])).bind fun r0 =>
 (Sum.elim (fun r1=>(some ((r1.2.1.1,(r1.2.1.2.1,r1.2.1.2.2)),((r1.2.1.1,(r1.2.1.2.1,r1.2.1.2.2)),(r1.2.2.1,(r1.2.2.2.1,(r1.2.2.2.2.1,(r1.2.2.2.2.2.1,(r1.2.2.2.2.2.2.1,(r1.2.2.2.2.2.2.2.1,(r1.2.2.2.2.2.2.2.2.1,(r1.2.2.2.2.2.2.2.2.2.1,r1.2.2.2.2.2.2.2.2.2.2))))))))))))
 (fun r1=>(some ((5,(r1.2.2.2.1.2.1,r1.2.2.2.1.2.2)),((5,(r1.2.2.2.1.2.1,r1.2.2.2.1.2.2)),(r1.2.1.1,(r1.2.1.2.1,(r1.2.1.2.2.1,(r1.2.1.2.2.2.1,(r1.2.1.2.2.2.2.1,(r1.2.1.2.2.2.2.2.1,(r1.2.1.2.2.2.2.2.2.1,(r1.2.1.2.2.2.2.2.2.2.1,r1.2.1.2.2.2.2.2.2.2.2)))))))))))) r0))
theorem qx3 {b0 b0_1 b0_2 b0_3 b0_4 b0_5 b0_6 b0_7 b0_8 r} (h:qxf b0 b0_1 b0_2 b0_3 b0_4 b0_5 b0_6 b0_7 b0_8=some r):qx1 b0 b0_1 b0_2 b0_3 b0_4 b0_5 b0_6 b0_7 b0_8=some r :=
 q92 (fn:=Tryz.f39) (es:=q14f) (hs:=q9e) [qx5] (by kernel_rfl) rfl (by kernel_rfl) (by kernel_rfl) ⟨⟨_,rfl,rfl⟩,trivial⟩ trivial (by kernel_rfl) h
def qx2:=hentS Tryz.prog lv X0 39 [0,3,0,0,1,9,1,3,1,1,1,1,1,1,1,3,1,2,1,1,1,1,1,1,0] qxe qxc (fun x=>qx1 x.2.1 x.2.2.1 x.2.2.2.1 x.2.2.2.2.1 x.2.2.2.2.2.1 x.2.2.2.2.2.2.1 x.2.2.2.2.2.2.2.1 x.2.2.2.2.2.2.2.2.1 x.2.2.2.2.2.2.2.2.2) (fun _ _ h=>q91 h)
def q9o:=qx2::q9e
def qv3:=sLS [0,2,3,5,6] (qb7 (vPtr 0 0) (qb7 (vFn 37 qb8) (qb7 (vFn 38 qb8) (qb7 z1o (qb9 z1o))))) (qb9 z1n) [false] [0] (by decide) (fun _=>rfl)
def qv2:=sLS [0,2,3,5,6,117] (qb7 (vPtr 0 0) (qb7 (vFn 37 qb8) (qb7 (vFn 38 qb8) (qb7 z1o (qb7 z1o z1v))))) (qb9 z1n) [false] [0] (by decide) (fun _=>rfl)
def qv1:=oAt 4 qv2
def quy (n kind:Int) (b0:BA) (b0_1 b0_2 b0_3:Int) (b0_4:BA) (b0_5:Bool) (b0_6 b0_7 b0_8:Int):=lS Tryz.prog lv X0 19 143 (q8x (cdF Tryz.f19) 14) qv3 qv1 (((),(),(),n,kind),(b0,b0_1,b0_2,b0_3,b0_4,b0_5,b0_6,b0_7,b0_8))
def qv4 (n kind:Int) (b0:BA) (b0_1 b0_2 b0_3:Int) (b0_4:BA) (b0_5:Bool) (b0_6 b0_7 b0_8:Int):Oq ((Unit×Unit×Unit×Int×Int×Bool)×(BA×Int×Int×Int×BA×Bool×Int×Int×Int)) :=
 (brE ((decide (n<(b0.size:Int)))==true)
 (gdE ((p0 n)&&(decide ((Int.toNat n)<b0.size)))<|
 ((qul (((UInt8.toNat (Array.getD b0.data (Int.toNat n) (0:UInt8))):Nat):Int)).bind fun r0 =>
 (brE (r0==false)
 (brE ((kind==2)==true)
 (gdE ((p0 n)&&(decide ((Int.toNat n)<b0.size)))<|
 ((quf (((UInt8.toNat (Array.getD b0.data (Int.toNat n) (0:UInt8))):Nat):Int)).bind fun r1 =>
 (brE r1
 (quy (wI n) kind b0 b0_1 b0_2 b0_3 b0_4 b0_5 b0_6 b0_7 b0_8)
 (some (((),((),((),(n,(kind,false))))),(b0,(b0_1,(b0_2,(b0_3,(b0_4,(b0_5,(b0_6,(b0_7,b0_8)))))))))))))
 (some (((),((),((),(n,(kind,false))))),(b0,(b0_1,(b0_2,(b0_3,(b0_4,(b0_5,(b0_6,(b0_7,b0_8)))))))))))
 (quy (wI n) kind b0 b0_1 b0_2 b0_3 b0_4 b0_5 b0_6 b0_7 b0_8))))
 (some (((),((),((),(n,(kind,false))))),(b0,(b0_1,(b0_2,(b0_3,(b0_4,(b0_5,(b0_6,(b0_7,b0_8)))))))))))
theorem qv0 {n kind b0 b0_1 b0_2 b0_3 b0_4 b0_5 b0_6 b0_7 b0_8 r} (h:qv4 n kind b0 b0_1 b0_2 b0_3 b0_4 b0_5 b0_6 b0_7 b0_8=some r):quy n kind b0 b0_1 b0_2 b0_3 b0_4 b0_5 b0_6 b0_7 b0_8=some r :=
 qbb (es:=q14f) (hs:=q9o) [] (by kernel_rfl) trivial trivial (by kernel_rfl) h
def quz:=qby Tryz.prog lv X0 14 (q8x (cdF Tryz.f19) 14) qv3 qv1 (fun x=>quy x.1.2.2.2.1 x.1.2.2.2.2 x.2.1 x.2.2.1 x.2.2.2.1 x.2.2.2.2.1 x.2.2.2.2.2.1 x.2.2.2.2.2.2.1 x.2.2.2.2.2.2.2.1 x.2.2.2.2.2.2.2.2.1 x.2.2.2.2.2.2.2.2.2) (fun _ _ h=>qba h)
def qv6:SC (Unit×(ByteArray×Int×Int×Int×ByteArray×Bool×Int×Int×Int)):=sLS [] qb8 (qb9 (qdm (bBox (qb7 (vC cStr) (qb7 (vC (cInt .i64)) (qb7 (vC (cInt .i64)) (qb7 (vC (cInt .i64)) (qb7 (vC cStr) (qb7 (vC cBool) (qb7 (vC (cInt .i64)) (qb7 (vC (cInt .i64)) (qb9 (vC (cInt .i64)))))))))))))) [false] [0] (by decide) (fun _=>rfl)
def qv5:HC (Unit×(Unit×(ByteArray×Int×Int×Int×ByteArray×Bool×Int×Int×Int))):=hPair (vTup qb8) qv6
def qun (b0:BA) (b0_1 b0_2 b0_3:Int) (b0_4:BA) (b0_5:Bool) (b0_6 b0_7 b0_8:Int):=hS Tryz.prog lv X0 19 qv7 qv5 ((),(b0,b0_1,b0_2,b0_3,b0_4,b0_5,b0_6,b0_7,b0_8))
def qv8 (b0:BA) (b0_1 b0_2 b0_3:Int) (b0_4:BA) (b0_5:Bool) (b0_6 b0_7 b0_8:Int):Oq (Unit×(Unit×(BA×Int×Int×Int×BA×Bool×Int×Int×Int))) :=
 ((qur b0 b0_1 b0_2 b0_3 b0_4 b0_5 b0_6 b0_7 b0_8).bind fun r0 =>
 (brE (r0.2.2.1==((r0.2.1.size:Nat):Int))
 (some ((),((),(r0.2.1,(r0.2.2.1,(0,(r0.2.2.1,(⟨#[]⟩,(r0.2.2.2.2.2.2.1,(r0.2.2.2.2.2.2.2.1,(r0.2.2.2.2.2.2.2.2.1,r0.2.2.2.2.2.2.2.2.2)))))))))))
 (gdE ((p0 r0.2.2.1)&&(decide ((Int.toNat r0.2.2.1)<r0.2.1.size)))<|
 (brE ((((UInt8.toNat (Array.getD r0.2.1.data (Int.toNat r0.2.2.1) (0:UInt8))):Nat):Int)==34)
 ((qx1 r0.2.1 r0.2.2.1 r0.2.2.2.1 r0.2.2.2.2.1 r0.2.2.2.2.2.1 r0.2.2.2.2.2.2.1 r0.2.2.2.2.2.2.2.1 r0.2.2.2.2.2.2.2.2.1 r0.2.2.2.2.2.2.2.2.2).bind fun r1 =>
 (some ((),((),(r1.2.2.1,(r1.2.2.2.1,(r1.1.1,(r1.1.2.1,(r1.1.2.2,(r1.2.2.2.2.2.2.2.1,(r1.2.2.2.2.2.2.2.2.1,(r1.2.2.2.2.2.2.2.2.2.1,r1.2.2.2.2.2.2.2.2.2.2))))))))))))
 ((quf (((UInt8.toNat (Array.getD r0.2.1.data (Int.toNat r0.2.2.1) (0:UInt8))):Nat):Int)).bind fun r1 =>
 (brE (r1==false)
 ((qul (((UInt8.toNat (Array.getD r0.2.1.data (Int.toNat r0.2.2.1) (0:UInt8))):Nat):Int)).bind fun r2 =>
 (brE r2
 ((quf (((UInt8.toNat (Array.getD r0.2.1.data (Int.toNat r0.2.2.1) (0:UInt8))):Nat):Int)).bind fun r3 =>
 (brE r3
 ((quy (wI r0.2.2.1) 2 r0.2.1 r0.2.2.1 r0.2.2.2.1 r0.2.2.2.2.1 r0.2.2.2.2.2.1 r0.2.2.2.2.2.2.1 r0.2.2.2.2.2.2.2.1 r0.2.2.2.2.2.2.2.2.1 r0.2.2.2.2.2.2.2.2.2).bind fun r4 =>
 (gdE ((p0 r4.1.2.2.2.1)&&(decide (r4.1.2.2.2.1≤((r4.2.1.size:Nat):Int))))<|
 (gdE ((p0 r4.2.2.1)&&(decide (r4.2.2.1≤(((Int.toNat r4.1.2.2.2.1):Nat):Int))))<|
 (some ((),((),(r4.2.1,(r4.1.2.2.2.1,(r4.1.2.2.2.2.1,(r4.2.2.1,((ByteArray.extract r4.2.1 (Int.toNat r4.2.2.1) (Int.toNat r4.1.2.2.2.1)),(r4.2.2.2.2.2.2.1,(r4.2.2.2.2.2.2.2.1,(r4.2.2.2.2.2.2.2.2.1,r4.2.2.2.2.2.2.2.2.2))))))))))))))
 ((quy (wI r0.2.2.1) 3 r0.2.1 r0.2.2.1 r0.2.2.2.1 r0.2.2.2.2.1 r0.2.2.2.2.2.1 r0.2.2.2.2.2.2.1 r0.2.2.2.2.2.2.2.1 r0.2.2.2.2.2.2.2.2.1 r0.2.2.2.2.2.2.2.2.2).bind fun r4 =>
 (gdE ((p0 r4.1.2.2.2.1)&&(decide (r4.1.2.2.2.1≤((r4.2.1.size:Nat):Int))))<|
 (gdE ((p0 r4.2.2.1)&&(decide (r4.2.2.1≤(((Int.toNat r4.1.2.2.2.1):Nat):Int))))<|
 (some ((),((),(r4.2.1,(r4.1.2.2.2.1,(r4.1.2.2.2.2.1,(r4.2.2.1,((ByteArray.extract r4.2.1 (Int.toNat r4.2.2.1) (Int.toNat r4.1.2.2.2.1)),(r4.2.2.2.2.2.2.1,(r4.2.2.2.2.2.2.2.1,(r4.2.2.2.2.2.2.2.2.1,r4.2.2.2.2.2.2.2.2.2))))))))))))))))
 (gdE ((p0 (wI r0.2.2.1))&&(decide ((wI r0.2.2.1)≤((r0.2.1.size:Nat):Int))))<|
 (gdE ((p0 r0.2.2.1)&&(decide (r0.2.2.1≤(((Int.toNat (wI r0.2.2.1)):Nat):Int))))<|
 (some ((),((),(r0.2.1,((wI r0.2.2.1),(4,(r0.2.2.1,((ByteArray.extract r0.2.1 (Int.toNat r0.2.2.1) (Int.toNat (wI r0.2.2.1))),(r0.2.2.2.2.2.2.1,(r0.2.2.2.2.2.2.2.1,(r0.2.2.2.2.2.2.2.2.1,r0.2.2.2.2.2.2.2.2.2)))))))))))))))
 ((quf (((UInt8.toNat (Array.getD r0.2.1.data (Int.toNat r0.2.2.1) (0:UInt8))):Nat):Int)).bind fun r2 =>
 (brE r2
 ((quy (wI r0.2.2.1) 2 r0.2.1 r0.2.2.1 r0.2.2.2.1 r0.2.2.2.2.1 r0.2.2.2.2.2.1 r0.2.2.2.2.2.2.1 r0.2.2.2.2.2.2.2.1 r0.2.2.2.2.2.2.2.2.1 r0.2.2.2.2.2.2.2.2.2).bind fun r3 =>
 (gdE ((p0 r3.1.2.2.2.1)&&(decide (r3.1.2.2.2.1≤((r3.2.1.size:Nat):Int))))<|
 (gdE ((p0 r3.2.2.1)&&(decide (r3.2.2.1≤(((Int.toNat r3.1.2.2.2.1):Nat):Int))))<|
 (some ((),((),(r3.2.1,(r3.1.2.2.2.1,(r3.1.2.2.2.2.1,(r3.2.2.1,((ByteArray.extract r3.2.1 (Int.toNat r3.2.2.1) (Int.toNat r3.1.2.2.2.1)),(r3.2.2.2.2.2.2.1,(r3.2.2.2.2.2.2.2.1,(r3.2.2.2.2.2.2.2.2.1,r3.2.2.2.2.2.2.2.2.2))))))))))))))
 ((quy (wI r0.2.2.1) 3 r0.2.1 r0.2.2.1 r0.2.2.2.1 r0.2.2.2.2.1 r0.2.2.2.2.2.1 r0.2.2.2.2.2.2.1 r0.2.2.2.2.2.2.2.1 r0.2.2.2.2.2.2.2.2.1 r0.2.2.2.2.2.2.2.2.2).bind fun r3 =>
 (gdE ((p0 r3.1.2.2.2.1)&&(decide (r3.1.2.2.2.1≤((r3.2.1.size:Nat):Int))))<|
 (gdE ((p0 r3.2.2.1)&&(decide (r3.2.2.1≤(((Int.toNat r3.1.2.2.2.1):Nat):Int))))<|
 (some ((),((),(r3.2.1,(r3.1.2.2.2.1,(r3.1.2.2.2.2.1,(r3.2.2.1,((ByteArray.extract r3.2.1 (Int.toNat r3.2.2.1) (Int.toNat r3.1.2.2.2.1)),(r3.2.2.2.2.2.2.1,(r3.2.2.2.2.2.2.2.1,(r3.2.2.2.2.2.2.2.2.1,r3.2.2.2.2.2.2.2.2.2))))))))))))))))))))))
theorem quq {b0 b0_1 b0_2 b0_3 b0_4 b0_5 b0_6 b0_7 b0_8 r} (h:qv8 b0 b0_1 b0_2 b0_3 b0_4 b0_5 b0_6 b0_7 b0_8=some r):qun b0 b0_1 b0_2 b0_3 b0_4 b0_5 b0_6 b0_7 b0_8=some r :=
 q92 (fn:=Tryz.f19) (es:=q14f) (hs:=q9o) [qus,quz] (by kernel_rfl) rfl (by kernel_rfl) (by kernel_rfl) ⟨⟨_,rfl,rfl⟩,⟨_,rfl,rfl⟩,trivial⟩ trivial (by kernel_rfl) h
def qup:=hentS Tryz.prog lv X0 19 [0,3,0,0,1,9,1,3,1,1,1,1,1,1,1,3,1,2,1,1,1,1,1,1,0] qv7 qv5 (fun x=>qun x.2.1 x.2.2.1 x.2.2.2.1 x.2.2.2.2.1 x.2.2.2.2.2.1 x.2.2.2.2.2.2.1 x.2.2.2.2.2.2.2.1 x.2.2.2.2.2.2.2.2.1 x.2.2.2.2.2.2.2.2.2) (fun _ _ h=>q91 h)
def q9g:=qup::q9o
def qxz:=sLS [0] z1t (qb9 z1n) [false] [0] (by decide) (fun _=>rfl)
def qxy:SC ((List S59)×(ByteArray×Int×Int×Int×ByteArray×Bool×Int×Int×Int)):=sLS [0] (qb9 (vC (cSl q5u))) (qb9 (qdm (bBox (qb7 (vC cStr) (qb7 (vC (cInt .i64)) (qb7 (vC (cInt .i64)) (qb7 (vC (cInt .i64)) (qb7 (vC cStr) (qb7 (vC cBool) (qb7 (vC (cInt .i64)) (qb7 (vC (cInt .i64)) (qb9 (vC (cInt .i64)))))))))))))) [false] [0] (by decide) (fun _=>rfl)
def qxx:HC ((List S59)×((List S59)×(ByteArray×Int×Int×Int×ByteArray×Bool×Int×Int×Int))):=hPair (vC (cSl q5u)) qxy
def qxn (b0:BA) (b0_1 b0_2 b0_3:Int) (b0_4:BA) (b0_5:Bool) (b0_6 b0_7 b0_8:Int):=hS Tryz.prog lv X0 20 qxz qxx ((),(b0,b0_1,b0_2,b0_3,b0_4,b0_5,b0_6,b0_7,b0_8))
def qxo:=hentS Tryz.prog lv X0 20 [0,3,0,0,1,9,1,3,1,1,1,1,1,1,1,3,1,2,1,1,1,1,1,1,0] qxz qxx (fun x=>qxn x.2.1 x.2.2.1 x.2.2.2.1 x.2.2.2.2.1 x.2.2.2.2.2.1 x.2.2.2.2.2.2.1 x.2.2.2.2.2.2.2.1 x.2.2.2.2.2.2.2.2.1 x.2.2.2.2.2.2.2.2.2) (fun _ _ h=>q91 h)
def q9q:=qxo::q9g
def qxl:=sLS [0] z1t (qb9 z1n) [false] [0] (by decide) (fun _=>rfl)
def qxk:SC ((Int×Int×(List S57)×ByteArray×Int×ByteArray×Int×(List S59)×(List S59)×Int×ByteArray×ByteArray×Int)×(ByteArray×Int×Int×Int×ByteArray×Bool×Int×Int×Int)):=sLS [0] (qb9 (vAgg (qb7 (vC (cInt .i64)) (qb7 (vC (cInt .i64)) (qb7 (vC (cSl q5t)) (qb7 (vC cStr) (qb7 (vC (cInt .i64)) (qb7 (vC cStr) (qb7 (vC (cInt .i64)) (qb7 (vC (cSl q5u)) (qb7 (vC (cSl q5u)) (qb7 (vC (cInt .i64)) (qb7 (vC cStr) (qb7 (vC cStr) (qb9 (vC (cInt .i64))))))))))))))))) (qb9 (qdm (bBox (qb7 (vC cStr) (qb7 (vC (cInt .i64)) (qb7 (vC (cInt .i64)) (qb7 (vC (cInt .i64)) (qb7 (vC cStr) (qb7 (vC cBool) (qb7 (vC (cInt .i64)) (qb7 (vC (cInt .i64)) (qb9 (vC (cInt .i64)))))))))))))) [false] [0] (by decide) (fun _=>rfl)
def qxj:HC ((Int×Int×(List S57)×ByteArray×Int×ByteArray×Int×(List S59)×(List S59)×Int×ByteArray×ByteArray×Int)×((Int×Int×(List S57)×ByteArray×Int×ByteArray×Int×(List S59)×(List S59)×Int×ByteArray×ByteArray×Int)×(ByteArray×Int×Int×Int×ByteArray×Bool×Int×Int×Int))):=hPair (vAgg (qb7 (vC (cInt .i64)) (qb7 (vC (cInt .i64)) (qb7 (vC (cSl q5t)) (qb7 (vC cStr) (qb7 (vC (cInt .i64)) (qb7 (vC cStr) (qb7 (vC (cInt .i64)) (qb7 (vC (cSl q5u)) (qb7 (vC (cSl q5u)) (qb7 (vC (cInt .i64)) (qb7 (vC cStr) (qb7 (vC cStr) (qb9 (vC (cInt .i64)))))))))))))))) qxk
def qxg (b0:BA) (b0_1 b0_2 b0_3:Int) (b0_4:BA) (b0_5:Bool) (b0_6 b0_7 b0_8:Int):=hS Tryz.prog lv X0 40 qxl qxj ((),(b0,b0_1,b0_2,b0_3,b0_4,b0_5,b0_6,b0_7,b0_8))
def qxh:=hentS Tryz.prog lv X0 40 [0,3,0,0,1,9,1,3,1,1,1,1,1,1,1,3,1,2,1,1,1,1,1,1,0] qxl qxj (fun x=>qxg x.2.1 x.2.2.1 x.2.2.2.1 x.2.2.2.2.1 x.2.2.2.2.2.1 x.2.2.2.2.2.2.1 x.2.2.2.2.2.2.2.1 x.2.2.2.2.2.2.2.2.1 x.2.2.2.2.2.2.2.2.2) (fun _ _ h=>q91 h)
def q9p:=qxh::q9q
def qvs:=sLS [0,1,2] (qb7 (vPtr 0 0) (qb7 z1o (qb9 (vC cStr)))) (qb9 z1n) [false] [0] (by decide) (fun _=>rfl)
def qvr:SC (Bool×(ByteArray×Int×Int×Int×ByteArray×Bool×Int×Int×Int)):=sLS [0] (qb9 (vC cBool)) (qb9 (qdm (bBox (qb7 (vC cStr) (qb7 (vC (cInt .i64)) (qb7 (vC (cInt .i64)) (qb7 (vC (cInt .i64)) (qb7 (vC cStr) (qb7 (vC cBool) (qb7 (vC (cInt .i64)) (qb7 (vC (cInt .i64)) (qb9 (vC (cInt .i64)))))))))))))) [false] [0] (by decide) (fun _=>rfl)
def qvq:HC (Bool×(Bool×(ByteArray×Int×Int×Int×ByteArray×Bool×Int×Int×Int))):=hPair (vC cBool) qvr
def qvn (kind:Int) (s b0:BA) (b0_1 b0_2 b0_3:Int) (b0_4:BA) (b0_5:Bool) (b0_6 b0_7 b0_8:Int):=hS Tryz.prog lv X0 54 qvs qvq (((),kind,s),(b0,b0_1,b0_2,b0_3,b0_4,b0_5,b0_6,b0_7,b0_8))
def qvt (kind:Int) (s b0:BA) (b0_1 b0_2 b0_3:Int) (b0_4:BA) (b0_5:Bool) (b0_6 b0_7 b0_8:Int):Oq (Bool×(Bool×(BA×Int×Int×Int×BA×Bool×Int×Int×Int))) :=
 (brE (b0_5==false)
 (brE ((b0_2 != kind)==false)
 (brE (!(b0_4.toList==s.toList))
 (some (false,(false,(b0,(b0_1,(b0_2,(b0_3,(b0_4,(b0_5,(b0_6,(b0_7,b0_8)))))))))))
 ((qun b0 b0_1 b0_2 b0_3 b0_4 b0_5 b0_6 b0_7 b0_8).bind fun r0 =>
 (some (true,(true,(r0.2.2.1,(r0.2.2.2.1,(r0.2.2.2.2.1,(r0.2.2.2.2.2.1,(r0.2.2.2.2.2.2.1,(r0.2.2.2.2.2.2.2.1,(r0.2.2.2.2.2.2.2.2.1,(r0.2.2.2.2.2.2.2.2.2.1,r0.2.2.2.2.2.2.2.2.2.2)))))))))))))
 (some (false,(false,(b0,(b0_1,(b0_2,(b0_3,(b0_4,(b0_5,(b0_6,(b0_7,b0_8))))))))))))
 (some (false,(false,(b0,(b0_1,(b0_2,(b0_3,(b0_4,(b0_5,(b0_6,(b0_7,b0_8))))))))))))
theorem qvp {kind s b0 b0_1 b0_2 b0_3 b0_4 b0_5 b0_6 b0_7 b0_8 r} (h:qvt kind s b0 b0_1 b0_2 b0_3 b0_4 b0_5 b0_6 b0_7 b0_8=some r):qvn kind s b0 b0_1 b0_2 b0_3 b0_4 b0_5 b0_6 b0_7 b0_8=some r :=
 q92 (fn:=Tryz.f54) (es:=q14f) (hs:=q9p) [] (by kernel_rfl) rfl (by kernel_rfl) (by kernel_rfl) trivial trivial (by kernel_rfl) h
def qvo:=hentS Tryz.prog lv X0 54 [0,3,0,0,1,1,1,2,1,3,1,9,1,3,1,1,1,1,1,1,1,3,1,2,1,1,1,1,1,1,0] qvs qvq (fun x=>qvn x.1.2.1 x.1.2.2 x.2.1 x.2.2.1 x.2.2.2.1 x.2.2.2.2.1 x.2.2.2.2.2.1 x.2.2.2.2.2.2.1 x.2.2.2.2.2.2.2.1 x.2.2.2.2.2.2.2.2.1 x.2.2.2.2.2.2.2.2.2) (fun _ _ h=>q91 h)
def q9j:=qvo::q9p
def qyk:=sLS [0] z1t (qb9 z1n) [false] [0] (by decide) (fun _=>rfl)
def qyj:SC ((Int×(List S57)×ByteArray×Int×ByteArray×Int)×(ByteArray×Int×Int×Int×ByteArray×Bool×Int×Int×Int)):=sLS [0] (qb9 (vAgg (qb7 (vC (cInt .i64)) (qb7 (vC (cSl q5t)) (qb7 (vC cStr) (qb7 (vC (cInt .i64)) (qb7 (vC cStr) (qb9 (vC (cInt .i64)))))))))) (qb9 (qdm (bBox (qb7 (vC cStr) (qb7 (vC (cInt .i64)) (qb7 (vC (cInt .i64)) (qb7 (vC (cInt .i64)) (qb7 (vC cStr) (qb7 (vC cBool) (qb7 (vC (cInt .i64)) (qb7 (vC (cInt .i64)) (qb9 (vC (cInt .i64)))))))))))))) [false] [0] (by decide) (fun _=>rfl)
def qyi:HC ((Int×(List S57)×ByteArray×Int×ByteArray×Int)×((Int×(List S57)×ByteArray×Int×ByteArray×Int)×(ByteArray×Int×Int×Int×ByteArray×Bool×Int×Int×Int))):=hPair (vAgg (qb7 (vC (cInt .i64)) (qb7 (vC (cSl q5t)) (qb7 (vC cStr) (qb7 (vC (cInt .i64)) (qb7 (vC cStr) (qb9 (vC (cInt .i64))))))))) qyj
def qyf (b0:BA) (b0_1 b0_2 b0_3:Int) (b0_4:BA) (b0_5:Bool) (b0_6 b0_7 b0_8:Int):=hS Tryz.prog lv X0 55 qyk qyi ((),(b0,b0_1,b0_2,b0_3,b0_4,b0_5,b0_6,b0_7,b0_8))
def qyg:=hentS Tryz.prog lv X0 55 [0,3,0,0,1,9,1,3,1,1,1,1,1,1,1,3,1,2,1,1,1,1,1,1,0] qyk qyi (fun x=>qyf x.2.1 x.2.2.1 x.2.2.2.1 x.2.2.2.2.1 x.2.2.2.2.2.1 x.2.2.2.2.2.2.1 x.2.2.2.2.2.2.2.1 x.2.2.2.2.2.2.2.2.1 x.2.2.2.2.2.2.2.2.2) (fun _ _ h=>q91 h)
def q9t:=qyg::q9j
def qyd:=sLS [0] z1t (qb7 (qdm (bBox (qb9 (vPtr 1 0)))) (qb9 z1n)) [false,false] [0,1] (by decide) (fun _=>rfl)
def qyc:SC (Unit×(Unit×(ByteArray×Int×Int×Int×ByteArray×Bool×Int×Int×Int))):=sLS [] qb8 (qb7 (qdm (bBox (qb9 (vPtr 1 0)))) (qb9 (qdm (bBox (qb7 (vC cStr) (qb7 (vC (cInt .i64)) (qb7 (vC (cInt .i64)) (qb7 (vC (cInt .i64)) (qb7 (vC cStr) (qb7 (vC cBool) (qb7 (vC (cInt .i64)) (qb7 (vC (cInt .i64)) (qb9 (vC (cInt .i64))))))))))))))) [false,false] [0,1] (by decide) (fun _=>rfl)
def qyb:HC (Unit×(Unit×(Unit×(ByteArray×Int×Int×Int×ByteArray×Bool×Int×Int×Int)))):=hPair (vTup qb8) qyc
def qy8 (b1:BA) (b1_1 b1_2 b1_3:Int) (b1_4:BA) (b1_5:Bool) (b1_6 b1_7 b1_8:Int):=hS Tryz.prog lv X0 74 qyd qyb ((),((),(b1,b1_1,b1_2,b1_3,b1_4,b1_5,b1_6,b1_7,b1_8)))
def qye (b1:BA) (b1_1 b1_2 b1_3:Int) (b1_4:BA) (b1_5:Bool) (b1_6 b1_7 b1_8:Int):Oq (Unit×(Unit×(Unit×(BA×Int×Int×Int×BA×Bool×Int×Int×Int)))) :=
 (some ((),((),((),(b1,(b1_1,(b1_2,(b1_3,(b1_4,(b1_5,(b1_6,(b1_7,(IntKind.wrap .i64 (b1_8 - 1))))))))))))))
theorem qya {b1 b1_1 b1_2 b1_3 b1_4 b1_5 b1_6 b1_7 b1_8 r} (h:qye b1 b1_1 b1_2 b1_3 b1_4 b1_5 b1_6 b1_7 b1_8=some r):qy8 b1 b1_1 b1_2 b1_3 b1_4 b1_5 b1_6 b1_7 b1_8=some r :=
 q92 (fn:=Tryz.f74) (es:=q14f) (hs:=q9t) [] (by kernel_rfl) rfl (by kernel_rfl) (by kernel_rfl) trivial trivial (by kernel_rfl) h
def qy9:=hentS Tryz.prog lv X0 74 [0,3,0,0,1,1,3,1,0,1,9,1,3,1,1,1,1,1,1,1,3,1,2,1,1,1,1,1,1,0,1] qyd qyb (fun x=>qy8 x.2.2.1 x.2.2.2.1 x.2.2.2.2.1 x.2.2.2.2.2.1 x.2.2.2.2.2.2.1 x.2.2.2.2.2.2.2.1 x.2.2.2.2.2.2.2.2.1 x.2.2.2.2.2.2.2.2.2.1 x.2.2.2.2.2.2.2.2.2.2) (fun _ _ h=>q91 h)
def q9s:=qy9::q9t
def qw6:=sLS [0] z1t (qb9 z1n) [false] [0] (by decide) (fun _=>rfl)
def qws:=sLS [0,1] (qb7 (vPtr 0 0) (qb9 (vC cStr))) (qb9 z1n) [false] [0] (by decide) (fun _=>rfl)
def qwr:SC (Unit×(ByteArray×Int×Int×Int×ByteArray×Bool×Int×Int×Int)):=sLS [] qb8 (qb9 (qdm (bBox (qb7 (vC cStr) (qb7 (vC (cInt .i64)) (qb7 (vC (cInt .i64)) (qb7 (vC (cInt .i64)) (qb7 (vC cStr) (qb7 (vC cBool) (qb7 (vC (cInt .i64)) (qb7 (vC (cInt .i64)) (qb9 (vC (cInt .i64)))))))))))))) [false] [0] (by decide) (fun _=>rfl)
def qwq:HC (Unit×(Unit×(ByteArray×Int×Int×Int×ByteArray×Bool×Int×Int×Int))):=hPair (vTup qb8) qwr
def qwn (s b0:BA) (b0_1 b0_2 b0_3:Int) (b0_4:BA) (b0_5:Bool) (b0_6 b0_7 b0_8:Int):=hS Tryz.prog lv X0 58 qws qwq (((),s),(b0,b0_1,b0_2,b0_3,b0_4,b0_5,b0_6,b0_7,b0_8))
def qwt (s b0:BA) (b0_1 b0_2 b0_3:Int) (b0_4:BA) (b0_5:Bool) (b0_6 b0_7 b0_8:Int):Oq (Unit×(Unit×(BA×Int×Int×Int×BA×Bool×Int×Int×Int))) :=
 ((qvn 4 s b0 b0_1 b0_2 b0_3 b0_4 b0_5 b0_6 b0_7 b0_8).bind fun r0 =>
 (brE (!r0.1)
 (some ((),((),(r0.2.2.1,(r0.2.2.2.1,(r0.2.2.2.2.1,(r0.2.2.2.2.2.1,(r0.2.2.2.2.2.2.1,(true,(r0.2.2.2.2.2.2.2.2.1,(r0.2.2.2.2.2.2.2.2.2.1,r0.2.2.2.2.2.2.2.2.2.2)))))))))))
 (some ((),((),(r0.2.2.1,(r0.2.2.2.1,(r0.2.2.2.2.1,(r0.2.2.2.2.2.1,(r0.2.2.2.2.2.2.1,(r0.2.2.2.2.2.2.2.1,(r0.2.2.2.2.2.2.2.2.1,(r0.2.2.2.2.2.2.2.2.2.1,r0.2.2.2.2.2.2.2.2.2.2)))))))))))))
theorem qwp {s b0 b0_1 b0_2 b0_3 b0_4 b0_5 b0_6 b0_7 b0_8 r} (h:qwt s b0 b0_1 b0_2 b0_3 b0_4 b0_5 b0_6 b0_7 b0_8=some r):qwn s b0 b0_1 b0_2 b0_3 b0_4 b0_5 b0_6 b0_7 b0_8=some r :=
 q92 (fn:=Tryz.f58) (es:=q14f) (hs:=q9s) [] (by kernel_rfl) rfl (by kernel_rfl) (by kernel_rfl) trivial trivial (by kernel_rfl) h
def qwo:=hentS Tryz.prog lv X0 58 [0,3,0,0,1,1,3,1,9,1,3,1,1,1,1,1,1,1,3,1,2,1,1,1,1,1,1,0] qws qwq (fun x=>qwn x.1.2 x.2.1 x.2.2.1 x.2.2.2.1 x.2.2.2.2.1 x.2.2.2.2.2.1 x.2.2.2.2.2.2.1 x.2.2.2.2.2.2.2.1 x.2.2.2.2.2.2.2.2.1 x.2.2.2.2.2.2.2.2.2) (fun _ _ h=>q91 h)
def q9m:=qwo::q9s
def qw2:=sLS [0,3] (qb7 (vPtr 0 0) (qb9 (vRow 1))) (qb7 z1n (qb9 (qdm (bRow q5t)))) [false,false] [0] (by decide) (fun _=>rfl)
def qw1:=sLS [0,3,10] (qb7 (vPtr 0 0) (qb7 (vRow 1) z1v)) (qb7 z1n (qb9 (qdm (bRow q5t)))) [false,false] [0] (by decide) (fun _=>rfl)
def qw0:=oAt 2 qw1
def qvx (out:Nat) (b0:BA) (b0_1 b0_2 b0_3:Int) (b0_4:BA) (b0_5:Bool) (b0_6 b0_7 b0_8:Int) (b1:L57):=lS Tryz.prog lv X0 75 19 (q8x (cdF Tryz.f75) 3) qw2 qw0 (((),out),((b0,b0_1,b0_2,b0_3,b0_4,b0_5,b0_6,b0_7,b0_8),b1))
def qw3 (out:Nat) (b0:BA) (b0_1 b0_2 b0_3:Int) (b0_4:BA) (b0_5:Bool) (b0_6 b0_7 b0_8:Int) (b1:L57):Oq ((Unit×Nat×Bool)×((BA×Int×Int×Int×BA×Bool×Int×Int×Int)×L57)) :=
 ((qvn 4 (ByteArray.mk (List.toArray [(44:UInt8)])) b0 b0_1 b0_2 b0_3 b0_4 b0_5 b0_6 b0_7 b0_8).bind fun r0 =>
 (brE r0.1
 ((qyf r0.2.2.1 r0.2.2.2.1 r0.2.2.2.2.1 r0.2.2.2.2.2.1 r0.2.2.2.2.2.2.1 r0.2.2.2.2.2.2.2.1 r0.2.2.2.2.2.2.2.2.1 r0.2.2.2.2.2.2.2.2.2.1 r0.2.2.2.2.2.2.2.2.2.2).bind fun r1 =>
 (gdE ((((aL [[(C.int Go.IntKind.i64 r1.1.1),(C.sl (EC.encL q5t r1.1.2.1)),(C.str r1.1.2.2.1),(C.int Go.IntKind.i64 r1.1.2.2.2.1),(C.str r1.1.2.2.2.2.1),(C.int Go.IntKind.i64 r1.1.2.2.2.2.2)]] 6)&&(aL (EC.encL q5t b1) 6))&&(dQ (out+(List.length [[(C.int Go.IntKind.i64 r1.1.1),(C.sl (EC.encL q5t r1.1.2.1)),(C.str r1.1.2.2.1),(C.int Go.IntKind.i64 r1.1.2.2.2.1),(C.str r1.1.2.2.2.2.1),(C.int Go.IntKind.i64 r1.1.2.2.2.2.2)]])) 80))&&(decide ((out+(List.length [[(C.int Go.IntKind.i64 r1.1.1),(C.sl (EC.encL q5t r1.1.2.1)),(C.str r1.1.2.2.1),(C.int Go.IntKind.i64 r1.1.2.2.2.1),(C.str r1.1.2.2.2.2.1),(C.int Go.IntKind.i64 r1.1.2.2.2.2.2)]]))≤9223372036854775807)))<|
 (gdE (EC.isL q5t ((EC.encL q5t b1)++[[(C.int Go.IntKind.i64 r1.1.1),(C.sl (EC.encL q5t r1.1.2.1)),(C.str r1.1.2.2.1),(C.int Go.IntKind.i64 r1.1.2.2.2.1),(C.str r1.1.2.2.2.2.1),(C.int Go.IntKind.i64 r1.1.2.2.2.2.2)]]))<|
 (qvx (out+(List.length [[(C.int Go.IntKind.i64 r1.1.1),(C.sl (EC.encL q5t r1.1.2.1)),(C.str r1.1.2.2.1),(C.int Go.IntKind.i64 r1.1.2.2.2.1),(C.str r1.1.2.2.2.2.1),(C.int Go.IntKind.i64 r1.1.2.2.2.2.2)]])) r1.2.2.1 r1.2.2.2.1 r1.2.2.2.2.1 r1.2.2.2.2.2.1 r1.2.2.2.2.2.2.1 r1.2.2.2.2.2.2.2.1 r1.2.2.2.2.2.2.2.2.1 r1.2.2.2.2.2.2.2.2.2.1 r1.2.2.2.2.2.2.2.2.2.2 (EC.decL q5t ((EC.encL q5t b1)++[[(C.int Go.IntKind.i64 r1.1.1),(C.sl (EC.encL q5t r1.1.2.1)),(C.str r1.1.2.2.1),(C.int Go.IntKind.i64 r1.1.2.2.2.1),(C.str r1.1.2.2.2.2.1),(C.int Go.IntKind.i64 r1.1.2.2.2.2.2)]]))))))
 (gL q5t b1<|
 (some (((),(out,false)),((r0.2.2.1,(r0.2.2.2.1,(r0.2.2.2.2.1,(r0.2.2.2.2.2.1,(r0.2.2.2.2.2.2.1,(r0.2.2.2.2.2.2.2.1,(r0.2.2.2.2.2.2.2.2.1,(r0.2.2.2.2.2.2.2.2.2.1,r0.2.2.2.2.2.2.2.2.2.2)))))))),(dL q5t b1)))))))
theorem qvz {out b0 b0_1 b0_2 b0_3 b0_4 b0_5 b0_6 b0_7 b0_8 b1 r} (h:qw3 out b0 b0_1 b0_2 b0_3 b0_4 b0_5 b0_6 b0_7 b0_8 b1=some r):qvx out b0 b0_1 b0_2 b0_3 b0_4 b0_5 b0_6 b0_7 b0_8 b1=some r :=
 qbb (es:=q14f) (hs:=q9m) [] (by kernel_rfl) trivial trivial (by kernel_rfl) h
def qvy:=qby Tryz.prog lv X0 3 (q8x (cdF Tryz.f75) 3) qw2 qw0 (fun x=>qvx x.1.2 x.2.1.1 x.2.1.2.1 x.2.1.2.2.1 x.2.1.2.2.2.1 x.2.1.2.2.2.2.1 x.2.1.2.2.2.2.2.1 x.2.1.2.2.2.2.2.2.1 x.2.1.2.2.2.2.2.2.2.1 x.2.1.2.2.2.2.2.2.2.2 x.2.2) (fun _ _ h=>qba h)
def qw5:SC ((List S57)×(ByteArray×Int×Int×Int×ByteArray×Bool×Int×Int×Int)):=sLS [0] (qb9 (vC (cSl q5t))) (qb9 (qdm (bBox (qb7 (vC cStr) (qb7 (vC (cInt .i64)) (qb7 (vC (cInt .i64)) (qb7 (vC (cInt .i64)) (qb7 (vC cStr) (qb7 (vC cBool) (qb7 (vC (cInt .i64)) (qb7 (vC (cInt .i64)) (qb9 (vC (cInt .i64)))))))))))))) [false] [0] (by decide) (fun _=>rfl)
def qw4:HC ((List S57)×((List S57)×(ByteArray×Int×Int×Int×ByteArray×Bool×Int×Int×Int))):=hPair (vC (cSl q5t)) qw5
def qvu (b0:BA) (b0_1 b0_2 b0_3:Int) (b0_4:BA) (b0_5:Bool) (b0_6 b0_7 b0_8:Int):=hS Tryz.prog lv X0 75 qw6 qw4 ((),(b0,b0_1,b0_2,b0_3,b0_4,b0_5,b0_6,b0_7,b0_8))
def qw7 (b0:BA) (b0_1 b0_2 b0_3:Int) (b0_4:BA) (b0_5:Bool) (b0_6 b0_7 b0_8:Int):Oq (L57×(L57×(BA×Int×Int×Int×BA×Bool×Int×Int×Int))) :=
 ((qwn (ByteArray.mk (List.toArray [(40:UInt8)])) b0 b0_1 b0_2 b0_3 b0_4 b0_5 b0_6 b0_7 b0_8).bind fun r0 =>
 ((qyf r0.2.2.1 r0.2.2.2.1 r0.2.2.2.2.1 r0.2.2.2.2.2.1 r0.2.2.2.2.2.2.1 r0.2.2.2.2.2.2.2.1 r0.2.2.2.2.2.2.2.2.1 r0.2.2.2.2.2.2.2.2.2.1 r0.2.2.2.2.2.2.2.2.2.2).bind fun r1 =>
 (gdE (EC.isL q5t [[(C.int Go.IntKind.i64 r1.1.1),(C.sl (EC.encL q5t r1.1.2.1)),(C.str r1.1.2.2.1),(C.int Go.IntKind.i64 r1.1.2.2.2.1),(C.str r1.1.2.2.2.2.1),(C.int Go.IntKind.i64 r1.1.2.2.2.2.2)]])<|
 ((qvx 1 r1.2.2.1 r1.2.2.2.1 r1.2.2.2.2.1 r1.2.2.2.2.2.1 r1.2.2.2.2.2.2.1 r1.2.2.2.2.2.2.2.1 r1.2.2.2.2.2.2.2.2.1 r1.2.2.2.2.2.2.2.2.2.1 r1.2.2.2.2.2.2.2.2.2.2 (EC.decL q5t [[(C.int Go.IntKind.i64 r1.1.1),(C.sl (EC.encL q5t r1.1.2.1)),(C.str r1.1.2.2.1),(C.int Go.IntKind.i64 r1.1.2.2.2.1),(C.str r1.1.2.2.2.2.1),(C.int Go.IntKind.i64 r1.1.2.2.2.2.2)]])).bind fun r2 =>
 ((qwn (ByteArray.mk (List.toArray [(41:UInt8)])) r2.2.1.1 r2.2.1.2.1 r2.2.1.2.2.1 r2.2.1.2.2.2.1 r2.2.1.2.2.2.2.1 r2.2.1.2.2.2.2.2.1 r2.2.1.2.2.2.2.2.2.1 r2.2.1.2.2.2.2.2.2.2.1 r2.2.1.2.2.2.2.2.2.2.2).bind fun r3 =>
 (gL q5t r2.2.2<|
 (gL q5t r2.2.2<|
 (some ((dL q5t r2.2.2),((dL q5t r2.2.2),(r3.2.2.1,(r3.2.2.2.1,(r3.2.2.2.2.1,(r3.2.2.2.2.2.1,(r3.2.2.2.2.2.2.1,(r3.2.2.2.2.2.2.2.1,(r3.2.2.2.2.2.2.2.2.1,(r3.2.2.2.2.2.2.2.2.2.1,r3.2.2.2.2.2.2.2.2.2.2))))))))))))))))))
theorem qvw {b0 b0_1 b0_2 b0_3 b0_4 b0_5 b0_6 b0_7 b0_8 r} (h:qw7 b0 b0_1 b0_2 b0_3 b0_4 b0_5 b0_6 b0_7 b0_8=some r):qvu b0 b0_1 b0_2 b0_3 b0_4 b0_5 b0_6 b0_7 b0_8=some r :=
 q92 (fn:=Tryz.f75) (es:=q14f) (hs:=q9m) [qvy] (by kernel_rfl) rfl (by kernel_rfl) (by kernel_rfl) ⟨⟨_,rfl,rfl⟩,trivial⟩ trivial (by kernel_rfl) h
def qvv:=hentS Tryz.prog lv X0 75 [0,3,0,0,1,9,1,3,1,1,1,1,1,1,1,3,1,2,1,1,1,1,1,1,0] qw6 qw4 (fun x=>qvu x.2.1 x.2.2.1 x.2.2.2.1 x.2.2.2.2.1 x.2.2.2.2.2.1 x.2.2.2.2.2.2.1 x.2.2.2.2.2.2.2.1 x.2.2.2.2.2.2.2.2.1 x.2.2.2.2.2.2.2.2.2) (fun _ _ h=>q91 h)
def q9k:=qvv::q9m
def qy6:=sLS [0,1] (qb7 (vPtr 0 0) (qb9 z1o)) (qb9 z1n) [false] [0] (by decide) (fun _=>rfl)
def qy5:SC (ByteArray×(ByteArray×Int×Int×Int×ByteArray×Bool×Int×Int×Int)):=sLS [0] (qb9 (vC cStr)) (qb9 (qdm (bBox (qb7 (vC cStr) (qb7 (vC (cInt .i64)) (qb7 (vC (cInt .i64)) (qb7 (vC (cInt .i64)) (qb7 (vC cStr) (qb7 (vC cBool) (qb7 (vC (cInt .i64)) (qb7 (vC (cInt .i64)) (qb9 (vC (cInt .i64)))))))))))))) [false] [0] (by decide) (fun _=>rfl)
def qy4:HC (ByteArray×(ByteArray×(ByteArray×Int×Int×Int×ByteArray×Bool×Int×Int×Int))):=hPair (vC cStr) qy5
def qy1 (kind:Int) (b0:BA) (b0_1 b0_2 b0_3:Int) (b0_4:BA) (b0_5:Bool) (b0_6 b0_7 b0_8:Int):=hS Tryz.prog lv X0 57 qy6 qy4 (((),kind),(b0,b0_1,b0_2,b0_3,b0_4,b0_5,b0_6,b0_7,b0_8))
def qy7 (kind:Int) (b0:BA) (b0_1 b0_2 b0_3:Int) (b0_4:BA) (b0_5:Bool) (b0_6 b0_7 b0_8:Int):Oq (BA×(BA×(BA×Int×Int×Int×BA×Bool×Int×Int×Int))) :=
 (brE (b0_5==false)
 (brE (b0_2 != kind)
 (some (⟨#[]⟩,(⟨#[]⟩,(b0,(b0_1,(b0_2,(b0_3,(b0_4,(true,(b0_6,(b0_7,b0_8)))))))))))
 ((qun b0 b0_1 b0_2 b0_3 b0_4 b0_5 b0_6 b0_7 b0_8).bind fun r0 =>
 (some (b0_4,(b0_4,(r0.2.2.1,(r0.2.2.2.1,(r0.2.2.2.2.1,(r0.2.2.2.2.2.1,(r0.2.2.2.2.2.2.1,(r0.2.2.2.2.2.2.2.1,(r0.2.2.2.2.2.2.2.2.1,(r0.2.2.2.2.2.2.2.2.2.1,r0.2.2.2.2.2.2.2.2.2.2)))))))))))))
 (some (⟨#[]⟩,(⟨#[]⟩,(b0,(b0_1,(b0_2,(b0_3,(b0_4,(true,(b0_6,(b0_7,b0_8))))))))))))
theorem qy3 {kind b0 b0_1 b0_2 b0_3 b0_4 b0_5 b0_6 b0_7 b0_8 r} (h:qy7 kind b0 b0_1 b0_2 b0_3 b0_4 b0_5 b0_6 b0_7 b0_8=some r):qy1 kind b0 b0_1 b0_2 b0_3 b0_4 b0_5 b0_6 b0_7 b0_8=some r :=
 q92 (fn:=Tryz.f57) (es:=q14f) (hs:=q9k) [] (by kernel_rfl) rfl (by kernel_rfl) (by kernel_rfl) trivial trivial (by kernel_rfl) h
def qy2:=hentS Tryz.prog lv X0 57 [0,3,0,0,1,1,1,1,9,1,3,1,1,1,1,1,1,1,3,1,2,1,1,1,1,1,1,0] qy6 qy4 (fun x=>qy1 x.1.2 x.2.1 x.2.2.1 x.2.2.2.1 x.2.2.2.2.1 x.2.2.2.2.2.1 x.2.2.2.2.2.2.1 x.2.2.2.2.2.2.2.1 x.2.2.2.2.2.2.2.2.1 x.2.2.2.2.2.2.2.2.2) (fun _ _ h=>q91 h)
def q9r:=qy2::q9k
abbrev z1q:=(qb7 z1n (qb7 (qdm (bBox (qb7 z1o (qb7 (vRow 2) (qb7 (vC cStr) (qb7 z1o (qb7 (vC cStr) (qb9 z1o)))))))) (qb9 (qdm (bRow q5t)))))
def qwl:=sLS [0,1] (qb7 (vPtr 0 0) (qb9 (vPtr 1 0))) z1q [false,false,false] [0,1] (by decide) (fun _=>rfl)
def qwh:=sLS [0,1,6,7] (qb7 (vPtr 0 0) (qb7 (vPtr 1 0) (qb7 z1u (qb9 z1o)))) z1q [false,false,false] [0,1] (by decide) (fun _=>rfl)
def qwg:=sLS [0,1,6,7,8] (qb7 (vPtr 0 0) (qb7 (vPtr 1 0) (qb7 z1u (qb7 z1o z1v)))) z1q [false,false,false] [0,1] (by decide) (fun _=>rfl)
def qwf:=sLS [] qb8 z1q [false,false,false] [0,1] (by decide) (fun _=>rfl)
def qwe:=oOr 1 qwf (oAt 2 qwg) (fun x=>(by decide:(2:Nat)≠1))
def qwb (t6 t6_1 t6_2:BA) (t7:Int) (b0:BA) (b0_1 b0_2 b0_3:Int) (b0_4:BA) (b0_5:Bool) (b0_6 b0_7:Int) (b0_8 b1:Int) (b1_1:Nat) (b1_2:BA) (b1_3:Int) (b1_4:BA) (b1_5:Int) (b2:L57):=lS Tryz.prog lv X0 76 28 (q8x (cdF Tryz.f76) 1) qwh qwe (((),(),(t6,t6_1,t6_2),t7),((b0,b0_1,b0_2,b0_3,b0_4,b0_5,b0_6,b0_7,b0_8),(b1,b1_1,b1_2,b1_3,b1_4,b1_5),b2))
def qwi (t6 t6_1 t6_2:BA) (t7:Int) (b0:BA) (b0_1 b0_2 b0_3:Int) (b0_4:BA) (b0_5:Bool) (b0_6 b0_7:Int) (b0_8 b1:Int) (b1_1:Nat) (b1_2:BA) (b1_3:Int) (b1_4:BA) (b1_5:Int) (b2:L57):Oq ((Unit×((BA×Int×Int×Int×BA×Bool×Int×Int×Int)×(Int×Nat×BA×Int×BA×Int)×L57))⊕((Unit×Unit×(BA×BA×BA)×Int×Bool)×((BA×Int×Int×Int×BA×Bool×Int×Int×Int)×(Int×Nat×BA×Int×BA×Int)×L57))) :=
 (brE (decide (t7<3))
 (gdE (((p0 t7)&&(decide (t7<((3:Nat):Int))))&&(decide ((Int.toNat t7)<(List.length [t6,t6_1,t6_2]))))<|
 ((qvn 2 (List.getD [t6,t6_1,t6_2] (Int.toNat t7) ByteArray.empty) b0 b0_1 b0_2 b0_3 b0_4 b0_5 b0_6 b0_7 b0_8).bind fun r0 =>
 (brE r0.1
 ((qy1 1 r0.2.2.1 r0.2.2.2.1 r0.2.2.2.2.1 r0.2.2.2.2.2.1 r0.2.2.2.2.2.2.1 r0.2.2.2.2.2.2.2.1 r0.2.2.2.2.2.2.2.2.1 r0.2.2.2.2.2.2.2.2.2.1 r0.2.2.2.2.2.2.2.2.2.2).bind fun r1 =>
 (gL q5t b2<|
 (some (.inl ((),((r1.2.2.1,(r1.2.2.2.1,(r1.2.2.2.2.1,(r1.2.2.2.2.2.1,(r1.2.2.2.2.2.2.1,(r1.2.2.2.2.2.2.2.1,(r1.2.2.2.2.2.2.2.2.1,(r1.2.2.2.2.2.2.2.2.2.1,r1.2.2.2.2.2.2.2.2.2.2)))))))),((b1,(b1_1,(b1_2,((wI t7),(r1.1,b1_5))))),(dL q5t b2))))))))
 (gL q5t b2<|
 (qwb t6 t6_1 t6_2 (wI t7) r0.2.2.1 r0.2.2.2.1 r0.2.2.2.2.1 r0.2.2.2.2.2.1 r0.2.2.2.2.2.2.1 r0.2.2.2.2.2.2.2.1 r0.2.2.2.2.2.2.2.2.1 r0.2.2.2.2.2.2.2.2.2.1 r0.2.2.2.2.2.2.2.2.2.2 b1 b1_1 b1_2 b1_3 b1_4 b1_5 (dL q5t b2))))))
 (gL q5t b2<|
 (some (.inr (((),((),((t6,(t6_1,t6_2)),(t7,false)))),((b0,(b0_1,(b0_2,(b0_3,(b0_4,(b0_5,(b0_6,(b0_7,b0_8)))))))),((b1,(b1_1,(b1_2,(b1_3,(b1_4,b1_5))))),(dL q5t b2))))))))
theorem qwd {t6 t6_1 t6_2 t7 b0 b0_1 b0_2 b0_3 b0_4 b0_5 b0_6 b0_7 b0_8 b1 b1_1 b1_2 b1_3 b1_4 b1_5 b2 r} (h:qwi t6 t6_1 t6_2 t7 b0 b0_1 b0_2 b0_3 b0_4 b0_5 b0_6 b0_7 b0_8 b1 b1_1 b1_2 b1_3 b1_4 b1_5 b2=some r):qwb t6 t6_1 t6_2 t7 b0 b0_1 b0_2 b0_3 b0_4 b0_5 b0_6 b0_7 b0_8 b1 b1_1 b1_2 b1_3 b1_4 b1_5 b2=some r :=
 qbb (es:=q14f) (hs:=q9r) [] (by kernel_rfl) trivial trivial (by kernel_rfl) h
def qwc:=qby Tryz.prog lv X0 1 (q8x (cdF Tryz.f76) 1) qwh qwe (fun x=>qwb x.1.2.2.1.1 x.1.2.2.1.2.1 x.1.2.2.1.2.2 x.1.2.2.2 x.2.1.1 x.2.1.2.1 x.2.1.2.2.1 x.2.1.2.2.2.1 x.2.1.2.2.2.2.1 x.2.1.2.2.2.2.2.1 x.2.1.2.2.2.2.2.2.1 x.2.1.2.2.2.2.2.2.2.1 x.2.1.2.2.2.2.2.2.2.2 x.2.2.1.1 x.2.2.1.2.1 x.2.2.1.2.2.1 x.2.2.1.2.2.2.1 x.2.2.1.2.2.2.2.1 x.2.2.1.2.2.2.2.2 x.2.2.2) (fun _ _ h=>qba h)
def qwk:SC (Unit×((ByteArray×Int×Int×Int×ByteArray×Bool×Int×Int×Int)×(Int×Nat×ByteArray×Int×ByteArray×Int)×(List S57))):=sLS [] qb8 (qb7 (qdm (bBox (qb7 (vC cStr) (qb7 (vC (cInt .i64)) (qb7 (vC (cInt .i64)) (qb7 (vC (cInt .i64)) (qb7 (vC cStr) (qb7 (vC cBool) (qb7 (vC (cInt .i64)) (qb7 (vC (cInt .i64)) (qb9 (vC (cInt .i64))))))))))))) (qb7 (qdm (bBox (qb7 (vC (cInt .i64)) (qb7 (vRow 2) (qb7 (vC cStr) (qb7 (vC (cInt .i64)) (qb7 (vC cStr) (qb9 (vC (cInt .i64)))))))))) (qb9 (qdm (bRow q5t))))) [false,false,false] [0,1] (by decide) (fun _=>rfl)
def qwj:HC (Unit×(Unit×((ByteArray×Int×Int×Int×ByteArray×Bool×Int×Int×Int)×(Int×Nat×ByteArray×Int×ByteArray×Int)×(List S57)))):=hPair (vTup qb8) qwk
def qw8 (b0:BA) (b0_1 b0_2 b0_3:Int) (b0_4:BA) (b0_5:Bool) (b0_6 b0_7:Int) (b0_8 b1:Int) (b1_1:Nat) (b1_2:BA) (b1_3:Int) (b1_4:BA) (b1_5:Int) (b2:L57):=hS Tryz.prog lv X0 76 qwl qwj (((),()),((b0,b0_1,b0_2,b0_3,b0_4,b0_5,b0_6,b0_7,b0_8),(b1,b1_1,b1_2,b1_3,b1_4,b1_5),b2))
def qwm (b0:BA) (b0_1 b0_2 b0_3:Int) (b0_4:BA) (b0_5:Bool) (b0_6 b0_7:Int) (b0_8 b1:Int) (b1_1:Nat) (b1_2:BA) (b1_3:Int) (b1_4:BA) (b1_5:Int) (b2:L57):Oq (Unit×(Unit×((BA×Int×Int×Int×BA×Bool×Int×Int×Int)×(Int×Nat×BA×Int×BA×Int)×L57))) :=
 (Option.bind qto fun r0 =>
 (gL q5t b2<|
 ((qwb r0.1 r0.2.1 r0.2.2 0 b0 b0_1 b0_2 b0_3 b0_4 b0_5 b0_6 b0_7 b0_8 b1 b1_1 b1_2 b1_3 b1_4 b1_5 (dL q5t b2)).bind fun r1 =>
 (Sum.elim (fun r2=>(gdE (EC.isL q5t (EC.encL q5t r2.2.2.2))<|
 (some ((),((),((r2.2.1.1,(r2.2.1.2.1,(r2.2.1.2.2.1,(r2.2.1.2.2.2.1,(r2.2.1.2.2.2.2.1,(r2.2.1.2.2.2.2.2.1,(r2.2.1.2.2.2.2.2.2.1,(r2.2.1.2.2.2.2.2.2.2.1,r2.2.1.2.2.2.2.2.2.2.2)))))))),((r2.2.2.1.1,(r2.2.2.1.2.1,(r2.2.2.1.2.2.1,(r2.2.2.1.2.2.2.1,(r2.2.2.1.2.2.2.2.1,r2.2.2.1.2.2.2.2.2))))),(dL q5t r2.2.2.2))))))))
 (fun r2=>(gdE (EC.isL q5t (EC.encL q5t r2.2.2.2))<|
 (some ((),((),((r2.2.1.1,(r2.2.1.2.1,(r2.2.1.2.2.1,(r2.2.1.2.2.2.1,(r2.2.1.2.2.2.2.1,(true,(r2.2.1.2.2.2.2.2.2.1,(r2.2.1.2.2.2.2.2.2.2.1,r2.2.1.2.2.2.2.2.2.2.2)))))))),((r2.2.2.1.1,(r2.2.2.1.2.1,(r2.2.2.1.2.2.1,(r2.2.2.1.2.2.2.1,(r2.2.2.1.2.2.2.2.1,r2.2.2.1.2.2.2.2.2))))),(dL q5t r2.2.2.2)))))))) r1))))
theorem qwa {b0 b0_1 b0_2 b0_3 b0_4 b0_5 b0_6 b0_7 b0_8 b1 b1_1 b1_2 b1_3 b1_4 b1_5 b2 r} (h:qwm b0 b0_1 b0_2 b0_3 b0_4 b0_5 b0_6 b0_7 b0_8 b1 b1_1 b1_2 b1_3 b1_4 b1_5 b2=some r):qw8 b0 b0_1 b0_2 b0_3 b0_4 b0_5 b0_6 b0_7 b0_8 b1 b1_1 b1_2 b1_3 b1_4 b1_5 b2=some r :=
 q92 (fn:=Tryz.f76) (es:=q14f) (hs:=q9r) [qwc] (by kernel_rfl) rfl (by kernel_rfl) (by kernel_rfl) ⟨⟨_,rfl,rfl⟩,trivial⟩ trivial (by kernel_rfl) h
def qw9:=hentS Tryz.prog lv X0 76 [0,3,0,0,1,3,1,0,1,9,1,3,1,1,1,1,1,1,1,3,1,2,1,1,1,1,1,1,1,6,1,1,2,2,1,3,1,1,1,3,1,1,2,0,1] qwl qwj (fun x=>qw8 x.2.1.1 x.2.1.2.1 x.2.1.2.2.1 x.2.1.2.2.2.1 x.2.1.2.2.2.2.1 x.2.1.2.2.2.2.2.1 x.2.1.2.2.2.2.2.2.1 x.2.1.2.2.2.2.2.2.2.1 x.2.1.2.2.2.2.2.2.2.2 x.2.2.1.1 x.2.2.1.2.1 x.2.2.1.2.2.1 x.2.2.1.2.2.2.1 x.2.2.1.2.2.2.2.1 x.2.2.1.2.2.2.2.2 x.2.2.2) (fun _ _ h=>q91 h)
def q9l:=qw9::q9r
def qwz:=sLS [0] z1t (qb9 z1n) [false] [0] (by decide) (fun _=>rfl)
def qwy:SC (Int×(ByteArray×Int×Int×Int×ByteArray×Bool×Int×Int×Int)):=sLS [0] (qb9 (vC (cInt .i64))) (qb9 (qdm (bBox (qb7 (vC cStr) (qb7 (vC (cInt .i64)) (qb7 (vC (cInt .i64)) (qb7 (vC (cInt .i64)) (qb7 (vC cStr) (qb7 (vC cBool) (qb7 (vC (cInt .i64)) (qb7 (vC (cInt .i64)) (qb9 (vC (cInt .i64)))))))))))))) [false] [0] (by decide) (fun _=>rfl)
def qwx:HC (Int×(Int×(ByteArray×Int×Int×Int×ByteArray×Bool×Int×Int×Int))):=hPair (vC (cInt .i64)) qwy
def qwu (b0:BA) (b0_1 b0_2 b0_3:Int) (b0_4:BA) (b0_5:Bool) (b0_6 b0_7 b0_8:Int):=hS Tryz.prog lv X0 77 qwz qwx ((),(b0,b0_1,b0_2,b0_3,b0_4,b0_5,b0_6,b0_7,b0_8))
def qx0 (b0:BA) (b0_1 b0_2 b0_3:Int) (b0_4:BA) (b0_5:Bool) (b0_6 b0_7 b0_8:Int):Oq (Int×(Int×(BA×Int×Int×Int×BA×Bool×Int×Int×Int))) :=
 ((numP b0_4 9999999).bind fun r0 =>
 (brE ((b0_2 != 3)==false)
 (brE (!r0.2)
 (some (0,(0,(b0,(b0_1,(b0_2,(b0_3,(b0_4,(true,(b0_6,(b0_7,b0_8)))))))))))
 ((qy1 3 b0 b0_1 b0_2 b0_3 b0_4 b0_5 b0_6 b0_7 b0_8).bind fun r1 =>
 (some (r0.1,(r0.1,(r1.2.2.1,(r1.2.2.2.1,(r1.2.2.2.2.1,(r1.2.2.2.2.2.1,(r1.2.2.2.2.2.2.1,(r1.2.2.2.2.2.2.2.1,(r1.2.2.2.2.2.2.2.2.1,(r1.2.2.2.2.2.2.2.2.2.1,r1.2.2.2.2.2.2.2.2.2.2)))))))))))))
 (some (0,(0,(b0,(b0_1,(b0_2,(b0_3,(b0_4,(true,(b0_6,(b0_7,b0_8)))))))))))))
theorem qww {b0 b0_1 b0_2 b0_3 b0_4 b0_5 b0_6 b0_7 b0_8 r} (h:qx0 b0 b0_1 b0_2 b0_3 b0_4 b0_5 b0_6 b0_7 b0_8=some r):qwu b0 b0_1 b0_2 b0_3 b0_4 b0_5 b0_6 b0_7 b0_8=some r :=
 q92 (fn:=Tryz.f77) (es:=q14f) (hs:=q9l) [] (by kernel_rfl) rfl (by kernel_rfl) (by kernel_rfl) trivial trivial (by kernel_rfl) h
def qwv:=hentS Tryz.prog lv X0 77 [0,3,0,0,1,9,1,3,1,1,1,1,1,1,1,3,1,2,1,1,1,1,1,1,0] qwz qwx (fun x=>qwu x.2.1 x.2.2.1 x.2.2.2.1 x.2.2.2.2.1 x.2.2.2.2.2.1 x.2.2.2.2.2.2.1 x.2.2.2.2.2.2.2.1 x.2.2.2.2.2.2.2.2.1 x.2.2.2.2.2.2.2.2.2) (fun _ _ h=>q91 h)
def q9n:=qwv::q9l
def qyl (b0:BA) (b0_1 b0_2 b0_3:Int) (b0_4:BA) (b0_5:Bool) (b0_6 b0_7 b0_8:Int):Oq ((Int×L57×BA×Int×BA×Int)×((Int×L57×BA×Int×BA×Int)×(BA×Int×Int×Int×BA×Bool×Int×Int×Int))) :=
 (brE (decide ((wI b0_8)>8))
 ((qvn 2 (ByteArray.mk (List.toArray [(116:UInt8),(114:UInt8),(117:UInt8),(101:UInt8)])) b0 b0_1 b0_2 b0_3 b0_4 true b0_6 b0_7 (wI b0_8)).bind fun r0 =>
 (brE r0.1
 ((qy8 r0.2.2.1 r0.2.2.2.1 r0.2.2.2.2.1 r0.2.2.2.2.2.1 r0.2.2.2.2.2.2.1 r0.2.2.2.2.2.2.2.1 r0.2.2.2.2.2.2.2.2.1 r0.2.2.2.2.2.2.2.2.2.1 r0.2.2.2.2.2.2.2.2.2.2).bind fun r1 =>
 (some ((1,((EC.decL q5t []),(⟨#[]⟩,(0,(⟨#[]⟩,0))))),((1,((EC.decL q5t []),(⟨#[]⟩,(0,(⟨#[]⟩,0))))),(r1.2.2.2.1,(r1.2.2.2.2.1,(r1.2.2.2.2.2.1,(r1.2.2.2.2.2.2.1,(r1.2.2.2.2.2.2.2.1,(r1.2.2.2.2.2.2.2.2.1,(r1.2.2.2.2.2.2.2.2.2.1,(r1.2.2.2.2.2.2.2.2.2.2.1,r1.2.2.2.2.2.2.2.2.2.2.2))))))))))))
 ((qvn 2 (ByteArray.mk (List.toArray [(110:UInt8),(111:UInt8),(116:UInt8)])) r0.2.2.1 r0.2.2.2.1 r0.2.2.2.2.1 r0.2.2.2.2.2.1 r0.2.2.2.2.2.2.1 r0.2.2.2.2.2.2.2.1 r0.2.2.2.2.2.2.2.2.1 r0.2.2.2.2.2.2.2.2.2.1 r0.2.2.2.2.2.2.2.2.2.2).bind fun r1 =>
 (brE r1.1
 ((qyf r1.2.2.1 r1.2.2.2.1 r1.2.2.2.2.1 r1.2.2.2.2.2.1 r1.2.2.2.2.2.2.1 r1.2.2.2.2.2.2.2.1 r1.2.2.2.2.2.2.2.2.1 r1.2.2.2.2.2.2.2.2.2.1 r1.2.2.2.2.2.2.2.2.2.2).bind fun r2 =>
 ((qy8 r2.2.2.1 r2.2.2.2.1 r2.2.2.2.2.1 r2.2.2.2.2.2.1 r2.2.2.2.2.2.2.1 r2.2.2.2.2.2.2.2.1 r2.2.2.2.2.2.2.2.2.1 r2.2.2.2.2.2.2.2.2.2.1 r2.2.2.2.2.2.2.2.2.2.2).bind fun r3 =>
 (gdE (EC.isL q5t [[(C.int Go.IntKind.i64 r2.1.1),(C.sl (EC.encL q5t r2.1.2.1)),(C.str r2.1.2.2.1),(C.int Go.IntKind.i64 r2.1.2.2.2.1),(C.str r2.1.2.2.2.2.1),(C.int Go.IntKind.i64 r2.1.2.2.2.2.2)]])<|
 (gdE (EC.isL q5t [[(C.int Go.IntKind.i64 r2.1.1),(C.sl (EC.encL q5t r2.1.2.1)),(C.str r2.1.2.2.1),(C.int Go.IntKind.i64 r2.1.2.2.2.1),(C.str r2.1.2.2.2.2.1),(C.int Go.IntKind.i64 r2.1.2.2.2.2.2)]])<|
 (some ((2,((EC.decL q5t [[(C.int Go.IntKind.i64 r2.1.1),(C.sl (EC.encL q5t r2.1.2.1)),(C.str r2.1.2.2.1),(C.int Go.IntKind.i64 r2.1.2.2.2.1),(C.str r2.1.2.2.2.2.1),(C.int Go.IntKind.i64 r2.1.2.2.2.2.2)]]),(⟨#[]⟩,(0,(⟨#[]⟩,0))))),((2,((EC.decL q5t [[(C.int Go.IntKind.i64 r2.1.1),(C.sl (EC.encL q5t r2.1.2.1)),(C.str r2.1.2.2.1),(C.int Go.IntKind.i64 r2.1.2.2.2.1),(C.str r2.1.2.2.2.2.1),(C.int Go.IntKind.i64 r2.1.2.2.2.2.2)]]),(⟨#[]⟩,(0,(⟨#[]⟩,0))))),(r3.2.2.2.1,(r3.2.2.2.2.1,(r3.2.2.2.2.2.1,(r3.2.2.2.2.2.2.1,(r3.2.2.2.2.2.2.2.1,(r3.2.2.2.2.2.2.2.2.1,(r3.2.2.2.2.2.2.2.2.2.1,(r3.2.2.2.2.2.2.2.2.2.2.1,r3.2.2.2.2.2.2.2.2.2.2.2)))))))))))))))
 ((qvn 2 (ByteArray.mk (List.toArray [(97:UInt8),(108:UInt8),(108:UInt8)])) r1.2.2.1 r1.2.2.2.1 r1.2.2.2.2.1 r1.2.2.2.2.2.1 r1.2.2.2.2.2.2.1 r1.2.2.2.2.2.2.2.1 r1.2.2.2.2.2.2.2.2.1 r1.2.2.2.2.2.2.2.2.2.1 r1.2.2.2.2.2.2.2.2.2.2).bind fun r2 =>
 (brE r2.1
 ((qvu r2.2.2.1 r2.2.2.2.1 r2.2.2.2.2.1 r2.2.2.2.2.2.1 r2.2.2.2.2.2.2.1 r2.2.2.2.2.2.2.2.1 r2.2.2.2.2.2.2.2.2.1 r2.2.2.2.2.2.2.2.2.2.1 r2.2.2.2.2.2.2.2.2.2.2).bind fun r3 =>
 ((qy8 r3.2.2.1 r3.2.2.2.1 r3.2.2.2.2.1 r3.2.2.2.2.2.1 r3.2.2.2.2.2.2.1 r3.2.2.2.2.2.2.2.1 r3.2.2.2.2.2.2.2.2.1 r3.2.2.2.2.2.2.2.2.2.1 r3.2.2.2.2.2.2.2.2.2.2).bind fun r4 =>
 (gL q5t r3.1<|
 (gL q5t r3.1<|
 (some ((3,((dL q5t r3.1),(⟨#[]⟩,(0,(⟨#[]⟩,0))))),((3,((dL q5t r3.1),(⟨#[]⟩,(0,(⟨#[]⟩,0))))),(r4.2.2.2.1,(r4.2.2.2.2.1,(r4.2.2.2.2.2.1,(r4.2.2.2.2.2.2.1,(r4.2.2.2.2.2.2.2.1,(r4.2.2.2.2.2.2.2.2.1,(r4.2.2.2.2.2.2.2.2.2.1,(r4.2.2.2.2.2.2.2.2.2.2.1,r4.2.2.2.2.2.2.2.2.2.2.2)))))))))))))))
 ((qvn 2 (ByteArray.mk (List.toArray [(97:UInt8),(110:UInt8),(121:UInt8)])) r2.2.2.1 r2.2.2.2.1 r2.2.2.2.2.1 r2.2.2.2.2.2.1 r2.2.2.2.2.2.2.1 r2.2.2.2.2.2.2.2.1 r2.2.2.2.2.2.2.2.2.1 r2.2.2.2.2.2.2.2.2.2.1 r2.2.2.2.2.2.2.2.2.2.2).bind fun r3 =>
 (brE r3.1
 ((qvu r3.2.2.1 r3.2.2.2.1 r3.2.2.2.2.1 r3.2.2.2.2.2.1 r3.2.2.2.2.2.2.1 r3.2.2.2.2.2.2.2.1 r3.2.2.2.2.2.2.2.2.1 r3.2.2.2.2.2.2.2.2.2.1 r3.2.2.2.2.2.2.2.2.2.2).bind fun r4 =>
 ((qy8 r4.2.2.1 r4.2.2.2.1 r4.2.2.2.2.1 r4.2.2.2.2.2.1 r4.2.2.2.2.2.2.1 r4.2.2.2.2.2.2.2.1 r4.2.2.2.2.2.2.2.2.1 r4.2.2.2.2.2.2.2.2.2.1 r4.2.2.2.2.2.2.2.2.2.2).bind fun r5 =>
 (gL q5t r4.1<|
 (gL q5t r4.1<|
 (some ((4,((dL q5t r4.1),(⟨#[]⟩,(0,(⟨#[]⟩,0))))),((4,((dL q5t r4.1),(⟨#[]⟩,(0,(⟨#[]⟩,0))))),(r5.2.2.2.1,(r5.2.2.2.2.1,(r5.2.2.2.2.2.1,(r5.2.2.2.2.2.2.1,(r5.2.2.2.2.2.2.2.1,(r5.2.2.2.2.2.2.2.2.1,(r5.2.2.2.2.2.2.2.2.2.1,(r5.2.2.2.2.2.2.2.2.2.2.1,r5.2.2.2.2.2.2.2.2.2.2.2)))))))))))))))
 ((qvn 2 (ByteArray.mk (List.toArray [(104:UInt8),(101:UInt8),(97:UInt8),(100:UInt8),(101:UInt8),(114:UInt8)])) r3.2.2.1 r3.2.2.2.1 r3.2.2.2.2.1 r3.2.2.2.2.2.1 r3.2.2.2.2.2.2.1 r3.2.2.2.2.2.2.2.1 r3.2.2.2.2.2.2.2.2.1 r3.2.2.2.2.2.2.2.2.2.1 r3.2.2.2.2.2.2.2.2.2.2).bind fun r4 =>
 (brE r4.1
 ((qy1 1 r4.2.2.1 r4.2.2.2.1 r4.2.2.2.2.1 r4.2.2.2.2.2.1 r4.2.2.2.2.2.2.1 r4.2.2.2.2.2.2.2.1 r4.2.2.2.2.2.2.2.2.1 r4.2.2.2.2.2.2.2.2.2.1 r4.2.2.2.2.2.2.2.2.2.2).bind fun r5 =>
 ((qw8 r5.2.2.1 r5.2.2.2.1 r5.2.2.2.2.1 r5.2.2.2.2.2.1 r5.2.2.2.2.2.2.1 r5.2.2.2.2.2.2.2.1 r5.2.2.2.2.2.2.2.2.1 r5.2.2.2.2.2.2.2.2.2.1 r5.2.2.2.2.2.2.2.2.2.2 5 0 r5.1 0 ⟨#[]⟩ 0 (EC.decL q5t [])).bind fun r6 =>
 ((qy8 r6.2.2.1.1 r6.2.2.1.2.1 r6.2.2.1.2.2.1 r6.2.2.1.2.2.2.1 r6.2.2.1.2.2.2.2.1 r6.2.2.1.2.2.2.2.2.1 r6.2.2.1.2.2.2.2.2.2.1 r6.2.2.1.2.2.2.2.2.2.2.1 r6.2.2.1.2.2.2.2.2.2.2.2).bind fun r7 =>
 (gL q5t r6.2.2.2.2<|
 (gL q5t r6.2.2.2.2<|
 (some ((r6.2.2.2.1.1,((dL q5t r6.2.2.2.2),(r6.2.2.2.1.2.2.1,(r6.2.2.2.1.2.2.2.1,(r6.2.2.2.1.2.2.2.2.1,r6.2.2.2.1.2.2.2.2.2))))),((r6.2.2.2.1.1,((dL q5t r6.2.2.2.2),(r6.2.2.2.1.2.2.1,(r6.2.2.2.1.2.2.2.1,(r6.2.2.2.1.2.2.2.2.1,r6.2.2.2.1.2.2.2.2.2))))),(r7.2.2.2.1,(r7.2.2.2.2.1,(r7.2.2.2.2.2.1,(r7.2.2.2.2.2.2.1,(r7.2.2.2.2.2.2.2.1,(r7.2.2.2.2.2.2.2.2.1,(r7.2.2.2.2.2.2.2.2.2.1,(r7.2.2.2.2.2.2.2.2.2.2.1,r7.2.2.2.2.2.2.2.2.2.2.2))))))))))))))))
 ((qvn 2 (ByteArray.mk (List.toArray [(102:UInt8),(114:UInt8),(111:UInt8),(109:UInt8)])) r4.2.2.1 r4.2.2.2.1 r4.2.2.2.2.1 r4.2.2.2.2.2.1 r4.2.2.2.2.2.2.1 r4.2.2.2.2.2.2.2.1 r4.2.2.2.2.2.2.2.2.1 r4.2.2.2.2.2.2.2.2.2.1 r4.2.2.2.2.2.2.2.2.2.2).bind fun r5 =>
 (brE r5.1
 ((qw8 r5.2.2.1 r5.2.2.2.1 r5.2.2.2.2.1 r5.2.2.2.2.2.1 r5.2.2.2.2.2.2.1 r5.2.2.2.2.2.2.2.1 r5.2.2.2.2.2.2.2.2.1 r5.2.2.2.2.2.2.2.2.2.1 r5.2.2.2.2.2.2.2.2.2.2 6 0 ⟨#[]⟩ 0 ⟨#[]⟩ 0 (EC.decL q5t [])).bind fun r6 =>
 ((qy8 r6.2.2.1.1 r6.2.2.1.2.1 r6.2.2.1.2.2.1 r6.2.2.1.2.2.2.1 r6.2.2.1.2.2.2.2.1 r6.2.2.1.2.2.2.2.2.1 r6.2.2.1.2.2.2.2.2.2.1 r6.2.2.1.2.2.2.2.2.2.2.1 r6.2.2.1.2.2.2.2.2.2.2.2).bind fun r7 =>
 (gL q5t r6.2.2.2.2<|
 (gL q5t r6.2.2.2.2<|
 (some ((r6.2.2.2.1.1,((dL q5t r6.2.2.2.2),(r6.2.2.2.1.2.2.1,(r6.2.2.2.1.2.2.2.1,(r6.2.2.2.1.2.2.2.2.1,r6.2.2.2.1.2.2.2.2.2))))),((r6.2.2.2.1.1,((dL q5t r6.2.2.2.2),(r6.2.2.2.1.2.2.1,(r6.2.2.2.1.2.2.2.1,(r6.2.2.2.1.2.2.2.2.1,r6.2.2.2.1.2.2.2.2.2))))),(r7.2.2.2.1,(r7.2.2.2.2.1,(r7.2.2.2.2.2.1,(r7.2.2.2.2.2.2.1,(r7.2.2.2.2.2.2.2.1,(r7.2.2.2.2.2.2.2.2.1,(r7.2.2.2.2.2.2.2.2.2.1,(r7.2.2.2.2.2.2.2.2.2.2.1,r7.2.2.2.2.2.2.2.2.2.2.2)))))))))))))))
 ((qvn 2 (ByteArray.mk (List.toArray [(116:UInt8),(111:UInt8)])) r5.2.2.1 r5.2.2.2.1 r5.2.2.2.2.1 r5.2.2.2.2.2.1 r5.2.2.2.2.2.2.1 r5.2.2.2.2.2.2.2.1 r5.2.2.2.2.2.2.2.2.1 r5.2.2.2.2.2.2.2.2.2.1 r5.2.2.2.2.2.2.2.2.2.2).bind fun r6 =>
 (brE r6.1
 ((qw8 r6.2.2.1 r6.2.2.2.1 r6.2.2.2.2.1 r6.2.2.2.2.2.1 r6.2.2.2.2.2.2.1 r6.2.2.2.2.2.2.2.1 r6.2.2.2.2.2.2.2.2.1 r6.2.2.2.2.2.2.2.2.2.1 r6.2.2.2.2.2.2.2.2.2.2 7 0 ⟨#[]⟩ 0 ⟨#[]⟩ 0 (EC.decL q5t [])).bind fun r7 =>
 ((qy8 r7.2.2.1.1 r7.2.2.1.2.1 r7.2.2.1.2.2.1 r7.2.2.1.2.2.2.1 r7.2.2.1.2.2.2.2.1 r7.2.2.1.2.2.2.2.2.1 r7.2.2.1.2.2.2.2.2.2.1 r7.2.2.1.2.2.2.2.2.2.2.1 r7.2.2.1.2.2.2.2.2.2.2.2).bind fun r8 =>
 (gL q5t r7.2.2.2.2<|
 (gL q5t r7.2.2.2.2<|
 (some ((r7.2.2.2.1.1,((dL q5t r7.2.2.2.2),(r7.2.2.2.1.2.2.1,(r7.2.2.2.1.2.2.2.1,(r7.2.2.2.1.2.2.2.2.1,r7.2.2.2.1.2.2.2.2.2))))),((r7.2.2.2.1.1,((dL q5t r7.2.2.2.2),(r7.2.2.2.1.2.2.1,(r7.2.2.2.1.2.2.2.1,(r7.2.2.2.1.2.2.2.2.1,r7.2.2.2.1.2.2.2.2.2))))),(r8.2.2.2.1,(r8.2.2.2.2.1,(r8.2.2.2.2.2.1,(r8.2.2.2.2.2.2.1,(r8.2.2.2.2.2.2.2.1,(r8.2.2.2.2.2.2.2.2.1,(r8.2.2.2.2.2.2.2.2.2.1,(r8.2.2.2.2.2.2.2.2.2.2.1,r8.2.2.2.2.2.2.2.2.2.2.2)))))))))))))))
 ((qvn 2 (ByteArray.mk (List.toArray [(115:UInt8),(105:UInt8),(122:UInt8),(101:UInt8)])) r6.2.2.1 r6.2.2.2.1 r6.2.2.2.2.1 r6.2.2.2.2.2.1 r6.2.2.2.2.2.2.1 r6.2.2.2.2.2.2.2.1 r6.2.2.2.2.2.2.2.2.1 r6.2.2.2.2.2.2.2.2.2.1 r6.2.2.2.2.2.2.2.2.2.2).bind fun r7 =>
 (brE r7.1
 ((qwu r7.2.2.1 r7.2.2.2.1 r7.2.2.2.2.1 r7.2.2.2.2.2.1 r7.2.2.2.2.2.2.1 r7.2.2.2.2.2.2.2.1 r7.2.2.2.2.2.2.2.2.1 r7.2.2.2.2.2.2.2.2.2.1 r7.2.2.2.2.2.2.2.2.2.2).bind fun r8 =>
 ((qy8 r8.2.2.1 r8.2.2.2.1 r8.2.2.2.2.1 r8.2.2.2.2.2.1 r8.2.2.2.2.2.2.1 r8.2.2.2.2.2.2.2.1 r8.2.2.2.2.2.2.2.2.1 r8.2.2.2.2.2.2.2.2.2.1 r8.2.2.2.2.2.2.2.2.2.2).bind fun r9 =>
 (some ((8,((EC.decL q5t []),(⟨#[]⟩,(0,(⟨#[]⟩,r8.1))))),((8,((EC.decL q5t []),(⟨#[]⟩,(0,(⟨#[]⟩,r8.1))))),(r9.2.2.2.1,(r9.2.2.2.2.1,(r9.2.2.2.2.2.1,(r9.2.2.2.2.2.2.1,(r9.2.2.2.2.2.2.2.1,(r9.2.2.2.2.2.2.2.2.1,(r9.2.2.2.2.2.2.2.2.2.1,(r9.2.2.2.2.2.2.2.2.2.2.1,r9.2.2.2.2.2.2.2.2.2.2.2)))))))))))))
 ((qvn 2 (ByteArray.mk (List.toArray [(101:UInt8),(120:UInt8),(105:UInt8),(115:UInt8),(116:UInt8),(115:UInt8)])) r7.2.2.1 r7.2.2.2.1 r7.2.2.2.2.1 r7.2.2.2.2.2.1 r7.2.2.2.2.2.2.1 r7.2.2.2.2.2.2.2.1 r7.2.2.2.2.2.2.2.2.1 r7.2.2.2.2.2.2.2.2.2.1 r7.2.2.2.2.2.2.2.2.2.2).bind fun r8 =>
 (brE r8.1
 ((qy1 1 r8.2.2.1 r8.2.2.2.1 r8.2.2.2.2.1 r8.2.2.2.2.2.1 r8.2.2.2.2.2.2.1 r8.2.2.2.2.2.2.2.1 r8.2.2.2.2.2.2.2.2.1 r8.2.2.2.2.2.2.2.2.2.1 r8.2.2.2.2.2.2.2.2.2.2).bind fun r9 =>
 ((qy8 r9.2.2.1 r9.2.2.2.1 r9.2.2.2.2.1 r9.2.2.2.2.2.1 r9.2.2.2.2.2.2.1 r9.2.2.2.2.2.2.2.1 r9.2.2.2.2.2.2.2.2.1 r9.2.2.2.2.2.2.2.2.2.1 r9.2.2.2.2.2.2.2.2.2.2).bind fun r10 =>
 (some ((9,((EC.decL q5t []),(r9.1,(0,(⟨#[]⟩,0))))),((9,((EC.decL q5t []),(r9.1,(0,(⟨#[]⟩,0))))),(r10.2.2.2.1,(r10.2.2.2.2.1,(r10.2.2.2.2.2.1,(r10.2.2.2.2.2.2.1,(r10.2.2.2.2.2.2.2.1,(r10.2.2.2.2.2.2.2.2.1,(r10.2.2.2.2.2.2.2.2.2.1,(r10.2.2.2.2.2.2.2.2.2.2.1,r10.2.2.2.2.2.2.2.2.2.2.2)))))))))))))
 ((qy8 r8.2.2.1 r8.2.2.2.1 r8.2.2.2.2.1 r8.2.2.2.2.2.1 r8.2.2.2.2.2.2.1 true r8.2.2.2.2.2.2.2.2.1 r8.2.2.2.2.2.2.2.2.2.1 r8.2.2.2.2.2.2.2.2.2.2).bind fun r9 =>
 (some ((0,((EC.decL q5t []),(⟨#[]⟩,(0,(⟨#[]⟩,0))))),((0,((EC.decL q5t []),(⟨#[]⟩,(0,(⟨#[]⟩,0))))),(r9.2.2.2.1,(r9.2.2.2.2.1,(r9.2.2.2.2.2.1,(r9.2.2.2.2.2.2.1,(r9.2.2.2.2.2.2.2.1,(r9.2.2.2.2.2.2.2.2.1,(r9.2.2.2.2.2.2.2.2.2.1,(r9.2.2.2.2.2.2.2.2.2.2.1,r9.2.2.2.2.2.2.2.2.2.2.2))))))))))))))))))))))))))))))
 ((qvn 2 (ByteArray.mk (List.toArray [(116:UInt8),(114:UInt8),(117:UInt8),(101:UInt8)])) b0 b0_1 b0_2 b0_3 b0_4 b0_5 b0_6 b0_7 (wI b0_8)).bind fun r0 =>
 (brE r0.1
 ((qy8 r0.2.2.1 r0.2.2.2.1 r0.2.2.2.2.1 r0.2.2.2.2.2.1 r0.2.2.2.2.2.2.1 r0.2.2.2.2.2.2.2.1 r0.2.2.2.2.2.2.2.2.1 r0.2.2.2.2.2.2.2.2.2.1 r0.2.2.2.2.2.2.2.2.2.2).bind fun r1 =>
 (some ((1,((EC.decL q5t []),(⟨#[]⟩,(0,(⟨#[]⟩,0))))),((1,((EC.decL q5t []),(⟨#[]⟩,(0,(⟨#[]⟩,0))))),(r1.2.2.2.1,(r1.2.2.2.2.1,(r1.2.2.2.2.2.1,(r1.2.2.2.2.2.2.1,(r1.2.2.2.2.2.2.2.1,(r1.2.2.2.2.2.2.2.2.1,(r1.2.2.2.2.2.2.2.2.2.1,(r1.2.2.2.2.2.2.2.2.2.2.1,r1.2.2.2.2.2.2.2.2.2.2.2))))))))))))
 ((qvn 2 (ByteArray.mk (List.toArray [(110:UInt8),(111:UInt8),(116:UInt8)])) r0.2.2.1 r0.2.2.2.1 r0.2.2.2.2.1 r0.2.2.2.2.2.1 r0.2.2.2.2.2.2.1 r0.2.2.2.2.2.2.2.1 r0.2.2.2.2.2.2.2.2.1 r0.2.2.2.2.2.2.2.2.2.1 r0.2.2.2.2.2.2.2.2.2.2).bind fun r1 =>
 (brE r1.1
 ((qyf r1.2.2.1 r1.2.2.2.1 r1.2.2.2.2.1 r1.2.2.2.2.2.1 r1.2.2.2.2.2.2.1 r1.2.2.2.2.2.2.2.1 r1.2.2.2.2.2.2.2.2.1 r1.2.2.2.2.2.2.2.2.2.1 r1.2.2.2.2.2.2.2.2.2.2).bind fun r2 =>
 ((qy8 r2.2.2.1 r2.2.2.2.1 r2.2.2.2.2.1 r2.2.2.2.2.2.1 r2.2.2.2.2.2.2.1 r2.2.2.2.2.2.2.2.1 r2.2.2.2.2.2.2.2.2.1 r2.2.2.2.2.2.2.2.2.2.1 r2.2.2.2.2.2.2.2.2.2.2).bind fun r3 =>
 (gdE (EC.isL q5t [[(C.int Go.IntKind.i64 r2.1.1),(C.sl (EC.encL q5t r2.1.2.1)),(C.str r2.1.2.2.1),(C.int Go.IntKind.i64 r2.1.2.2.2.1),(C.str r2.1.2.2.2.2.1),(C.int Go.IntKind.i64 r2.1.2.2.2.2.2)]])<|
 (gdE (EC.isL q5t [[(C.int Go.IntKind.i64 r2.1.1),(C.sl (EC.encL q5t r2.1.2.1)),(C.str r2.1.2.2.1),(C.int Go.IntKind.i64 r2.1.2.2.2.1),(C.str r2.1.2.2.2.2.1),(C.int Go.IntKind.i64 r2.1.2.2.2.2.2)]])<|
 (some ((2,((EC.decL q5t [[(C.int Go.IntKind.i64 r2.1.1),(C.sl (EC.encL q5t r2.1.2.1)),(C.str r2.1.2.2.1),(C.int Go.IntKind.i64 r2.1.2.2.2.1),(C.str r2.1.2.2.2.2.1),(C.int Go.IntKind.i64 r2.1.2.2.2.2.2)]]),(⟨#[]⟩,(0,(⟨#[]⟩,0))))),((2,((EC.decL q5t [[(C.int Go.IntKind.i64 r2.1.1),(C.sl (EC.encL q5t r2.1.2.1)),(C.str r2.1.2.2.1),(C.int Go.IntKind.i64 r2.1.2.2.2.1),(C.str r2.1.2.2.2.2.1),(C.int Go.IntKind.i64 r2.1.2.2.2.2.2)]]),(⟨#[]⟩,(0,(⟨#[]⟩,0))))),(r3.2.2.2.1,(r3.2.2.2.2.1,(r3.2.2.2.2.2.1,(r3.2.2.2.2.2.2.1,(r3.2.2.2.2.2.2.2.1,(r3.2.2.2.2.2.2.2.2.1,(r3.2.2.2.2.2.2.2.2.2.1,(r3.2.2.2.2.2.2.2.2.2.2.1,r3.2.2.2.2.2.2.2.2.2.2.2)))))))))))))))
 ((qvn 2 (ByteArray.mk (List.toArray [(97:UInt8),(108:UInt8),(108:UInt8)])) r1.2.2.1 r1.2.2.2.1 r1.2.2.2.2.1 r1.2.2.2.2.2.1 r1.2.2.2.2.2.2.1 r1.2.2.2.2.2.2.2.1 r1.2.2.2.2.2.2.2.2.1 r1.2.2.2.2.2.2.2.2.2.1 r1.2.2.2.2.2.2.2.2.2.2).bind fun r2 =>
 (brE r2.1
 ((qvu r2.2.2.1 r2.2.2.2.1 r2.2.2.2.2.1 r2.2.2.2.2.2.1 r2.2.2.2.2.2.2.1 r2.2.2.2.2.2.2.2.1 r2.2.2.2.2.2.2.2.2.1 r2.2.2.2.2.2.2.2.2.2.1 r2.2.2.2.2.2.2.2.2.2.2).bind fun r3 =>
 ((qy8 r3.2.2.1 r3.2.2.2.1 r3.2.2.2.2.1 r3.2.2.2.2.2.1 r3.2.2.2.2.2.2.1 r3.2.2.2.2.2.2.2.1 r3.2.2.2.2.2.2.2.2.1 r3.2.2.2.2.2.2.2.2.2.1 r3.2.2.2.2.2.2.2.2.2.2).bind fun r4 =>
 (gL q5t r3.1<|
 (gL q5t r3.1<|
 (some ((3,((dL q5t r3.1),(⟨#[]⟩,(0,(⟨#[]⟩,0))))),((3,((dL q5t r3.1),(⟨#[]⟩,(0,(⟨#[]⟩,0))))),(r4.2.2.2.1,(r4.2.2.2.2.1,(r4.2.2.2.2.2.1,(r4.2.2.2.2.2.2.1,(r4.2.2.2.2.2.2.2.1,(r4.2.2.2.2.2.2.2.2.1,(r4.2.2.2.2.2.2.2.2.2.1,(r4.2.2.2.2.2.2.2.2.2.2.1,r4.2.2.2.2.2.2.2.2.2.2.2)))))))))))))))
 ((qvn 2 (ByteArray.mk (List.toArray [(97:UInt8),(110:UInt8),(121:UInt8)])) r2.2.2.1 r2.2.2.2.1 r2.2.2.2.2.1 r2.2.2.2.2.2.1 r2.2.2.2.2.2.2.1 r2.2.2.2.2.2.2.2.1 r2.2.2.2.2.2.2.2.2.1 r2.2.2.2.2.2.2.2.2.2.1 r2.2.2.2.2.2.2.2.2.2.2).bind fun r3 =>
 (brE r3.1
 ((qvu r3.2.2.1 r3.2.2.2.1 r3.2.2.2.2.1 r3.2.2.2.2.2.1 r3.2.2.2.2.2.2.1 r3.2.2.2.2.2.2.2.1 r3.2.2.2.2.2.2.2.2.1 r3.2.2.2.2.2.2.2.2.2.1 r3.2.2.2.2.2.2.2.2.2.2).bind fun r4 =>
 ((qy8 r4.2.2.1 r4.2.2.2.1 r4.2.2.2.2.1 r4.2.2.2.2.2.1 r4.2.2.2.2.2.2.1 r4.2.2.2.2.2.2.2.1 r4.2.2.2.2.2.2.2.2.1 r4.2.2.2.2.2.2.2.2.2.1 r4.2.2.2.2.2.2.2.2.2.2).bind fun r5 =>
 (gL q5t r4.1<|
 (gL q5t r4.1<|
 (some ((4,((dL q5t r4.1),(⟨#[]⟩,(0,(⟨#[]⟩,0))))),((4,((dL q5t r4.1),(⟨#[]⟩,(0,(⟨#[]⟩,0))))),(r5.2.2.2.1,(r5.2.2.2.2.1,(r5.2.2.2.2.2.1,(r5.2.2.2.2.2.2.1,(r5.2.2.2.2.2.2.2.1,(r5.2.2.2.2.2.2.2.2.1,(r5.2.2.2.2.2.2.2.2.2.1,(r5.2.2.2.2.2.2.2.2.2.2.1,r5.2.2.2.2.2.2.2.2.2.2.2)))))))))))))))
 ((qvn 2 (ByteArray.mk (List.toArray [(104:UInt8),(101:UInt8),(97:UInt8),(100:UInt8),(101:UInt8),(114:UInt8)])) r3.2.2.1 r3.2.2.2.1 r3.2.2.2.2.1 r3.2.2.2.2.2.1 r3.2.2.2.2.2.2.1 r3.2.2.2.2.2.2.2.1 r3.2.2.2.2.2.2.2.2.1 r3.2.2.2.2.2.2.2.2.2.1 r3.2.2.2.2.2.2.2.2.2.2).bind fun r4 =>
 (brE r4.1
 ((qy1 1 r4.2.2.1 r4.2.2.2.1 r4.2.2.2.2.1 r4.2.2.2.2.2.1 r4.2.2.2.2.2.2.1 r4.2.2.2.2.2.2.2.1 r4.2.2.2.2.2.2.2.2.1 r4.2.2.2.2.2.2.2.2.2.1 r4.2.2.2.2.2.2.2.2.2.2).bind fun r5 =>
 ((qw8 r5.2.2.1 r5.2.2.2.1 r5.2.2.2.2.1 r5.2.2.2.2.2.1 r5.2.2.2.2.2.2.1 r5.2.2.2.2.2.2.2.1 r5.2.2.2.2.2.2.2.2.1 r5.2.2.2.2.2.2.2.2.2.1 r5.2.2.2.2.2.2.2.2.2.2 5 0 r5.1 0 ⟨#[]⟩ 0 (EC.decL q5t [])).bind fun r6 =>
 ((qy8 r6.2.2.1.1 r6.2.2.1.2.1 r6.2.2.1.2.2.1 r6.2.2.1.2.2.2.1 r6.2.2.1.2.2.2.2.1 r6.2.2.1.2.2.2.2.2.1 r6.2.2.1.2.2.2.2.2.2.1 r6.2.2.1.2.2.2.2.2.2.2.1 r6.2.2.1.2.2.2.2.2.2.2.2).bind fun r7 =>
 (gL q5t r6.2.2.2.2<|
 (gL q5t r6.2.2.2.2<|
 (some ((r6.2.2.2.1.1,((dL q5t r6.2.2.2.2),(r6.2.2.2.1.2.2.1,(r6.2.2.2.1.2.2.2.1,(r6.2.2.2.1.2.2.2.2.1,r6.2.2.2.1.2.2.2.2.2))))),((r6.2.2.2.1.1,((dL q5t r6.2.2.2.2),(r6.2.2.2.1.2.2.1,(r6.2.2.2.1.2.2.2.1,(r6.2.2.2.1.2.2.2.2.1,r6.2.2.2.1.2.2.2.2.2))))),(r7.2.2.2.1,(r7.2.2.2.2.1,(r7.2.2.2.2.2.1,(r7.2.2.2.2.2.2.1,(r7.2.2.2.2.2.2.2.1,(r7.2.2.2.2.2.2.2.2.1,(r7.2.2.2.2.2.2.2.2.2.1,(r7.2.2.2.2.2.2.2.2.2.2.1,r7.2.2.2.2.2.2.2.2.2.2.2))))))))))))))))
 ((qvn 2 (ByteArray.mk (List.toArray [(102:UInt8),(114:UInt8),(111:UInt8),(109:UInt8)])) r4.2.2.1 r4.2.2.2.1 r4.2.2.2.2.1 r4.2.2.2.2.2.1 r4.2.2.2.2.2.2.1 r4.2.2.2.2.2.2.2.1 r4.2.2.2.2.2.2.2.2.1 r4.2.2.2.2.2.2.2.2.2.1 r4.2.2.2.2.2.2.2.2.2.2).bind fun r5 =>
 (brE r5.1
 ((qw8 r5.2.2.1 r5.2.2.2.1 r5.2.2.2.2.1 r5.2.2.2.2.2.1 r5.2.2.2.2.2.2.1 r5.2.2.2.2.2.2.2.1 r5.2.2.2.2.2.2.2.2.1 r5.2.2.2.2.2.2.2.2.2.1 r5.2.2.2.2.2.2.2.2.2.2 6 0 ⟨#[]⟩ 0 ⟨#[]⟩ 0 (EC.decL q5t [])).bind fun r6 =>
 ((qy8 r6.2.2.1.1 r6.2.2.1.2.1 r6.2.2.1.2.2.1 r6.2.2.1.2.2.2.1 r6.2.2.1.2.2.2.2.1 r6.2.2.1.2.2.2.2.2.1 r6.2.2.1.2.2.2.2.2.2.1 r6.2.2.1.2.2.2.2.2.2.2.1 r6.2.2.1.2.2.2.2.2.2.2.2).bind fun r7 =>
 (gL q5t r6.2.2.2.2<|
 (gL q5t r6.2.2.2.2<|
 (some ((r6.2.2.2.1.1,((dL q5t r6.2.2.2.2),(r6.2.2.2.1.2.2.1,(r6.2.2.2.1.2.2.2.1,(r6.2.2.2.1.2.2.2.2.1,r6.2.2.2.1.2.2.2.2.2))))),((r6.2.2.2.1.1,((dL q5t r6.2.2.2.2),(r6.2.2.2.1.2.2.1,(r6.2.2.2.1.2.2.2.1,(r6.2.2.2.1.2.2.2.2.1,r6.2.2.2.1.2.2.2.2.2))))),(r7.2.2.2.1,(r7.2.2.2.2.1,(r7.2.2.2.2.2.1,(r7.2.2.2.2.2.2.1,(r7.2.2.2.2.2.2.2.1,(r7.2.2.2.2.2.2.2.2.1,(r7.2.2.2.2.2.2.2.2.2.1,(r7.2.2.2.2.2.2.2.2.2.2.1,r7.2.2.2.2.2.2.2.2.2.2.2)))))))))))))))
 ((qvn 2 (ByteArray.mk (List.toArray [(116:UInt8),(111:UInt8)])) r5.2.2.1 r5.2.2.2.1 r5.2.2.2.2.1 r5.2.2.2.2.2.1 r5.2.2.2.2.2.2.1 r5.2.2.2.2.2.2.2.1 r5.2.2.2.2.2.2.2.2.1 r5.2.2.2.2.2.2.2.2.2.1 r5.2.2.2.2.2.2.2.2.2.2).bind fun r6 =>
 (brE r6.1
 ((qw8 r6.2.2.1 r6.2.2.2.1 r6.2.2.2.2.1 r6.2.2.2.2.2.1 r6.2.2.2.2.2.2.1 r6.2.2.2.2.2.2.2.1 r6.2.2.2.2.2.2.2.2.1 r6.2.2.2.2.2.2.2.2.2.1 r6.2.2.2.2.2.2.2.2.2.2 7 0 ⟨#[]⟩ 0 ⟨#[]⟩ 0 (EC.decL q5t [])).bind fun r7 =>
 ((qy8 r7.2.2.1.1 r7.2.2.1.2.1 r7.2.2.1.2.2.1 r7.2.2.1.2.2.2.1 r7.2.2.1.2.2.2.2.1 r7.2.2.1.2.2.2.2.2.1 r7.2.2.1.2.2.2.2.2.2.1 r7.2.2.1.2.2.2.2.2.2.2.1 r7.2.2.1.2.2.2.2.2.2.2.2).bind fun r8 =>
 (gL q5t r7.2.2.2.2<|
 (gL q5t r7.2.2.2.2<|
 (some ((r7.2.2.2.1.1,((dL q5t r7.2.2.2.2),(r7.2.2.2.1.2.2.1,(r7.2.2.2.1.2.2.2.1,(r7.2.2.2.1.2.2.2.2.1,r7.2.2.2.1.2.2.2.2.2))))),((r7.2.2.2.1.1,((dL q5t r7.2.2.2.2),(r7.2.2.2.1.2.2.1,(r7.2.2.2.1.2.2.2.1,(r7.2.2.2.1.2.2.2.2.1,r7.2.2.2.1.2.2.2.2.2))))),(r8.2.2.2.1,(r8.2.2.2.2.1,(r8.2.2.2.2.2.1,(r8.2.2.2.2.2.2.1,(r8.2.2.2.2.2.2.2.1,(r8.2.2.2.2.2.2.2.2.1,(r8.2.2.2.2.2.2.2.2.2.1,(r8.2.2.2.2.2.2.2.2.2.2.1,r8.2.2.2.2.2.2.2.2.2.2.2)))))))))))))))
 ((qvn 2 (ByteArray.mk (List.toArray [(115:UInt8),(105:UInt8),(122:UInt8),(101:UInt8)])) r6.2.2.1 r6.2.2.2.1 r6.2.2.2.2.1 r6.2.2.2.2.2.1 r6.2.2.2.2.2.2.1 r6.2.2.2.2.2.2.2.1 r6.2.2.2.2.2.2.2.2.1 r6.2.2.2.2.2.2.2.2.2.1 r6.2.2.2.2.2.2.2.2.2.2).bind fun r7 =>
 (brE r7.1
 ((qwu r7.2.2.1 r7.2.2.2.1 r7.2.2.2.2.1 r7.2.2.2.2.2.1 r7.2.2.2.2.2.2.1 r7.2.2.2.2.2.2.2.1 r7.2.2.2.2.2.2.2.2.1 r7.2.2.2.2.2.2.2.2.2.1 r7.2.2.2.2.2.2.2.2.2.2).bind fun r8 =>
 ((qy8 r8.2.2.1 r8.2.2.2.1 r8.2.2.2.2.1 r8.2.2.2.2.2.1 r8.2.2.2.2.2.2.1 r8.2.2.2.2.2.2.2.1 r8.2.2.2.2.2.2.2.2.1 r8.2.2.2.2.2.2.2.2.2.1 r8.2.2.2.2.2.2.2.2.2.2).bind fun r9 =>
 (some ((8,((EC.decL q5t []),(⟨#[]⟩,(0,(⟨#[]⟩,r8.1))))),((8,((EC.decL q5t []),(⟨#[]⟩,(0,(⟨#[]⟩,r8.1))))),(r9.2.2.2.1,(r9.2.2.2.2.1,(r9.2.2.2.2.2.1,(r9.2.2.2.2.2.2.1,(r9.2.2.2.2.2.2.2.1,(r9.2.2.2.2.2.2.2.2.1,(r9.2.2.2.2.2.2.2.2.2.1,(r9.2.2.2.2.2.2.2.2.2.2.1,r9.2.2.2.2.2.2.2.2.2.2.2)))))))))))))
 ((qvn 2 (ByteArray.mk (List.toArray [(101:UInt8),(120:UInt8),(105:UInt8),(115:UInt8),(116:UInt8),(115:UInt8)])) r7.2.2.1 r7.2.2.2.1 r7.2.2.2.2.1 r7.2.2.2.2.2.1 r7.2.2.2.2.2.2.1 r7.2.2.2.2.2.2.2.1 r7.2.2.2.2.2.2.2.2.1 r7.2.2.2.2.2.2.2.2.2.1 r7.2.2.2.2.2.2.2.2.2.2).bind fun r8 =>
 (brE r8.1
 ((qy1 1 r8.2.2.1 r8.2.2.2.1 r8.2.2.2.2.1 r8.2.2.2.2.2.1 r8.2.2.2.2.2.2.1 r8.2.2.2.2.2.2.2.1 r8.2.2.2.2.2.2.2.2.1 r8.2.2.2.2.2.2.2.2.2.1 r8.2.2.2.2.2.2.2.2.2.2).bind fun r9 =>
 ((qy8 r9.2.2.1 r9.2.2.2.1 r9.2.2.2.2.1 r9.2.2.2.2.2.1 r9.2.2.2.2.2.2.1 r9.2.2.2.2.2.2.2.1 r9.2.2.2.2.2.2.2.2.1 r9.2.2.2.2.2.2.2.2.2.1 r9.2.2.2.2.2.2.2.2.2.2).bind fun r10 =>
 (some ((9,((EC.decL q5t []),(r9.1,(0,(⟨#[]⟩,0))))),((9,((EC.decL q5t []),(r9.1,(0,(⟨#[]⟩,0))))),(r10.2.2.2.1,(r10.2.2.2.2.1,(r10.2.2.2.2.2.1,(r10.2.2.2.2.2.2.1,(r10.2.2.2.2.2.2.2.1,(r10.2.2.2.2.2.2.2.2.1,(r10.2.2.2.2.2.2.2.2.2.1,(r10.2.2.2.2.2.2.2.2.2.2.1,r10.2.2.2.2.2.2.2.2.2.2.2)))))))))))))
 ((qy8 r8.2.2.1 r8.2.2.2.1 r8.2.2.2.2.1 r8.2.2.2.2.2.1 r8.2.2.2.2.2.2.1 true r8.2.2.2.2.2.2.2.2.1 r8.2.2.2.2.2.2.2.2.2.1 r8.2.2.2.2.2.2.2.2.2.2).bind fun r9 =>
 (some ((0,((EC.decL q5t []),(⟨#[]⟩,(0,(⟨#[]⟩,0))))),((0,((EC.decL q5t []),(⟨#[]⟩,(0,(⟨#[]⟩,0))))),(r9.2.2.2.1,(r9.2.2.2.2.1,(r9.2.2.2.2.2.1,(r9.2.2.2.2.2.2.1,(r9.2.2.2.2.2.2.2.1,(r9.2.2.2.2.2.2.2.2.1,(r9.2.2.2.2.2.2.2.2.2.1,(r9.2.2.2.2.2.2.2.2.2.2.1,r9.2.2.2.2.2.2.2.2.2.2.2)))))))))))))))))))))))))))))))
theorem qyh {b0 b0_1 b0_2 b0_3 b0_4 b0_5 b0_6 b0_7 b0_8 r} (h:qyl b0 b0_1 b0_2 b0_3 b0_4 b0_5 b0_6 b0_7 b0_8=some r):qyf b0 b0_1 b0_2 b0_3 b0_4 b0_5 b0_6 b0_7 b0_8=some r :=
 q93 (fn:=Tryz.f55) (es:=q14f) (hs:=q9n) [] (by kernel_rfl) rfl (by kernel_rfl) (by kernel_rfl) (by kernel_rfl) (by kernel_rfl) (by kernel_rfl) (by kernel_rfl) trivial trivial (by kernel_rfl) h
def qvl:=sLS [0] z1t (qb9 z1n) [false] [0] (by decide) (fun _=>rfl)
def qve:=sLS [0] z1t (qb7 (qdm (bBox (qb9 (vPtr 1 0)))) (qb9 z1n)) [false,false] [0,1] (by decide) (fun _=>rfl)
def qvd:SC (Unit×(Unit×(ByteArray×Int×Int×Int×ByteArray×Bool×Int×Int×Int))):=sLS [] qb8 (qb7 (qdm (bBox (qb9 (vPtr 1 0)))) (qb9 (qdm (bBox (qb7 (vC cStr) (qb7 (vC (cInt .i64)) (qb7 (vC (cInt .i64)) (qb7 (vC (cInt .i64)) (qb7 (vC cStr) (qb7 (vC cBool) (qb7 (vC (cInt .i64)) (qb7 (vC (cInt .i64)) (qb9 (vC (cInt .i64))))))))))))))) [false,false] [0,1] (by decide) (fun _=>rfl)
def qvc:HC (Unit×(Unit×(Unit×(ByteArray×Int×Int×Int×ByteArray×Bool×Int×Int×Int)))):=hPair (vTup qb8) qvd
def qv9 (b1:BA) (b1_1 b1_2 b1_3:Int) (b1_4:BA) (b1_5:Bool) (b1_6 b1_7 b1_8:Int):=hS Tryz.prog lv X0 78 qve qvc ((),((),(b1,b1_1,b1_2,b1_3,b1_4,b1_5,b1_6,b1_7,b1_8)))
def qvf (b1:BA) (b1_1 b1_2 b1_3:Int) (b1_4:BA) (b1_5:Bool) (b1_6 b1_7 b1_8:Int):Oq (Unit×(Unit×(Unit×(BA×Int×Int×Int×BA×Bool×Int×Int×Int)))) :=
 (some ((),((),((),(b1,(b1_1,(b1_2,(b1_3,(b1_4,(b1_5,(b1_6,((IntKind.wrap .i64 (b1_7 - 1)),b1_8))))))))))))
theorem qvb {b1 b1_1 b1_2 b1_3 b1_4 b1_5 b1_6 b1_7 b1_8 r} (h:qvf b1 b1_1 b1_2 b1_3 b1_4 b1_5 b1_6 b1_7 b1_8=some r):qv9 b1 b1_1 b1_2 b1_3 b1_4 b1_5 b1_6 b1_7 b1_8=some r :=
 q92 (fn:=Tryz.f78) (es:=q14f) (hs:=q9n) [] (by kernel_rfl) rfl (by kernel_rfl) (by kernel_rfl) trivial trivial (by kernel_rfl) h
def qva:=hentS Tryz.prog lv X0 78 [0,3,0,0,1,1,3,1,0,1,9,1,3,1,1,1,1,1,1,1,3,1,2,1,1,1,1,1,1,0,1] qve qvc (fun x=>qv9 x.2.2.1 x.2.2.2.1 x.2.2.2.2.1 x.2.2.2.2.2.1 x.2.2.2.2.2.2.1 x.2.2.2.2.2.2.2.1 x.2.2.2.2.2.2.2.2.1 x.2.2.2.2.2.2.2.2.2.1 x.2.2.2.2.2.2.2.2.2.2) (fun _ _ h=>q91 h)
def q9h:=qva::q9n
def qvk:SC ((List S59)×(ByteArray×Int×Int×Int×ByteArray×Bool×Int×Int×Int)):=sLS [0] (qb9 (vC (cSl q5u))) (qb9 (qdm (bBox (qb7 (vC cStr) (qb7 (vC (cInt .i64)) (qb7 (vC (cInt .i64)) (qb7 (vC (cInt .i64)) (qb7 (vC cStr) (qb7 (vC cBool) (qb7 (vC (cInt .i64)) (qb7 (vC (cInt .i64)) (qb9 (vC (cInt .i64)))))))))))))) [false] [0] (by decide) (fun _=>rfl)
def qvj:HC ((List S59)×((List S59)×(ByteArray×Int×Int×Int×ByteArray×Bool×Int×Int×Int))):=hPair (vC (cSl q5u)) qvk
def qvg (b0:BA) (b0_1 b0_2 b0_3:Int) (b0_4:BA) (b0_5:Bool) (b0_6 b0_7 b0_8:Int):=hS Tryz.prog lv X0 56 qvl qvj ((),(b0,b0_1,b0_2,b0_3,b0_4,b0_5,b0_6,b0_7,b0_8))
def qvm (b0:BA) (b0_1 b0_2 b0_3:Int) (b0_4:BA) (b0_5:Bool) (b0_6 b0_7 b0_8:Int):Oq (L59×(L59×(BA×Int×Int×Int×BA×Bool×Int×Int×Int))) :=
 ((qwn (ByteArray.mk (List.toArray [(123:UInt8)])) b0 b0_1 b0_2 b0_3 b0_4 b0_5 b0_6 b0_7 b0_8).bind fun r0 =>
 ((qxn r0.2.2.1 r0.2.2.2.1 r0.2.2.2.2.1 r0.2.2.2.2.2.1 r0.2.2.2.2.2.2.1 r0.2.2.2.2.2.2.2.1 r0.2.2.2.2.2.2.2.2.1 (wI r0.2.2.2.2.2.2.2.2.2.1) r0.2.2.2.2.2.2.2.2.2.2).bind fun r1 =>
 ((qwn (ByteArray.mk (List.toArray [(125:UInt8)])) r1.2.2.1 r1.2.2.2.1 r1.2.2.2.2.1 r1.2.2.2.2.2.1 r1.2.2.2.2.2.2.1 r1.2.2.2.2.2.2.2.1 r1.2.2.2.2.2.2.2.2.1 r1.2.2.2.2.2.2.2.2.2.1 r1.2.2.2.2.2.2.2.2.2.2).bind fun r2 =>
 ((qv9 r2.2.2.1 r2.2.2.2.1 r2.2.2.2.2.1 r2.2.2.2.2.2.1 r2.2.2.2.2.2.2.1 r2.2.2.2.2.2.2.2.1 r2.2.2.2.2.2.2.2.2.1 r2.2.2.2.2.2.2.2.2.2.1 r2.2.2.2.2.2.2.2.2.2.2).bind fun r3 =>
 (gL q5u r1.1<|
 (gL q5u r1.1<|
 (some ((dL q5u r1.1),((dL q5u r1.1),(r3.2.2.2.1,(r3.2.2.2.2.1,(r3.2.2.2.2.2.1,(r3.2.2.2.2.2.2.1,(r3.2.2.2.2.2.2.2.1,(r3.2.2.2.2.2.2.2.2.1,(r3.2.2.2.2.2.2.2.2.2.1,(r3.2.2.2.2.2.2.2.2.2.2.1,r3.2.2.2.2.2.2.2.2.2.2.2)))))))))))))))))
theorem qvi {b0 b0_1 b0_2 b0_3 b0_4 b0_5 b0_6 b0_7 b0_8 r} (h:qvm b0 b0_1 b0_2 b0_3 b0_4 b0_5 b0_6 b0_7 b0_8=some r):qvg b0 b0_1 b0_2 b0_3 b0_4 b0_5 b0_6 b0_7 b0_8=some r :=
 q93 (fn:=Tryz.f56) (es:=q14f) (hs:=q9h) [] (by kernel_rfl) rfl (by kernel_rfl) (by kernel_rfl) (by kernel_rfl) (by kernel_rfl) (by kernel_rfl) (by kernel_rfl) trivial trivial (by kernel_rfl) h
def qvh:=hentS Tryz.prog lv X0 56 [0,3,0,0,1,9,1,3,1,1,1,1,1,1,1,3,1,2,1,1,1,1,1,1,0] qvl qvj (fun x=>qvg x.2.1 x.2.2.1 x.2.2.2.1 x.2.2.2.2.1 x.2.2.2.2.2.1 x.2.2.2.2.2.2.1 x.2.2.2.2.2.2.2.1 x.2.2.2.2.2.2.2.2.1 x.2.2.2.2.2.2.2.2.2) (fun _ _ h=>q91 h)
def q9i:=qvh::q9h
def qu9:=sLS [0] z1t (qb9 z1n) [false] [0] (by decide) (fun _=>rfl)
abbrev z1p:=(qb7 z1n (qb7 (qdm (bBox (qb7 z1o (qb7 z1o (qb7 (vRow 3) (qb7 (vC cStr) (qb7 z1o (qb7 (vC cStr) (qb7 z1o (qb7 (vRow 4) (qb7 (vRow 5) (qb7 z1o (qb7 (vC cStr) (qb7 (vC cStr) (qb9 z1o))))))))))))))) (qb7 (qdm (bBox (qb7 z1o (qb7 z1o (qb7 (vRow 6) (qb7 (vC cStr) (qb7 z1o (qb7 (vC cStr) (qb7 z1o (qb7 (vRow 7) (qb7 (vRow 8) (qb7 z1o (qb7 (vC cStr) (qb7 (vC cStr) (qb9 z1o))))))))))))))) (qb7 (qdm (bRow q5t)) (qb7 (qdm (bRow q5u)) (qb7 (qdm (bRow q5u)) (qb7 (qdm (bRow q5t)) (qb7 (qdm (bRow q5u)) (qb9 (qdm (bRow q5u)))))))))))
def qu5:=sLS [0,2,3,7,8] (qb7 (vPtr 0 0) (qb7 (vPtr 1 0) (qb7 (vPtr 2 0) (qb7 z1r (qb9 z1o))))) z1p [false,false,false,false,false,false,false,false,false] [0] (by decide) (fun _=>rfl)
def qu4:=sLS [0,2,3,7,8,9] (qb7 (vPtr 0 0) (qb7 (vPtr 1 0) (qb7 (vPtr 2 0) (qb7 z1r (qb7 z1o z1v))))) z1p [false,false,false,false,false,false,false,false,false] [0] (by decide) (fun _=>rfl)
def qu3:=sLS [2] z1t (qb7 (qdm (bBox (qb7 z1o (qb7 z1o (qb7 (vRow 2) (qb7 (vC cStr) (qb7 z1o (qb7 (vC cStr) (qb7 z1o (qb7 (vRow 3) (qb7 (vRow 4) (qb7 z1o (qb7 (vC cStr) (qb7 (vC cStr) (qb9 z1o))))))))))))))) (qb7 z1n (qb7 (qdm (bRow q5t)) (qb7 (qdm (bRow q5u)) (qb9 (qdm (bRow q5u))))))) [false,false,false,false,false] [1] (by decide) (fun _=>rfl)
def qu2:=oOr 1 qu3 (oAt 2 qu4) (fun x=>(by decide:(2:Nat)≠1))
def qtz (t7 t7_1:BA) (t7_2 t7_3:BA) (t7_4 t7_5 t7_6:BA) (t8:Int) (b0:BA) (b0_1 b0_2 b0_3:Int) (b0_4:BA) (b0_5:Bool) (b0_6 b0_7:Int) (b0_8 b1 b1_1:Int) (b1_2:Nat) (b1_3:BA) (b1_4:Int) (b1_5:BA) (b1_6:Int) (b1_7 b1_8:Nat) (b1_9:Int) (b1_10 b1_11:BA) (b1_12 b2 b2_1:Int) (b2_2:Nat) (b2_3:BA) (b2_4:Int) (b2_5:BA) (b2_6:Int) (b2_7 b2_8:Nat) (b2_9:Int) (b2_10 b2_11:BA) (b2_12:Int) (b3:L57) (b4 b5:L59) (b6:L57) (b7 b8:L59):=lS Tryz.prog lv X0 59 41 (q8x (cdF Tryz.f59) 3) qu5 qu2 (((),(),(),(t7,t7_1,t7_2,t7_3,t7_4,t7_5,t7_6),t8),((b0,b0_1,b0_2,b0_3,b0_4,b0_5,b0_6,b0_7,b0_8),(b1,b1_1,b1_2,b1_3,b1_4,b1_5,b1_6,b1_7,b1_8,b1_9,b1_10,b1_11,b1_12),(b2,b2_1,b2_2,b2_3,b2_4,b2_5,b2_6,b2_7,b2_8,b2_9,b2_10,b2_11,b2_12),b3,b4,b5,b6,b7,b8))
def qu6 (t7 t7_1:BA) (t7_2 t7_3:BA) (t7_4 t7_5 t7_6:BA) (t8:Int) (b0:BA) (b0_1 b0_2 b0_3:Int) (b0_4:BA) (b0_5:Bool) (b0_6 b0_7:Int) (b0_8 b1 b1_1:Int) (b1_2:Nat) (b1_3:BA) (b1_4:Int) (b1_5:BA) (b1_6:Int) (b1_7 b1_8:Nat) (b1_9:Int) (b1_10 b1_11:BA) (b1_12 b2 b2_1:Int) (b2_2:Nat) (b2_3:BA) (b2_4:Int) (b2_5:BA) (b2_6:Int) (b2_7 b2_8:Nat) (b2_9:Int) (b2_10 b2_11:BA) (b2_12:Int) (b3:L57) (b4 b5:L59) (b6:L57) (b7 b8:L59):Oq ((Unit×((Int×Int×Nat×BA×Int×BA×Int×Nat×Nat×Int×BA×BA×Int)×(BA×Int×Int×Int×BA×Bool×Int×Int×Int)×L57×L59×L59))⊕((Unit×Unit×Unit×(BA×BA×BA×BA×BA×BA×BA)×Int×Bool)×((BA×Int×Int×Int×BA×Bool×Int×Int×Int)×(Int×Int×Nat×BA×Int×BA×Int×Nat×Nat×Int×BA×BA×Int)×(Int×Int×Nat×BA×Int×BA×Int×Nat×Nat×Int×BA×BA×Int)×L57×L59×L59×L57×L59×L59))) :=
 (brE (decide (t8<7))
 (gdE (((p0 t8)&&(decide (t8<((7:Nat):Int))))&&(decide ((Int.toNat t8)<(List.length [t7,t7_1,t7_2,t7_3,t7_4,t7_5,t7_6]))))<|
 ((qvn 2 (List.getD [t7,t7_1,t7_2,t7_3,t7_4,t7_5,t7_6] (Int.toNat t8) ByteArray.empty) b0 b0_1 b0_2 b0_3 b0_4 b0_5 b0_6 b0_7 b0_8).bind fun r0 =>
 (brE (!r0.1)
 (gL q5t b3<|
 (gL q5u b4<|
 (gL q5u b5<|
 (gL q5t b6<|
 (gL q5u b7<|
 (gL q5u b8<|
 (qtz t7 t7_1 t7_2 t7_3 t7_4 t7_5 t7_6 (wI t8) r0.2.2.1 r0.2.2.2.1 r0.2.2.2.2.1 r0.2.2.2.2.2.1 r0.2.2.2.2.2.2.1 r0.2.2.2.2.2.2.2.1 r0.2.2.2.2.2.2.2.2.1 r0.2.2.2.2.2.2.2.2.2.1 r0.2.2.2.2.2.2.2.2.2.2 b1 b1_1 b1_2 b1_3 b1_4 b1_5 b1_6 b1_7 b1_8 b1_9 b1_10 b1_11 b1_12 b2 b2_1 b2_2 b2_3 b2_4 b2_5 b2_6 b2_7 b2_8 b2_9 b2_10 b2_11 b2_12 (dL q5t b3) (dL q5u b4) (dL q5u b5) (dL q5t b6) (dL q5u b7) (dL q5u b8))))))))
 (brE ((wI t8)==6)
 ((qwu r0.2.2.1 r0.2.2.2.1 r0.2.2.2.2.1 r0.2.2.2.2.2.1 r0.2.2.2.2.2.2.1 r0.2.2.2.2.2.2.2.1 r0.2.2.2.2.2.2.2.2.1 r0.2.2.2.2.2.2.2.2.2.1 r0.2.2.2.2.2.2.2.2.2.2).bind fun r1 =>
 ((qwn (ByteArray.mk (List.toArray [(59:UInt8)])) r1.2.2.1 r1.2.2.2.1 r1.2.2.2.2.1 r1.2.2.2.2.2.1 r1.2.2.2.2.2.2.1 r1.2.2.2.2.2.2.2.1 r1.2.2.2.2.2.2.2.2.1 r1.2.2.2.2.2.2.2.2.2.1 r1.2.2.2.2.2.2.2.2.2.2).bind fun r2 =>
 (gL q5t b6<|
 (gL q5u b7<|
 (gL q5u b8<|
 (some (.inl ((),((b2,(b2_1,(b2_2,(b2_3,(b2_4,(b2_5,(b2_6,(b2_7,(b2_8,((wI t8),(b2_10,(b2_11,r1.1)))))))))))),((r2.2.2.1,(r2.2.2.2.1,(r2.2.2.2.2.1,(r2.2.2.2.2.2.1,(r2.2.2.2.2.2.2.1,(r2.2.2.2.2.2.2.2.1,(r2.2.2.2.2.2.2.2.2.1,(r2.2.2.2.2.2.2.2.2.2.1,r2.2.2.2.2.2.2.2.2.2.2)))))))),((dL q5t b6),((dL q5u b7),(dL q5u b8)))))))))))))
 ((qzn (wI t8)).bind fun r1 =>
 (brE r1
 ((qy1 1 r0.2.2.1 r0.2.2.2.1 r0.2.2.2.2.1 r0.2.2.2.2.2.1 r0.2.2.2.2.2.2.1 r0.2.2.2.2.2.2.2.1 r0.2.2.2.2.2.2.2.2.1 r0.2.2.2.2.2.2.2.2.2.1 r0.2.2.2.2.2.2.2.2.2.2).bind fun r2 =>
 ((qwn (ByteArray.mk (List.toArray [(59:UInt8)])) r2.2.2.1 r2.2.2.2.1 r2.2.2.2.2.1 r2.2.2.2.2.2.1 r2.2.2.2.2.2.2.1 r2.2.2.2.2.2.2.2.1 r2.2.2.2.2.2.2.2.2.1 r2.2.2.2.2.2.2.2.2.2.1 r2.2.2.2.2.2.2.2.2.2.2).bind fun r3 =>
 (gL q5t b6<|
 (gL q5u b7<|
 (gL q5u b8<|
 (some (.inl ((),((b2,(b2_1,(b2_2,(b2_3,(b2_4,(b2_5,(b2_6,(b2_7,(b2_8,((wI t8),(b2_10,(r2.1,b2_12)))))))))))),((r3.2.2.1,(r3.2.2.2.1,(r3.2.2.2.2.1,(r3.2.2.2.2.2.1,(r3.2.2.2.2.2.2.1,(r3.2.2.2.2.2.2.2.1,(r3.2.2.2.2.2.2.2.2.1,(r3.2.2.2.2.2.2.2.2.2.1,r3.2.2.2.2.2.2.2.2.2.2)))))))),((dL q5t b6),((dL q5u b7),(dL q5u b8)))))))))))))
 ((qwn (ByteArray.mk (List.toArray [(59:UInt8)])) r0.2.2.1 r0.2.2.2.1 r0.2.2.2.2.1 r0.2.2.2.2.2.1 r0.2.2.2.2.2.2.1 r0.2.2.2.2.2.2.2.1 r0.2.2.2.2.2.2.2.2.1 r0.2.2.2.2.2.2.2.2.2.1 r0.2.2.2.2.2.2.2.2.2.2).bind fun r2 =>
 (gL q5t b6<|
 (gL q5u b7<|
 (gL q5u b8<|
 (some (.inl ((),((b2,(b2_1,(b2_2,(b2_3,(b2_4,(b2_5,(b2_6,(b2_7,(b2_8,((wI t8),(b2_10,(b2_11,b2_12)))))))))))),((r2.2.2.1,(r2.2.2.2.1,(r2.2.2.2.2.1,(r2.2.2.2.2.2.1,(r2.2.2.2.2.2.2.1,(r2.2.2.2.2.2.2.2.1,(r2.2.2.2.2.2.2.2.2.1,(r2.2.2.2.2.2.2.2.2.2.1,r2.2.2.2.2.2.2.2.2.2.2)))))))),((dL q5t b6),((dL q5u b7),(dL q5u b8))))))))))))))))))
 (gL q5t b3<|
 (gL q5u b4<|
 (gL q5u b5<|
 (gL q5t b6<|
 (gL q5u b7<|
 (gL q5u b8<|
 (some (.inr (((),((),((),((t7,(t7_1,(t7_2,(t7_3,(t7_4,(t7_5,t7_6)))))),(t8,false))))),((b0,(b0_1,(b0_2,(b0_3,(b0_4,(b0_5,(b0_6,(b0_7,b0_8)))))))),((b1,(b1_1,(b1_2,(b1_3,(b1_4,(b1_5,(b1_6,(b1_7,(b1_8,(b1_9,(b1_10,(b1_11,b1_12)))))))))))),((b2,(b2_1,(b2_2,(b2_3,(b2_4,(b2_5,(b2_6,(b2_7,(b2_8,(b2_9,(b2_10,(b2_11,b2_12)))))))))))),((dL q5t b3),((dL q5u b4),((dL q5u b5),((dL q5t b6),((dL q5u b7),(dL q5u b8)))))))))))))))))))
theorem qu1 {t7 t7_1 t7_2 t7_3 t7_4 t7_5 t7_6 t8 b0 b0_1 b0_2 b0_3 b0_4 b0_5 b0_6 b0_7 b0_8 b1 b1_1 b1_2 b1_3 b1_4 b1_5 b1_6 b1_7 b1_8 b1_9 b1_10 b1_11 b1_12 b2 b2_1 b2_2 b2_3 b2_4 b2_5 b2_6 b2_7 b2_8 b2_9 b2_10 b2_11 b2_12 b3 b4 b5 b6 b7 b8 r} (h:qu6 t7 t7_1 t7_2 t7_3 t7_4 t7_5 t7_6 t8 b0 b0_1 b0_2 b0_3 b0_4 b0_5 b0_6 b0_7 b0_8 b1 b1_1 b1_2 b1_3 b1_4 b1_5 b1_6 b1_7 b1_8 b1_9 b1_10 b1_11 b1_12 b2 b2_1 b2_2 b2_3 b2_4 b2_5 b2_6 b2_7 b2_8 b2_9 b2_10 b2_11 b2_12 b3 b4 b5 b6 b7 b8=some r):qtz t7 t7_1 t7_2 t7_3 t7_4 t7_5 t7_6 t8 b0 b0_1 b0_2 b0_3 b0_4 b0_5 b0_6 b0_7 b0_8 b1 b1_1 b1_2 b1_3 b1_4 b1_5 b1_6 b1_7 b1_8 b1_9 b1_10 b1_11 b1_12 b2 b2_1 b2_2 b2_3 b2_4 b2_5 b2_6 b2_7 b2_8 b2_9 b2_10 b2_11 b2_12 b3 b4 b5 b6 b7 b8=some r :=
 qbb (es:=q14f) (hs:=q9i) [] (by kernel_rfl) trivial trivial (by kernel_rfl) h
def qu0:=qby Tryz.prog lv X0 3 (q8x (cdF Tryz.f59) 3) qu5 qu2 (fun x=>qtz x.1.2.2.2.1.1 x.1.2.2.2.1.2.1 x.1.2.2.2.1.2.2.1 x.1.2.2.2.1.2.2.2.1 x.1.2.2.2.1.2.2.2.2.1 x.1.2.2.2.1.2.2.2.2.2.1 x.1.2.2.2.1.2.2.2.2.2.2 x.1.2.2.2.2 x.2.1.1 x.2.1.2.1 x.2.1.2.2.1 x.2.1.2.2.2.1 x.2.1.2.2.2.2.1 x.2.1.2.2.2.2.2.1 x.2.1.2.2.2.2.2.2.1 x.2.1.2.2.2.2.2.2.2.1 x.2.1.2.2.2.2.2.2.2.2 x.2.2.1.1 x.2.2.1.2.1 x.2.2.1.2.2.1 x.2.2.1.2.2.2.1 x.2.2.1.2.2.2.2.1 x.2.2.1.2.2.2.2.2.1 x.2.2.1.2.2.2.2.2.2.1 x.2.2.1.2.2.2.2.2.2.2.1 x.2.2.1.2.2.2.2.2.2.2.2.1 x.2.2.1.2.2.2.2.2.2.2.2.2.1 x.2.2.1.2.2.2.2.2.2.2.2.2.2.1 x.2.2.1.2.2.2.2.2.2.2.2.2.2.2.1 x.2.2.1.2.2.2.2.2.2.2.2.2.2.2.2 x.2.2.2.1.1 x.2.2.2.1.2.1 x.2.2.2.1.2.2.1 x.2.2.2.1.2.2.2.1 x.2.2.2.1.2.2.2.2.1 x.2.2.2.1.2.2.2.2.2.1 x.2.2.2.1.2.2.2.2.2.2.1 x.2.2.2.1.2.2.2.2.2.2.2.1 x.2.2.2.1.2.2.2.2.2.2.2.2.1 x.2.2.2.1.2.2.2.2.2.2.2.2.2.1 x.2.2.2.1.2.2.2.2.2.2.2.2.2.2.1 x.2.2.2.1.2.2.2.2.2.2.2.2.2.2.2.1 x.2.2.2.1.2.2.2.2.2.2.2.2.2.2.2.2 x.2.2.2.2.1 x.2.2.2.2.2.1 x.2.2.2.2.2.2.1 x.2.2.2.2.2.2.2.1 x.2.2.2.2.2.2.2.2.1 x.2.2.2.2.2.2.2.2.2) (fun _ _ h=>qba h)
def qu8:SC ((Int×Int×(List S57)×ByteArray×Int×ByteArray×Int×(List S59)×(List S59)×Int×ByteArray×ByteArray×Int)×(ByteArray×Int×Int×Int×ByteArray×Bool×Int×Int×Int)):=sLS [0] (qb9 (vAgg (qb7 (vC (cInt .i64)) (qb7 (vC (cInt .i64)) (qb7 (vC (cSl q5t)) (qb7 (vC cStr) (qb7 (vC (cInt .i64)) (qb7 (vC cStr) (qb7 (vC (cInt .i64)) (qb7 (vC (cSl q5u)) (qb7 (vC (cSl q5u)) (qb7 (vC (cInt .i64)) (qb7 (vC cStr) (qb7 (vC cStr) (qb9 (vC (cInt .i64))))))))))))))))) (qb9 (qdm (bBox (qb7 (vC cStr) (qb7 (vC (cInt .i64)) (qb7 (vC (cInt .i64)) (qb7 (vC (cInt .i64)) (qb7 (vC cStr) (qb7 (vC cBool) (qb7 (vC (cInt .i64)) (qb7 (vC (cInt .i64)) (qb9 (vC (cInt .i64)))))))))))))) [false] [0] (by decide) (fun _=>rfl)
def qu7:HC ((Int×Int×(List S57)×ByteArray×Int×ByteArray×Int×(List S59)×(List S59)×Int×ByteArray×ByteArray×Int)×((Int×Int×(List S57)×ByteArray×Int×ByteArray×Int×(List S59)×(List S59)×Int×ByteArray×ByteArray×Int)×(ByteArray×Int×Int×Int×ByteArray×Bool×Int×Int×Int))):=hPair (vAgg (qb7 (vC (cInt .i64)) (qb7 (vC (cInt .i64)) (qb7 (vC (cSl q5t)) (qb7 (vC cStr) (qb7 (vC (cInt .i64)) (qb7 (vC cStr) (qb7 (vC (cInt .i64)) (qb7 (vC (cSl q5u)) (qb7 (vC (cSl q5u)) (qb7 (vC (cInt .i64)) (qb7 (vC cStr) (qb7 (vC cStr) (qb9 (vC (cInt .i64)))))))))))))))) qu8
def qtw (b0:BA) (b0_1 b0_2 b0_3:Int) (b0_4:BA) (b0_5:Bool) (b0_6 b0_7 b0_8:Int):=hS Tryz.prog lv X0 59 qu9 qu7 ((),(b0,b0_1,b0_2,b0_3,b0_4,b0_5,b0_6,b0_7,b0_8))
def qua (b0:BA) (b0_1 b0_2 b0_3:Int) (b0_4:BA) (b0_5:Bool) (b0_6 b0_7 b0_8:Int):Oq ((Int×Int×L57×BA×Int×BA×Int×L59×L59×Int×BA×BA×Int)×((Int×Int×L57×BA×Int×BA×Int×L59×L59×Int×BA×BA×Int)×(BA×Int×Int×Int×BA×Bool×Int×Int×Int))) :=
 (Option.bind qtc fun r0 =>
 ((qtz r0.1 r0.2.1 r0.2.2.1 r0.2.2.2.1 r0.2.2.2.2.1 r0.2.2.2.2.2.1 r0.2.2.2.2.2.2 0 b0 b0_1 b0_2 b0_3 b0_4 b0_5 b0_6 b0_7 b0_8 0 0 0 ⟨#[]⟩ 0 ⟨#[]⟩ 0 0 0 0 ⟨#[]⟩ ⟨#[]⟩ 0 2 0 0 ⟨#[]⟩ 0 ⟨#[]⟩ 0 0 0 0 ⟨#[]⟩ ⟨#[]⟩ 0 (EC.decL q5t []) (EC.decL q5u []) (EC.decL q5u []) (EC.decL q5t []) (EC.decL q5u []) (EC.decL q5u [])).bind fun r1 =>
 (Sum.elim (fun r2=>(gdE (EC.isL q5t (EC.encL q5t r2.2.2.2.1))<|
 (gL q5u r2.2.2.2.2.1<|
 (gL q5u r2.2.2.2.2.2<|
 (gL q5t r2.2.2.2.1<|
 (gL q5u r2.2.2.2.2.1<|
 (gL q5u r2.2.2.2.2.2<|
 (some ((r2.2.1.1,(r2.2.1.2.1,((dL q5t r2.2.2.2.1),(r2.2.1.2.2.2.1,(r2.2.1.2.2.2.2.1,(r2.2.1.2.2.2.2.2.1,(r2.2.1.2.2.2.2.2.2.1,((dL q5u r2.2.2.2.2.1),((dL q5u r2.2.2.2.2.2),(r2.2.1.2.2.2.2.2.2.2.2.2.1,(r2.2.1.2.2.2.2.2.2.2.2.2.2.1,(r2.2.1.2.2.2.2.2.2.2.2.2.2.2.1,r2.2.1.2.2.2.2.2.2.2.2.2.2.2.2)))))))))))),((r2.2.1.1,(r2.2.1.2.1,((dL q5t r2.2.2.2.1),(r2.2.1.2.2.2.1,(r2.2.1.2.2.2.2.1,(r2.2.1.2.2.2.2.2.1,(r2.2.1.2.2.2.2.2.2.1,((dL q5u r2.2.2.2.2.1),((dL q5u r2.2.2.2.2.2),(r2.2.1.2.2.2.2.2.2.2.2.2.1,(r2.2.1.2.2.2.2.2.2.2.2.2.2.1,(r2.2.1.2.2.2.2.2.2.2.2.2.2.2.1,r2.2.1.2.2.2.2.2.2.2.2.2.2.2.2)))))))))))),(r2.2.2.1.1,(r2.2.2.1.2.1,(r2.2.2.1.2.2.1,(r2.2.2.1.2.2.2.1,(r2.2.2.1.2.2.2.2.1,(r2.2.2.1.2.2.2.2.2.1,(r2.2.2.1.2.2.2.2.2.2.1,(r2.2.2.1.2.2.2.2.2.2.2.1,r2.2.2.1.2.2.2.2.2.2.2.2))))))))))))))))))
 (fun r2=>(gdE (EC.isL q5t (EC.encL q5t r2.2.2.2.2.2.2.2.1))<|
 (gL q5u r2.2.2.2.2.2.2.2.2.1<|
 (gL q5u r2.2.2.2.2.2.2.2.2.2<|
 (gL q5t r2.2.2.2.2.2.2.2.1<|
 (gL q5u r2.2.2.2.2.2.2.2.2.1<|
 (gL q5u r2.2.2.2.2.2.2.2.2.2<|
 (some ((r2.2.2.2.1.1,(r2.2.2.2.1.2.1,((dL q5t r2.2.2.2.2.2.2.2.1),(r2.2.2.2.1.2.2.2.1,(r2.2.2.2.1.2.2.2.2.1,(r2.2.2.2.1.2.2.2.2.2.1,(r2.2.2.2.1.2.2.2.2.2.2.1,((dL q5u r2.2.2.2.2.2.2.2.2.1),((dL q5u r2.2.2.2.2.2.2.2.2.2),(r2.2.2.2.1.2.2.2.2.2.2.2.2.2.1,(r2.2.2.2.1.2.2.2.2.2.2.2.2.2.2.1,(r2.2.2.2.1.2.2.2.2.2.2.2.2.2.2.2.1,r2.2.2.2.1.2.2.2.2.2.2.2.2.2.2.2.2)))))))))))),((r2.2.2.2.1.1,(r2.2.2.2.1.2.1,((dL q5t r2.2.2.2.2.2.2.2.1),(r2.2.2.2.1.2.2.2.1,(r2.2.2.2.1.2.2.2.2.1,(r2.2.2.2.1.2.2.2.2.2.1,(r2.2.2.2.1.2.2.2.2.2.2.1,((dL q5u r2.2.2.2.2.2.2.2.2.1),((dL q5u r2.2.2.2.2.2.2.2.2.2),(r2.2.2.2.1.2.2.2.2.2.2.2.2.2.1,(r2.2.2.2.1.2.2.2.2.2.2.2.2.2.2.1,(r2.2.2.2.1.2.2.2.2.2.2.2.2.2.2.2.1,r2.2.2.2.1.2.2.2.2.2.2.2.2.2.2.2.2)))))))))))),(r2.2.1.1,(r2.2.1.2.1,(r2.2.1.2.2.1,(r2.2.1.2.2.2.1,(r2.2.1.2.2.2.2.1,(true,(r2.2.1.2.2.2.2.2.2.1,(r2.2.1.2.2.2.2.2.2.2.1,r2.2.1.2.2.2.2.2.2.2.2)))))))))))))))))) r1)))
theorem qty {b0 b0_1 b0_2 b0_3 b0_4 b0_5 b0_6 b0_7 b0_8 r} (h:qua b0 b0_1 b0_2 b0_3 b0_4 b0_5 b0_6 b0_7 b0_8=some r):qtw b0 b0_1 b0_2 b0_3 b0_4 b0_5 b0_6 b0_7 b0_8=some r :=
 q92 (fn:=Tryz.f59) (es:=q14f) (hs:=q9i) [qu0] (by kernel_rfl) rfl (by kernel_rfl) (by kernel_rfl) ⟨⟨_,rfl,rfl⟩,trivial⟩ trivial (by kernel_rfl) h
def qtx:=hentS Tryz.prog lv X0 59 [0,3,0,0,1,9,1,3,1,1,1,1,1,1,1,3,1,2,1,1,1,1,1,1,0] qu9 qu7 (fun x=>qtw x.2.1 x.2.2.1 x.2.2.2.1 x.2.2.2.2.1 x.2.2.2.2.2.1 x.2.2.2.2.2.2.1 x.2.2.2.2.2.2.2.1 x.2.2.2.2.2.2.2.2.1 x.2.2.2.2.2.2.2.2.2) (fun _ _ h=>q91 h)
def q9f:=qtx::q9i
def qxm (b0:BA) (b0_1 b0_2 b0_3:Int) (b0_4:BA) (b0_5:Bool) (b0_6 b0_7 b0_8:Int):Oq ((Int×Int×L57×BA×Int×BA×Int×L59×L59×Int×BA×BA×Int)×((Int×Int×L57×BA×Int×BA×Int×L59×L59×Int×BA×BA×Int)×(BA×Int×Int×Int×BA×Bool×Int×Int×Int))) :=
 (brE ((decide ((wI b0_6)>100))==false)
 (brE (decide (b0_7>8))
 (some ((0,(0,((EC.decL q5t []),(⟨#[]⟩,(0,(⟨#[]⟩,(0,((EC.decL q5u []),((EC.decL q5u []),(0,(⟨#[]⟩,(⟨#[]⟩,0)))))))))))),((0,(0,((EC.decL q5t []),(⟨#[]⟩,(0,(⟨#[]⟩,(0,((EC.decL q5u []),((EC.decL q5u []),(0,(⟨#[]⟩,(⟨#[]⟩,0)))))))))))),(b0,(b0_1,(b0_2,(b0_3,(b0_4,(true,((wI b0_6),(b0_7,b0_8)))))))))))
 ((qvn 2 (ByteArray.mk (List.toArray [(105:UInt8),(102:UInt8)])) b0 b0_1 b0_2 b0_3 b0_4 b0_5 (wI b0_6) b0_7 b0_8).bind fun r0 =>
 (brE r0.1
 ((qyf r0.2.2.1 r0.2.2.2.1 r0.2.2.2.2.1 r0.2.2.2.2.2.1 r0.2.2.2.2.2.2.1 r0.2.2.2.2.2.2.2.1 r0.2.2.2.2.2.2.2.2.1 r0.2.2.2.2.2.2.2.2.2.1 r0.2.2.2.2.2.2.2.2.2.2).bind fun r1 =>
 ((qvg r1.2.2.1 r1.2.2.2.1 r1.2.2.2.2.1 r1.2.2.2.2.2.1 r1.2.2.2.2.2.2.1 r1.2.2.2.2.2.2.2.1 r1.2.2.2.2.2.2.2.2.1 r1.2.2.2.2.2.2.2.2.2.1 r1.2.2.2.2.2.2.2.2.2.2).bind fun r2 =>
 ((qvn 2 (ByteArray.mk (List.toArray [(101:UInt8),(108:UInt8),(115:UInt8),(101:UInt8)])) r2.2.2.1 r2.2.2.2.1 r2.2.2.2.2.1 r2.2.2.2.2.2.1 r2.2.2.2.2.2.2.1 r2.2.2.2.2.2.2.2.1 r2.2.2.2.2.2.2.2.2.1 r2.2.2.2.2.2.2.2.2.2.1 r2.2.2.2.2.2.2.2.2.2.2).bind fun r3 =>
 (brE r3.1
 ((qvg r3.2.2.1 r3.2.2.2.1 r3.2.2.2.2.1 r3.2.2.2.2.2.1 r3.2.2.2.2.2.2.1 r3.2.2.2.2.2.2.2.1 r3.2.2.2.2.2.2.2.2.1 r3.2.2.2.2.2.2.2.2.2.1 r3.2.2.2.2.2.2.2.2.2.2).bind fun r4 =>
 (gL q5t r1.1.2.1<|
 (gL q5u r2.1<|
 (gL q5u r4.1<|
 (gL q5t r1.1.2.1<|
 (gL q5u r2.1<|
 (gL q5u r4.1<|
 (some ((1,(r1.1.1,((dL q5t r1.1.2.1),(r1.1.2.2.1,(r1.1.2.2.2.1,(r1.1.2.2.2.2.1,(r1.1.2.2.2.2.2,((dL q5u r2.1),((dL q5u r4.1),(0,(⟨#[]⟩,(⟨#[]⟩,0)))))))))))),((1,(r1.1.1,((dL q5t r1.1.2.1),(r1.1.2.2.1,(r1.1.2.2.2.1,(r1.1.2.2.2.2.1,(r1.1.2.2.2.2.2,((dL q5u r2.1),((dL q5u r4.1),(0,(⟨#[]⟩,(⟨#[]⟩,0)))))))))))),(r4.2.2.1,(r4.2.2.2.1,(r4.2.2.2.2.1,(r4.2.2.2.2.2.1,(r4.2.2.2.2.2.2.1,(r4.2.2.2.2.2.2.2.1,(r4.2.2.2.2.2.2.2.2.1,(r4.2.2.2.2.2.2.2.2.2.1,r4.2.2.2.2.2.2.2.2.2.2))))))))))))))))))
 (gL q5t r1.1.2.1<|
 (gL q5u r2.1<|
 (gL q5t r1.1.2.1<|
 (gL q5u r2.1<|
 (some ((1,(r1.1.1,((dL q5t r1.1.2.1),(r1.1.2.2.1,(r1.1.2.2.2.1,(r1.1.2.2.2.2.1,(r1.1.2.2.2.2.2,((dL q5u r2.1),((EC.decL q5u []),(0,(⟨#[]⟩,(⟨#[]⟩,0)))))))))))),((1,(r1.1.1,((dL q5t r1.1.2.1),(r1.1.2.2.1,(r1.1.2.2.2.1,(r1.1.2.2.2.2.1,(r1.1.2.2.2.2.2,((dL q5u r2.1),((EC.decL q5u []),(0,(⟨#[]⟩,(⟨#[]⟩,0)))))))))))),(r3.2.2.1,(r3.2.2.2.1,(r3.2.2.2.2.1,(r3.2.2.2.2.2.1,(r3.2.2.2.2.2.2.1,(r3.2.2.2.2.2.2.2.1,(r3.2.2.2.2.2.2.2.2.1,(r3.2.2.2.2.2.2.2.2.2.1,r3.2.2.2.2.2.2.2.2.2.2)))))))))))))))))))
 ((qvn 2 (ByteArray.mk (List.toArray [(115:UInt8),(101:UInt8),(116:UInt8)])) r0.2.2.1 r0.2.2.2.1 r0.2.2.2.2.1 r0.2.2.2.2.2.1 r0.2.2.2.2.2.2.1 r0.2.2.2.2.2.2.2.1 r0.2.2.2.2.2.2.2.2.1 r0.2.2.2.2.2.2.2.2.2.1 r0.2.2.2.2.2.2.2.2.2.2).bind fun r1 =>
 (brE r1.1
 ((qy1 2 r1.2.2.1 r1.2.2.2.1 r1.2.2.2.2.1 r1.2.2.2.2.2.1 r1.2.2.2.2.2.2.1 r1.2.2.2.2.2.2.2.1 r1.2.2.2.2.2.2.2.2.1 r1.2.2.2.2.2.2.2.2.2.1 r1.2.2.2.2.2.2.2.2.2.2).bind fun r2 =>
 ((qy1 1 r2.2.2.1 r2.2.2.2.1 r2.2.2.2.2.1 r2.2.2.2.2.2.1 r2.2.2.2.2.2.2.1 r2.2.2.2.2.2.2.2.1 r2.2.2.2.2.2.2.2.2.1 r2.2.2.2.2.2.2.2.2.2.1 r2.2.2.2.2.2.2.2.2.2.2).bind fun r3 =>
 ((qwn (ByteArray.mk (List.toArray [(59:UInt8)])) r3.2.2.1 r3.2.2.2.1 r3.2.2.2.2.1 r3.2.2.2.2.2.1 r3.2.2.2.2.2.2.1 r3.2.2.2.2.2.2.2.1 r3.2.2.2.2.2.2.2.2.1 r3.2.2.2.2.2.2.2.2.2.1 r3.2.2.2.2.2.2.2.2.2.2).bind fun r4 =>
 (some ((3,(0,((EC.decL q5t []),(⟨#[]⟩,(0,(⟨#[]⟩,(0,((EC.decL q5u []),((EC.decL q5u []),(0,(r2.1,(r3.1,0)))))))))))),((3,(0,((EC.decL q5t []),(⟨#[]⟩,(0,(⟨#[]⟩,(0,((EC.decL q5u []),((EC.decL q5u []),(0,(r2.1,(r3.1,0)))))))))))),(r4.2.2.1,(r4.2.2.2.1,(r4.2.2.2.2.1,(r4.2.2.2.2.2.1,(r4.2.2.2.2.2.2.1,(r4.2.2.2.2.2.2.2.1,(r4.2.2.2.2.2.2.2.2.1,(r4.2.2.2.2.2.2.2.2.2.1,r4.2.2.2.2.2.2.2.2.2.2))))))))))))))
 ((qvn 2 (ByteArray.mk (List.toArray [(115:UInt8),(116:UInt8),(111:UInt8),(112:UInt8)])) r1.2.2.1 r1.2.2.2.1 r1.2.2.2.2.1 r1.2.2.2.2.2.1 r1.2.2.2.2.2.2.1 r1.2.2.2.2.2.2.2.1 r1.2.2.2.2.2.2.2.2.1 r1.2.2.2.2.2.2.2.2.2.1 r1.2.2.2.2.2.2.2.2.2.2).bind fun r2 =>
 (brE r2.1
 ((qwn (ByteArray.mk (List.toArray [(59:UInt8)])) r2.2.2.1 r2.2.2.2.1 r2.2.2.2.2.1 r2.2.2.2.2.2.1 r2.2.2.2.2.2.2.1 r2.2.2.2.2.2.2.2.1 r2.2.2.2.2.2.2.2.2.1 r2.2.2.2.2.2.2.2.2.2.1 r2.2.2.2.2.2.2.2.2.2.2).bind fun r3 =>
 (some ((4,(0,((EC.decL q5t []),(⟨#[]⟩,(0,(⟨#[]⟩,(0,((EC.decL q5u []),((EC.decL q5u []),(0,(⟨#[]⟩,(⟨#[]⟩,0)))))))))))),((4,(0,((EC.decL q5t []),(⟨#[]⟩,(0,(⟨#[]⟩,(0,((EC.decL q5u []),((EC.decL q5u []),(0,(⟨#[]⟩,(⟨#[]⟩,0)))))))))))),(r3.2.2.1,(r3.2.2.2.1,(r3.2.2.2.2.1,(r3.2.2.2.2.2.1,(r3.2.2.2.2.2.2.1,(r3.2.2.2.2.2.2.2.1,(r3.2.2.2.2.2.2.2.2.1,(r3.2.2.2.2.2.2.2.2.2.1,r3.2.2.2.2.2.2.2.2.2.2))))))))))))
 ((qtw r2.2.2.1 r2.2.2.2.1 r2.2.2.2.2.1 r2.2.2.2.2.2.1 r2.2.2.2.2.2.2.1 r2.2.2.2.2.2.2.2.1 r2.2.2.2.2.2.2.2.2.1 r2.2.2.2.2.2.2.2.2.2.1 r2.2.2.2.2.2.2.2.2.2.2).bind fun r3 =>
 (gL q5t r3.1.2.2.1<|
 (gL q5u r3.1.2.2.2.2.2.2.2.1<|
 (gL q5u r3.1.2.2.2.2.2.2.2.2.1<|
 (gL q5t r3.1.2.2.1<|
 (gL q5u r3.1.2.2.2.2.2.2.2.1<|
 (gL q5u r3.1.2.2.2.2.2.2.2.2.1<|
 (some ((r3.1.1,(r3.1.2.1,((dL q5t r3.1.2.2.1),(r3.1.2.2.2.1,(r3.1.2.2.2.2.1,(r3.1.2.2.2.2.2.1,(r3.1.2.2.2.2.2.2.1,((dL q5u r3.1.2.2.2.2.2.2.2.1),((dL q5u r3.1.2.2.2.2.2.2.2.2.1),(r3.1.2.2.2.2.2.2.2.2.2.1,(r3.1.2.2.2.2.2.2.2.2.2.2.1,(r3.1.2.2.2.2.2.2.2.2.2.2.2.1,r3.1.2.2.2.2.2.2.2.2.2.2.2.2)))))))))))),((r3.1.1,(r3.1.2.1,((dL q5t r3.1.2.2.1),(r3.1.2.2.2.1,(r3.1.2.2.2.2.1,(r3.1.2.2.2.2.2.1,(r3.1.2.2.2.2.2.2.1,((dL q5u r3.1.2.2.2.2.2.2.2.1),((dL q5u r3.1.2.2.2.2.2.2.2.2.1),(r3.1.2.2.2.2.2.2.2.2.2.1,(r3.1.2.2.2.2.2.2.2.2.2.2.1,(r3.1.2.2.2.2.2.2.2.2.2.2.2.1,r3.1.2.2.2.2.2.2.2.2.2.2.2.2)))))))))))),(r3.2.2.1,(r3.2.2.2.1,(r3.2.2.2.2.1,(r3.2.2.2.2.2.1,(r3.2.2.2.2.2.2.1,(r3.2.2.2.2.2.2.2.1,(r3.2.2.2.2.2.2.2.2.1,(r3.2.2.2.2.2.2.2.2.2.1,r3.2.2.2.2.2.2.2.2.2.2)))))))))))))))))))))))))
 (some ((0,(0,((EC.decL q5t []),(⟨#[]⟩,(0,(⟨#[]⟩,(0,((EC.decL q5u []),((EC.decL q5u []),(0,(⟨#[]⟩,(⟨#[]⟩,0)))))))))))),((0,(0,((EC.decL q5t []),(⟨#[]⟩,(0,(⟨#[]⟩,(0,((EC.decL q5u []),((EC.decL q5u []),(0,(⟨#[]⟩,(⟨#[]⟩,0)))))))))))),(b0,(b0_1,(b0_2,(b0_3,(b0_4,(true,((wI b0_6),(b0_7,b0_8))))))))))))
theorem qxi {b0 b0_1 b0_2 b0_3 b0_4 b0_5 b0_6 b0_7 b0_8 r} (h:qxm b0 b0_1 b0_2 b0_3 b0_4 b0_5 b0_6 b0_7 b0_8=some r):qxg b0 b0_1 b0_2 b0_3 b0_4 b0_5 b0_6 b0_7 b0_8=some r :=
 q92 (fn:=Tryz.f40) (es:=q14f) (hs:=q9f) [] (by kernel_rfl) rfl (by kernel_rfl) (by kernel_rfl) trivial trivial (by kernel_rfl) h
def qxv:=sLS [0,3] (qb7 (vPtr 0 0) (qb9 (vRow 1))) (qb7 z1n (qb9 (qdm (bRow q5u)))) [false,false] [0] (by decide) (fun _=>rfl)
def qxu:=sLS [0,3,32] (qb7 (vPtr 0 0) (qb7 (vRow 1) z1v)) (qb7 z1n (qb9 (qdm (bRow q5u)))) [false,false] [0] (by decide) (fun _=>rfl)
def qxt:=oAt 2 qxu
def qxq (out:Nat) (b0:BA) (b0_1 b0_2 b0_3:Int) (b0_4:BA) (b0_5:Bool) (b0_6 b0_7 b0_8:Int) (b1:L59):=lS Tryz.prog lv X0 20 39 (q8x (cdF Tryz.f20) 2) qxv qxt (((),out),((b0,b0_1,b0_2,b0_3,b0_4,b0_5,b0_6,b0_7,b0_8),b1))
def qxw (out:Nat) (b0:BA) (b0_1 b0_2 b0_3:Int) (b0_4:BA) (b0_5:Bool) (b0_6 b0_7 b0_8:Int) (b1:L59):Oq ((Unit×Nat×Bool)×((BA×Int×Int×Int×BA×Bool×Int×Int×Int)×L59)) :=
 (brE ((!b0_5)==true)
 (brE ((b0_2 != 0)==true)
 (brE ((b0_2 != 4)==false)
 (brE (!(b0_4.toList==(ByteArray.toList (ByteArray.mk (List.toArray [(125:UInt8)])))))
 ((qxg b0 b0_1 b0_2 b0_3 b0_4 b0_5 b0_6 b0_7 b0_8).bind fun r0 =>
 (gdE ((((aL [[(C.int Go.IntKind.i64 r0.1.1),(C.int Go.IntKind.i64 r0.1.2.1),(C.sl (EC.encL q5t r0.1.2.2.1)),(C.str r0.1.2.2.2.1),(C.int Go.IntKind.i64 r0.1.2.2.2.2.1),(C.str r0.1.2.2.2.2.2.1),(C.int Go.IntKind.i64 r0.1.2.2.2.2.2.2.1),(C.sl (EC.encL q5u r0.1.2.2.2.2.2.2.2.1)),(C.sl (EC.encL q5u r0.1.2.2.2.2.2.2.2.2.1)),(C.int Go.IntKind.i64 r0.1.2.2.2.2.2.2.2.2.2.1),(C.str r0.1.2.2.2.2.2.2.2.2.2.2.1),(C.str r0.1.2.2.2.2.2.2.2.2.2.2.2.1),(C.int Go.IntKind.i64 r0.1.2.2.2.2.2.2.2.2.2.2.2.2)]] 13)&&(aL (EC.encL q5u b1) 13))&&(dQ (out+(List.length [[(C.int Go.IntKind.i64 r0.1.1),(C.int Go.IntKind.i64 r0.1.2.1),(C.sl (EC.encL q5t r0.1.2.2.1)),(C.str r0.1.2.2.2.1),(C.int Go.IntKind.i64 r0.1.2.2.2.2.1),(C.str r0.1.2.2.2.2.2.1),(C.int Go.IntKind.i64 r0.1.2.2.2.2.2.2.1),(C.sl (EC.encL q5u r0.1.2.2.2.2.2.2.2.1)),(C.sl (EC.encL q5u r0.1.2.2.2.2.2.2.2.2.1)),(C.int Go.IntKind.i64 r0.1.2.2.2.2.2.2.2.2.2.1),(C.str r0.1.2.2.2.2.2.2.2.2.2.2.1),(C.str r0.1.2.2.2.2.2.2.2.2.2.2.2.1),(C.int Go.IntKind.i64 r0.1.2.2.2.2.2.2.2.2.2.2.2.2)]])) 184))&&(decide ((out+(List.length [[(C.int Go.IntKind.i64 r0.1.1),(C.int Go.IntKind.i64 r0.1.2.1),(C.sl (EC.encL q5t r0.1.2.2.1)),(C.str r0.1.2.2.2.1),(C.int Go.IntKind.i64 r0.1.2.2.2.2.1),(C.str r0.1.2.2.2.2.2.1),(C.int Go.IntKind.i64 r0.1.2.2.2.2.2.2.1),(C.sl (EC.encL q5u r0.1.2.2.2.2.2.2.2.1)),(C.sl (EC.encL q5u r0.1.2.2.2.2.2.2.2.2.1)),(C.int Go.IntKind.i64 r0.1.2.2.2.2.2.2.2.2.2.1),(C.str r0.1.2.2.2.2.2.2.2.2.2.2.1),(C.str r0.1.2.2.2.2.2.2.2.2.2.2.2.1),(C.int Go.IntKind.i64 r0.1.2.2.2.2.2.2.2.2.2.2.2.2)]]))≤9223372036854775807)))<|
 (gdE (EC.isL q5u ((EC.encL q5u b1)++[[(C.int Go.IntKind.i64 r0.1.1),(C.int Go.IntKind.i64 r0.1.2.1),(C.sl (EC.encL q5t r0.1.2.2.1)),(C.str r0.1.2.2.2.1),(C.int Go.IntKind.i64 r0.1.2.2.2.2.1),(C.str r0.1.2.2.2.2.2.1),(C.int Go.IntKind.i64 r0.1.2.2.2.2.2.2.1),(C.sl (EC.encL q5u r0.1.2.2.2.2.2.2.2.1)),(C.sl (EC.encL q5u r0.1.2.2.2.2.2.2.2.2.1)),(C.int Go.IntKind.i64 r0.1.2.2.2.2.2.2.2.2.2.1),(C.str r0.1.2.2.2.2.2.2.2.2.2.2.1),(C.str r0.1.2.2.2.2.2.2.2.2.2.2.2.1),(C.int Go.IntKind.i64 r0.1.2.2.2.2.2.2.2.2.2.2.2.2)]]))<|
 (qxq (out+(List.length [[(C.int Go.IntKind.i64 r0.1.1),(C.int Go.IntKind.i64 r0.1.2.1),(C.sl (EC.encL q5t r0.1.2.2.1)),(C.str r0.1.2.2.2.1),(C.int Go.IntKind.i64 r0.1.2.2.2.2.1),(C.str r0.1.2.2.2.2.2.1),(C.int Go.IntKind.i64 r0.1.2.2.2.2.2.2.1),(C.sl (EC.encL q5u r0.1.2.2.2.2.2.2.2.1)),(C.sl (EC.encL q5u r0.1.2.2.2.2.2.2.2.2.1)),(C.int Go.IntKind.i64 r0.1.2.2.2.2.2.2.2.2.2.1),(C.str r0.1.2.2.2.2.2.2.2.2.2.2.1),(C.str r0.1.2.2.2.2.2.2.2.2.2.2.2.1),(C.int Go.IntKind.i64 r0.1.2.2.2.2.2.2.2.2.2.2.2.2)]])) r0.2.2.1 r0.2.2.2.1 r0.2.2.2.2.1 r0.2.2.2.2.2.1 r0.2.2.2.2.2.2.1 r0.2.2.2.2.2.2.2.1 r0.2.2.2.2.2.2.2.2.1 r0.2.2.2.2.2.2.2.2.2.1 r0.2.2.2.2.2.2.2.2.2.2 (EC.decL q5u ((EC.encL q5u b1)++[[(C.int Go.IntKind.i64 r0.1.1),(C.int Go.IntKind.i64 r0.1.2.1),(C.sl (EC.encL q5t r0.1.2.2.1)),(C.str r0.1.2.2.2.1),(C.int Go.IntKind.i64 r0.1.2.2.2.2.1),(C.str r0.1.2.2.2.2.2.1),(C.int Go.IntKind.i64 r0.1.2.2.2.2.2.2.1),(C.sl (EC.encL q5u r0.1.2.2.2.2.2.2.2.1)),(C.sl (EC.encL q5u r0.1.2.2.2.2.2.2.2.2.1)),(C.int Go.IntKind.i64 r0.1.2.2.2.2.2.2.2.2.2.1),(C.str r0.1.2.2.2.2.2.2.2.2.2.2.1),(C.str r0.1.2.2.2.2.2.2.2.2.2.2.2.1),(C.int Go.IntKind.i64 r0.1.2.2.2.2.2.2.2.2.2.2.2.2)]]))))))
 (gL q5u b1<|
 (some (((),(out,false)),((b0,(b0_1,(b0_2,(b0_3,(b0_4,(b0_5,(b0_6,(b0_7,b0_8)))))))),(dL q5u b1))))))
 ((qxg b0 b0_1 b0_2 b0_3 b0_4 b0_5 b0_6 b0_7 b0_8).bind fun r0 =>
 (gdE ((((aL [[(C.int Go.IntKind.i64 r0.1.1),(C.int Go.IntKind.i64 r0.1.2.1),(C.sl (EC.encL q5t r0.1.2.2.1)),(C.str r0.1.2.2.2.1),(C.int Go.IntKind.i64 r0.1.2.2.2.2.1),(C.str r0.1.2.2.2.2.2.1),(C.int Go.IntKind.i64 r0.1.2.2.2.2.2.2.1),(C.sl (EC.encL q5u r0.1.2.2.2.2.2.2.2.1)),(C.sl (EC.encL q5u r0.1.2.2.2.2.2.2.2.2.1)),(C.int Go.IntKind.i64 r0.1.2.2.2.2.2.2.2.2.2.1),(C.str r0.1.2.2.2.2.2.2.2.2.2.2.1),(C.str r0.1.2.2.2.2.2.2.2.2.2.2.2.1),(C.int Go.IntKind.i64 r0.1.2.2.2.2.2.2.2.2.2.2.2.2)]] 13)&&(aL (EC.encL q5u b1) 13))&&(dQ (out+(List.length [[(C.int Go.IntKind.i64 r0.1.1),(C.int Go.IntKind.i64 r0.1.2.1),(C.sl (EC.encL q5t r0.1.2.2.1)),(C.str r0.1.2.2.2.1),(C.int Go.IntKind.i64 r0.1.2.2.2.2.1),(C.str r0.1.2.2.2.2.2.1),(C.int Go.IntKind.i64 r0.1.2.2.2.2.2.2.1),(C.sl (EC.encL q5u r0.1.2.2.2.2.2.2.2.1)),(C.sl (EC.encL q5u r0.1.2.2.2.2.2.2.2.2.1)),(C.int Go.IntKind.i64 r0.1.2.2.2.2.2.2.2.2.2.1),(C.str r0.1.2.2.2.2.2.2.2.2.2.2.1),(C.str r0.1.2.2.2.2.2.2.2.2.2.2.2.1),(C.int Go.IntKind.i64 r0.1.2.2.2.2.2.2.2.2.2.2.2.2)]])) 184))&&(decide ((out+(List.length [[(C.int Go.IntKind.i64 r0.1.1),(C.int Go.IntKind.i64 r0.1.2.1),(C.sl (EC.encL q5t r0.1.2.2.1)),(C.str r0.1.2.2.2.1),(C.int Go.IntKind.i64 r0.1.2.2.2.2.1),(C.str r0.1.2.2.2.2.2.1),(C.int Go.IntKind.i64 r0.1.2.2.2.2.2.2.1),(C.sl (EC.encL q5u r0.1.2.2.2.2.2.2.2.1)),(C.sl (EC.encL q5u r0.1.2.2.2.2.2.2.2.2.1)),(C.int Go.IntKind.i64 r0.1.2.2.2.2.2.2.2.2.2.1),(C.str r0.1.2.2.2.2.2.2.2.2.2.2.1),(C.str r0.1.2.2.2.2.2.2.2.2.2.2.2.1),(C.int Go.IntKind.i64 r0.1.2.2.2.2.2.2.2.2.2.2.2.2)]]))≤9223372036854775807)))<|
 (gdE (EC.isL q5u ((EC.encL q5u b1)++[[(C.int Go.IntKind.i64 r0.1.1),(C.int Go.IntKind.i64 r0.1.2.1),(C.sl (EC.encL q5t r0.1.2.2.1)),(C.str r0.1.2.2.2.1),(C.int Go.IntKind.i64 r0.1.2.2.2.2.1),(C.str r0.1.2.2.2.2.2.1),(C.int Go.IntKind.i64 r0.1.2.2.2.2.2.2.1),(C.sl (EC.encL q5u r0.1.2.2.2.2.2.2.2.1)),(C.sl (EC.encL q5u r0.1.2.2.2.2.2.2.2.2.1)),(C.int Go.IntKind.i64 r0.1.2.2.2.2.2.2.2.2.2.1),(C.str r0.1.2.2.2.2.2.2.2.2.2.2.1),(C.str r0.1.2.2.2.2.2.2.2.2.2.2.2.1),(C.int Go.IntKind.i64 r0.1.2.2.2.2.2.2.2.2.2.2.2.2)]]))<|
 (qxq (out+(List.length [[(C.int Go.IntKind.i64 r0.1.1),(C.int Go.IntKind.i64 r0.1.2.1),(C.sl (EC.encL q5t r0.1.2.2.1)),(C.str r0.1.2.2.2.1),(C.int Go.IntKind.i64 r0.1.2.2.2.2.1),(C.str r0.1.2.2.2.2.2.1),(C.int Go.IntKind.i64 r0.1.2.2.2.2.2.2.1),(C.sl (EC.encL q5u r0.1.2.2.2.2.2.2.2.1)),(C.sl (EC.encL q5u r0.1.2.2.2.2.2.2.2.2.1)),(C.int Go.IntKind.i64 r0.1.2.2.2.2.2.2.2.2.2.1),(C.str r0.1.2.2.2.2.2.2.2.2.2.2.1),(C.str r0.1.2.2.2.2.2.2.2.2.2.2.2.1),(C.int Go.IntKind.i64 r0.1.2.2.2.2.2.2.2.2.2.2.2.2)]])) r0.2.2.1 r0.2.2.2.1 r0.2.2.2.2.1 r0.2.2.2.2.2.1 r0.2.2.2.2.2.2.1 r0.2.2.2.2.2.2.2.1 r0.2.2.2.2.2.2.2.2.1 r0.2.2.2.2.2.2.2.2.2.1 r0.2.2.2.2.2.2.2.2.2.2 (EC.decL q5u ((EC.encL q5u b1)++[[(C.int Go.IntKind.i64 r0.1.1),(C.int Go.IntKind.i64 r0.1.2.1),(C.sl (EC.encL q5t r0.1.2.2.1)),(C.str r0.1.2.2.2.1),(C.int Go.IntKind.i64 r0.1.2.2.2.2.1),(C.str r0.1.2.2.2.2.2.1),(C.int Go.IntKind.i64 r0.1.2.2.2.2.2.2.1),(C.sl (EC.encL q5u r0.1.2.2.2.2.2.2.2.1)),(C.sl (EC.encL q5u r0.1.2.2.2.2.2.2.2.2.1)),(C.int Go.IntKind.i64 r0.1.2.2.2.2.2.2.2.2.2.1),(C.str r0.1.2.2.2.2.2.2.2.2.2.2.1),(C.str r0.1.2.2.2.2.2.2.2.2.2.2.2.1),(C.int Go.IntKind.i64 r0.1.2.2.2.2.2.2.2.2.2.2.2.2)]])))))))
 (gL q5u b1<|
 (some (((),(out,false)),((b0,(b0_1,(b0_2,(b0_3,(b0_4,(b0_5,(b0_6,(b0_7,b0_8)))))))),(dL q5u b1))))))
 (gL q5u b1<|
 (some (((),(out,false)),((b0,(b0_1,(b0_2,(b0_3,(b0_4,(b0_5,(b0_6,(b0_7,b0_8)))))))),(dL q5u b1))))))
theorem qxs {out b0 b0_1 b0_2 b0_3 b0_4 b0_5 b0_6 b0_7 b0_8 b1 r} (h:qxw out b0 b0_1 b0_2 b0_3 b0_4 b0_5 b0_6 b0_7 b0_8 b1=some r):qxq out b0 b0_1 b0_2 b0_3 b0_4 b0_5 b0_6 b0_7 b0_8 b1=some r :=
 qbb (es:=q14f) (hs:=q9f) [] (by kernel_rfl) trivial trivial (by kernel_rfl) h
def qxr:=qby Tryz.prog lv X0 2 (q8x (cdF Tryz.f20) 2) qxv qxt (fun x=>qxq x.1.2 x.2.1.1 x.2.1.2.1 x.2.1.2.2.1 x.2.1.2.2.2.1 x.2.1.2.2.2.2.1 x.2.1.2.2.2.2.2.1 x.2.1.2.2.2.2.2.2.1 x.2.1.2.2.2.2.2.2.2.1 x.2.1.2.2.2.2.2.2.2.2 x.2.2) (fun _ _ h=>qba h)
def qy0 (b0:BA) (b0_1 b0_2 b0_3:Int) (b0_4:BA) (b0_5:Bool) (b0_6 b0_7 b0_8:Int):Oq (L59×(L59×(BA×Int×Int×Int×BA×Bool×Int×Int×Int))) :=
 ((qxq 0 b0 b0_1 b0_2 b0_3 b0_4 b0_5 b0_6 b0_7 b0_8 (EC.decL q5u [])).bind fun r0 =>
 (gL q5u r0.2.2<|
 (gL q5u r0.2.2<|
 (some ((dL q5u r0.2.2),((dL q5u r0.2.2),(r0.2.1.1,(r0.2.1.2.1,(r0.2.1.2.2.1,(r0.2.1.2.2.2.1,(r0.2.1.2.2.2.2.1,(r0.2.1.2.2.2.2.2.1,(r0.2.1.2.2.2.2.2.2.1,(r0.2.1.2.2.2.2.2.2.2.1,r0.2.1.2.2.2.2.2.2.2.2))))))))))))))
theorem qxp {b0 b0_1 b0_2 b0_3 b0_4 b0_5 b0_6 b0_7 b0_8 r} (h:qy0 b0 b0_1 b0_2 b0_3 b0_4 b0_5 b0_6 b0_7 b0_8=some r):qxn b0 b0_1 b0_2 b0_3 b0_4 b0_5 b0_6 b0_7 b0_8=some r :=
 q92 (fn:=Tryz.f20) (es:=q14f) (hs:=q9f) [qxr] (by kernel_rfl) rfl (by kernel_rfl) (by kernel_rfl) ⟨⟨_,rfl,rfl⟩,trivial⟩ trivial (by kernel_rfl) h
def qsa:Cod (V×List B) ((List S59)×(Int×Int)):=(cFstU (cPair (vTup (qb7 (vC (cSl q5u)) (qb9 (vAgg (qb7 z1o (qb9 z1o)))))) qb8))
def qsd (s:BA):=fS Tryz.prog lv X0 8 qs9 qsa s
def qse (s:BA):Oq (L59×(Int×Int)) :=
 (brE (decide ((s.size:Int)>4000))
 ((q3b 1 (-1)).bind fun r0 =>
 (some ((EC.decL q5u []),(r0.1,r0.2))))
 ((qun s 0 0 0 ⟨#[]⟩ false 0 1 0).bind fun r0 =>
 ((qxn r0.2.2.1 r0.2.2.2.1 r0.2.2.2.2.1 r0.2.2.2.2.2.1 r0.2.2.2.2.2.2.1 r0.2.2.2.2.2.2.2.1 r0.2.2.2.2.2.2.2.2.1 r0.2.2.2.2.2.2.2.2.2.1 r0.2.2.2.2.2.2.2.2.2.2).bind fun r1 =>
 (brE (r1.2.2.2.2.2.2.2.1==false)
 (brE (r1.2.2.2.2.1 != 0)
 ((q3b 11 r1.2.2.2.2.2.1).bind fun r2 =>
 (some ((EC.decL q5u []),(r2.1,r2.2))))
 (gL q5u r1.1<|
 ((qt6 (dL q5u r1.1)).bind fun r2 =>
 ((q35 r2.1 r2.2).bind fun r3 =>
 (brE r3
 ((q3b r2.1 (-2)).bind fun r4 =>
 (some ((EC.decL q5u []),(r4.1,r4.2))))
 (Option.bind q3h fun r4 =>
 (gL q5u r1.1<|
 (some ((dL q5u r1.1),(r4.1,r4.2))))))))))
 ((q3b 11 r1.2.2.2.2.2.1).bind fun r2 =>
 (some ((EC.decL q5u []),(r2.1,r2.2))))))))
theorem qsc {s r} (h:qse s=some r):qsd s=some r :=
 q75 (es:=q14f) (hs:=q9f) [] Tryz.func8 rfl (by kernel_rfl) rfl (by kernel_rfl) (by kernel_rfl) trivial trivial (by kernel_rfl) h
def qsb:=entS Tryz.prog lv X0 8 [] qs9 qsa (fun x=>qsd x) (fun _ _ h=>q74 h)
def q14d:=qsb::q14f
end
end Go.Proofs.YtognhcibcocbkaaGreatDoor
