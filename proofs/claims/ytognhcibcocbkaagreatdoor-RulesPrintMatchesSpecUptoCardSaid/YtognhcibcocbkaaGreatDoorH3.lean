/- Functions of the program as plain functions: made by program from the machine. -/
import Derived.Test.YtognhcibcocbkaaGreatDoorH2
namespace Go.Proofs.YtognhcibcocbkaaGreatDoor
open Go.RowKit
set_option maxRecDepth 100000
noncomputable section
def q5m:EC ByteArray where
 enc x:=[.str x]
 dec c:=qss (c.getD 0 .ne)
 is c:=isE [.str] 0 c
 enc_dec h:=q4x h
 dec_enc x:=by rfl
 is_enc x:=by simp [isE,isK]
theorem enc_9 (x:ByteArray):q5m.enc x=[.str x]:=rfl
theorem isE_9 (xs:List ByteArray) (n:Nat):isE [.str] 0 ((q5m.encL xs).getD n [])=decide (n<xs.length):=by
 by_cases h:n<xs.length
 ·simp only [EC.getD_lt _ _ h];simp [enc_9,isE,isK,h]
 ·simp only [EC.getD_ge _ _ (Nat.not_lt.1 h)];simp [isE,isK,h]
theorem at_9_0 (xs:List ByteArray) (n:Nat):qss (((q5m.encL xs).getD n []).getD 0 .ne)=(xs.getD n (q5m.dec [])):=by
 by_cases h:n<xs.length
 ·simp only [EC.getD_lt _ _ h];simp [enc_9,h,qss,List.getD_eq_getElem?_getD]
 ·simp only [EC.getD_ge _ _ (Nat.not_lt.1 h)];simp [Nat.not_lt.1 h,q5m,qss,List.getD_eq_getElem?_getD]
theorem lit_9 (a0:ByteArray):([.str a0]:List C)=q5m.enc a0:=rfl
theorem apd_9 (xs:List ByteArray) (a0:ByteArray):q5m.encL xs++[[.str a0]]=q5m.encL (xs++[a0]):=by rw [lit_9];simp [EC.encL]
theorem all_9 (xs:List ByteArray):(q5m.encL xs).all (fun (el:List C)=>el.length==1)=true:=by induction xs with|nil=>rfl|cons x xs ih=>first|(simp [EC.encL,enc_9];done)|simpa [EC.encL,enc_9] using ih
abbrev z1t:=(vC (cInt .i64))
abbrev z22:=(qah z1t (qaj z1t))
def qww:=z22
def qwx:Cod (V×List B) (Int×Int):=(cFstU (cPair (vAgg z22) qai))
def qx0 (code index:Int):=fS Tryz.prog lv X0 16 qww qwx (code,index)
def qx1 (code index:Int):Oq (Int×Int) :=
 (some (code,index))
theorem qwz {code index r} (h:qx1 code index=some r):qx0 code index=some r :=
 q6x (es:=qtn) (hs:=q97) [] Tryz.func16 rfl (by kernel_rfl) rfl (by kernel_rfl) (by kernel_rfl) trivial trivial (by kernel_rfl) h
def qwy:=entS Tryz.prog lv X0 16 [] qww qwx (fun x=>qx0 x.1 x.2) (fun _ _ h=>q6w h)
def q16l:=qwy::qtn
def qxf:=(qah z1t z22)
def qxg:Cod (V×List B) Bool:=(cFstU (cPair (vC cBool) qai))
def qxj (n low high:Int):=fS Tryz.prog lv X0 41 qxf qxg (n,low,high)
def qxk (n low high:Int):Oq Bool :=
 (brE ((decide (low≤n))==true)
 (some (decide (n≤high)))
 (some false))
theorem qxi {n low high r} (h:qxk n low high=some r):qxj n low high=some r :=
 q6x (es:=q16l) (hs:=q97) [] Tryz.func41 rfl (by kernel_rfl) rfl (by kernel_rfl) (by kernel_rfl) trivial trivial (by kernel_rfl) h
def qxh:=entS Tryz.prog lv X0 41 [] qxf qxg (fun x=>qxj x.1 x.2.1 x.2.2) (fun _ _ h=>q6w h)
def q16n:=qxh::q16l
def qx2:=(qaj z1t)
abbrev z1z:=(qaj (vC cStr))
def qxb:=sLS [0,3,4] (qah z1t (qah (vC cStr) z1z)) qai [] [] (by decide) (fun _=>rfl)
abbrev z1y:=(qaj (vC cBool))
def qxa:=sLS [0,3,4,13] (qah z1t (qah (vC cStr) (qah (vC cStr) z1y))) qai [] [] (by decide) (fun _=>rfl)
def qx9:=oAt 2 qxa
def qx6 (n:Int) (d s:BA):=lS Tryz.prog lv X0 35 26 (q8l (cdF Tryz.f35) 3) qxb qx9 ((n,d,s),())
abbrev zp (n:Int):=(Int.tmod (IntKind.wrap .i64 (Int.tdiv n 10)) 10)
def qxc (n:Int) (d s:BA):Oq ((Int×BA×BA×Bool)×Unit) :=
 (brE (decide (n≥10))
 (gdE ((p0 (wI (zp n)))&&(decide ((wI (zp n))≤(d.size:Int))))<|
 (gdE ((p0 (zp n))&&(decide ((zp n)≤(((Int.toNat (wI (zp n))):Nat):Int))))<|
 (brE (decide (((((ByteArray.size (ByteArray.extract d (Int.toNat (zp n)) (Int.toNat (wI (zp n)))))+s.size):Nat):Int)>(Go.IntKind.max Go.IntKind.i64)))
 none
 (qx6 (IntKind.wrap .i64 (Int.tdiv n 10)) d ((ByteArray.extract d (Int.toNat (zp n)) (Int.toNat (wI (zp n))))++s)))))
 (some ((n,(d,(s,false))),())))
theorem qx8 {n d s r} (h:qxc n d s=some r):qx6 n d s=some r :=
 qal (es:=q16n) (hs:=q97) [] (by kernel_rfl) trivial trivial (by kernel_rfl) h
def qx7:=qb9 Tryz.prog lv X0 3 (q8l (cdF Tryz.f35) 3) qxb qx9 (fun x=>qx6 x.1.1 x.1.2.1 x.1.2.2) (fun _ _ h=>qak h)
abbrev z25:=(cFstU (cPair (vC cStr) (qai (ρ:=B))))
def qx3:Cod (V×List B) ByteArray:=z25
def qxd (n:Int):=fS Tryz.prog lv X0 35 qx2 qx3 n
def qxe (n:Int):Oq BA :=
 (gdE ((p0 (wI (Int.tmod n 10)))&&(decide ((wI (Int.tmod n 10))≤(((ByteArray.size (ByteArray.mk (List.toArray [(48:UInt8),(49:UInt8),(50:UInt8),(51:UInt8),(52:UInt8),(53:UInt8),(54:UInt8),(55:UInt8),(56:UInt8),(57:UInt8)]))):Nat):Int))))<|
 (gdE ((p0 (Int.tmod n 10))&&(decide ((Int.tmod n 10)≤(((Int.toNat (wI (Int.tmod n 10))):Nat):Int))))<|
 ((qx6 n (ByteArray.mk (List.toArray [(48:UInt8),(49:UInt8),(50:UInt8),(51:UInt8),(52:UInt8),(53:UInt8),(54:UInt8),(55:UInt8),(56:UInt8),(57:UInt8)])) (ByteArray.extract (ByteArray.mk (List.toArray [(48:UInt8),(49:UInt8),(50:UInt8),(51:UInt8),(52:UInt8),(53:UInt8),(54:UInt8),(55:UInt8),(56:UInt8),(57:UInt8)])) (Int.toNat (Int.tmod n 10)) (Int.toNat (wI (Int.tmod n 10))))).bind fun r0 =>
 (some r0.1.2.2.1))))
theorem qx5 {n r} (h:qxe n=some r):qxd n=some r :=
 q6x (es:=q16n) (hs:=q97) [qx7] Tryz.func35 rfl (by kernel_rfl) rfl (by kernel_rfl) (by kernel_rfl) ⟨⟨_,rfl,rfl⟩,trivial⟩ trivial (by kernel_rfl) h
def qx4:=entS Tryz.prog lv X0 35 [] qx2 qx3 (fun x=>qxd x) (fun _ _ h=>q6w h)
def q16m:=qx4::q16n
def qxl:=(qah (vC (cSl q5m)) z1z)
abbrev z28:=(qah (vC cStr) (qaj z1t))
def qxu:=sLS [0,1,5,6] (qah (vC (cSl q5m)) (qah (vC cStr) z28)) qai [] [] (by decide) (fun _=>rfl)
abbrev z24:=(qah (vC cStr) (qah z1t z1y))
def qxt:=sLS [0,1,5,6,10] (qah (vC (cSl q5m)) (qah (vC cStr) z24)) qai [] [] (by decide) (fun _=>rfl)
def qxs:=oAt 2 qxt
def qxp (l:LB) (by_ out:BA) (i:Int):=lS Tryz.prog lv X0 52 25 (q8l (cdF Tryz.f52) 3) qxu qxs ((l,by_,out,i),())
abbrev zq (l:LB) (i:Int):=(qss (List.getD (List.getD (EC.encL q5m l) (Int.toNat i) []) 0 C.ne))
def qxv (l:LB) (by_ out:BA) (i:Int):Oq ((LB×BA×BA×Int×Bool)×Unit) :=
 (brE (decide (i<(lN q5m l:Int)))
 (brE (decide (i>0))
 (brE (decide ((((out.size+by_.size):Nat):Int)>(Go.IntKind.max Go.IntKind.i64)))
 none
 (gdE (p0 i)<|
 (gdE (eC q5m l i [K1.str])<|
 (brE (decide (((((ByteArray.size (out++by_))+(ByteArray.size (zq l i))):Nat):Int)>(Go.IntKind.max Go.IntKind.i64)))
 none
 (gL q5m l<|
 (qxp (dL q5m l) by_ ((out++by_)++(zq l i)) (wI i)))))))
 (gdE (p0 i)<|
 (gdE (eC q5m l i [K1.str])<|
 (brE (decide ((((out.size+(ByteArray.size (zq l i))):Nat):Int)>(Go.IntKind.max Go.IntKind.i64)))
 none
 (gL q5m l<|
 (qxp (dL q5m l) by_ (out++(zq l i)) (wI i)))))))
 (gL q5m l<|
 (some (((dL q5m l),(by_,(out,(i,false)))),()))))
theorem qxr {l by_ out i r} (h:qxv l by_ out i=some r):qxp l by_ out i=some r :=
 qal (es:=q16m) (hs:=q97) [] (by kernel_rfl) trivial trivial (by kernel_rfl) h
def qxq:=qb9 Tryz.prog lv X0 3 (q8l (cdF Tryz.f52) 3) qxu qxs (fun x=>qxp x.1.1 x.1.2.1 x.1.2.2.1 x.1.2.2.2) (fun _ _ h=>qak h)
def qxm:Cod (V×List B) ByteArray:=z25
def qxw (l:LB) (by_:BA):=fS Tryz.prog lv X0 52 qxl qxm (l,by_)
def qxx (l:LB) (by_:BA):Oq BA :=
 (gL q5m l<|
 ((qxp (dL q5m l) by_ ⟨#[]⟩ 0).bind fun r0 =>
 (some r0.1.2.2.1)))
theorem qxo {l by_ r} (h:qxx l by_=some r):qxw l by_=some r :=
 q6x (es:=q16m) (hs:=q97) [qxq] Tryz.func52 rfl (by kernel_rfl) rfl (by kernel_rfl) (by kernel_rfl) ⟨⟨_,rfl,rfl⟩,trivial⟩ trivial (by kernel_rfl) h
def qxn:=entS Tryz.prog lv X0 52 [] qxl qxm (fun x=>qxw x.1 x.2) (fun _ _ h=>q6w h)
def q16o:=qxn::q16m
def q157:=(qaj z1t)
def q158:Cod (V×List B) Bool:=(cFstU (cPair (vC cBool) qai))
def q15b (act:Int):=fS Tryz.prog lv X0 33 q157 q158 act
def q15c (act:Int):Oq Bool :=
 (brE ((act==2)==false)
 (brE ((act==4)==false)
 (brE ((act==5)==false)
 (some (act==7))
 (some true))
 (some true))
 (some true))
theorem q15a {act r} (h:q15c act=some r):q15b act=some r :=
 q6x (es:=q16o) (hs:=q97) [] Tryz.func33 rfl (by kernel_rfl) rfl (by kernel_rfl) (by kernel_rfl) trivial trivial (by kernel_rfl) h
def q159:=entS Tryz.prog lv X0 33 [] q157 q158 (fun x=>q15b x) (fun _ _ h=>q6w h)
def q16w:=q159::q16o
def qyb:=z1z
def qyk:=sLS [0,3,4] (qah (vC cStr) z28) qai [] [] (by decide) (fun _=>rfl)
def qyj:=sLS [0,3,4,8] (qah (vC cStr) z24) qai [] [] (by decide) (fun _=>rfl)
def qyi:=oAt 2 qyj
def qyf (s out:BA) (i:Int):=lS Tryz.prog lv X0 34 32 (q8l (cdF Tryz.f34) 3) qyk qyi ((s,out,i),())
abbrev zr (s:BA) (i:Int):=(ByteArray.extract s (Int.toNat i) (Int.toNat (wI i)))
abbrev zt (out:BA):=(out++(ByteArray.mk (List.toArray [(92:UInt8)])))
def qyl (s out:BA) (i:Int):Oq ((BA×BA×Int×Bool)×Unit) :=
 (brE (decide (i<(s.size:Int)))
 (gdE ((p0 i)&&(decide ((Int.toNat i)<s.size)))<|
 (brE (((((UInt8.toNat (Array.getD s.data (Int.toNat i) (0:UInt8))):Nat):Int)==34)==false)
 (gdE ((p0 i)&&(decide ((Int.toNat i)<s.size)))<|
 (brE ((((UInt8.toNat (Array.getD s.data (Int.toNat i) (0:UInt8))):Nat):Int)==92)
 (brE (decide ((((out.size+(ByteArray.size (ByteArray.mk (List.toArray [(92:UInt8)])))):Nat):Int)>(Go.IntKind.max Go.IntKind.i64)))
 none
 (gdE ((p0 (wI i))&&(decide ((wI i)≤(s.size:Int))))<|
 (gdE ((p0 i)&&(decide (i≤(((Int.toNat (wI i)):Nat):Int))))<|
 (brE (decide (((((ByteArray.size (zt out))+(ByteArray.size (zr s i))):Nat):Int)>(Go.IntKind.max Go.IntKind.i64)))
 none
 (qyf s ((zt out)++(zr s i)) (wI i))))))
 (gdE ((p0 (wI i))&&(decide ((wI i)≤(s.size:Int))))<|
 (gdE ((p0 i)&&(decide (i≤(((Int.toNat (wI i)):Nat):Int))))<|
 (brE (decide ((((out.size+(ByteArray.size (zr s i))):Nat):Int)>(Go.IntKind.max Go.IntKind.i64)))
 none
 (qyf s (out++(zr s i)) (wI i)))))))
 (brE (decide ((((out.size+(ByteArray.size (ByteArray.mk (List.toArray [(92:UInt8)])))):Nat):Int)>(Go.IntKind.max Go.IntKind.i64)))
 none
 (gdE ((p0 (wI i))&&(decide ((wI i)≤(s.size:Int))))<|
 (gdE ((p0 i)&&(decide (i≤(((Int.toNat (wI i)):Nat):Int))))<|
 (brE (decide (((((ByteArray.size (zt out))+(ByteArray.size (zr s i))):Nat):Int)>(Go.IntKind.max Go.IntKind.i64)))
 none
 (qyf s ((zt out)++(zr s i)) (wI i))))))))
 (some ((s,(out,(i,false))),())))
theorem qyh {s out i r} (h:qyl s out i=some r):qyf s out i=some r :=
 qal (es:=q16w) (hs:=q97) [] (by kernel_rfl) trivial trivial (by kernel_rfl) h
def qyg:=qb9 Tryz.prog lv X0 3 (q8l (cdF Tryz.f34) 3) qyk qyi (fun x=>qyf x.1.1 x.1.2.1 x.1.2.2) (fun _ _ h=>qak h)
def qyc:Cod (V×List B) ByteArray:=z25
def qym (s:BA):=fS Tryz.prog lv X0 34 qyb qyc s
def qyn (s:BA):Oq BA :=
 ((qyf s (ByteArray.mk (List.toArray [(34:UInt8)])) 0).bind fun r0 =>
 (brE (decide ((((r0.1.2.1.size+(ByteArray.size (ByteArray.mk (List.toArray [(34:UInt8)])))):Nat):Int)>(Go.IntKind.max Go.IntKind.i64)))
 none
 (some (r0.1.2.1++(ByteArray.mk (List.toArray [(34:UInt8)]))))))
theorem qye {s r} (h:qyn s=some r):qym s=some r :=
 q6x (es:=q16w) (hs:=q97) [qyg] Tryz.func34 rfl (by kernel_rfl) rfl (by kernel_rfl) (by kernel_rfl) ⟨⟨_,rfl,rfl⟩,trivial⟩ trivial (by kernel_rfl) h
def qyd:=entS Tryz.prog lv X0 34 [] qyb qyc (fun x=>qym x) (fun _ _ h=>q6w h)
def q16q:=qyd::q16w
def q165:=(qaj z1t)
abbrev z27:=(qah (vC cBool) (qah (vC cBool) z1y))
def q166:Cod (V×List B) (Bool×Bool×Bool×Bool):=(cFstU (cPair (vTup (qah (vC cBool) z27)) qai))
def q169 (kind:Int):=fS Tryz.prog lv X0 91 q165 q166 kind
def q16a (kind:Int):Oq (Bool×Bool×Bool×Bool) :=
 ((qxj kind 2 4).bind fun r0 =>
 (brE ((kind==5)==false)
 ((qxj kind 5 7).bind fun r1 =>
 (some (r0,((kind==9),(r1,(kind==8))))))
 ((qxj kind 5 7).bind fun r1 =>
 (some (r0,(true,(r1,(kind==8))))))))
theorem q168 {kind r} (h:q16a kind=some r):q169 kind=some r :=
 q6x (es:=q16q) (hs:=q97) [] Tryz.func91 rfl (by kernel_rfl) rfl (by kernel_rfl) (by kernel_rfl) trivial trivial (by kernel_rfl) h
def q167:=entS Tryz.prog lv X0 91 [] q165 q166 (fun x=>q169 x) (fun _ _ h=>q6w h)
def q16z:=q167::q16q
def q15d:=z1z
def q15n:=sLS [0,3] z28 qai [] [] (by decide) (fun _=>rfl)
def q15m:=sLS [0,3,8] z24 qai [] [] (by decide) (fun _=>rfl)
def q15l:=sLS [2] z1y qai [] [] (by decide) (fun _=>rfl)
def q15k:=oOr 1 q15l (oAt 2 q15m) (fun x=>(by decide:(2:Nat)≠1))
def q15h (s:BA) (i:Int):=lS Tryz.prog lv X0 68 30 (q8l (cdF Tryz.f68) 2) q15n q15k ((s,i),())
def q15o (s:BA) (i:Int):Oq ((Bool×Unit)⊕((BA×Int×Bool)×Unit)) :=
 (brE (decide (i<(s.size:Int)))
 (gdE ((p0 i)&&(decide ((Int.toNat i)<s.size)))<|
 (Option.bind (qxj (IntKind.wrap .i64 (((UInt8.toNat (Array.getD s.data (Int.toNat i) (0:UInt8))):Nat):Int)) 97 122) fun r0 =>
 (brE ((!r0)==true)
 (brE ((decide (i>0))==true)
 (Option.bind (qxj (IntKind.wrap .i64 (((UInt8.toNat (Array.getD s.data (Int.toNat i) (0:UInt8))):Nat):Int)) 48 57) fun r1 =>
 (brE (!r1)
 (some (.inl (false,())))
 (q15h s (wI i))))
 (some (.inl (false,()))))
 (q15h s (wI i)))))
 (some (.inr ((s,(i,false)),()))))
theorem q15j {s i r} (h:q15o s i=some r):q15h s i=some r :=
 qal (es:=q16z) (hs:=q97) [] (by kernel_rfl) trivial trivial (by kernel_rfl) h
def q15i:=qb9 Tryz.prog lv X0 2 (q8l (cdF Tryz.f68) 2) q15n q15k (fun x=>q15h x.1.1 x.1.2) (fun _ _ h=>qak h)
def q15e:Cod (V×List B) Bool:=(cFstU (cPair (vC cBool) qai))
def q15p (s:BA):=fS Tryz.prog lv X0 68 q15d q15e s
def q15q (s:BA):Oq Bool :=
 ((q15h s 0).bind fun r0 =>
 (Sum.elim (fun r1=>(some r1.1))
 (fun r1=>((qxj ((r1.1.1.size:Nat):Int) 1 60).bind fun r2 =>
 (some r2))) r0))
theorem q15g {s r} (h:q15q s=some r):q15p s=some r :=
 q6x (es:=q16z) (hs:=q97) [q15i] Tryz.func68 rfl (by kernel_rfl) rfl (by kernel_rfl) (by kernel_rfl) ⟨⟨_,rfl,rfl⟩,trivial⟩ trivial (by kernel_rfl) h
def q15f:=entS Tryz.prog lv X0 68 [] q15d q15e (fun x=>q15p x) (fun _ _ h=>q6w h)
def q16x:=q15f::q16z
abbrev z1s:=(qah (vC (cInt .i64)) (qah (vC (cSl q5k)) (qah (vC cStr) (qah (vC (cInt .i64)) (qah (vC cStr) (qaj (vC (cInt .i64))))))))
def q124:=(qah (vAgg z1s) (qaj z1t))
def q125:Cod (V×List B) Int:=(cFstU (cPair z1t qai))
def q13t (qt6:Int) (qt9:L57) (qt7:BA) (qt8:Int) (qta:BA) (t_N depth:Int):=fS Tryz.prog lv X0 67 q124 q125 ((qt6,qt9,qt7,qt8,qta,t_N),depth)
def q126:=entS Tryz.prog lv X0 67 [] q124 q125 (fun x=>q13t x.1.1 x.1.2.1 x.1.2.2.1 x.1.2.2.2.1 x.1.2.2.2.2.1 x.1.2.2.2.2.2 x.2) (fun _ _ h=>q6w h)
def q16u:=q126::q16x
abbrev z1w:=(qaj (qd1 (bBox z1s)))
def q13r:=sLS [1,2,9] (qah z1t (qah (vPtr 0 0) (qaj z1t))) z1w [false] [] (by decide) (fun _=>rfl)
def q13q:=sLS [1,2,9,120] (qah z1t (qah (vPtr 0 0) (qah z1t z1y))) z1w [false] [] (by decide) (fun _=>rfl)
def q13p:=sLS [4] (qaj z1t) qai [] [] (by decide) (fun _=>rfl)
def q13o:=oOr 1 q13p (oAt 2 q13q) (fun x=>(by decide:(2:Nat)≠1))
def q13l (depth i b0:Int) (b0_1:L57) (b0_2:BA) (b0_3:Int) (b0_4:BA) (b0_5:Int):=lS Tryz.prog lv X0 67 134 (q8l (cdF Tryz.f67) 19) q13r q13o ((depth,(),i),(b0,b0_1,b0_2,b0_3,b0_4,b0_5))
abbrev zu (i:Int) (b0_1:L57):=(List.getD (EC.encL q5k b0_1) (Int.toNat i) [])
def q13s (depth i b0:Int) (b0_1:L57) (b0_2:BA) (b0_3:Int) (b0_4:BA) (b0_5:Int):Oq ((Int×Unit)⊕((Int×Unit×Int×Bool)×(Int×L57×BA×Int×BA×Int))) :=
 (brE (decide (i<(lN q5k b0_1:Int)))
 (gdE (p0 i)<|
 (gdE (eC q5k b0_1 i [(K1.int Go.IntKind.i64),K1.sl,K1.str,(K1.int Go.IntKind.i64),K1.str,(K1.int Go.IntKind.i64)])<|
 (gdE (EC.isL q5k (slOf (List.getD (zu i b0_1) 1 C.ne)))<|
 ((q13t (q9n (List.getD (zu i b0_1) 0 C.ne)) (uL q5k (List.getD (zu i b0_1) 1 C.ne)) (qss (List.getD (zu i b0_1) 2 C.ne)) (q9n (List.getD (zu i b0_1) 3 C.ne)) (qss (List.getD (zu i b0_1) 4 C.ne)) (q9n (List.getD (zu i b0_1) 5 C.ne)) (wI depth)).bind fun r0 =>
 (brE (r0 != 0)
 (some (.inl (r0,())))
 (gL q5k b0_1<|
 (q13l depth (wI i) b0 (dL q5k b0_1) b0_2 b0_3 b0_4 b0_5)))))))
 (gL q5k b0_1<|
 (some (.inr ((depth,((),(i,false))),(b0,((dL q5k b0_1),(b0_2,(b0_3,(b0_4,b0_5))))))))))
theorem q13n {depth i b0 b0_1 b0_2 b0_3 b0_4 b0_5 r} (h:q13s depth i b0 b0_1 b0_2 b0_3 b0_4 b0_5=some r):q13l depth i b0 b0_1 b0_2 b0_3 b0_4 b0_5=some r :=
 qal (es:=q16u) (hs:=q97) [] (by kernel_rfl) trivial trivial (by kernel_rfl) h
def q13m:=qb9 Tryz.prog lv X0 19 (q8l (cdF Tryz.f67) 19) q13r q13o (fun x=>q13l x.1.1 x.1.2.2 x.2.1 x.2.2.1 x.2.2.2.1 x.2.2.2.2.1 x.2.2.2.2.2.1 x.2.2.2.2.2.2) (fun _ _ h=>qak h)
abbrev z23:=(qaj (vPtr 0 0))
def q135:=sLS [1,2] (qah z1t z23) z1w [false] [] (by decide) (fun _=>rfl)
def q134:=sLS [4] (qaj z1t) qai [] [] (by decide) (fun _=>rfl)
def q133:=oAt 1 q134
def q130 (depth b0:Int) (b0_1:L57) (b0_2:BA) (b0_3:Int) (b0_4:BA) (b0_5:Int):=gS Tryz.prog lv X0 67 134 (q8m (cdF Tryz.f67) 18) q135 q133 ((depth,()),(b0,b0_1,b0_2,b0_3,b0_4,b0_5))
def q136 (depth b0:Int) (b0_1:L57) (b0_2:BA) (b0_3:Int) (b0_4:BA) (b0_5:Int):Oq (Int×Unit) :=
 (gL q5k b0_1<|
 ((q13l depth 0 b0 (dL q5k b0_1) b0_2 b0_3 b0_4 b0_5).bind fun r0 =>
 (Sum.elim (fun r1=>(some (r1.1,())))
 (fun r1=>(some (0,()))) r0)))
theorem q132 {depth b0 b0_1 b0_2 b0_3 b0_4 b0_5 r} (h:q136 depth b0 b0_1 b0_2 b0_3 b0_4 b0_5=some r):q130 depth b0 b0_1 b0_2 b0_3 b0_4 b0_5=some r :=
 q8f (es:=q16u) (hs:=q97) [q13m] (by kernel_rfl) ⟨⟨_,rfl,rfl⟩,trivial⟩ trivial (by kernel_rfl) h
def q131:=gentS Tryz.prog lv X0 18 (q8m (cdF Tryz.f67) 18) (by kernel_rfl) q135 q133 (fun x=>q130 x.1.1 x.2.1 x.2.2.1 x.2.2.2.1 x.2.2.2.2.1 x.2.2.2.2.2.1 x.2.2.2.2.2.2) (fun _ _ h=>q8e h)
def q12y:=sLS [1,2] (qah z1t z23) z1w [false] [] (by decide) (fun _=>rfl)
def q12x:=sLS [4] (qaj z1t) qai [] [] (by decide) (fun _=>rfl)
def q12w:=oAt 1 q12x
def q12t (depth b0:Int) (b0_1:L57) (b0_2:BA) (b0_3:Int) (b0_4:BA) (b0_5:Int):=gS Tryz.prog lv X0 67 134 (q8m (cdF Tryz.f67) 16) q12y q12w ((depth,()),(b0,b0_1,b0_2,b0_3,b0_4,b0_5))
def q12z (depth b0:Int) (b0_1:L57) (b0_2:BA) (b0_3:Int) (b0_4:BA) (b0_5:Int):Oq (Int×Unit) :=
 ((qxj b0_5 0 1000000).bind fun r0 =>
 (brE (!r0)
 (some (3,()))
 (gL q5k b0_1<|
 ((q130 depth b0 (dL q5k b0_1) b0_2 b0_3 b0_4 b0_5).bind fun r1 =>
 (some (r1.1,()))))))
theorem q12v {depth b0 b0_1 b0_2 b0_3 b0_4 b0_5 r} (h:q12z depth b0 b0_1 b0_2 b0_3 b0_4 b0_5=some r):q12t depth b0 b0_1 b0_2 b0_3 b0_4 b0_5=some r :=
 q8f (es:=q16u) (hs:=q97) [q131] (by kernel_rfl) trivial ⟨⟨_,rfl,rfl⟩,trivial⟩ (by kernel_rfl) h
def q12u:=gentS Tryz.prog lv X0 16 (q8m (cdF Tryz.f67) 16) (by kernel_rfl) q12y q12w (fun x=>q12t x.1.1 x.2.1 x.2.2.1 x.2.2.2.1 x.2.2.2.2.1 x.2.2.2.2.2.1 x.2.2.2.2.2.2) (fun _ _ h=>q8e h)
def q12r:=sLS [1,2] (qah z1t z23) z1w [false] [] (by decide) (fun _=>rfl)
def q12q:=sLS [4] (qaj z1t) qai [] [] (by decide) (fun _=>rfl)
def q12p:=oAt 1 q12q
def q12m (depth b0:Int) (b0_1:L57) (b0_2:BA) (b0_3:Int) (b0_4:BA) (b0_5:Int):=gS Tryz.prog lv X0 67 134 (q8m (cdF Tryz.f67) 14) q12r q12p ((depth,()),(b0,b0_1,b0_2,b0_3,b0_4,b0_5))
def q12s (depth b0:Int) (b0_1:L57) (b0_2:BA) (b0_3:Int) (b0_4:BA) (b0_5:Int):Oq (Int×Unit) :=
 (brE (decide ((b0_4.size:Int)>200))
 (some (1,()))
 (gL q5k b0_1<|
 ((q12t depth b0 (dL q5k b0_1) b0_2 b0_3 b0_4 b0_5).bind fun r0 =>
 (some (r0.1,())))))
theorem q12o {depth b0 b0_1 b0_2 b0_3 b0_4 b0_5 r} (h:q12s depth b0 b0_1 b0_2 b0_3 b0_4 b0_5=some r):q12m depth b0 b0_1 b0_2 b0_3 b0_4 b0_5=some r :=
 q8f (es:=q16u) (hs:=q97) [q12u] (by kernel_rfl) trivial ⟨⟨_,rfl,rfl⟩,trivial⟩ (by kernel_rfl) h
def q12n:=gentS Tryz.prog lv X0 14 (q8m (cdF Tryz.f67) 14) (by kernel_rfl) q12r q12p (fun x=>q12m x.1.1 x.2.1 x.2.2.1 x.2.2.2.1 x.2.2.2.2.1 x.2.2.2.2.2.1 x.2.2.2.2.2.2) (fun _ _ h=>q8e h)
def q12k:=sLS [1,2,7] (qah z1t (qah (vPtr 0 0) z1y)) z1w [false] [] (by decide) (fun _=>rfl)
def q12j:=sLS [4] (qaj z1t) qai [] [] (by decide) (fun _=>rfl)
def q12i:=oAt 1 q12j
def q12f (depth:Int) (text:Bool) (b0:Int) (b0_1:L57) (b0_2:BA) (b0_3:Int) (b0_4:BA) (b0_5:Int):=gS Tryz.prog lv X0 67 134 (q8m (cdF Tryz.f67) 12) q12k q12i ((depth,(),text),(b0,b0_1,b0_2,b0_3,b0_4,b0_5))
def q12l (depth:Int) (text:Bool) (b0:Int) (b0_1:L57) (b0_2:BA) (b0_3:Int) (b0_4:BA) (b0_5:Int):Oq (Int×Unit) :=
 (brE (text==true)
 ((qxj b0_3 1 3).bind fun r0 =>
 (brE (!r0)
 (some (4,()))
 (gL q5k b0_1<|
 ((q12m depth b0 (dL q5k b0_1) b0_2 b0_3 b0_4 b0_5).bind fun r1 =>
 (some (r1.1,()))))))
 (gL q5k b0_1<|
 ((q12m depth b0 (dL q5k b0_1) b0_2 b0_3 b0_4 b0_5).bind fun r0 =>
 (some (r0.1,())))))
theorem q12h {depth text b0 b0_1 b0_2 b0_3 b0_4 b0_5 r} (h:q12l depth text b0 b0_1 b0_2 b0_3 b0_4 b0_5=some r):q12f depth text b0 b0_1 b0_2 b0_3 b0_4 b0_5=some r :=
 q8f (es:=q16u) (hs:=q97) [q12n] (by kernel_rfl) trivial ⟨⟨_,rfl,rfl⟩,trivial⟩ (by kernel_rfl) h
def q12g:=gentS Tryz.prog lv X0 12 (q8m (cdF Tryz.f67) 12) (by kernel_rfl) q12k q12i (fun x=>q12f x.1.1 x.1.2.2 x.2.1 x.2.2.1 x.2.2.2.1 x.2.2.2.2.1 x.2.2.2.2.2.1 x.2.2.2.2.2.2) (fun _ _ h=>q8e h)
def q12d:=sLS [1,2,6,7] (qah z1t (qah (vPtr 0 0) (qah (vC cBool) z1y))) z1w [false] [] (by decide) (fun _=>rfl)
def q12c:=sLS [4] (qaj z1t) qai [] [] (by decide) (fun _=>rfl)
def q12b:=oAt 1 q12c
def q128 (depth:Int) (name text:Bool) (b0:Int) (b0_1:L57) (b0_2:BA) (b0_3:Int) (b0_4:BA) (b0_5:Int):=gS Tryz.prog lv X0 67 134 (q8m (cdF Tryz.f67) 10) q12d q12b ((depth,(),name,text),(b0,b0_1,b0_2,b0_3,b0_4,b0_5))
def q12e (depth:Int) (name text:Bool) (b0:Int) (b0_1:L57) (b0_2:BA) (b0_3:Int) (b0_4:BA) (b0_5:Int):Oq (Int×Unit) :=
 (brE (name==true)
 ((qxj (b0_2.size:Int) 1 60).bind fun r0 =>
 (brE (!r0)
 (some (10,()))
 (gL q5k b0_1<|
 ((q12f depth text b0 (dL q5k b0_1) b0_2 b0_3 b0_4 b0_5).bind fun r1 =>
 (some (r1.1,()))))))
 (gL q5k b0_1<|
 ((q12f depth text b0 (dL q5k b0_1) b0_2 b0_3 b0_4 b0_5).bind fun r0 =>
 (some (r0.1,())))))
theorem q12a {depth name text b0 b0_1 b0_2 b0_3 b0_4 b0_5 r} (h:q12e depth name text b0 b0_1 b0_2 b0_3 b0_4 b0_5=some r):q128 depth name text b0 b0_1 b0_2 b0_3 b0_4 b0_5=some r :=
 q8f (es:=q16u) (hs:=q97) [q12g] (by kernel_rfl) trivial ⟨⟨_,rfl,rfl⟩,trivial⟩ (by kernel_rfl) h
def q129:=gentS Tryz.prog lv X0 10 (q8m (cdF Tryz.f67) 10) (by kernel_rfl) q12d q12b (fun x=>q128 x.1.1 x.1.2.2.1 x.1.2.2.2 x.2.1 x.2.2.1 x.2.2.2.1 x.2.2.2.2.1 x.2.2.2.2.2.1 x.2.2.2.2.2.2) (fun _ _ h=>q8e h)
def q13j:=sLS [1,2,6,7,8] (qah z1t (qah (vPtr 0 0) z27)) z1w [false] [] (by decide) (fun _=>rfl)
def q13i:=sLS [4] (qaj z1t) qai [] [] (by decide) (fun _=>rfl)
def q13h:=oAt 1 q13i
def q13e (depth:Int) (name text number:Bool) (b0:Int) (b0_1:L57) (b0_2:BA) (b0_3:Int) (b0_4:BA) (b0_5:Int):=gS Tryz.prog lv X0 67 134 (q8m (cdF Tryz.f67) 8) q13j q13h ((depth,(),name,text,number),(b0,b0_1,b0_2,b0_3,b0_4,b0_5))
abbrev zw (depth:Int) (name text:Bool) (b0:Int) (b0_1:L57) (b0_2:BA) (b0_3:Int) (b0_4:BA) (b0_5:Int):=(q128 depth name text b0 (dL q5k b0_1) b0_2 b0_3 b0_4 b0_5)
def q13k (depth:Int) (name text number:Bool) (b0:Int) (b0_1:L57) (b0_2:BA) (b0_3:Int) (b0_4:BA) (b0_5:Int):Oq (Int×Unit) :=
 (brE ((!name)==true)
 (brE ((!(b0_2.toList==(ByteArray.toList ⟨#[]⟩)))==false)
 (brE ((!text)==true)
 (brE ((!(b0_4.toList==(ByteArray.toList ⟨#[]⟩)))==false)
 (brE ((!text)==true)
 (brE ((b0_3 != 0)==false)
 (brE ((!number)==true)
 (brE (b0_5 != 0)
 (some (5,()))
 (gL q5k b0_1<|
 ((zw depth name text b0 b0_1 b0_2 b0_3 b0_4 b0_5).bind fun r0 =>
 (some (r0.1,())))))
 (gL q5k b0_1<|
 ((zw depth name text b0 b0_1 b0_2 b0_3 b0_4 b0_5).bind fun r0 =>
 (some (r0.1,())))))
 (some (5,())))
 (brE ((!number)==true)
 (brE (b0_5 != 0)
 (some (5,()))
 (gL q5k b0_1<|
 ((zw depth name text b0 b0_1 b0_2 b0_3 b0_4 b0_5).bind fun r0 =>
 (some (r0.1,())))))
 (gL q5k b0_1<|
 ((zw depth name text b0 b0_1 b0_2 b0_3 b0_4 b0_5).bind fun r0 =>
 (some (r0.1,()))))))
 (some (5,())))
 (brE ((!text)==true)
 (brE ((b0_3 != 0)==false)
 (brE ((!number)==true)
 (brE (b0_5 != 0)
 (some (5,()))
 (gL q5k b0_1<|
 ((zw depth name text b0 b0_1 b0_2 b0_3 b0_4 b0_5).bind fun r0 =>
 (some (r0.1,())))))
 (gL q5k b0_1<|
 ((zw depth name text b0 b0_1 b0_2 b0_3 b0_4 b0_5).bind fun r0 =>
 (some (r0.1,())))))
 (some (5,())))
 (brE ((!number)==true)
 (brE (b0_5 != 0)
 (some (5,()))
 (gL q5k b0_1<|
 ((zw depth name text b0 b0_1 b0_2 b0_3 b0_4 b0_5).bind fun r0 =>
 (some (r0.1,())))))
 (gL q5k b0_1<|
 ((zw depth name text b0 b0_1 b0_2 b0_3 b0_4 b0_5).bind fun r0 =>
 (some (r0.1,())))))))
 (some (5,())))
 (brE ((!text)==true)
 (brE ((!(b0_4.toList==(ByteArray.toList ⟨#[]⟩)))==false)
 (brE ((!text)==true)
 (brE ((b0_3 != 0)==false)
 (brE ((!number)==true)
 (brE (b0_5 != 0)
 (some (5,()))
 (gL q5k b0_1<|
 ((zw depth name text b0 b0_1 b0_2 b0_3 b0_4 b0_5).bind fun r0 =>
 (some (r0.1,())))))
 (gL q5k b0_1<|
 ((zw depth name text b0 b0_1 b0_2 b0_3 b0_4 b0_5).bind fun r0 =>
 (some (r0.1,())))))
 (some (5,())))
 (brE ((!number)==true)
 (brE (b0_5 != 0)
 (some (5,()))
 (gL q5k b0_1<|
 ((zw depth name text b0 b0_1 b0_2 b0_3 b0_4 b0_5).bind fun r0 =>
 (some (r0.1,())))))
 (gL q5k b0_1<|
 ((zw depth name text b0 b0_1 b0_2 b0_3 b0_4 b0_5).bind fun r0 =>
 (some (r0.1,()))))))
 (some (5,())))
 (brE ((!text)==true)
 (brE ((b0_3 != 0)==false)
 (brE ((!number)==true)
 (brE (b0_5 != 0)
 (some (5,()))
 (gL q5k b0_1<|
 ((zw depth name text b0 b0_1 b0_2 b0_3 b0_4 b0_5).bind fun r0 =>
 (some (r0.1,())))))
 (gL q5k b0_1<|
 ((zw depth name text b0 b0_1 b0_2 b0_3 b0_4 b0_5).bind fun r0 =>
 (some (r0.1,())))))
 (some (5,())))
 (brE ((!number)==true)
 (brE (b0_5 != 0)
 (some (5,()))
 (gL q5k b0_1<|
 ((zw depth name text b0 b0_1 b0_2 b0_3 b0_4 b0_5).bind fun r0 =>
 (some (r0.1,())))))
 (gL q5k b0_1<|
 ((zw depth name text b0 b0_1 b0_2 b0_3 b0_4 b0_5).bind fun r0 =>
 (some (r0.1,()))))))))
theorem q13g {depth name text number b0 b0_1 b0_2 b0_3 b0_4 b0_5 r} (h:q13k depth name text number b0 b0_1 b0_2 b0_3 b0_4 b0_5=some r):q13e depth name text number b0 b0_1 b0_2 b0_3 b0_4 b0_5=some r :=
 q8f (es:=q16u) (hs:=q97) [q129] (by kernel_rfl) trivial ⟨⟨_,rfl,rfl⟩,trivial⟩ (by kernel_rfl) h
def q13f:=gentS Tryz.prog lv X0 8 (q8m (cdF Tryz.f67) 8) (by kernel_rfl) q13j q13h (fun x=>q13e x.1.1 x.1.2.2.1 x.1.2.2.2.1 x.1.2.2.2.2 x.2.1 x.2.2.1 x.2.2.2.1 x.2.2.2.2.1 x.2.2.2.2.2.1 x.2.2.2.2.2.2) (fun _ _ h=>q8e h)
def q13c:=sLS [1,2,5,6,7,8] (qah z1t (qah (vPtr 0 0) (qah (vC cBool) z27))) z1w [false] [] (by decide) (fun _=>rfl)
def q13b:=sLS [4] (qaj z1t) qai [] [] (by decide) (fun _=>rfl)
def q13a:=oAt 1 q13b
def q137 (depth:Int) (tests name:Bool) (text number:Bool) (b0:Int) (b0_1:L57) (b0_2:BA) (b0_3:Int) (b0_4:BA) (b0_5:Int):=gS Tryz.prog lv X0 67 134 (q8m (cdF Tryz.f67) 6) q13c q13a ((depth,(),tests,name,text,number),(b0,b0_1,b0_2,b0_3,b0_4,b0_5))
abbrev zx (b0_1:L57):=(decide ((lN q5k b0_1:Int)>60))
def q13d (depth:Int) (tests name:Bool) (text number:Bool) (b0:Int) (b0_1:L57) (b0_2:BA) (b0_3:Int) (b0_4:BA) (b0_5:Int):Oq (Int×Unit) :=
 (brE (tests==true)
 (brE (((lN q5k b0_1:Int)==0)==false)
 (brE ((!tests)==true)
 (brE ((decide ((lN q5k b0_1:Int)>0))==false)
 (brE ((b0==2)==true)
 (brE ((decide ((lN q5k b0_1:Int)>1))==false)
 (brE (zx b0_1)
 (some (5,()))
 (gL q5k b0_1<|
 ((q13e depth name text number b0 (dL q5k b0_1) b0_2 b0_3 b0_4 b0_5).bind fun r0 =>
 (some (r0.1,())))))
 (some (5,())))
 (brE (zx b0_1)
 (some (5,()))
 (gL q5k b0_1<|
 ((q13e depth name text number b0 (dL q5k b0_1) b0_2 b0_3 b0_4 b0_5).bind fun r0 =>
 (some (r0.1,()))))))
 (some (5,())))
 (brE ((b0==2)==true)
 (brE ((decide ((lN q5k b0_1:Int)>1))==false)
 (brE (zx b0_1)
 (some (5,()))
 (gL q5k b0_1<|
 ((q13e depth name text number b0 (dL q5k b0_1) b0_2 b0_3 b0_4 b0_5).bind fun r0 =>
 (some (r0.1,())))))
 (some (5,())))
 (brE (zx b0_1)
 (some (5,()))
 (gL q5k b0_1<|
 ((q13e depth name text number b0 (dL q5k b0_1) b0_2 b0_3 b0_4 b0_5).bind fun r0 =>
 (some (r0.1,())))))))
 (some (5,())))
 (brE ((!tests)==true)
 (brE ((decide ((lN q5k b0_1:Int)>0))==false)
 (brE ((b0==2)==true)
 (brE ((decide ((lN q5k b0_1:Int)>1))==false)
 (brE (zx b0_1)
 (some (5,()))
 (gL q5k b0_1<|
 ((q13e depth name text number b0 (dL q5k b0_1) b0_2 b0_3 b0_4 b0_5).bind fun r0 =>
 (some (r0.1,())))))
 (some (5,())))
 (brE (zx b0_1)
 (some (5,()))
 (gL q5k b0_1<|
 ((q13e depth name text number b0 (dL q5k b0_1) b0_2 b0_3 b0_4 b0_5).bind fun r0 =>
 (some (r0.1,()))))))
 (some (5,())))
 (brE ((b0==2)==true)
 (brE ((decide ((lN q5k b0_1:Int)>1))==false)
 (brE (zx b0_1)
 (some (5,()))
 (gL q5k b0_1<|
 ((q13e depth name text number b0 (dL q5k b0_1) b0_2 b0_3 b0_4 b0_5).bind fun r0 =>
 (some (r0.1,())))))
 (some (5,())))
 (brE (zx b0_1)
 (some (5,()))
 (gL q5k b0_1<|
 ((q13e depth name text number b0 (dL q5k b0_1) b0_2 b0_3 b0_4 b0_5).bind fun r0 =>
 (some (r0.1,()))))))))
theorem q139 {depth tests name text number b0 b0_1 b0_2 b0_3 b0_4 b0_5 r} (h:q13d depth tests name text number b0 b0_1 b0_2 b0_3 b0_4 b0_5=some r):q137 depth tests name text number b0 b0_1 b0_2 b0_3 b0_4 b0_5=some r :=
 q8f (es:=q16u) (hs:=q97) [q13f] (by kernel_rfl) trivial ⟨⟨_,rfl,rfl⟩,trivial⟩ (by kernel_rfl) h
def q138:=gentS Tryz.prog lv X0 6 (q8m (cdF Tryz.f67) 6) (by kernel_rfl) q13c q13a (fun x=>q137 x.1.1 x.1.2.2.1 x.1.2.2.2.1 x.1.2.2.2.2.1 x.1.2.2.2.2.2 x.2.1 x.2.2.1 x.2.2.2.1 x.2.2.2.2.1 x.2.2.2.2.2.1 x.2.2.2.2.2.2) (fun _ _ h=>q8e h)
def q13u (qt6:Int) (qt9:L57) (qt7:BA) (qt8:Int) (qta:BA) (t_N depth:Int):Oq Int :=
 (brE (decide (depth>8))
 (some 5)
 ((qxj qt6 1 9).bind fun r0 =>
 (brE (!r0)
 (some 4)
 ((q169 qt6).bind fun r1 =>
 (gL q5k qt9<|
 ((q137 depth r1.1 r1.2.1 r1.2.2.1 r1.2.2.2 qt6 (dL q5k qt9) qt7 qt8 qta t_N).bind fun r2 =>
 (some r2.1)))))))
theorem q127 {qt6 qt9 qt7 qt8 qta t_N depth r} (h:q13u qt6 qt9 qt7 qt8 qta t_N depth=some r):q13t qt6 qt9 qt7 qt8 qta t_N depth=some r :=
 q6x (es:=q16u) (hs:=q97) [q138] Tryz.func67 rfl (by kernel_rfl) rfl (by kernel_rfl) (by kernel_rfl) trivial ⟨⟨_,rfl,rfl⟩,trivial⟩ (by kernel_rfl) h
abbrev z1r:=(qah (vC (cInt .i64)) (qah (vC (cInt .i64)) (qah (vC (cSl q5k)) (qah (vC cStr) (qah (vC (cInt .i64)) (qah (vC cStr) (qah (vC (cInt .i64)) (qah (vC (cSl q5l)) (qah (vC (cSl q5l)) (qah (vC (cInt .i64)) (qah (vC cStr) (qah (vC cStr) (qaj (vC (cInt .i64)))))))))))))))
def qyo:=(qaj (vAgg z1r))
abbrev z1x:=(qaj (qd1 (bBox z1r)))
def qzc:=sLS [1] z23 z1x [false] [] (by decide) (fun _=>rfl)
def qzb:=sLS [2] (qaj z1t) qai [] [] (by decide) (fun _=>rfl)
def qza:=sLS [1,133] (qah (vPtr 0 0) z1y) z1x [false] [] (by decide) (fun _=>rfl)
def qz9:=oOr 0 qza (oAt 1 qzb) (fun x=>(by decide:(1:Nat)≠0))
def qz6 (b0 b0_1:Int) (b0_2:L57) (b0_3:BA) (b0_4:Int) (b0_5:BA) (b0_6:Int) (b0_7 b0_8:L59) (b0_9:Int) (b0_10 b0_11:BA) (b0_12:Int):=gS Tryz.prog lv X0 49 151 (q8m (cdF Tryz.f49) 15) qzc qz9 ((),(b0,b0_1,b0_2,b0_3,b0_4,b0_5,b0_6,b0_7,b0_8,b0_9,b0_10,b0_11,b0_12))
def qzd (b0 b0_1:Int) (b0_2:L57) (b0_3:BA) (b0_4:Int) (b0_5:BA) (b0_6:Int) (b0_7 b0_8:L59) (b0_9:Int) (b0_10 b0_11:BA) (b0_12:Int):Oq (((Unit×Bool)×(Int×Int×L57×BA×Int×BA×Int×L59×L59×Int×BA×BA×Int))⊕(Int×Unit)) :=
 ((q15b b0_9).bind fun r0 =>
 (brE ((!r0)==true)
 (brE ((!(b0_11.toList==(ByteArray.toList ⟨#[]⟩)))==false)
 (brE ((b0_9 != 6)==true)
 (brE (b0_12 != 0)
 (some (.inr (5,())))
 (gL q5k b0_2<|
 (gL q5l b0_7<|
 (gL q5l b0_8<|
 (some (.inl (((),false),(b0,(b0_1,((dL q5k b0_2),(b0_3,(b0_4,(b0_5,(b0_6,((dL q5l b0_7),((dL q5l b0_8),(b0_9,(b0_10,(b0_11,b0_12)))))))))))))))))))
 (gL q5k b0_2<|
 (gL q5l b0_7<|
 (gL q5l b0_8<|
 (some (.inl (((),false),(b0,(b0_1,((dL q5k b0_2),(b0_3,(b0_4,(b0_5,(b0_6,((dL q5l b0_7),((dL q5l b0_8),(b0_9,(b0_10,(b0_11,b0_12)))))))))))))))))))
 (some (.inr (5,()))))
 (brE ((b0_9 != 6)==true)
 (brE (b0_12 != 0)
 (some (.inr (5,())))
 (gL q5k b0_2<|
 (gL q5l b0_7<|
 (gL q5l b0_8<|
 (some (.inl (((),false),(b0,(b0_1,((dL q5k b0_2),(b0_3,(b0_4,(b0_5,(b0_6,((dL q5l b0_7),((dL q5l b0_8),(b0_9,(b0_10,(b0_11,b0_12)))))))))))))))))))
 (gL q5k b0_2<|
 (gL q5l b0_7<|
 (gL q5l b0_8<|
 (some (.inl (((),false),(b0,(b0_1,((dL q5k b0_2),(b0_3,(b0_4,(b0_5,(b0_6,((dL q5l b0_7),((dL q5l b0_8),(b0_9,(b0_10,(b0_11,b0_12)))))))))))))))))))))
theorem qz8 {b0 b0_1 b0_2 b0_3 b0_4 b0_5 b0_6 b0_7 b0_8 b0_9 b0_10 b0_11 b0_12 r} (h:qzd b0 b0_1 b0_2 b0_3 b0_4 b0_5 b0_6 b0_7 b0_8 b0_9 b0_10 b0_11 b0_12=some r):qz6 b0 b0_1 b0_2 b0_3 b0_4 b0_5 b0_6 b0_7 b0_8 b0_9 b0_10 b0_11 b0_12=some r :=
 q8f (es:=q16u) (hs:=q97) [] (by kernel_rfl) trivial trivial (by kernel_rfl) h
def qz7:=gentS Tryz.prog lv X0 15 (q8m (cdF Tryz.f49) 15) (by kernel_rfl) qzc qz9 (fun x=>qz6 x.2.1 x.2.2.1 x.2.2.2.1 x.2.2.2.2.1 x.2.2.2.2.2.1 x.2.2.2.2.2.2.1 x.2.2.2.2.2.2.2.1 x.2.2.2.2.2.2.2.2.1 x.2.2.2.2.2.2.2.2.2.1 x.2.2.2.2.2.2.2.2.2.2.1 x.2.2.2.2.2.2.2.2.2.2.2.1 x.2.2.2.2.2.2.2.2.2.2.2.2.1 x.2.2.2.2.2.2.2.2.2.2.2.2.2) (fun _ _ h=>q8e h)
def qzx:=sLS [1] z23 z1x [false] [] (by decide) (fun _=>rfl)
def qzw:=sLS [2] (qaj z1t) qai [] [] (by decide) (fun _=>rfl)
def qzv:=oAt 1 qzw
def qzs (b0 b0_1:Int) (b0_2:L57) (b0_3:BA) (b0_4:Int) (b0_5:BA) (b0_6:Int) (b0_7 b0_8:L59) (b0_9:Int) (b0_10 b0_11:BA) (b0_12:Int):=gS Tryz.prog lv X0 49 151 (q8m (cdF Tryz.f49) 21) qzx qzv ((),(b0,b0_1,b0_2,b0_3,b0_4,b0_5,b0_6,b0_7,b0_8,b0_9,b0_10,b0_11,b0_12))
def qzy (b0 b0_1:Int) (b0_2:L57) (b0_3:BA) (b0_4:Int) (b0_5:BA) (b0_6:Int) (b0_7 b0_8:L59) (b0_9:Int) (b0_10 b0_11:BA) (b0_12:Int):Oq (Int×Unit) :=
 ((qxj b0_12 0 63).bind fun r0 =>
 (brE (!r0)
 (some (3,()))
 (some (0,()))))
theorem qzu {b0 b0_1 b0_2 b0_3 b0_4 b0_5 b0_6 b0_7 b0_8 b0_9 b0_10 b0_11 b0_12 r} (h:qzy b0 b0_1 b0_2 b0_3 b0_4 b0_5 b0_6 b0_7 b0_8 b0_9 b0_10 b0_11 b0_12=some r):qzs b0 b0_1 b0_2 b0_3 b0_4 b0_5 b0_6 b0_7 b0_8 b0_9 b0_10 b0_11 b0_12=some r :=
 q8f (es:=q16u) (hs:=q97) [] (by kernel_rfl) trivial trivial (by kernel_rfl) h
def qzt:=gentS Tryz.prog lv X0 21 (q8m (cdF Tryz.f49) 21) (by kernel_rfl) qzx qzv (fun x=>qzs x.2.1 x.2.2.1 x.2.2.2.1 x.2.2.2.2.1 x.2.2.2.2.2.1 x.2.2.2.2.2.2.1 x.2.2.2.2.2.2.2.1 x.2.2.2.2.2.2.2.2.1 x.2.2.2.2.2.2.2.2.2.1 x.2.2.2.2.2.2.2.2.2.2.1 x.2.2.2.2.2.2.2.2.2.2.2.1 x.2.2.2.2.2.2.2.2.2.2.2.2.1 x.2.2.2.2.2.2.2.2.2.2.2.2.2) (fun _ _ h=>q8e h)
def qzq:=sLS [1] z23 z1x [false] [] (by decide) (fun _=>rfl)
def qzp:=sLS [2] (qaj z1t) qai [] [] (by decide) (fun _=>rfl)
def qzo:=oAt 1 qzp
def qzl (b0 b0_1:Int) (b0_2:L57) (b0_3:BA) (b0_4:Int) (b0_5:BA) (b0_6:Int) (b0_7 b0_8:L59) (b0_9:Int) (b0_10 b0_11:BA) (b0_12:Int):=gS Tryz.prog lv X0 49 151 (q8m (cdF Tryz.f49) 19) qzq qzo ((),(b0,b0_1,b0_2,b0_3,b0_4,b0_5,b0_6,b0_7,b0_8,b0_9,b0_10,b0_11,b0_12))
def qzr (b0 b0_1:Int) (b0_2:L57) (b0_3:BA) (b0_4:Int) (b0_5:BA) (b0_6:Int) (b0_7 b0_8:L59) (b0_9:Int) (b0_10 b0_11:BA) (b0_12:Int):Oq (Int×Unit) :=
 (brE (decide ((b0_11.size:Int)>200))
 (some (1,()))
 (gL q5k b0_2<|
 (gL q5l b0_7<|
 (gL q5l b0_8<|
 ((qzs b0 b0_1 (dL q5k b0_2) b0_3 b0_4 b0_5 b0_6 (dL q5l b0_7) (dL q5l b0_8) b0_9 b0_10 b0_11 b0_12).bind fun r0 =>
 (some (r0.1,())))))))
theorem qzn {b0 b0_1 b0_2 b0_3 b0_4 b0_5 b0_6 b0_7 b0_8 b0_9 b0_10 b0_11 b0_12 r} (h:qzr b0 b0_1 b0_2 b0_3 b0_4 b0_5 b0_6 b0_7 b0_8 b0_9 b0_10 b0_11 b0_12=some r):qzl b0 b0_1 b0_2 b0_3 b0_4 b0_5 b0_6 b0_7 b0_8 b0_9 b0_10 b0_11 b0_12=some r :=
 q8f (es:=q16u) (hs:=q97) [qzt] (by kernel_rfl) trivial ⟨⟨_,rfl,rfl⟩,trivial⟩ (by kernel_rfl) h
def qzm:=gentS Tryz.prog lv X0 19 (q8m (cdF Tryz.f49) 19) (by kernel_rfl) qzq qzo (fun x=>qzl x.2.1 x.2.2.1 x.2.2.2.1 x.2.2.2.2.1 x.2.2.2.2.2.1 x.2.2.2.2.2.2.1 x.2.2.2.2.2.2.2.1 x.2.2.2.2.2.2.2.2.1 x.2.2.2.2.2.2.2.2.2.1 x.2.2.2.2.2.2.2.2.2.2.1 x.2.2.2.2.2.2.2.2.2.2.2.1 x.2.2.2.2.2.2.2.2.2.2.2.2.1 x.2.2.2.2.2.2.2.2.2.2.2.2.2) (fun _ _ h=>q8e h)
def qzj:=sLS [1] z23 z1x [false] [] (by decide) (fun _=>rfl)
def qzi:=sLS [2] (qaj z1t) qai [] [] (by decide) (fun _=>rfl)
def qzh:=oAt 1 qzi
def qze (b0 b0_1:Int) (b0_2:L57) (b0_3:BA) (b0_4:Int) (b0_5:BA) (b0_6:Int) (b0_7 b0_8:L59) (b0_9:Int) (b0_10 b0_11:BA) (b0_12:Int):=gS Tryz.prog lv X0 49 151 (q8m (cdF Tryz.f49) 17) qzj qzh ((),(b0,b0_1,b0_2,b0_3,b0_4,b0_5,b0_6,b0_7,b0_8,b0_9,b0_10,b0_11,b0_12))
def qzk (b0 b0_1:Int) (b0_2:L57) (b0_3:BA) (b0_4:Int) (b0_5:BA) (b0_6:Int) (b0_7 b0_8:L59) (b0_9:Int) (b0_10 b0_11:BA) (b0_12:Int):Oq (Int×Unit) :=
 (brE ((b0==3)==true)
 ((q15p b0_10).bind fun r0 =>
 (brE (!r0)
 (some (10,()))
 (gL q5k b0_2<|
 (gL q5l b0_7<|
 (gL q5l b0_8<|
 ((qzl b0 b0_1 (dL q5k b0_2) b0_3 b0_4 b0_5 b0_6 (dL q5l b0_7) (dL q5l b0_8) b0_9 b0_10 b0_11 b0_12).bind fun r1 =>
 (some (r1.1,()))))))))
 (gL q5k b0_2<|
 (gL q5l b0_7<|
 (gL q5l b0_8<|
 ((qzl b0 b0_1 (dL q5k b0_2) b0_3 b0_4 b0_5 b0_6 (dL q5l b0_7) (dL q5l b0_8) b0_9 b0_10 b0_11 b0_12).bind fun r0 =>
 (some (r0.1,())))))))
theorem qzg {b0 b0_1 b0_2 b0_3 b0_4 b0_5 b0_6 b0_7 b0_8 b0_9 b0_10 b0_11 b0_12 r} (h:qzk b0 b0_1 b0_2 b0_3 b0_4 b0_5 b0_6 b0_7 b0_8 b0_9 b0_10 b0_11 b0_12=some r):qze b0 b0_1 b0_2 b0_3 b0_4 b0_5 b0_6 b0_7 b0_8 b0_9 b0_10 b0_11 b0_12=some r :=
 q8f (es:=q16u) (hs:=q97) [qzm] (by kernel_rfl) trivial ⟨⟨_,rfl,rfl⟩,trivial⟩ (by kernel_rfl) h
def qzf:=gentS Tryz.prog lv X0 17 (q8m (cdF Tryz.f49) 17) (by kernel_rfl) qzj qzh (fun x=>qze x.2.1 x.2.2.1 x.2.2.2.1 x.2.2.2.2.1 x.2.2.2.2.2.1 x.2.2.2.2.2.2.1 x.2.2.2.2.2.2.2.1 x.2.2.2.2.2.2.2.2.1 x.2.2.2.2.2.2.2.2.2.1 x.2.2.2.2.2.2.2.2.2.2.1 x.2.2.2.2.2.2.2.2.2.2.2.1 x.2.2.2.2.2.2.2.2.2.2.2.2.1 x.2.2.2.2.2.2.2.2.2.2.2.2.2) (fun _ _ h=>q8e h)
def qz4:=sLS [1] z23 z1x [false] [] (by decide) (fun _=>rfl)
def qz3:=sLS [2] (qaj z1t) qai [] [] (by decide) (fun _=>rfl)
def qz2:=oAt 1 qz3
def qyz (b0 b0_1:Int) (b0_2:L57) (b0_3:BA) (b0_4:Int) (b0_5:BA) (b0_6:Int) (b0_7 b0_8:L59) (b0_9:Int) (b0_10 b0_11:BA) (b0_12:Int):=gS Tryz.prog lv X0 49 151 (q8m (cdF Tryz.f49) 12) qz4 qz2 ((),(b0,b0_1,b0_2,b0_3,b0_4,b0_5,b0_6,b0_7,b0_8,b0_9,b0_10,b0_11,b0_12))
def qz5 (b0 b0_1:Int) (b0_2:L57) (b0_3:BA) (b0_4:Int) (b0_5:BA) (b0_6:Int) (b0_7 b0_8:L59) (b0_9:Int) (b0_10 b0_11:BA) (b0_12:Int):Oq (Int×Unit) :=
 (brE (b0==2)
 ((qxj b0_9 1 7).bind fun r0 =>
 (brE (!r0)
 (some (4,()))
 (gL q5k b0_2<|
 (gL q5l b0_7<|
 (gL q5l b0_8<|
 ((qz6 b0 b0_1 (dL q5k b0_2) b0_3 b0_4 b0_5 b0_6 (dL q5l b0_7) (dL q5l b0_8) b0_9 b0_10 b0_11 b0_12).bind fun r1 =>
 (Sum.elim (fun r2=>(gdE (EC.isL q5k (EC.encL q5k r2.2.2.2.1))<|
 (gL q5l r2.2.2.2.2.2.2.2.2.1<|
 (gL q5l r2.2.2.2.2.2.2.2.2.2.1<|
 ((qze r2.2.1 r2.2.2.1 (dL q5k r2.2.2.2.1) r2.2.2.2.2.1 r2.2.2.2.2.2.1 r2.2.2.2.2.2.2.1 r2.2.2.2.2.2.2.2.1 (dL q5l r2.2.2.2.2.2.2.2.2.1) (dL q5l r2.2.2.2.2.2.2.2.2.2.1) r2.2.2.2.2.2.2.2.2.2.2.1 r2.2.2.2.2.2.2.2.2.2.2.2.1 r2.2.2.2.2.2.2.2.2.2.2.2.2.1 r2.2.2.2.2.2.2.2.2.2.2.2.2.2).bind fun r3 =>
 (some (r3.1,())))))))
 (fun r2=>(some (r2.1,()))) r1)))))))
 (gL q5k b0_2<|
 (gL q5l b0_7<|
 (gL q5l b0_8<|
 ((qze b0 b0_1 (dL q5k b0_2) b0_3 b0_4 b0_5 b0_6 (dL q5l b0_7) (dL q5l b0_8) b0_9 b0_10 b0_11 b0_12).bind fun r0 =>
 (some (r0.1,())))))))
theorem qz1 {b0 b0_1 b0_2 b0_3 b0_4 b0_5 b0_6 b0_7 b0_8 b0_9 b0_10 b0_11 b0_12 r} (h:qz5 b0 b0_1 b0_2 b0_3 b0_4 b0_5 b0_6 b0_7 b0_8 b0_9 b0_10 b0_11 b0_12=some r):qyz b0 b0_1 b0_2 b0_3 b0_4 b0_5 b0_6 b0_7 b0_8 b0_9 b0_10 b0_11 b0_12=some r :=
 q8f (es:=q16u) (hs:=q97) [qz7,qzf] (by kernel_rfl) trivial ⟨⟨_,rfl,rfl⟩,⟨_,rfl,rfl⟩,trivial⟩ (by kernel_rfl) h
def qz0:=gentS Tryz.prog lv X0 12 (q8m (cdF Tryz.f49) 12) (by kernel_rfl) qz4 qz2 (fun x=>qyz x.2.1 x.2.2.1 x.2.2.2.1 x.2.2.2.2.1 x.2.2.2.2.2.1 x.2.2.2.2.2.2.1 x.2.2.2.2.2.2.2.1 x.2.2.2.2.2.2.2.2.1 x.2.2.2.2.2.2.2.2.2.1 x.2.2.2.2.2.2.2.2.2.2.1 x.2.2.2.2.2.2.2.2.2.2.2.1 x.2.2.2.2.2.2.2.2.2.2.2.2.1 x.2.2.2.2.2.2.2.2.2.2.2.2.2) (fun _ _ h=>q8e h)
def qyx:=sLS [1] z23 z1x [false] [] (by decide) (fun _=>rfl)
def qyw:=sLS [2] (qaj z1t) qai [] [] (by decide) (fun _=>rfl)
def qyv:=oAt 1 qyw
def qys (b0 b0_1:Int) (b0_2:L57) (b0_3:BA) (b0_4:Int) (b0_5:BA) (b0_6:Int) (b0_7 b0_8:L59) (b0_9:Int) (b0_10 b0_11:BA) (b0_12:Int):=gS Tryz.prog lv X0 49 151 (q8m (cdF Tryz.f49) 10) qyx qyv ((),(b0,b0_1,b0_2,b0_3,b0_4,b0_5,b0_6,b0_7,b0_8,b0_9,b0_10,b0_11,b0_12))
abbrev zy (b0 b0_1:Int) (b0_2:L57) (b0_3:BA) (b0_4:Int) (b0_5:BA) (b0_6:Int) (b0_7 b0_8:L59) (b0_9:Int) (b0_10 b0_11:BA) (b0_12:Int):=(qyz b0 b0_1 (dL q5k b0_2) b0_3 b0_4 b0_5 b0_6 (dL q5l b0_7) (dL q5l b0_8) b0_9 b0_10 b0_11 b0_12)
def qyy (b0 b0_1:Int) (b0_2:L57) (b0_3:BA) (b0_4:Int) (b0_5:BA) (b0_6:Int) (b0_7 b0_8:L59) (b0_9:Int) (b0_10 b0_11:BA) (b0_12:Int):Oq (Int×Unit) :=
 (brE ((b0 != 2)==true)
 (brE ((b0_9 != 0)==false)
 (brE ((b0_12 != 0)==false)
 (brE ((b0 != 3)==true)
 (brE ((!(b0_10.toList==(ByteArray.toList ⟨#[]⟩)))==false)
 (brE ((b0==4)==true)
 (brE (!(b0_11.toList==(ByteArray.toList ⟨#[]⟩)))
 (some (5,()))
 (gL q5k b0_2<|
 (gL q5l b0_7<|
 (gL q5l b0_8<|
 ((zy b0 b0_1 b0_2 b0_3 b0_4 b0_5 b0_6 b0_7 b0_8 b0_9 b0_10 b0_11 b0_12).bind fun r0 =>
 (some (r0.1,())))))))
 (gL q5k b0_2<|
 (gL q5l b0_7<|
 (gL q5l b0_8<|
 ((zy b0 b0_1 b0_2 b0_3 b0_4 b0_5 b0_6 b0_7 b0_8 b0_9 b0_10 b0_11 b0_12).bind fun r0 =>
 (some (r0.1,())))))))
 (some (5,())))
 (brE ((b0==4)==true)
 (brE (!(b0_11.toList==(ByteArray.toList ⟨#[]⟩)))
 (some (5,()))
 (gL q5k b0_2<|
 (gL q5l b0_7<|
 (gL q5l b0_8<|
 ((zy b0 b0_1 b0_2 b0_3 b0_4 b0_5 b0_6 b0_7 b0_8 b0_9 b0_10 b0_11 b0_12).bind fun r0 =>
 (some (r0.1,())))))))
 (gL q5k b0_2<|
 (gL q5l b0_7<|
 (gL q5l b0_8<|
 ((zy b0 b0_1 b0_2 b0_3 b0_4 b0_5 b0_6 b0_7 b0_8 b0_9 b0_10 b0_11 b0_12).bind fun r0 =>
 (some (r0.1,()))))))))
 (some (5,())))
 (some (5,())))
 (brE ((b0 != 3)==true)
 (brE ((!(b0_10.toList==(ByteArray.toList ⟨#[]⟩)))==false)
 (brE ((b0==4)==true)
 (brE (!(b0_11.toList==(ByteArray.toList ⟨#[]⟩)))
 (some (5,()))
 (gL q5k b0_2<|
 (gL q5l b0_7<|
 (gL q5l b0_8<|
 ((zy b0 b0_1 b0_2 b0_3 b0_4 b0_5 b0_6 b0_7 b0_8 b0_9 b0_10 b0_11 b0_12).bind fun r0 =>
 (some (r0.1,())))))))
 (gL q5k b0_2<|
 (gL q5l b0_7<|
 (gL q5l b0_8<|
 ((zy b0 b0_1 b0_2 b0_3 b0_4 b0_5 b0_6 b0_7 b0_8 b0_9 b0_10 b0_11 b0_12).bind fun r0 =>
 (some (r0.1,())))))))
 (some (5,())))
 (brE ((b0==4)==true)
 (brE (!(b0_11.toList==(ByteArray.toList ⟨#[]⟩)))
 (some (5,()))
 (gL q5k b0_2<|
 (gL q5l b0_7<|
 (gL q5l b0_8<|
 ((zy b0 b0_1 b0_2 b0_3 b0_4 b0_5 b0_6 b0_7 b0_8 b0_9 b0_10 b0_11 b0_12).bind fun r0 =>
 (some (r0.1,())))))))
 (gL q5k b0_2<|
 (gL q5l b0_7<|
 (gL q5l b0_8<|
 ((zy b0 b0_1 b0_2 b0_3 b0_4 b0_5 b0_6 b0_7 b0_8 b0_9 b0_10 b0_11 b0_12).bind fun r0 =>
 (some (r0.1,())))))))))
theorem qyu {b0 b0_1 b0_2 b0_3 b0_4 b0_5 b0_6 b0_7 b0_8 b0_9 b0_10 b0_11 b0_12 r} (h:qyy b0 b0_1 b0_2 b0_3 b0_4 b0_5 b0_6 b0_7 b0_8 b0_9 b0_10 b0_11 b0_12=some r):qys b0 b0_1 b0_2 b0_3 b0_4 b0_5 b0_6 b0_7 b0_8 b0_9 b0_10 b0_11 b0_12=some r :=
 q8f (es:=q16u) (hs:=q97) [qz0] (by kernel_rfl) trivial ⟨⟨_,rfl,rfl⟩,trivial⟩ (by kernel_rfl) h
def qyt:=gentS Tryz.prog lv X0 10 (q8m (cdF Tryz.f49) 10) (by kernel_rfl) qyx qyv (fun x=>qys x.2.1 x.2.2.1 x.2.2.2.1 x.2.2.2.2.1 x.2.2.2.2.2.1 x.2.2.2.2.2.2.1 x.2.2.2.2.2.2.2.1 x.2.2.2.2.2.2.2.2.1 x.2.2.2.2.2.2.2.2.2.1 x.2.2.2.2.2.2.2.2.2.2.1 x.2.2.2.2.2.2.2.2.2.2.2.1 x.2.2.2.2.2.2.2.2.2.2.2.2.1 x.2.2.2.2.2.2.2.2.2.2.2.2.2) (fun _ _ h=>q8e h)
def q104:=sLS [1,3] (qah (vPtr 0 0) (qaj (vPtr 1 0))) (qah (qd1 (bBox z1r)) z1w) [false,false] [] (by decide) (fun _=>rfl)
def q103:=sLS [2] (qaj z1t) qai [] [] (by decide) (fun _=>rfl)
def q102:=oAt 1 q103
def qzz (b0 b0_1:Int) (b0_2:L57) (b0_3:BA) (b0_4:Int) (b0_5:BA) (b0_6:Int) (b0_7 b0_8:L59) (b0_9:Int) (b0_10 b0_11:BA) (b0_12 b1:Int) (b1_1:L57) (b1_2:BA) (b1_3:Int) (b1_4:BA) (b1_5:Int):=gS Tryz.prog lv X0 49 151 (q8m (cdF Tryz.f49) 8) q104 q102 (((),()),((b0,b0_1,b0_2,b0_3,b0_4,b0_5,b0_6,b0_7,b0_8,b0_9,b0_10,b0_11,b0_12),(b1,b1_1,b1_2,b1_3,b1_4,b1_5)))
def q105 (b0 b0_1:Int) (b0_2:L57) (b0_3:BA) (b0_4:Int) (b0_5:BA) (b0_6:Int) (b0_7 b0_8:L59) (b0_9:Int) (b0_10 b0_11:BA) (b0_12 b1:Int) (b1_1:L57) (b1_2:BA) (b1_3:Int) (b1_4:BA) (b1_5:Int):Oq (Int×Unit) :=
 (brE ((b1 != 0)==false)
 (brE ((decide ((lN q5k b1_1:Int)>0))==false)
 (brE ((!(b1_2.toList==(ByteArray.toList ⟨#[]⟩)))==false)
 (brE ((b1_3 != 0)==false)
 (brE ((!(b1_4.toList==(ByteArray.toList ⟨#[]⟩)))==false)
 (brE ((b1_5 != 0)==false)
 (brE ((decide ((lN q5l b0_7:Int)>0))==false)
 (brE (decide ((lN q5l b0_8:Int)>0))
 (some (5,()))
 (gL q5k b0_2<|
 (gL q5l b0_7<|
 (gL q5l b0_8<|
 ((qys b0 b0_1 (dL q5k b0_2) b0_3 b0_4 b0_5 b0_6 (dL q5l b0_7) (dL q5l b0_8) b0_9 b0_10 b0_11 b0_12).bind fun r0 =>
 (some (r0.1,())))))))
 (some (5,())))
 (some (5,())))
 (some (5,())))
 (some (5,())))
 (some (5,())))
 (some (5,())))
 (some (5,())))
theorem q101 {b0 b0_1 b0_2 b0_3 b0_4 b0_5 b0_6 b0_7 b0_8 b0_9 b0_10 b0_11 b0_12 b1 b1_1 b1_2 b1_3 b1_4 b1_5 r} (h:q105 b0 b0_1 b0_2 b0_3 b0_4 b0_5 b0_6 b0_7 b0_8 b0_9 b0_10 b0_11 b0_12 b1 b1_1 b1_2 b1_3 b1_4 b1_5=some r):qzz b0 b0_1 b0_2 b0_3 b0_4 b0_5 b0_6 b0_7 b0_8 b0_9 b0_10 b0_11 b0_12 b1 b1_1 b1_2 b1_3 b1_4 b1_5=some r :=
 q8f (es:=q16u) (hs:=q97) [qyt] (by kernel_rfl) trivial ⟨⟨_,rfl,rfl⟩,trivial⟩ (by kernel_rfl) h
def q100:=gentS Tryz.prog lv X0 8 (q8m (cdF Tryz.f49) 8) (by kernel_rfl) q104 q102 (fun x=>qzz x.2.1.1 x.2.1.2.1 x.2.1.2.2.1 x.2.1.2.2.2.1 x.2.1.2.2.2.2.1 x.2.1.2.2.2.2.2.1 x.2.1.2.2.2.2.2.2.1 x.2.1.2.2.2.2.2.2.2.1 x.2.1.2.2.2.2.2.2.2.2.1 x.2.1.2.2.2.2.2.2.2.2.2.1 x.2.1.2.2.2.2.2.2.2.2.2.2.1 x.2.1.2.2.2.2.2.2.2.2.2.2.2.1 x.2.1.2.2.2.2.2.2.2.2.2.2.2.2 x.2.2.1 x.2.2.2.1 x.2.2.2.2.1 x.2.2.2.2.2.1 x.2.2.2.2.2.2.1 x.2.2.2.2.2.2.2) (fun _ _ h=>q8e h)
def qyp:Cod (V×List B) Int:=(cFstU (cPair z1t qai))
def q106 (r_Kind r_Test_Kind:Int) (qfz:L57) (qfx:BA) (qfy:Int) (qg0:BA) (qfw:Int) (r_Then r_Else:L59) (r_Act:Int) (qfv qg1:BA) (r_N:Int):=fS Tryz.prog lv X0 49 qyo qyp (r_Kind,r_Test_Kind,qfz,qfx,qfy,qg0,qfw,r_Then,r_Else,r_Act,qfv,qg1,r_N)
def q107 (r_Kind r_Test_Kind:Int) (qfz:L57) (qfx:BA) (qfy:Int) (qg0:BA) (qfw:Int) (r_Then r_Else:L59) (r_Act:Int) (qfv qg1:BA) (r_N:Int):Oq Int :=
 ((qxj r_Kind 1 4).bind fun r0 =>
 (brE (!r0)
 (some 4)
 (brE (r_Kind==1)
 (brE ((r_Act != 0)==false)
 (brE ((!(qfv.toList==(ByteArray.toList ⟨#[]⟩)))==false)
 (brE ((!(qg1.toList==(ByteArray.toList ⟨#[]⟩)))==false)
 (brE (r_N != 0)
 (some 5)
 (gL q5k qfz<|
 ((q13t r_Test_Kind (dL q5k qfz) qfx qfy qg0 qfw 1).bind fun r1 =>
 (some r1))))
 (some 5))
 (some 5))
 (some 5))
 (gL q5k qfz<|
 (gL q5l r_Then<|
 (gL q5l r_Else<|
 (gL q5k qfz<|
 ((qzz r_Kind r_Test_Kind (dL q5k qfz) qfx qfy qg0 qfw (dL q5l r_Then) (dL q5l r_Else) r_Act qfv qg1 r_N r_Test_Kind (dL q5k qfz) qfx qfy qg0 qfw).bind fun r1 =>
 (some r1.1)))))))))
theorem qyr {r_Kind r_Test_Kind qfz qfx qfy qg0 qfw r_Then r_Else r_Act qfv qg1 r_N r} (h:q107 r_Kind r_Test_Kind qfz qfx qfy qg0 qfw r_Then r_Else r_Act qfv qg1 r_N=some r):q106 r_Kind r_Test_Kind qfz qfx qfy qg0 qfw r_Then r_Else r_Act qfv qg1 r_N=some r :=
 q6x (es:=q16u) (hs:=q97) [q100] Tryz.func49 rfl (by kernel_rfl) rfl (by kernel_rfl) (by kernel_rfl) trivial ⟨⟨_,rfl,rfl⟩,trivial⟩ (by kernel_rfl) h
def qyq:=entS Tryz.prog lv X0 49 [] qyo qyp (fun x=>q106 x.1 x.2.1 x.2.2.1 x.2.2.2.1 x.2.2.2.2.1 x.2.2.2.2.2.1 x.2.2.2.2.2.2.1 x.2.2.2.2.2.2.2.1 x.2.2.2.2.2.2.2.2.1 x.2.2.2.2.2.2.2.2.2.1 x.2.2.2.2.2.2.2.2.2.2.1 x.2.2.2.2.2.2.2.2.2.2.2.1 x.2.2.2.2.2.2.2.2.2.2.2.2) (fun _ _ h=>q6w h)
def q16r:=qyq::q16u
abbrev z26:=(vC (cSl q5l))
def q15r:=(qah z26 z22)
def q15s:Cod (V×List B) (Int×Int):=(cFstU (cPair (vAgg z22) qai))
def q163 (s:L59) (number depth:Int):=fS Tryz.prog lv X0 29 q15r q15s (s,number,depth)
def q15t:=entS Tryz.prog lv X0 29 [] q15r q15s (fun x=>q163 x.1 x.2.1 x.2.2) (fun _ _ h=>q6w h)
def q16y:=q15t::q16r
def q161:=sLS [0,1,2,6,7] (qah z26 (qah z1t (qah z1t (qah (vPtr 0 0) (qaj z1t))))) (qaj (qd1 (bBox z22))) [false] [] (by decide) (fun _=>rfl)
def q160:=sLS [0,1,2,6,7,14] (qah z26 (qah z1t (qah z1t (qah (vPtr 0 0) (qah z1t z1y))))) (qaj (qd1 (bBox z22))) [false] [] (by decide) (fun _=>rfl)
def q15z:=sLS [6] z23 (qaj (qd1 (bBox z22))) [false] [] (by decide) (fun _=>rfl)
def q15y:=oOr 1 q15z (oAt 2 q160) (fun x=>(by decide:(2:Nat)≠1))
def q15v (s:L59) (number depth:Int) (i b0 b0_1:Int):=lS Tryz.prog lv X0 29 86 (q8l (cdF Tryz.f29) 2) q161 q15y ((s,number,depth,(),i),(b0,b0_1))
abbrev z10 (s:L59) (i:Int):=(eC q5l s i [(K1.int Go.IntKind.i64),(K1.int Go.IntKind.i64),K1.sl,K1.str,(K1.int Go.IntKind.i64),K1.str,(K1.int Go.IntKind.i64),K1.sl,K1.sl,(K1.int Go.IntKind.i64),K1.str,K1.str,(K1.int Go.IntKind.i64)])
abbrev z11 (s:L59) (i:Int):=(List.getD (EC.encL q5l s) (Int.toNat i) [])
abbrev z12 (s:L59) (i:Int):=(List.getD (z11 s i) 7 C.ne)
def q162 (s:L59) (number depth:Int) (i b0 b0_1:Int):Oq ((Unit×(Int×Int))⊕((L59×Int×Int×Unit×Int×Bool)×(Int×Int))) :=
 (brE (decide (i<(lN q5l s:Int)))
 (brE (decide (number≥100))
 ((qx0 2 (-1)).bind fun r0 =>
 (some (.inl ((),(r0.1,r0.2)))))
 (brE (decide (depth>8))
 ((qx0 5 number).bind fun r0 =>
 (some (.inl ((),(r0.1,r0.2)))))
 (gdE (p0 i)<|
 (gdE (z10 s i)<|
 (gdE (EC.isL q5k (slOf (List.getD (z11 s i) 2 C.ne)))<|
 (gdE (EC.isL q5l (slOf (z12 s i)))<|
 (gdE (EC.isL q5l (slOf (List.getD (z11 s i) 8 C.ne)))<|
 ((q106 (q9n (List.getD (z11 s i) 0 C.ne)) (q9n (List.getD (z11 s i) 1 C.ne)) (uL q5k (List.getD (z11 s i) 2 C.ne)) (qss (List.getD (z11 s i) 3 C.ne)) (q9n (List.getD (z11 s i) 4 C.ne)) (qss (List.getD (z11 s i) 5 C.ne)) (q9n (List.getD (z11 s i) 6 C.ne)) (uL q5l (z12 s i)) (uL q5l (List.getD (z11 s i) 8 C.ne)) (q9n (List.getD (z11 s i) 9 C.ne)) (qss (List.getD (z11 s i) 10 C.ne)) (qss (List.getD (z11 s i) 11 C.ne)) (q9n (List.getD (z11 s i) 12 C.ne))).bind fun r0 =>
 (brE (r0 != 0)
 ((qx0 r0 number).bind fun r1 =>
 (some (.inl ((),(r1.1,r1.2)))))
 (gdE (p0 i)<|
 (gdE (z10 s i)<|
 (gdE (EC.isL q5l (slOf (z12 s i)))<|
 ((q163 (uL q5l (z12 s i)) (wI number) (wI depth)).bind fun r1 =>
 (brE (r1.1 != 0)
 (some (.inl ((),(r1.1,r1.2))))
 (gdE (p0 i)<|
 (gdE (z10 s i)<|
 (gdE (p0 i)<|
 (gdE (z10 s i)<|
 (gdE (EC.isL q5l (slOf (z12 s i)))<|
 ((qy9 (uL q5l (z12 s i))).bind fun r2 =>
 (gdE (EC.isL q5l (slOf (List.getD (z11 s i) 8 C.ne)))<|
 ((q163 (uL q5l (List.getD (z11 s i) 8 C.ne)) (IntKind.wrap .i64 ((wI number)+r2)) (wI depth)).bind fun r3 =>
 (brE (r3.1 != 0)
 (some (.inl ((),(r3.1,r3.2))))
 (gdE (p0 i)<|
 (gdE (z10 s i)<|
 (gdE (EC.isL q5l (slOf (z12 s i)))<|
 ((qy9 (uL q5l (z12 s i))).bind fun r4 =>
 (gdE (p0 i)<|
 (gdE (z10 s i)<|
 (gdE (EC.isL q5l (slOf (List.getD (z11 s i) 8 C.ne)))<|
 ((qy9 (uL q5l (List.getD (z11 s i) 8 C.ne))).bind fun r5 =>
 (gL q5l s<|
 (q15v (dL q5l s) (IntKind.wrap .i64 (number+(IntKind.wrap .i64 ((IntKind.wrap .i64 (1+r4))+r5)))) depth (wI i) b0 b0_1)))))))))))))))))))))))))))))))))
 (gL q5l s<|
 (some (.inr (((dL q5l s),(number,(depth,((),(i,false))))),(b0,b0_1))))))
theorem q15x {s number depth i b0 b0_1 r} (h:q162 s number depth i b0 b0_1=some r):q15v s number depth i b0 b0_1=some r :=
 qal (es:=q16y) (hs:=q97) [] (by kernel_rfl) trivial trivial (by kernel_rfl) h
def q15w:=qb9 Tryz.prog lv X0 2 (q8l (cdF Tryz.f29) 2) q161 q15y (fun x=>q15v x.1.1 x.1.2.1 x.1.2.2.1 x.1.2.2.2.2 x.2.1 x.2.2) (fun _ _ h=>qak h)
def q164 (s:L59) (number depth:Int):Oq (Int×Int) :=
 (gL q5l s<|
 ((q15v (dL q5l s) number depth 0 0 0).bind fun r0 =>
 (Sum.elim (fun r1=>(some (r1.2.1,r1.2.2)))
 (fun r1=>(some (0,0))) r0)))
theorem q15u {s number depth r} (h:q164 s number depth=some r):q163 s number depth=some r :=
 q6x (es:=q16y) (hs:=q97) [q15w] Tryz.func29 rfl (by kernel_rfl) rfl (by kernel_rfl) (by kernel_rfl) ⟨⟨_,rfl,rfl⟩,trivial⟩ trivial (by kernel_rfl) h
def q108:=(qaj z26)
def q109:Cod (V×List B) (Int×Int):=(cFstU (cPair (vAgg z22) qai))
def q10c (s:L59):=fS Tryz.prog lv X0 13 q108 q109 s
def q10d (s:L59):Oq (Int×Int) :=
 (gL q5l s<|
 ((q163 (dL q5l s) 0 1).bind fun r0 =>
 (some (r0.1,r0.2))))
theorem q10b {s r} (h:q10d s=some r):q10c s=some r :=
 q6x (es:=q16y) (hs:=q97) [] Tryz.func13 rfl (by kernel_rfl) rfl (by kernel_rfl) (by kernel_rfl) trivial trivial (by kernel_rfl) h
def q10a:=entS Tryz.prog lv X0 13 [] q108 q109 (fun x=>q10c x) (fun _ _ h=>q6w h)
def q16s:=q10a::q16y
def q13v:=(qaj (vAgg z1s))
def q13w:Cod (V×List B) ByteArray:=z25
def q155 (qt6:Int) (qt9:L57) (qt7:BA) (qt8:Int) (qta:BA) (t_N:Int):=fS Tryz.prog lv X0 32 q13v q13w (qt6,qt9,qt7,qt8,qta,t_N)
def q13x:=entS Tryz.prog lv X0 32 [] q13v q13w (fun x=>q155 x.1 x.2.1 x.2.2.1 x.2.2.2.1 x.2.2.2.2.1 x.2.2.2.2.2) (fun _ _ h=>q6w h)
def q16v:=q13x::q16s
def q153:=sLS [1,4,5,6] (qah (vPtr 0 0) (qah (vC cStr) (qah (vRow 1) (qaj z1t)))) (qah (qd1 (bBox z1s)) (qaj (qd1 (bRow q5m)))) [false,false] [] (by decide) (fun _=>rfl)
def q152:=sLS [1,4,5,6,75] (qah (vPtr 0 0) (qah (vC cStr) (qah (vRow 1) (qah z1t z1y)))) (qah (qd1 (bBox z1s)) (qaj (qd1 (bRow q5m)))) [false,false] [] (by decide) (fun _=>rfl)
def q151:=oAt 2 q152
def q14y (out:BA) (l:Nat) (i b0:Int) (b0_1:L57) (b0_2:BA) (b0_3:Int) (b0_4:BA) (b0_5:Int) (b1:LB):=lS Tryz.prog lv X0 32 94 (q8l (cdF Tryz.f32) 14) q153 q151 (((),out,l,i),((b0,b0_1,b0_2,b0_3,b0_4,b0_5),b1))
abbrev z13 (i:Int) (b0_1:L57):=(List.getD (EC.encL q5k b0_1) (Int.toNat i) [])
def q154 (out:BA) (l:Nat) (i b0:Int) (b0_1:L57) (b0_2:BA) (b0_3:Int) (b0_4:BA) (b0_5:Int) (b1:LB):Oq ((Unit×BA×Nat×Int×Bool)×((Int×L57×BA×Int×BA×Int)×LB)) :=
 (brE (decide (i<(lN q5k b0_1:Int)))
 (gdE (p0 i)<|
 (gdE (eC q5k b0_1 i [(K1.int Go.IntKind.i64),K1.sl,K1.str,(K1.int Go.IntKind.i64),K1.str,(K1.int Go.IntKind.i64)])<|
 (gdE (EC.isL q5k (slOf (List.getD (z13 i b0_1) 1 C.ne)))<|
 ((q155 (q9n (List.getD (z13 i b0_1) 0 C.ne)) (uL q5k (List.getD (z13 i b0_1) 1 C.ne)) (qss (List.getD (z13 i b0_1) 2 C.ne)) (q9n (List.getD (z13 i b0_1) 3 C.ne)) (qss (List.getD (z13 i b0_1) 4 C.ne)) (q9n (List.getD (z13 i b0_1) 5 C.ne))).bind fun r0 =>
 (gdE ((((aL [[(C.str r0)]] 1)&&(aL (EC.encL q5m b1) 1))&&(dQ (l+(List.length [[(C.str r0)]])) 16))&&(dM (l+(List.length [[(C.str r0)]]))))<|
 (gL q5k b0_1<|
 (gdE (EC.isL q5m ((EC.encL q5m b1)++[[(C.str r0)]]))<|
 (q14y out (l+(List.length [[(C.str r0)]])) (wI i) b0 (dL q5k b0_1) b0_2 b0_3 b0_4 b0_5 (EC.decL q5m ((EC.encL q5m b1)++[[(C.str r0)]]))))))))))
 (gL q5k b0_1<|
 (gL q5m b1<|
 (some (((),(out,(l,(i,false)))),((b0,((dL q5k b0_1),(b0_2,(b0_3,(b0_4,b0_5))))),(dL q5m b1)))))))
theorem q150 {out l i b0 b0_1 b0_2 b0_3 b0_4 b0_5 b1 r} (h:q154 out l i b0 b0_1 b0_2 b0_3 b0_4 b0_5 b1=some r):q14y out l i b0 b0_1 b0_2 b0_3 b0_4 b0_5 b1=some r :=
 qal (es:=q16v) (hs:=q97) [] (by kernel_rfl) trivial trivial (by kernel_rfl) h
def q14z:=qb9 Tryz.prog lv X0 14 (q8l (cdF Tryz.f32) 14) q153 q151 (fun x=>q14y x.1.2.1 x.1.2.2.1 x.1.2.2.2 x.2.1.1 x.2.1.2.1 x.2.1.2.2.1 x.2.1.2.2.2.1 x.2.1.2.2.2.2.1 x.2.1.2.2.2.2.2 x.2.2) (fun _ _ h=>qak h)
def q14b:=sLS [4] z1z qai [] [] (by decide) (fun _=>rfl)
def q14a:=sLS [2] z1z qai [] [] (by decide) (fun _=>rfl)
def q149:=oAt 1 q14a
def q146 (out:BA):=gS Tryz.prog lv X0 32 94 (q8m (cdF Tryz.f32) 18) q14b q149 (out,())
def q14c (out:BA):Oq (BA×Unit) :=
 (some (out,()))
theorem q148 {out r} (h:q14c out=some r):q146 out=some r :=
 q8f (es:=q16v) (hs:=q97) [] (by kernel_rfl) trivial trivial (by kernel_rfl) h
def q147:=gentS Tryz.prog lv X0 18 (q8m (cdF Tryz.f32) 18) (by kernel_rfl) q14b q149 (fun x=>q146 x.1) (fun _ _ h=>q8e h)
def q144:=sLS [1,4] (qah (vPtr 0 0) z1z) z1w [false] [] (by decide) (fun _=>rfl)
def q143:=sLS [2] z1z qai [] [] (by decide) (fun _=>rfl)
def q142:=oAt 1 q143
def q13z (out:BA) (b0:Int) (b0_1:L57) (b0_2:BA) (b0_3:Int) (b0_4:BA) (b0_5:Int):=gS Tryz.prog lv X0 32 94 (q8m (cdF Tryz.f32) 11) q144 q142 (((),out),(b0,b0_1,b0_2,b0_3,b0_4,b0_5))
def q145 (out:BA) (b0:Int) (b0_1:L57) (b0_2:BA) (b0_3:Int) (b0_4:BA) (b0_5:Int):Oq (BA×Unit) :=
 (brE ((b0==3)==false)
 (brE (b0==4)
 (gL q5k b0_1<|
 ((q14y out 0 0 b0 (dL q5k b0_1) b0_2 b0_3 b0_4 b0_5 (EC.decL q5m [])).bind fun r0 =>
 (gL q5m r0.2.2<|
 ((qxw (dL q5m r0.2.2) (ByteArray.mk (List.toArray [(44:UInt8),(32:UInt8)]))).bind fun r1 =>
 (brE (decide (((((ByteArray.size (ByteArray.mk (List.toArray [(32:UInt8),(40:UInt8)])))+r1.size):Nat):Int)>(Go.IntKind.max Go.IntKind.i64)))
 none
 (brE (decide (((((ByteArray.size ((ByteArray.mk (List.toArray [(32:UInt8),(40:UInt8)]))++r1))+(ByteArray.size (ByteArray.mk (List.toArray [(41:UInt8)])))):Nat):Int)>(Go.IntKind.max Go.IntKind.i64)))
 none
 (brE (decide ((((r0.1.2.1.size+(ByteArray.size (((ByteArray.mk (List.toArray [(32:UInt8),(40:UInt8)]))++r1)++(ByteArray.mk (List.toArray [(41:UInt8)]))))):Nat):Int)>(Go.IntKind.max Go.IntKind.i64)))
 none
 (Option.bind (q146 (r0.1.2.1++(((ByteArray.mk (List.toArray [(32:UInt8),(40:UInt8)]))++r1)++(ByteArray.mk (List.toArray [(41:UInt8)]))))) fun r2 =>
 (some (r2.1,()))))))))))
 ((q146 out).bind fun r0 =>
 (some (r0.1,()))))
 (gL q5k b0_1<|
 ((q14y out 0 0 b0 (dL q5k b0_1) b0_2 b0_3 b0_4 b0_5 (EC.decL q5m [])).bind fun r0 =>
 (gL q5m r0.2.2<|
 ((qxw (dL q5m r0.2.2) (ByteArray.mk (List.toArray [(44:UInt8),(32:UInt8)]))).bind fun r1 =>
 (brE (decide (((((ByteArray.size (ByteArray.mk (List.toArray [(32:UInt8),(40:UInt8)])))+r1.size):Nat):Int)>(Go.IntKind.max Go.IntKind.i64)))
 none
 (brE (decide (((((ByteArray.size ((ByteArray.mk (List.toArray [(32:UInt8),(40:UInt8)]))++r1))+(ByteArray.size (ByteArray.mk (List.toArray [(41:UInt8)])))):Nat):Int)>(Go.IntKind.max Go.IntKind.i64)))
 none
 (brE (decide ((((r0.1.2.1.size+(ByteArray.size (((ByteArray.mk (List.toArray [(32:UInt8),(40:UInt8)]))++r1)++(ByteArray.mk (List.toArray [(41:UInt8)]))))):Nat):Int)>(Go.IntKind.max Go.IntKind.i64)))
 none
 (Option.bind (q146 (r0.1.2.1++(((ByteArray.mk (List.toArray [(32:UInt8),(40:UInt8)]))++r1)++(ByteArray.mk (List.toArray [(41:UInt8)]))))) fun r2 =>
 (some (r2.1,())))))))))))
theorem q141 {out b0 b0_1 b0_2 b0_3 b0_4 b0_5 r} (h:q145 out b0 b0_1 b0_2 b0_3 b0_4 b0_5=some r):q13z out b0 b0_1 b0_2 b0_3 b0_4 b0_5=some r :=
 q8f (es:=q16v) (hs:=q97) [q14z,q147] (by kernel_rfl) ⟨⟨_,rfl,rfl⟩,trivial⟩ ⟨⟨_,rfl,rfl⟩,trivial⟩ (by kernel_rfl) h
def q140:=gentS Tryz.prog lv X0 11 (q8m (cdF Tryz.f32) 11) (by kernel_rfl) q144 q142 (fun x=>q13z x.1.2 x.2.1 x.2.2.1 x.2.2.2.1 x.2.2.2.2.1 x.2.2.2.2.2.1 x.2.2.2.2.2.2) (fun _ _ h=>q8e h)
def q14w:=sLS [1,4] (qah (vPtr 0 0) z1z) z1w [false] [] (by decide) (fun _=>rfl)
def q14v:=sLS [2] z1z qai [] [] (by decide) (fun _=>rfl)
def q14u:=oAt 1 q14v
def q14r (out:BA) (b0:Int) (b0_1:L57) (b0_2:BA) (b0_3:Int) (b0_4:BA) (b0_5:Int):=gS Tryz.prog lv X0 32 94 (q8m (cdF Tryz.f32) 9) q14w q14u (((),out),(b0,b0_1,b0_2,b0_3,b0_4,b0_5))
abbrev z14 (b0_1:L57):=(List.getD (EC.encL q5k b0_1) (Int.toNat 0) [])
def q14x (out:BA) (b0:Int) (b0_1:L57) (b0_2:BA) (b0_3:Int) (b0_4:BA) (b0_5:Int):Oq (BA×Unit) :=
 (brE (b0==2)
 (gdE (eC q5k b0_1 0 [(K1.int Go.IntKind.i64),K1.sl,K1.str,(K1.int Go.IntKind.i64),K1.str,(K1.int Go.IntKind.i64)])<|
 (gdE (EC.isL q5k (slOf (List.getD (z14 b0_1) 1 C.ne)))<|
 ((q155 (q9n (List.getD (z14 b0_1) 0 C.ne)) (uL q5k (List.getD (z14 b0_1) 1 C.ne)) (qss (List.getD (z14 b0_1) 2 C.ne)) (q9n (List.getD (z14 b0_1) 3 C.ne)) (qss (List.getD (z14 b0_1) 4 C.ne)) (q9n (List.getD (z14 b0_1) 5 C.ne))).bind fun r0 =>
 (brE (decide (((((ByteArray.size (ByteArray.mk (List.toArray [(32:UInt8)])))+r0.size):Nat):Int)>(Go.IntKind.max Go.IntKind.i64)))
 none
 (brE (decide ((((out.size+(ByteArray.size ((ByteArray.mk (List.toArray [(32:UInt8)]))++r0))):Nat):Int)>(Go.IntKind.max Go.IntKind.i64)))
 none
 (gL q5k b0_1<|
 ((q13z (out++((ByteArray.mk (List.toArray [(32:UInt8)]))++r0)) b0 (dL q5k b0_1) b0_2 b0_3 b0_4 b0_5).bind fun r1 =>
 (some (r1.1,())))))))))
 (gL q5k b0_1<|
 ((q13z out b0 (dL q5k b0_1) b0_2 b0_3 b0_4 b0_5).bind fun r0 =>
 (some (r0.1,())))))
theorem q14t {out b0 b0_1 b0_2 b0_3 b0_4 b0_5 r} (h:q14x out b0 b0_1 b0_2 b0_3 b0_4 b0_5=some r):q14r out b0 b0_1 b0_2 b0_3 b0_4 b0_5=some r :=
 q8f (es:=q16v) (hs:=q97) [q140] (by kernel_rfl) trivial ⟨⟨_,rfl,rfl⟩,trivial⟩ (by kernel_rfl) h
def q14s:=gentS Tryz.prog lv X0 9 (q8m (cdF Tryz.f32) 9) (by kernel_rfl) q14w q14u (fun x=>q14r x.1.2 x.2.1 x.2.2.1 x.2.2.2.1 x.2.2.2.2.1 x.2.2.2.2.2.1 x.2.2.2.2.2.2) (fun _ _ h=>q8e h)
def q14p:=sLS [1,4] (qah (vPtr 0 0) z1z) z1w [false] [] (by decide) (fun _=>rfl)
def q14o:=sLS [2] z1z qai [] [] (by decide) (fun _=>rfl)
def q14n:=oAt 1 q14o
def q14k (out:BA) (b0:Int) (b0_1:L57) (b0_2:BA) (b0_3:Int) (b0_4:BA) (b0_5:Int):=gS Tryz.prog lv X0 32 94 (q8m (cdF Tryz.f32) 7) q14p q14n (((),out),(b0,b0_1,b0_2,b0_3,b0_4,b0_5))
def q14q (out:BA) (b0:Int) (b0_1:L57) (b0_2:BA) (b0_3:Int) (b0_4:BA) (b0_5:Int):Oq (BA×Unit) :=
 (brE (b0==8)
 ((qxd b0_5).bind fun r0 =>
 (brE (decide (((((ByteArray.size (ByteArray.mk (List.toArray [(32:UInt8)])))+r0.size):Nat):Int)>(Go.IntKind.max Go.IntKind.i64)))
 none
 (brE (decide ((((out.size+(ByteArray.size ((ByteArray.mk (List.toArray [(32:UInt8)]))++r0))):Nat):Int)>(Go.IntKind.max Go.IntKind.i64)))
 none
 (gL q5k b0_1<|
 ((q14r (out++((ByteArray.mk (List.toArray [(32:UInt8)]))++r0)) b0 (dL q5k b0_1) b0_2 b0_3 b0_4 b0_5).bind fun r1 =>
 (some (r1.1,())))))))
 (gL q5k b0_1<|
 ((q14r out b0 (dL q5k b0_1) b0_2 b0_3 b0_4 b0_5).bind fun r0 =>
 (some (r0.1,())))))
theorem q14m {out b0 b0_1 b0_2 b0_3 b0_4 b0_5 r} (h:q14q out b0 b0_1 b0_2 b0_3 b0_4 b0_5=some r):q14k out b0 b0_1 b0_2 b0_3 b0_4 b0_5=some r :=
 q8f (es:=q16v) (hs:=q97) [q14s] (by kernel_rfl) trivial ⟨⟨_,rfl,rfl⟩,trivial⟩ (by kernel_rfl) h
def q14l:=gentS Tryz.prog lv X0 7 (q8m (cdF Tryz.f32) 7) (by kernel_rfl) q14p q14n (fun x=>q14k x.1.2 x.2.1 x.2.2.1 x.2.2.2.1 x.2.2.2.2.1 x.2.2.2.2.2.1 x.2.2.2.2.2.2) (fun _ _ h=>q8e h)
def q14i:=sLS [1,4] (qah (vPtr 0 0) z1z) z1w [false] [] (by decide) (fun _=>rfl)
def q14h:=sLS [2] z1z qai [] [] (by decide) (fun _=>rfl)
def q14g:=oAt 1 q14h
def q14d (out:BA) (b0:Int) (b0_1:L57) (b0_2:BA) (b0_3:Int) (b0_4:BA) (b0_5:Int):=gS Tryz.prog lv X0 32 94 (q8m (cdF Tryz.f32) 5) q14i q14g (((),out),(b0,b0_1,b0_2,b0_3,b0_4,b0_5))
abbrev z15 (b0_3:Int):=(List.getD [[(C.str ⟨#[]⟩)],[(C.str (ByteArray.mk (List.toArray [(105:UInt8),(115:UInt8)])))],[(C.str (ByteArray.mk (List.toArray [(99:UInt8),(111:UInt8),(110:UInt8),(116:UInt8),(97:UInt8),(105:UInt8),(110:UInt8),(115:UInt8)])))],[(C.str (ByteArray.mk (List.toArray [(108:UInt8),(105:UInt8),(107:UInt8),(101:UInt8)])))]] (Int.toNat b0_3) [])
abbrev z16 (b0_3:Int):=(((ByteArray.mk (List.toArray [(32:UInt8)]))++(qss (List.getD (z15 b0_3) 0 C.ne)))++(ByteArray.mk (List.toArray [(32:UInt8)])))
def q14j (out:BA) (b0:Int) (b0_1:L57) (b0_2:BA) (b0_3:Int) (b0_4:BA) (b0_5:Int):Oq (BA×Unit) :=
 ((qxj b0 5 7).bind fun r0 =>
 (brE r0
 (gdE ((p0 b0_3)&&(decide (b0_3<((4:Nat):Int))))<|
 (gdE ((decide ((Int.toNat b0_3)<(List.length [[(C.str ⟨#[]⟩)],[(C.str (ByteArray.mk (List.toArray [(105:UInt8),(115:UInt8)])))],[(C.str (ByteArray.mk (List.toArray [(99:UInt8),(111:UInt8),(110:UInt8),(116:UInt8),(97:UInt8),(105:UInt8),(110:UInt8),(115:UInt8)])))],[(C.str (ByteArray.mk (List.toArray [(108:UInt8),(105:UInt8),(107:UInt8),(101:UInt8)])))]])))&&((List.length (z15 b0_3))==1))<|
 (gdE (isP [K1.str] 0 (z15 b0_3))<|
 (brE (decide (((((ByteArray.size (ByteArray.mk (List.toArray [(32:UInt8)])))+(ByteArray.size (qss (List.getD (z15 b0_3) 0 C.ne)))):Nat):Int)>(Go.IntKind.max Go.IntKind.i64)))
 none
 (brE (decide (((((ByteArray.size ((ByteArray.mk (List.toArray [(32:UInt8)]))++(qss (List.getD (z15 b0_3) 0 C.ne))))+(ByteArray.size (ByteArray.mk (List.toArray [(32:UInt8)])))):Nat):Int)>(Go.IntKind.max Go.IntKind.i64)))
 none
 ((qym b0_4).bind fun r1 =>
 (brE (decide (((((ByteArray.size (z16 b0_3))+r1.size):Nat):Int)>(Go.IntKind.max Go.IntKind.i64)))
 none
 (brE (decide ((((out.size+(ByteArray.size ((z16 b0_3)++r1))):Nat):Int)>(Go.IntKind.max Go.IntKind.i64)))
 none
 (gL q5k b0_1<|
 (Option.bind (q14k (out++((z16 b0_3)++r1)) b0 (dL q5k b0_1) b0_2 b0_3 b0_4 b0_5) fun r2 =>
 (some (r2.1,()))))))))))))
 (gL q5k b0_1<|
 ((q14k out b0 (dL q5k b0_1) b0_2 b0_3 b0_4 b0_5).bind fun r1 =>
 (some (r1.1,()))))))
theorem q14f {out b0 b0_1 b0_2 b0_3 b0_4 b0_5 r} (h:q14j out b0 b0_1 b0_2 b0_3 b0_4 b0_5=some r):q14d out b0 b0_1 b0_2 b0_3 b0_4 b0_5=some r :=
 q8f (es:=q16v) (hs:=q97) [q14l] (by kernel_rfl) trivial ⟨⟨_,rfl,rfl⟩,trivial⟩ (by kernel_rfl) h
def q14e:=gentS Tryz.prog lv X0 5 (q8m (cdF Tryz.f32) 5) (by kernel_rfl) q14i q14g (fun x=>q14d x.1.2 x.2.1 x.2.2.1 x.2.2.2.1 x.2.2.2.2.1 x.2.2.2.2.2.1 x.2.2.2.2.2.2) (fun _ _ h=>q8e h)
def q156 (qt6:Int) (qt9:L57) (qt7:BA) (qt8:Int) (qta:BA) (t_N:Int):Oq BA :=
 (gdE ((p0 qt6)&&(decide (qt6<((10:Nat):Int))))<|
 (gdE ((decide ((Int.toNat qt6)<(List.length [[(C.str ⟨#[]⟩)],[(C.str (ByteArray.mk (List.toArray [(116:UInt8),(114:UInt8),(117:UInt8),(101:UInt8)])))],[(C.str (ByteArray.mk (List.toArray [(110:UInt8),(111:UInt8),(116:UInt8)])))],[(C.str (ByteArray.mk (List.toArray [(97:UInt8),(108:UInt8),(108:UInt8)])))],[(C.str (ByteArray.mk (List.toArray [(97:UInt8),(110:UInt8),(121:UInt8)])))],[(C.str (ByteArray.mk (List.toArray [(104:UInt8),(101:UInt8),(97:UInt8),(100:UInt8),(101:UInt8),(114:UInt8)])))],[(C.str (ByteArray.mk (List.toArray [(102:UInt8),(114:UInt8),(111:UInt8),(109:UInt8)])))],[(C.str (ByteArray.mk (List.toArray [(116:UInt8),(111:UInt8)])))],[(C.str (ByteArray.mk (List.toArray [(115:UInt8),(105:UInt8),(122:UInt8),(101:UInt8)])))],[(C.str (ByteArray.mk (List.toArray [(101:UInt8),(120:UInt8),(105:UInt8),(115:UInt8),(116:UInt8),(115:UInt8)])))]])))&&((List.length (List.getD [[(C.str ⟨#[]⟩)],[(C.str (ByteArray.mk (List.toArray [(116:UInt8),(114:UInt8),(117:UInt8),(101:UInt8)])))],[(C.str (ByteArray.mk (List.toArray [(110:UInt8),(111:UInt8),(116:UInt8)])))],[(C.str (ByteArray.mk (List.toArray [(97:UInt8),(108:UInt8),(108:UInt8)])))],[(C.str (ByteArray.mk (List.toArray [(97:UInt8),(110:UInt8),(121:UInt8)])))],[(C.str (ByteArray.mk (List.toArray [(104:UInt8),(101:UInt8),(97:UInt8),(100:UInt8),(101:UInt8),(114:UInt8)])))],[(C.str (ByteArray.mk (List.toArray [(102:UInt8),(114:UInt8),(111:UInt8),(109:UInt8)])))],[(C.str (ByteArray.mk (List.toArray [(116:UInt8),(111:UInt8)])))],[(C.str (ByteArray.mk (List.toArray [(115:UInt8),(105:UInt8),(122:UInt8),(101:UInt8)])))],[(C.str (ByteArray.mk (List.toArray [(101:UInt8),(120:UInt8),(105:UInt8),(115:UInt8),(116:UInt8),(115:UInt8)])))]] (Int.toNat qt6) []))==1))<|
 (gdE (isP [K1.str] 0 (List.getD [[(C.str ⟨#[]⟩)],[(C.str (ByteArray.mk (List.toArray [(116:UInt8),(114:UInt8),(117:UInt8),(101:UInt8)])))],[(C.str (ByteArray.mk (List.toArray [(110:UInt8),(111:UInt8),(116:UInt8)])))],[(C.str (ByteArray.mk (List.toArray [(97:UInt8),(108:UInt8),(108:UInt8)])))],[(C.str (ByteArray.mk (List.toArray [(97:UInt8),(110:UInt8),(121:UInt8)])))],[(C.str (ByteArray.mk (List.toArray [(104:UInt8),(101:UInt8),(97:UInt8),(100:UInt8),(101:UInt8),(114:UInt8)])))],[(C.str (ByteArray.mk (List.toArray [(102:UInt8),(114:UInt8),(111:UInt8),(109:UInt8)])))],[(C.str (ByteArray.mk (List.toArray [(116:UInt8),(111:UInt8)])))],[(C.str (ByteArray.mk (List.toArray [(115:UInt8),(105:UInt8),(122:UInt8),(101:UInt8)])))],[(C.str (ByteArray.mk (List.toArray [(101:UInt8),(120:UInt8),(105:UInt8),(115:UInt8),(116:UInt8),(115:UInt8)])))]] (Int.toNat qt6) []))<|
 (brE ((qt6==5)==false)
 (brE (qt6==9)
 ((qym qt7).bind fun r0 =>
 (brE (decide (((((ByteArray.size (ByteArray.mk (List.toArray [(32:UInt8)])))+r0.size):Nat):Int)>(Go.IntKind.max Go.IntKind.i64)))
 none
 (brE (decide (((((ByteArray.size (qss (List.getD (List.getD [[(C.str ⟨#[]⟩)],[(C.str (ByteArray.mk (List.toArray [(116:UInt8),(114:UInt8),(117:UInt8),(101:UInt8)])))],[(C.str (ByteArray.mk (List.toArray [(110:UInt8),(111:UInt8),(116:UInt8)])))],[(C.str (ByteArray.mk (List.toArray [(97:UInt8),(108:UInt8),(108:UInt8)])))],[(C.str (ByteArray.mk (List.toArray [(97:UInt8),(110:UInt8),(121:UInt8)])))],[(C.str (ByteArray.mk (List.toArray [(104:UInt8),(101:UInt8),(97:UInt8),(100:UInt8),(101:UInt8),(114:UInt8)])))],[(C.str (ByteArray.mk (List.toArray [(102:UInt8),(114:UInt8),(111:UInt8),(109:UInt8)])))],[(C.str (ByteArray.mk (List.toArray [(116:UInt8),(111:UInt8)])))],[(C.str (ByteArray.mk (List.toArray [(115:UInt8),(105:UInt8),(122:UInt8),(101:UInt8)])))],[(C.str (ByteArray.mk (List.toArray [(101:UInt8),(120:UInt8),(105:UInt8),(115:UInt8),(116:UInt8),(115:UInt8)])))]] (Int.toNat qt6) []) 0 C.ne)))+(ByteArray.size ((ByteArray.mk (List.toArray [(32:UInt8)]))++r0))):Nat):Int)>(Go.IntKind.max Go.IntKind.i64)))
 none
 (gL q5k qt9<|
 (Option.bind (q14d ((qss (List.getD (List.getD [[(C.str ⟨#[]⟩)],[(C.str (ByteArray.mk (List.toArray [(116:UInt8),(114:UInt8),(117:UInt8),(101:UInt8)])))],[(C.str (ByteArray.mk (List.toArray [(110:UInt8),(111:UInt8),(116:UInt8)])))],[(C.str (ByteArray.mk (List.toArray [(97:UInt8),(108:UInt8),(108:UInt8)])))],[(C.str (ByteArray.mk (List.toArray [(97:UInt8),(110:UInt8),(121:UInt8)])))],[(C.str (ByteArray.mk (List.toArray [(104:UInt8),(101:UInt8),(97:UInt8),(100:UInt8),(101:UInt8),(114:UInt8)])))],[(C.str (ByteArray.mk (List.toArray [(102:UInt8),(114:UInt8),(111:UInt8),(109:UInt8)])))],[(C.str (ByteArray.mk (List.toArray [(116:UInt8),(111:UInt8)])))],[(C.str (ByteArray.mk (List.toArray [(115:UInt8),(105:UInt8),(122:UInt8),(101:UInt8)])))],[(C.str (ByteArray.mk (List.toArray [(101:UInt8),(120:UInt8),(105:UInt8),(115:UInt8),(116:UInt8),(115:UInt8)])))]] (Int.toNat qt6) []) 0 C.ne))++((ByteArray.mk (List.toArray [(32:UInt8)]))++r0)) qt6 (dL q5k qt9) qt7 qt8 qta t_N) fun r1 =>
 (some r1.1))))))
 (gL q5k qt9<|
 (Option.bind (q14d (qss (List.getD (List.getD [[(C.str ⟨#[]⟩)],[(C.str (ByteArray.mk (List.toArray [(116:UInt8),(114:UInt8),(117:UInt8),(101:UInt8)])))],[(C.str (ByteArray.mk (List.toArray [(110:UInt8),(111:UInt8),(116:UInt8)])))],[(C.str (ByteArray.mk (List.toArray [(97:UInt8),(108:UInt8),(108:UInt8)])))],[(C.str (ByteArray.mk (List.toArray [(97:UInt8),(110:UInt8),(121:UInt8)])))],[(C.str (ByteArray.mk (List.toArray [(104:UInt8),(101:UInt8),(97:UInt8),(100:UInt8),(101:UInt8),(114:UInt8)])))],[(C.str (ByteArray.mk (List.toArray [(102:UInt8),(114:UInt8),(111:UInt8),(109:UInt8)])))],[(C.str (ByteArray.mk (List.toArray [(116:UInt8),(111:UInt8)])))],[(C.str (ByteArray.mk (List.toArray [(115:UInt8),(105:UInt8),(122:UInt8),(101:UInt8)])))],[(C.str (ByteArray.mk (List.toArray [(101:UInt8),(120:UInt8),(105:UInt8),(115:UInt8),(116:UInt8),(115:UInt8)])))]] (Int.toNat qt6) []) 0 C.ne)) qt6 (dL q5k qt9) qt7 qt8 qta t_N) fun r0 =>
 (some r0.1))))
 ((qym qt7).bind fun r0 =>
 (brE (decide (((((ByteArray.size (ByteArray.mk (List.toArray [(32:UInt8)])))+r0.size):Nat):Int)>(Go.IntKind.max Go.IntKind.i64)))
 none
 (brE (decide (((((ByteArray.size (qss (List.getD (List.getD [[(C.str ⟨#[]⟩)],[(C.str (ByteArray.mk (List.toArray [(116:UInt8),(114:UInt8),(117:UInt8),(101:UInt8)])))],[(C.str (ByteArray.mk (List.toArray [(110:UInt8),(111:UInt8),(116:UInt8)])))],[(C.str (ByteArray.mk (List.toArray [(97:UInt8),(108:UInt8),(108:UInt8)])))],[(C.str (ByteArray.mk (List.toArray [(97:UInt8),(110:UInt8),(121:UInt8)])))],[(C.str (ByteArray.mk (List.toArray [(104:UInt8),(101:UInt8),(97:UInt8),(100:UInt8),(101:UInt8),(114:UInt8)])))],[(C.str (ByteArray.mk (List.toArray [(102:UInt8),(114:UInt8),(111:UInt8),(109:UInt8)])))],[(C.str (ByteArray.mk (List.toArray [(116:UInt8),(111:UInt8)])))],[(C.str (ByteArray.mk (List.toArray [(115:UInt8),(105:UInt8),(122:UInt8),(101:UInt8)])))],[(C.str (ByteArray.mk (List.toArray [(101:UInt8),(120:UInt8),(105:UInt8),(115:UInt8),(116:UInt8),(115:UInt8)])))]] (Int.toNat qt6) []) 0 C.ne)))+(ByteArray.size ((ByteArray.mk (List.toArray [(32:UInt8)]))++r0))):Nat):Int)>(Go.IntKind.max Go.IntKind.i64)))
 none
 (gL q5k qt9<|
 (Option.bind (q14d ((qss (List.getD (List.getD [[(C.str ⟨#[]⟩)],[(C.str (ByteArray.mk (List.toArray [(116:UInt8),(114:UInt8),(117:UInt8),(101:UInt8)])))],[(C.str (ByteArray.mk (List.toArray [(110:UInt8),(111:UInt8),(116:UInt8)])))],[(C.str (ByteArray.mk (List.toArray [(97:UInt8),(108:UInt8),(108:UInt8)])))],[(C.str (ByteArray.mk (List.toArray [(97:UInt8),(110:UInt8),(121:UInt8)])))],[(C.str (ByteArray.mk (List.toArray [(104:UInt8),(101:UInt8),(97:UInt8),(100:UInt8),(101:UInt8),(114:UInt8)])))],[(C.str (ByteArray.mk (List.toArray [(102:UInt8),(114:UInt8),(111:UInt8),(109:UInt8)])))],[(C.str (ByteArray.mk (List.toArray [(116:UInt8),(111:UInt8)])))],[(C.str (ByteArray.mk (List.toArray [(115:UInt8),(105:UInt8),(122:UInt8),(101:UInt8)])))],[(C.str (ByteArray.mk (List.toArray [(101:UInt8),(120:UInt8),(105:UInt8),(115:UInt8),(116:UInt8),(115:UInt8)])))]] (Int.toNat qt6) []) 0 C.ne))++((ByteArray.mk (List.toArray [(32:UInt8)]))++r0)) qt6 (dL q5k qt9) qt7 qt8 qta t_N) fun r1 =>
 (some r1.1))))))))))
theorem q13y {qt6 qt9 qt7 qt8 qta t_N r} (h:q156 qt6 qt9 qt7 qt8 qta t_N=some r):q155 qt6 qt9 qt7 qt8 qta t_N=some r :=
 q6x (es:=q16v) (hs:=q97) [q14e] Tryz.func32 rfl (by kernel_rfl) rfl (by kernel_rfl) (by kernel_rfl) trivial ⟨⟨_,rfl,rfl⟩,trivial⟩ (by kernel_rfl) h
def q10e:=(qah z26 (qaj z1t))
def q10f:Cod (V×List B) ByteArray:=z25
def q122 (s:L59) (depth:Int):=fS Tryz.prog lv X0 15 q10e q10f (s,depth)
def q10g:=entS Tryz.prog lv X0 15 [] q10e q10f (fun x=>q122 x.1 x.2) (fun _ _ h=>q6w h)
def q16t:=q10g::q16v
def q11t:=sLS [0,1,5,6] (qah z26 (qah z1t z28)) qai [] [] (by decide) (fun _=>rfl)
def q11s:=sLS [0,1,5,6,12] (qah z26 (qah z1t z24)) qai [] [] (by decide) (fun _=>rfl)
def q11r:=oAt 2 q11s
def q11o (s:L59) (depth:Int) (indent:BA) (i:Int):=lS Tryz.prog lv X0 15 116 (q8l (cdF Tryz.f15) 3) q11t q11r ((s,depth,indent,i),())
def q11u (s:L59) (depth:Int) (indent:BA) (i:Int):Oq ((L59×Int×BA×Int×Bool)×Unit) :=
 (brE (decide (i<depth))
 (brE (decide ((((indent.size+(ByteArray.size (ByteArray.mk (List.toArray [(32:UInt8),(32:UInt8)])))):Nat):Int)>(Go.IntKind.max Go.IntKind.i64)))
 none
 (gL q5l s<|
 (q11o (dL q5l s) depth (indent++(ByteArray.mk (List.toArray [(32:UInt8),(32:UInt8)]))) (wI i))))
 (gL q5l s<|
 (some (((dL q5l s),(depth,(indent,(i,false)))),()))))
theorem q11q {s depth indent i r} (h:q11u s depth indent i=some r):q11o s depth indent i=some r :=
 qal (es:=q16t) (hs:=q97) [] (by kernel_rfl) trivial trivial (by kernel_rfl) h
def q11p:=qb9 Tryz.prog lv X0 3 (q8l (cdF Tryz.f15) 3) q11t q11r (fun x=>q11o x.1.1 x.1.2.1 x.1.2.2.1 x.1.2.2.2) (fun _ _ h=>qak h)
abbrev z1u:=(qah (vC (cSl q5l)) (qah z1t (qah (vC cStr) (qah (vC cStr) (qah z1t (qaj (vPtr 0 0)))))))
def q111:=sLS [0,1,5,7,8,9] z1u z1x [false] [] (by decide) (fun _=>rfl)
def q110:=sLS [0,1,5,7,8,9] z1u z1x [false] [] (by decide) (fun _=>rfl)
def q10z:=oAt 0 q110
def q10w (s:L59) (depth:Int) (indent out:BA) (i b0 b0_1:Int) (b0_2:L57) (b0_3:BA) (b0_4:Int) (b0_5:BA) (b0_6:Int) (b0_7 b0_8:L59) (b0_9:Int) (b0_10 b0_11:BA) (b0_12:Int):=gS Tryz.prog lv X0 15 116 (q8m (cdF Tryz.f15) 22) q111 q10z ((s,depth,indent,out,i,()),(b0,b0_1,b0_2,b0_3,b0_4,b0_5,b0_6,b0_7,b0_8,b0_9,b0_10,b0_11,b0_12))
def q112 (s:L59) (depth:Int) (indent out:BA) (i b0 b0_1:Int) (b0_2:L57) (b0_3:BA) (b0_4:Int) (b0_5:BA) (b0_6:Int) (b0_7 b0_8:L59) (b0_9:Int) (b0_10 b0_11:BA) (b0_12:Int):Oq ((L59×Int×BA×BA×Int×Unit)×(Int×Int×L57×BA×Int×BA×Int×L59×L59×Int×BA×BA×Int)) :=
 (brE (decide ((((out.size+(ByteArray.size (ByteArray.mk (List.toArray [(59:UInt8)])))):Nat):Int)>(Go.IntKind.max Go.IntKind.i64)))
 none
 (gL q5l s<|
 (gL q5k b0_2<|
 (gL q5l b0_7<|
 (gL q5l b0_8<|
 (some (((dL q5l s),(depth,(indent,((out++(ByteArray.mk (List.toArray [(59:UInt8)]))),(i,()))))),(b0,(b0_1,((dL q5k b0_2),(b0_3,(b0_4,(b0_5,(b0_6,((dL q5l b0_7),((dL q5l b0_8),(b0_9,(b0_10,(b0_11,b0_12)))))))))))))))))))
theorem q10y {s depth indent out i b0 b0_1 b0_2 b0_3 b0_4 b0_5 b0_6 b0_7 b0_8 b0_9 b0_10 b0_11 b0_12 r} (h:q112 s depth indent out i b0 b0_1 b0_2 b0_3 b0_4 b0_5 b0_6 b0_7 b0_8 b0_9 b0_10 b0_11 b0_12=some r):q10w s depth indent out i b0 b0_1 b0_2 b0_3 b0_4 b0_5 b0_6 b0_7 b0_8 b0_9 b0_10 b0_11 b0_12=some r :=
 q8f (es:=q16t) (hs:=q97) [] (by kernel_rfl) trivial trivial (by kernel_rfl) h
def q10x:=gentS Tryz.prog lv X0 22 (q8m (cdF Tryz.f15) 22) (by kernel_rfl) q111 q10z (fun x=>q10w x.1.1 x.1.2.1 x.1.2.2.1 x.1.2.2.2.1 x.1.2.2.2.2.1 x.2.1 x.2.2.1 x.2.2.2.1 x.2.2.2.2.1 x.2.2.2.2.2.1 x.2.2.2.2.2.2.1 x.2.2.2.2.2.2.2.1 x.2.2.2.2.2.2.2.2.1 x.2.2.2.2.2.2.2.2.2.1 x.2.2.2.2.2.2.2.2.2.2.1 x.2.2.2.2.2.2.2.2.2.2.2.1 x.2.2.2.2.2.2.2.2.2.2.2.2.1 x.2.2.2.2.2.2.2.2.2.2.2.2.2) (fun _ _ h=>q8e h)
def q10u:=sLS [0,1,5,7,8,9] z1u z1x [false] [] (by decide) (fun _=>rfl)
def q10t:=sLS [0,1,5,7,8,9] z1u z1x [false] [] (by decide) (fun _=>rfl)
def q10s:=oAt 0 q10t
def q10p (s:L59) (depth:Int) (indent out:BA) (i b0 b0_1:Int) (b0_2:L57) (b0_3:BA) (b0_4:Int) (b0_5:BA) (b0_6:Int) (b0_7 b0_8:L59) (b0_9:Int) (b0_10 b0_11:BA) (b0_12:Int):=gS Tryz.prog lv X0 15 116 (q8m (cdF Tryz.f15) 20) q10u q10s ((s,depth,indent,out,i,()),(b0,b0_1,b0_2,b0_3,b0_4,b0_5,b0_6,b0_7,b0_8,b0_9,b0_10,b0_11,b0_12))
def q10v (s:L59) (depth:Int) (indent out:BA) (i b0 b0_1:Int) (b0_2:L57) (b0_3:BA) (b0_4:Int) (b0_5:BA) (b0_6:Int) (b0_7 b0_8:L59) (b0_9:Int) (b0_10 b0_11:BA) (b0_12:Int):Oq ((L59×Int×BA×BA×Int×Unit)×(Int×Int×L57×BA×Int×BA×Int×L59×L59×Int×BA×BA×Int)) :=
 (brE (b0_9==6)
 ((qxd b0_12).bind fun r0 =>
 (brE (decide (((((ByteArray.size (ByteArray.mk (List.toArray [(32:UInt8)])))+r0.size):Nat):Int)>(Go.IntKind.max Go.IntKind.i64)))
 none
 (brE (decide ((((out.size+(ByteArray.size ((ByteArray.mk (List.toArray [(32:UInt8)]))++r0))):Nat):Int)>(Go.IntKind.max Go.IntKind.i64)))
 none
 (gL q5l s<|
 (gL q5k b0_2<|
 (gL q5l b0_7<|
 (gL q5l b0_8<|
 ((q10w (dL q5l s) depth indent (out++((ByteArray.mk (List.toArray [(32:UInt8)]))++r0)) i b0 b0_1 (dL q5k b0_2) b0_3 b0_4 b0_5 b0_6 (dL q5l b0_7) (dL q5l b0_8) b0_9 b0_10 b0_11 b0_12).bind fun r1 =>
 (gL q5l r1.1.1<|
 (gL q5k r1.2.2.2.1<|
 (gL q5l r1.2.2.2.2.2.2.2.2.1<|
 (gL q5l r1.2.2.2.2.2.2.2.2.2.1<|
 (some (((dL q5l r1.1.1),(r1.1.2.1,(r1.1.2.2.1,(r1.1.2.2.2.1,(r1.1.2.2.2.2.1,()))))),(r1.2.1,(r1.2.2.1,((dL q5k r1.2.2.2.1),(r1.2.2.2.2.1,(r1.2.2.2.2.2.1,(r1.2.2.2.2.2.2.1,(r1.2.2.2.2.2.2.2.1,((dL q5l r1.2.2.2.2.2.2.2.2.1),((dL q5l r1.2.2.2.2.2.2.2.2.2.1),(r1.2.2.2.2.2.2.2.2.2.2.1,(r1.2.2.2.2.2.2.2.2.2.2.2.1,(r1.2.2.2.2.2.2.2.2.2.2.2.2.1,r1.2.2.2.2.2.2.2.2.2.2.2.2.2))))))))))))))))))))))))))
 (gL q5l s<|
 (gL q5k b0_2<|
 (gL q5l b0_7<|
 (gL q5l b0_8<|
 ((q10w (dL q5l s) depth indent out i b0 b0_1 (dL q5k b0_2) b0_3 b0_4 b0_5 b0_6 (dL q5l b0_7) (dL q5l b0_8) b0_9 b0_10 b0_11 b0_12).bind fun r0 =>
 (gL q5l r0.1.1<|
 (gL q5k r0.2.2.2.1<|
 (gL q5l r0.2.2.2.2.2.2.2.2.1<|
 (gL q5l r0.2.2.2.2.2.2.2.2.2.1<|
 (some (((dL q5l r0.1.1),(r0.1.2.1,(r0.1.2.2.1,(r0.1.2.2.2.1,(r0.1.2.2.2.2.1,()))))),(r0.2.1,(r0.2.2.1,((dL q5k r0.2.2.2.1),(r0.2.2.2.2.1,(r0.2.2.2.2.2.1,(r0.2.2.2.2.2.2.1,(r0.2.2.2.2.2.2.2.1,((dL q5l r0.2.2.2.2.2.2.2.2.1),((dL q5l r0.2.2.2.2.2.2.2.2.2.1),(r0.2.2.2.2.2.2.2.2.2.2.1,(r0.2.2.2.2.2.2.2.2.2.2.2.1,(r0.2.2.2.2.2.2.2.2.2.2.2.2.1,r0.2.2.2.2.2.2.2.2.2.2.2.2.2))))))))))))))))))))))))
theorem q10r {s depth indent out i b0 b0_1 b0_2 b0_3 b0_4 b0_5 b0_6 b0_7 b0_8 b0_9 b0_10 b0_11 b0_12 r} (h:q10v s depth indent out i b0 b0_1 b0_2 b0_3 b0_4 b0_5 b0_6 b0_7 b0_8 b0_9 b0_10 b0_11 b0_12=some r):q10p s depth indent out i b0 b0_1 b0_2 b0_3 b0_4 b0_5 b0_6 b0_7 b0_8 b0_9 b0_10 b0_11 b0_12=some r :=
 q8f (es:=q16t) (hs:=q97) [q10x] (by kernel_rfl) trivial ⟨⟨_,rfl,rfl⟩,trivial⟩ (by kernel_rfl) h
def q10q:=gentS Tryz.prog lv X0 20 (q8m (cdF Tryz.f15) 20) (by kernel_rfl) q10u q10s (fun x=>q10p x.1.1 x.1.2.1 x.1.2.2.1 x.1.2.2.2.1 x.1.2.2.2.2.1 x.2.1 x.2.2.1 x.2.2.2.1 x.2.2.2.2.1 x.2.2.2.2.2.1 x.2.2.2.2.2.2.1 x.2.2.2.2.2.2.2.1 x.2.2.2.2.2.2.2.2.1 x.2.2.2.2.2.2.2.2.2.1 x.2.2.2.2.2.2.2.2.2.2.1 x.2.2.2.2.2.2.2.2.2.2.2.1 x.2.2.2.2.2.2.2.2.2.2.2.2.1 x.2.2.2.2.2.2.2.2.2.2.2.2.2) (fun _ _ h=>q8e h)
abbrev z1v:=(qah (vC (cSl q5l)) (qah z1t (qah (vC cStr) (qah (vC cStr) (qaj z1t)))))
def q11m:=sLS [0,1,5,7,8] z1v qai [] [] (by decide) (fun _=>rfl)
def q11l:=sLS [0,1,5,7,8] z1v qai [] [] (by decide) (fun _=>rfl)
def q11k:=oAt 0 q11l
def q11h (s:L59) (depth:Int) (indent out:BA) (i:Int):=gS Tryz.prog lv X0 15 116 (q8m (cdF Tryz.f15) 27) q11m q11k ((s,depth,indent,out,i),())
def q11n (s:L59) (depth:Int) (indent out:BA) (i:Int):Oq ((L59×Int×BA×BA×Int)×Unit) :=
 (brE (decide ((((out.size+(ByteArray.size (ByteArray.mk (List.toArray [(10:UInt8)])))):Nat):Int)>(Go.IntKind.max Go.IntKind.i64)))
 none
 (gL q5l s<|
 (some (((dL q5l s),(depth,(indent,((out++(ByteArray.mk (List.toArray [(10:UInt8)]))),i)))),()))))
theorem q11j {s depth indent out i r} (h:q11n s depth indent out i=some r):q11h s depth indent out i=some r :=
 q8f (es:=q16t) (hs:=q97) [] (by kernel_rfl) trivial trivial (by kernel_rfl) h
def q11i:=gentS Tryz.prog lv X0 27 (q8m (cdF Tryz.f15) 27) (by kernel_rfl) q11m q11k (fun x=>q11h x.1.1 x.1.2.1 x.1.2.2.1 x.1.2.2.2.1 x.1.2.2.2.2) (fun _ _ h=>q8e h)
def q11f:=sLS [0,1,5,7,8,9] z1u z1x [false] [] (by decide) (fun _=>rfl)
def q11e:=sLS [0,1,5,7,8] z1v qai [] [] (by decide) (fun _=>rfl)
def q11d:=oAt 0 q11e
def q11a (s:L59) (depth:Int) (indent out:BA) (i b0 b0_1:Int) (b0_2:L57) (b0_3:BA) (b0_4:Int) (b0_5:BA) (b0_6:Int) (b0_7 b0_8:L59) (b0_9:Int) (b0_10 b0_11:BA) (b0_12:Int):=gS Tryz.prog lv X0 15 116 (q8m (cdF Tryz.f15) 25) q11f q11d ((s,depth,indent,out,i,()),(b0,b0_1,b0_2,b0_3,b0_4,b0_5,b0_6,b0_7,b0_8,b0_9,b0_10,b0_11,b0_12))
def q11g (s:L59) (depth:Int) (indent out:BA) (i b0 b0_1:Int) (b0_2:L57) (b0_3:BA) (b0_4:Int) (b0_5:BA) (b0_6:Int) (b0_7 b0_8:L59) (b0_9:Int) (b0_10 b0_11:BA) (b0_12:Int):Oq ((L59×Int×BA×BA×Int)×Unit) :=
 (brE (b0==4)
 (brE (decide ((((out.size+(ByteArray.size (ByteArray.mk (List.toArray [(115:UInt8),(116:UInt8),(111:UInt8),(112:UInt8),(59:UInt8)])))):Nat):Int)>(Go.IntKind.max Go.IntKind.i64)))
 none
 (gL q5l s<|
 ((q11h (dL q5l s) depth indent (out++(ByteArray.mk (List.toArray [(115:UInt8),(116:UInt8),(111:UInt8),(112:UInt8),(59:UInt8)]))) i).bind fun r0 =>
 (gL q5l r0.1.1<|
 (some (((dL q5l r0.1.1),(r0.1.2.1,(r0.1.2.2.1,(r0.1.2.2.2.1,r0.1.2.2.2.2)))),()))))))
 (gL q5l s<|
 ((q11h (dL q5l s) depth indent out i).bind fun r0 =>
 (gL q5l r0.1.1<|
 (some (((dL q5l r0.1.1),(r0.1.2.1,(r0.1.2.2.1,(r0.1.2.2.2.1,r0.1.2.2.2.2)))),()))))))
theorem q11c {s depth indent out i b0 b0_1 b0_2 b0_3 b0_4 b0_5 b0_6 b0_7 b0_8 b0_9 b0_10 b0_11 b0_12 r} (h:q11g s depth indent out i b0 b0_1 b0_2 b0_3 b0_4 b0_5 b0_6 b0_7 b0_8 b0_9 b0_10 b0_11 b0_12=some r):q11a s depth indent out i b0 b0_1 b0_2 b0_3 b0_4 b0_5 b0_6 b0_7 b0_8 b0_9 b0_10 b0_11 b0_12=some r :=
 q8f (es:=q16t) (hs:=q97) [q11i] (by kernel_rfl) trivial ⟨⟨_,rfl,rfl⟩,trivial⟩ (by kernel_rfl) h
def q11b:=gentS Tryz.prog lv X0 25 (q8m (cdF Tryz.f15) 25) (by kernel_rfl) q11f q11d (fun x=>q11a x.1.1 x.1.2.1 x.1.2.2.1 x.1.2.2.2.1 x.1.2.2.2.2.1 x.2.1 x.2.2.1 x.2.2.2.1 x.2.2.2.2.1 x.2.2.2.2.2.1 x.2.2.2.2.2.2.1 x.2.2.2.2.2.2.2.1 x.2.2.2.2.2.2.2.2.1 x.2.2.2.2.2.2.2.2.2.1 x.2.2.2.2.2.2.2.2.2.2.1 x.2.2.2.2.2.2.2.2.2.2.2.1 x.2.2.2.2.2.2.2.2.2.2.2.2.1 x.2.2.2.2.2.2.2.2.2.2.2.2.2) (fun _ _ h=>q8e h)
def q118:=sLS [0,1,5,7,8,9] z1u z1x [false] [] (by decide) (fun _=>rfl)
def q117:=sLS [0,1,5,7,8] z1v qai [] [] (by decide) (fun _=>rfl)
def q116:=oAt 0 q117
def q113 (s:L59) (depth:Int) (indent out:BA) (i b0 b0_1:Int) (b0_2:L57) (b0_3:BA) (b0_4:Int) (b0_5:BA) (b0_6:Int) (b0_7 b0_8:L59) (b0_9:Int) (b0_10 b0_11:BA) (b0_12:Int):=gS Tryz.prog lv X0 15 116 (q8m (cdF Tryz.f15) 23) q118 q116 ((s,depth,indent,out,i,()),(b0,b0_1,b0_2,b0_3,b0_4,b0_5,b0_6,b0_7,b0_8,b0_9,b0_10,b0_11,b0_12))
abbrev z17 (b0_10:BA):=(((ByteArray.mk (List.toArray [(115:UInt8),(101:UInt8),(116:UInt8),(32:UInt8)]))++b0_10)++(ByteArray.mk (List.toArray [(32:UInt8)])))
def q119 (s:L59) (depth:Int) (indent out:BA) (i b0 b0_1:Int) (b0_2:L57) (b0_3:BA) (b0_4:Int) (b0_5:BA) (b0_6:Int) (b0_7 b0_8:L59) (b0_9:Int) (b0_10 b0_11:BA) (b0_12:Int):Oq ((L59×Int×BA×BA×Int)×Unit) :=
 (brE (b0==3)
 (brE (decide (((((ByteArray.size (ByteArray.mk (List.toArray [(115:UInt8),(101:UInt8),(116:UInt8),(32:UInt8)])))+b0_10.size):Nat):Int)>(Go.IntKind.max Go.IntKind.i64)))
 none
 (brE (decide (((((ByteArray.size ((ByteArray.mk (List.toArray [(115:UInt8),(101:UInt8),(116:UInt8),(32:UInt8)]))++b0_10))+(ByteArray.size (ByteArray.mk (List.toArray [(32:UInt8)])))):Nat):Int)>(Go.IntKind.max Go.IntKind.i64)))
 none
 ((qym b0_11).bind fun r0 =>
 (brE (decide (((((ByteArray.size (z17 b0_10))+r0.size):Nat):Int)>(Go.IntKind.max Go.IntKind.i64)))
 none
 (brE (decide (((((ByteArray.size ((z17 b0_10)++r0))+(ByteArray.size (ByteArray.mk (List.toArray [(59:UInt8)])))):Nat):Int)>(Go.IntKind.max Go.IntKind.i64)))
 none
 (brE (decide ((((out.size+(ByteArray.size (((z17 b0_10)++r0)++(ByteArray.mk (List.toArray [(59:UInt8)]))))):Nat):Int)>(Go.IntKind.max Go.IntKind.i64)))
 none
 (gL q5l s<|
 (gL q5k b0_2<|
 (gL q5l b0_7<|
 (gL q5l b0_8<|
 (Option.bind (q11a (dL q5l s) depth indent (out++(((z17 b0_10)++r0)++(ByteArray.mk (List.toArray [(59:UInt8)])))) i b0 b0_1 (dL q5k b0_2) b0_3 b0_4 b0_5 b0_6 (dL q5l b0_7) (dL q5l b0_8) b0_9 b0_10 b0_11 b0_12) fun r1 =>
 (gL q5l r1.1.1<|
 (some (((dL q5l r1.1.1),(r1.1.2.1,(r1.1.2.2.1,(r1.1.2.2.2.1,r1.1.2.2.2.2)))),()))))))))))))))
 (gL q5l s<|
 (gL q5k b0_2<|
 (gL q5l b0_7<|
 (gL q5l b0_8<|
 ((q11a (dL q5l s) depth indent out i b0 b0_1 (dL q5k b0_2) b0_3 b0_4 b0_5 b0_6 (dL q5l b0_7) (dL q5l b0_8) b0_9 b0_10 b0_11 b0_12).bind fun r0 =>
 (gL q5l r0.1.1<|
 (some (((dL q5l r0.1.1),(r0.1.2.1,(r0.1.2.2.1,(r0.1.2.2.2.1,r0.1.2.2.2.2)))),())))))))))
theorem q115 {s depth indent out i b0 b0_1 b0_2 b0_3 b0_4 b0_5 b0_6 b0_7 b0_8 b0_9 b0_10 b0_11 b0_12 r} (h:q119 s depth indent out i b0 b0_1 b0_2 b0_3 b0_4 b0_5 b0_6 b0_7 b0_8 b0_9 b0_10 b0_11 b0_12=some r):q113 s depth indent out i b0 b0_1 b0_2 b0_3 b0_4 b0_5 b0_6 b0_7 b0_8 b0_9 b0_10 b0_11 b0_12=some r :=
 q8f (es:=q16t) (hs:=q97) [q11b] (by kernel_rfl) trivial ⟨⟨_,rfl,rfl⟩,trivial⟩ (by kernel_rfl) h
def q114:=gentS Tryz.prog lv X0 23 (q8m (cdF Tryz.f15) 23) (by kernel_rfl) q118 q116 (fun x=>q113 x.1.1 x.1.2.1 x.1.2.2.1 x.1.2.2.2.1 x.1.2.2.2.2.1 x.2.1 x.2.2.1 x.2.2.2.1 x.2.2.2.2.1 x.2.2.2.2.2.1 x.2.2.2.2.2.2.1 x.2.2.2.2.2.2.2.1 x.2.2.2.2.2.2.2.2.1 x.2.2.2.2.2.2.2.2.2.1 x.2.2.2.2.2.2.2.2.2.2.1 x.2.2.2.2.2.2.2.2.2.2.2.1 x.2.2.2.2.2.2.2.2.2.2.2.2.1 x.2.2.2.2.2.2.2.2.2.2.2.2.2) (fun _ _ h=>q8e h)
def q10n:=sLS [0,1,5,7,8,9] z1u z1x [false] [] (by decide) (fun _=>rfl)
def q10m:=sLS [0,1,5,7,8] z1v qai [] [] (by decide) (fun _=>rfl)
def q10l:=oAt 0 q10m
def q10i (s:L59) (depth:Int) (indent out:BA) (i b0 b0_1:Int) (b0_2:L57) (b0_3:BA) (b0_4:Int) (b0_5:BA) (b0_6:Int) (b0_7 b0_8:L59) (b0_9:Int) (b0_10 b0_11:BA) (b0_12:Int):=gS Tryz.prog lv X0 15 116 (q8m (cdF Tryz.f15) 16) q10n q10l ((s,depth,indent,out,i,()),(b0,b0_1,b0_2,b0_3,b0_4,b0_5,b0_6,b0_7,b0_8,b0_9,b0_10,b0_11,b0_12))
def q10o (s:L59) (depth:Int) (indent out:BA) (i b0 b0_1:Int) (b0_2:L57) (b0_3:BA) (b0_4:Int) (b0_5:BA) (b0_6:Int) (b0_7 b0_8:L59) (b0_9:Int) (b0_10 b0_11:BA) (b0_12:Int):Oq ((L59×Int×BA×BA×Int)×Unit) :=
 (brE (b0==2)
 (gdE ((p0 b0_9)&&(decide (b0_9<((8:Nat):Int))))<|
 (gdE ((decide ((Int.toNat b0_9)<(List.length [[(C.str ⟨#[]⟩)],[(C.str (ByteArray.mk (List.toArray [(107:UInt8),(101:UInt8),(101:UInt8),(112:UInt8)])))],[(C.str (ByteArray.mk (List.toArray [(102:UInt8),(105:UInt8),(108:UInt8),(101:UInt8)])))],[(C.str (ByteArray.mk (List.toArray [(100:UInt8),(105:UInt8),(115:UInt8),(99:UInt8),(97:UInt8),(114:UInt8),(100:UInt8)])))],[(C.str (ByteArray.mk (List.toArray [(114:UInt8),(101:UInt8),(100:UInt8),(105:UInt8),(114:UInt8),(101:UInt8),(99:UInt8),(116:UInt8)])))],[(C.str (ByteArray.mk (List.toArray [(114:UInt8),(101:UInt8),(106:UInt8),(101:UInt8),(99:UInt8),(116:UInt8)])))],[(C.str (ByteArray.mk (List.toArray [(102:UInt8),(108:UInt8),(97:UInt8),(103:UInt8)])))],[(C.str (ByteArray.mk (List.toArray [(114:UInt8),(101:UInt8),(112:UInt8),(108:UInt8),(121:UInt8)])))]])))&&((List.length (List.getD [[(C.str ⟨#[]⟩)],[(C.str (ByteArray.mk (List.toArray [(107:UInt8),(101:UInt8),(101:UInt8),(112:UInt8)])))],[(C.str (ByteArray.mk (List.toArray [(102:UInt8),(105:UInt8),(108:UInt8),(101:UInt8)])))],[(C.str (ByteArray.mk (List.toArray [(100:UInt8),(105:UInt8),(115:UInt8),(99:UInt8),(97:UInt8),(114:UInt8),(100:UInt8)])))],[(C.str (ByteArray.mk (List.toArray [(114:UInt8),(101:UInt8),(100:UInt8),(105:UInt8),(114:UInt8),(101:UInt8),(99:UInt8),(116:UInt8)])))],[(C.str (ByteArray.mk (List.toArray [(114:UInt8),(101:UInt8),(106:UInt8),(101:UInt8),(99:UInt8),(116:UInt8)])))],[(C.str (ByteArray.mk (List.toArray [(102:UInt8),(108:UInt8),(97:UInt8),(103:UInt8)])))],[(C.str (ByteArray.mk (List.toArray [(114:UInt8),(101:UInt8),(112:UInt8),(108:UInt8),(121:UInt8)])))]] (Int.toNat b0_9) []))==1))<|
 (gdE (isP [K1.str] 0 (List.getD [[(C.str ⟨#[]⟩)],[(C.str (ByteArray.mk (List.toArray [(107:UInt8),(101:UInt8),(101:UInt8),(112:UInt8)])))],[(C.str (ByteArray.mk (List.toArray [(102:UInt8),(105:UInt8),(108:UInt8),(101:UInt8)])))],[(C.str (ByteArray.mk (List.toArray [(100:UInt8),(105:UInt8),(115:UInt8),(99:UInt8),(97:UInt8),(114:UInt8),(100:UInt8)])))],[(C.str (ByteArray.mk (List.toArray [(114:UInt8),(101:UInt8),(100:UInt8),(105:UInt8),(114:UInt8),(101:UInt8),(99:UInt8),(116:UInt8)])))],[(C.str (ByteArray.mk (List.toArray [(114:UInt8),(101:UInt8),(106:UInt8),(101:UInt8),(99:UInt8),(116:UInt8)])))],[(C.str (ByteArray.mk (List.toArray [(102:UInt8),(108:UInt8),(97:UInt8),(103:UInt8)])))],[(C.str (ByteArray.mk (List.toArray [(114:UInt8),(101:UInt8),(112:UInt8),(108:UInt8),(121:UInt8)])))]] (Int.toNat b0_9) []))<|
 (brE (decide ((((out.size+(ByteArray.size (qss (List.getD (List.getD [[(C.str ⟨#[]⟩)],[(C.str (ByteArray.mk (List.toArray [(107:UInt8),(101:UInt8),(101:UInt8),(112:UInt8)])))],[(C.str (ByteArray.mk (List.toArray [(102:UInt8),(105:UInt8),(108:UInt8),(101:UInt8)])))],[(C.str (ByteArray.mk (List.toArray [(100:UInt8),(105:UInt8),(115:UInt8),(99:UInt8),(97:UInt8),(114:UInt8),(100:UInt8)])))],[(C.str (ByteArray.mk (List.toArray [(114:UInt8),(101:UInt8),(100:UInt8),(105:UInt8),(114:UInt8),(101:UInt8),(99:UInt8),(116:UInt8)])))],[(C.str (ByteArray.mk (List.toArray [(114:UInt8),(101:UInt8),(106:UInt8),(101:UInt8),(99:UInt8),(116:UInt8)])))],[(C.str (ByteArray.mk (List.toArray [(102:UInt8),(108:UInt8),(97:UInt8),(103:UInt8)])))],[(C.str (ByteArray.mk (List.toArray [(114:UInt8),(101:UInt8),(112:UInt8),(108:UInt8),(121:UInt8)])))]] (Int.toNat b0_9) []) 0 C.ne)))):Nat):Int)>(Go.IntKind.max Go.IntKind.i64)))
 none
 ((q15b b0_9).bind fun r0 =>
 (brE r0
 ((qym b0_11).bind fun r1 =>
 (brE (decide (((((ByteArray.size (ByteArray.mk (List.toArray [(32:UInt8)])))+r1.size):Nat):Int)>(Go.IntKind.max Go.IntKind.i64)))
 none
 (brE (decide (((((ByteArray.size (out++(qss (List.getD (List.getD [[(C.str ⟨#[]⟩)],[(C.str (ByteArray.mk (List.toArray [(107:UInt8),(101:UInt8),(101:UInt8),(112:UInt8)])))],[(C.str (ByteArray.mk (List.toArray [(102:UInt8),(105:UInt8),(108:UInt8),(101:UInt8)])))],[(C.str (ByteArray.mk (List.toArray [(100:UInt8),(105:UInt8),(115:UInt8),(99:UInt8),(97:UInt8),(114:UInt8),(100:UInt8)])))],[(C.str (ByteArray.mk (List.toArray [(114:UInt8),(101:UInt8),(100:UInt8),(105:UInt8),(114:UInt8),(101:UInt8),(99:UInt8),(116:UInt8)])))],[(C.str (ByteArray.mk (List.toArray [(114:UInt8),(101:UInt8),(106:UInt8),(101:UInt8),(99:UInt8),(116:UInt8)])))],[(C.str (ByteArray.mk (List.toArray [(102:UInt8),(108:UInt8),(97:UInt8),(103:UInt8)])))],[(C.str (ByteArray.mk (List.toArray [(114:UInt8),(101:UInt8),(112:UInt8),(108:UInt8),(121:UInt8)])))]] (Int.toNat b0_9) []) 0 C.ne))))+(ByteArray.size ((ByteArray.mk (List.toArray [(32:UInt8)]))++r1))):Nat):Int)>(Go.IntKind.max Go.IntKind.i64)))
 none
 (gL q5l s<|
 (gL q5k b0_2<|
 (gL q5l b0_7<|
 (gL q5l b0_8<|
 (Option.bind (q10p (dL q5l s) depth indent ((out++(qss (List.getD (List.getD [[(C.str ⟨#[]⟩)],[(C.str (ByteArray.mk (List.toArray [(107:UInt8),(101:UInt8),(101:UInt8),(112:UInt8)])))],[(C.str (ByteArray.mk (List.toArray [(102:UInt8),(105:UInt8),(108:UInt8),(101:UInt8)])))],[(C.str (ByteArray.mk (List.toArray [(100:UInt8),(105:UInt8),(115:UInt8),(99:UInt8),(97:UInt8),(114:UInt8),(100:UInt8)])))],[(C.str (ByteArray.mk (List.toArray [(114:UInt8),(101:UInt8),(100:UInt8),(105:UInt8),(114:UInt8),(101:UInt8),(99:UInt8),(116:UInt8)])))],[(C.str (ByteArray.mk (List.toArray [(114:UInt8),(101:UInt8),(106:UInt8),(101:UInt8),(99:UInt8),(116:UInt8)])))],[(C.str (ByteArray.mk (List.toArray [(102:UInt8),(108:UInt8),(97:UInt8),(103:UInt8)])))],[(C.str (ByteArray.mk (List.toArray [(114:UInt8),(101:UInt8),(112:UInt8),(108:UInt8),(121:UInt8)])))]] (Int.toNat b0_9) []) 0 C.ne)))++((ByteArray.mk (List.toArray [(32:UInt8)]))++r1)) i b0 b0_1 (dL q5k b0_2) b0_3 b0_4 b0_5 b0_6 (dL q5l b0_7) (dL q5l b0_8) b0_9 b0_10 b0_11 b0_12) fun r2 =>
 (gL q5l r2.1.1<|
 (gL q5k r2.2.2.2.1<|
 (gL q5l r2.2.2.2.2.2.2.2.2.1<|
 (gL q5l r2.2.2.2.2.2.2.2.2.2.1<|
 ((q113 (dL q5l r2.1.1) r2.1.2.1 r2.1.2.2.1 r2.1.2.2.2.1 r2.1.2.2.2.2.1 r2.2.1 r2.2.2.1 (dL q5k r2.2.2.2.1) r2.2.2.2.2.1 r2.2.2.2.2.2.1 r2.2.2.2.2.2.2.1 r2.2.2.2.2.2.2.2.1 (dL q5l r2.2.2.2.2.2.2.2.2.1) (dL q5l r2.2.2.2.2.2.2.2.2.2.1) r2.2.2.2.2.2.2.2.2.2.2.1 r2.2.2.2.2.2.2.2.2.2.2.2.1 r2.2.2.2.2.2.2.2.2.2.2.2.2.1 r2.2.2.2.2.2.2.2.2.2.2.2.2.2).bind fun r3 =>
 (gL q5l r3.1.1<|
 (some (((dL q5l r3.1.1),(r3.1.2.1,(r3.1.2.2.1,(r3.1.2.2.2.1,r3.1.2.2.2.2)))),()))))))))))))))))
 (gL q5l s<|
 (gL q5k b0_2<|
 (gL q5l b0_7<|
 (gL q5l b0_8<|
 (Option.bind (q10p (dL q5l s) depth indent (out++(qss (List.getD (List.getD [[(C.str ⟨#[]⟩)],[(C.str (ByteArray.mk (List.toArray [(107:UInt8),(101:UInt8),(101:UInt8),(112:UInt8)])))],[(C.str (ByteArray.mk (List.toArray [(102:UInt8),(105:UInt8),(108:UInt8),(101:UInt8)])))],[(C.str (ByteArray.mk (List.toArray [(100:UInt8),(105:UInt8),(115:UInt8),(99:UInt8),(97:UInt8),(114:UInt8),(100:UInt8)])))],[(C.str (ByteArray.mk (List.toArray [(114:UInt8),(101:UInt8),(100:UInt8),(105:UInt8),(114:UInt8),(101:UInt8),(99:UInt8),(116:UInt8)])))],[(C.str (ByteArray.mk (List.toArray [(114:UInt8),(101:UInt8),(106:UInt8),(101:UInt8),(99:UInt8),(116:UInt8)])))],[(C.str (ByteArray.mk (List.toArray [(102:UInt8),(108:UInt8),(97:UInt8),(103:UInt8)])))],[(C.str (ByteArray.mk (List.toArray [(114:UInt8),(101:UInt8),(112:UInt8),(108:UInt8),(121:UInt8)])))]] (Int.toNat b0_9) []) 0 C.ne))) i b0 b0_1 (dL q5k b0_2) b0_3 b0_4 b0_5 b0_6 (dL q5l b0_7) (dL q5l b0_8) b0_9 b0_10 b0_11 b0_12) fun r1 =>
 (gL q5l r1.1.1<|
 (gL q5k r1.2.2.2.1<|
 (gL q5l r1.2.2.2.2.2.2.2.2.1<|
 (gL q5l r1.2.2.2.2.2.2.2.2.2.1<|
 ((q113 (dL q5l r1.1.1) r1.1.2.1 r1.1.2.2.1 r1.1.2.2.2.1 r1.1.2.2.2.2.1 r1.2.1 r1.2.2.1 (dL q5k r1.2.2.2.1) r1.2.2.2.2.1 r1.2.2.2.2.2.1 r1.2.2.2.2.2.2.1 r1.2.2.2.2.2.2.2.1 (dL q5l r1.2.2.2.2.2.2.2.2.1) (dL q5l r1.2.2.2.2.2.2.2.2.2.1) r1.2.2.2.2.2.2.2.2.2.2.1 r1.2.2.2.2.2.2.2.2.2.2.2.1 r1.2.2.2.2.2.2.2.2.2.2.2.2.1 r1.2.2.2.2.2.2.2.2.2.2.2.2.2).bind fun r2 =>
 (gL q5l r2.1.1<|
 (some (((dL q5l r2.1.1),(r2.1.2.1,(r2.1.2.2.1,(r2.1.2.2.2.1,r2.1.2.2.2.2)))),())))))))))))))))))))
 (gL q5l s<|
 (gL q5k b0_2<|
 (gL q5l b0_7<|
 (gL q5l b0_8<|
 ((q113 (dL q5l s) depth indent out i b0 b0_1 (dL q5k b0_2) b0_3 b0_4 b0_5 b0_6 (dL q5l b0_7) (dL q5l b0_8) b0_9 b0_10 b0_11 b0_12).bind fun r0 =>
 (gL q5l r0.1.1<|
 (some (((dL q5l r0.1.1),(r0.1.2.1,(r0.1.2.2.1,(r0.1.2.2.2.1,r0.1.2.2.2.2)))),())))))))))
theorem q10k {s depth indent out i b0 b0_1 b0_2 b0_3 b0_4 b0_5 b0_6 b0_7 b0_8 b0_9 b0_10 b0_11 b0_12 r} (h:q10o s depth indent out i b0 b0_1 b0_2 b0_3 b0_4 b0_5 b0_6 b0_7 b0_8 b0_9 b0_10 b0_11 b0_12=some r):q10i s depth indent out i b0 b0_1 b0_2 b0_3 b0_4 b0_5 b0_6 b0_7 b0_8 b0_9 b0_10 b0_11 b0_12=some r :=
 q8f (es:=q16t) (hs:=q97) [q10q,q114] (by kernel_rfl) trivial ⟨⟨_,rfl,rfl⟩,⟨_,rfl,rfl⟩,trivial⟩ (by kernel_rfl) h
def q10j:=gentS Tryz.prog lv X0 16 (q8m (cdF Tryz.f15) 16) (by kernel_rfl) q10n q10l (fun x=>q10i x.1.1 x.1.2.1 x.1.2.2.1 x.1.2.2.2.1 x.1.2.2.2.2.1 x.2.1 x.2.2.1 x.2.2.2.1 x.2.2.2.2.1 x.2.2.2.2.2.1 x.2.2.2.2.2.2.1 x.2.2.2.2.2.2.2.1 x.2.2.2.2.2.2.2.2.1 x.2.2.2.2.2.2.2.2.2.1 x.2.2.2.2.2.2.2.2.2.2.1 x.2.2.2.2.2.2.2.2.2.2.2.1 x.2.2.2.2.2.2.2.2.2.2.2.2.1 x.2.2.2.2.2.2.2.2.2.2.2.2.2) (fun _ _ h=>q8e h)
def q120:=sLS [0,1,5,7,8] z1v qai [] [] (by decide) (fun _=>rfl)
def q11z:=sLS [0,1,5,7,8,20] (qah z26 (qah z1t (qah (vC cStr) z24))) qai [] [] (by decide) (fun _=>rfl)
def q11y:=oAt 4 q11z
def q11v (s:L59) (depth:Int) (indent out:BA) (i:Int):=lS Tryz.prog lv X0 15 116 (q8l (cdF Tryz.f15) 8) q120 q11y ((s,depth,indent,out,i),())
abbrev z18 (s:L59) (i:Int):=(List.getD (EC.encL q5l s) (Int.toNat i) [])
abbrev z19 (s:L59) (i:Int):=(List.getD (z18 s i) 8 C.ne)
abbrev z1a (s:L59) (i:Int):=(List.getD (z18 s i) 2 C.ne)
abbrev z1b (s:L59) (i:Int):=(List.getD (z18 s i) 7 C.ne)
def q121 (s:L59) (depth:Int) (indent out:BA) (i:Int):Oq ((L59×Int×BA×BA×Int×Bool)×Unit) :=
 (brE (decide (i<(lN q5l s:Int)))
 (gdE (p0 i)<|
 (gdE (eC q5l s i [(K1.int Go.IntKind.i64),(K1.int Go.IntKind.i64),K1.sl,K1.str,(K1.int Go.IntKind.i64),K1.str,(K1.int Go.IntKind.i64),K1.sl,K1.sl,(K1.int Go.IntKind.i64),K1.str,K1.str,(K1.int Go.IntKind.i64)])<|
 (brE (decide ((((out.size+indent.size):Nat):Int)>(Go.IntKind.max Go.IntKind.i64)))
 none
 (brE ((q9n (List.getD (z18 s i) 0 C.ne))==1)
 (gdE (EC.isL q5k (slOf (z1a s i)))<|
 ((q155 (q9n (List.getD (z18 s i) 1 C.ne)) (uL q5k (z1a s i)) (qss (List.getD (z18 s i) 3 C.ne)) (q9n (List.getD (z18 s i) 4 C.ne)) (qss (List.getD (z18 s i) 5 C.ne)) (q9n (List.getD (z18 s i) 6 C.ne))).bind fun r0 =>
 (brE (decide (((((ByteArray.size (ByteArray.mk (List.toArray [(105:UInt8),(102:UInt8),(32:UInt8)])))+r0.size):Nat):Int)>(Go.IntKind.max Go.IntKind.i64)))
 none
 (brE (decide (((((ByteArray.size ((ByteArray.mk (List.toArray [(105:UInt8),(102:UInt8),(32:UInt8)]))++r0))+(ByteArray.size (ByteArray.mk (List.toArray [(32:UInt8),(123:UInt8),(10:UInt8)])))):Nat):Int)>(Go.IntKind.max Go.IntKind.i64)))
 none
 (gdE (EC.isL q5l (slOf (z1b s i)))<|
 ((q122 (uL q5l (z1b s i)) (wI depth)).bind fun r1 =>
 (brE (decide (((((ByteArray.size (((ByteArray.mk (List.toArray [(105:UInt8),(102:UInt8),(32:UInt8)]))++r0)++(ByteArray.mk (List.toArray [(32:UInt8),(123:UInt8),(10:UInt8)]))))+r1.size):Nat):Int)>(Go.IntKind.max Go.IntKind.i64)))
 none
 (brE (decide (((((ByteArray.size ((((ByteArray.mk (List.toArray [(105:UInt8),(102:UInt8),(32:UInt8)]))++r0)++(ByteArray.mk (List.toArray [(32:UInt8),(123:UInt8),(10:UInt8)])))++r1))+indent.size):Nat):Int)>(Go.IntKind.max Go.IntKind.i64)))
 none
 (brE (decide (((((ByteArray.size (((((ByteArray.mk (List.toArray [(105:UInt8),(102:UInt8),(32:UInt8)]))++r0)++(ByteArray.mk (List.toArray [(32:UInt8),(123:UInt8),(10:UInt8)])))++r1)++indent))+(ByteArray.size (ByteArray.mk (List.toArray [(125:UInt8)])))):Nat):Int)>(Go.IntKind.max Go.IntKind.i64)))
 none
 (brE (decide (((((ByteArray.size (out++indent))+(ByteArray.size ((((((ByteArray.mk (List.toArray [(105:UInt8),(102:UInt8),(32:UInt8)]))++r0)++(ByteArray.mk (List.toArray [(32:UInt8),(123:UInt8),(10:UInt8)])))++r1)++indent)++(ByteArray.mk (List.toArray [(125:UInt8)]))))):Nat):Int)>(Go.IntKind.max Go.IntKind.i64)))
 none
 (brE (decide ((((List.length (slOf (z19 s i))):Nat):Int)>0))
 (gdE (EC.isL q5l (slOf (z19 s i)))<|
 ((q122 (uL q5l (z19 s i)) (wI depth)).bind fun r2 =>
 (brE (decide (((((ByteArray.size (ByteArray.mk (List.toArray [(32:UInt8),(101:UInt8),(108:UInt8),(115:UInt8),(101:UInt8),(32:UInt8),(123:UInt8),(10:UInt8)])))+r2.size):Nat):Int)>(Go.IntKind.max Go.IntKind.i64)))
 none
 (brE (decide (((((ByteArray.size ((ByteArray.mk (List.toArray [(32:UInt8),(101:UInt8),(108:UInt8),(115:UInt8),(101:UInt8),(32:UInt8),(123:UInt8),(10:UInt8)]))++r2))+indent.size):Nat):Int)>(Go.IntKind.max Go.IntKind.i64)))
 none
 (brE (decide (((((ByteArray.size (((ByteArray.mk (List.toArray [(32:UInt8),(101:UInt8),(108:UInt8),(115:UInt8),(101:UInt8),(32:UInt8),(123:UInt8),(10:UInt8)]))++r2)++indent))+(ByteArray.size (ByteArray.mk (List.toArray [(125:UInt8)])))):Nat):Int)>(Go.IntKind.max Go.IntKind.i64)))
 none
 (brE (decide (((((ByteArray.size ((out++indent)++((((((ByteArray.mk (List.toArray [(105:UInt8),(102:UInt8),(32:UInt8)]))++r0)++(ByteArray.mk (List.toArray [(32:UInt8),(123:UInt8),(10:UInt8)])))++r1)++indent)++(ByteArray.mk (List.toArray [(125:UInt8)])))))+(ByteArray.size ((((ByteArray.mk (List.toArray [(32:UInt8),(101:UInt8),(108:UInt8),(115:UInt8),(101:UInt8),(32:UInt8),(123:UInt8),(10:UInt8)]))++r2)++indent)++(ByteArray.mk (List.toArray [(125:UInt8)]))))):Nat):Int)>(Go.IntKind.max Go.IntKind.i64)))
 none
 (gL q5l s<|
 (gdE (EC.isL q5k (slOf (z1a s i)))<|
 (gdE (EC.isL q5l (slOf (z1b s i)))<|
 (gdE (EC.isL q5l (slOf (z19 s i)))<|
 (Option.bind (q10i (dL q5l s) depth indent (((out++indent)++((((((ByteArray.mk (List.toArray [(105:UInt8),(102:UInt8),(32:UInt8)]))++r0)++(ByteArray.mk (List.toArray [(32:UInt8),(123:UInt8),(10:UInt8)])))++r1)++indent)++(ByteArray.mk (List.toArray [(125:UInt8)]))))++((((ByteArray.mk (List.toArray [(32:UInt8),(101:UInt8),(108:UInt8),(115:UInt8),(101:UInt8),(32:UInt8),(123:UInt8),(10:UInt8)]))++r2)++indent)++(ByteArray.mk (List.toArray [(125:UInt8)])))) i (q9n (List.getD (z18 s i) 0 C.ne)) (q9n (List.getD (z18 s i) 1 C.ne)) (uL q5k (z1a s i)) (qss (List.getD (z18 s i) 3 C.ne)) (q9n (List.getD (z18 s i) 4 C.ne)) (qss (List.getD (z18 s i) 5 C.ne)) (q9n (List.getD (z18 s i) 6 C.ne)) (uL q5l (z1b s i)) (uL q5l (z19 s i)) (q9n (List.getD (z18 s i) 9 C.ne)) (qss (List.getD (z18 s i) 10 C.ne)) (qss (List.getD (z18 s i) 11 C.ne)) (q9n (List.getD (z18 s i) 12 C.ne))) fun r3 =>
 (gL q5l r3.1.1<|
 (q11v (dL q5l r3.1.1) r3.1.2.1 r3.1.2.2.1 r3.1.2.2.2.1 (wI r3.1.2.2.2.2))))))))))))))
 (gL q5l s<|
 (gdE (EC.isL q5k (slOf (z1a s i)))<|
 (gdE (EC.isL q5l (slOf (z1b s i)))<|
 (gdE (EC.isL q5l (slOf (z19 s i)))<|
 (Option.bind (q10i (dL q5l s) depth indent ((out++indent)++((((((ByteArray.mk (List.toArray [(105:UInt8),(102:UInt8),(32:UInt8)]))++r0)++(ByteArray.mk (List.toArray [(32:UInt8),(123:UInt8),(10:UInt8)])))++r1)++indent)++(ByteArray.mk (List.toArray [(125:UInt8)])))) i (q9n (List.getD (z18 s i) 0 C.ne)) (q9n (List.getD (z18 s i) 1 C.ne)) (uL q5k (z1a s i)) (qss (List.getD (z18 s i) 3 C.ne)) (q9n (List.getD (z18 s i) 4 C.ne)) (qss (List.getD (z18 s i) 5 C.ne)) (q9n (List.getD (z18 s i) 6 C.ne)) (uL q5l (z1b s i)) (uL q5l (z19 s i)) (q9n (List.getD (z18 s i) 9 C.ne)) (qss (List.getD (z18 s i) 10 C.ne)) (qss (List.getD (z18 s i) 11 C.ne)) (q9n (List.getD (z18 s i) 12 C.ne))) fun r2 =>
 (gL q5l r2.1.1<|
 (q11v (dL q5l r2.1.1) r2.1.2.1 r2.1.2.2.1 r2.1.2.2.2.1 (wI r2.1.2.2.2.2)))))))))))))))))))
 (gL q5l s<|
 (gdE (EC.isL q5k (slOf (z1a s i)))<|
 (gdE (EC.isL q5l (slOf (z1b s i)))<|
 (gdE (EC.isL q5l (slOf (z19 s i)))<|
 ((q10i (dL q5l s) depth indent (out++indent) i (q9n (List.getD (z18 s i) 0 C.ne)) (q9n (List.getD (z18 s i) 1 C.ne)) (uL q5k (z1a s i)) (qss (List.getD (z18 s i) 3 C.ne)) (q9n (List.getD (z18 s i) 4 C.ne)) (qss (List.getD (z18 s i) 5 C.ne)) (q9n (List.getD (z18 s i) 6 C.ne)) (uL q5l (z1b s i)) (uL q5l (z19 s i)) (q9n (List.getD (z18 s i) 9 C.ne)) (qss (List.getD (z18 s i) 10 C.ne)) (qss (List.getD (z18 s i) 11 C.ne)) (q9n (List.getD (z18 s i) 12 C.ne))).bind fun r0 =>
 (gL q5l r0.1.1<|
 (q11v (dL q5l r0.1.1) r0.1.2.1 r0.1.2.2.1 r0.1.2.2.2.1 (wI r0.1.2.2.2.2))))))))))))
 (gL q5l s<|
 (some (((dL q5l s),(depth,(indent,(out,(i,false))))),()))))
theorem q11x {s depth indent out i r} (h:q121 s depth indent out i=some r):q11v s depth indent out i=some r :=
 qal (es:=q16t) (hs:=q97) [q10j] (by kernel_rfl) trivial ⟨⟨_,rfl,rfl⟩,trivial⟩ (by kernel_rfl) h
def q11w:=qb9 Tryz.prog lv X0 8 (q8l (cdF Tryz.f15) 8) q120 q11y (fun x=>q11v x.1.1 x.1.2.1 x.1.2.2.1 x.1.2.2.2.1 x.1.2.2.2.2) (fun _ _ h=>qak h)
def q123 (s:L59) (depth:Int):Oq BA :=
 (gL q5l s<|
 ((q11o (dL q5l s) depth ⟨#[]⟩ 1).bind fun r0 =>
 (gL q5l r0.1.1<|
 ((q11v (dL q5l r0.1.1) r0.1.2.1 r0.1.2.2.1 ⟨#[]⟩ 0).bind fun r1 =>
 (some r1.1.2.2.2.1)))))
theorem q10h {s depth r} (h:q123 s depth=some r):q122 s depth=some r :=
 q6x (es:=q16t) (hs:=q97) [q11p,q11w] Tryz.func15 rfl (by kernel_rfl) rfl (by kernel_rfl) (by kernel_rfl) ⟨⟨_,rfl,rfl⟩,⟨_,rfl,rfl⟩,trivial⟩ trivial (by kernel_rfl) h
end
end Go.Proofs.YtognhcibcocbkaaGreatDoor
