/- Functions of the program as plain functions: made by program from the machine. -/
import Derived.Test.YtmacbkjehjbjeaaGreatDoorH1
namespace Go.Proofs.YtmacbkjehjbjeaaGreatDoor
open Go.RowKit
set_option maxRecDepth 100000
noncomputable section
def q61:=(qjn (vC (cInt .i64)))
def q62:Cod (V×List B) Bool:=(cFstU (cPair (vC cBool) qjm))
def q65 (t:Int):Option Bool:=fS Tryz.prog lv X0 26 q61 q62 t
def q66 (t:Int):Option Bool :=
 (brE ((decide (t≥(-68719476736)))==true)
 (some (decide (t≤68719476736)))
 (some false))
theorem q64 {t r} (h:q66 t=some r):q65 t=some r :=
 qc8 (es:=qtg) (hs:=[]) [] Tryz.func26 rfl (by kernel_rfl) rfl (by kernel_rfl) (by kernel_rfl) trivial trivial (by kernel_rfl) h
def q63:=entS Tryz.prog lv X0 26 [] q61 q62 (fun x=>q65 x) (fun _ _ h=>qc7 h)
def qt7:=q63::qtg
def qvs:=(qjl (vAgg (qjl (vC cStr) (qjn (vC (cInt .i64))))) (qjn (vC cStr)))
def qvt:Cod (V×List B) Int:=(cFstU (cPair (vC (cInt .i64)) qjm))
def qvw (x_Sender:ByteArray) (x_At:Int) (s:ByteArray):Option Int:=fS Tryz.prog lv X0 28 qvs qvt ((x_Sender,x_At),s)
def qvx (x_Sender:ByteArray) (_x_At:Int) (s:ByteArray):Option Int :=
 (some (Go.Lib.compareBytes (Array.toList x_Sender.data) (Array.toList s.data)))
theorem qvv {x_Sender x_At s r} (h:qvx x_Sender x_At s=some r):qvw x_Sender x_At s=some r :=
 qc8 (es:=qt7) (hs:=[]) [] Tryz.func28 rfl (by kernel_rfl) rfl (by kernel_rfl) (by kernel_rfl) trivial trivial (by kernel_rfl) h
def qvu:=entS Tryz.prog lv X0 28 [] qvs qvt (fun x=>qvw x.1.1 x.1.2 x.2) (fun _ _ h=>qc7 h)
def qu9:=qvu::qt7
structure S44 where
 Sender:ByteArray
 At:Int
def q9h:EC S44 where
 enc x:=[.str x.Sender,.int .i64 x.At]
 dec c:=⟨qrk (c.getD 0 .ne),qiy (c.getD 1 .ne)⟩
 is c:=isE [.str,.int .i64] 0 c
 enc_dec h:=q8y h
 dec_enc x:=by rfl
 is_enc x:=by simp [isE,isK]
theorem enc_44 (x:S44):q9h.enc x=[.str x.Sender,.int .i64 x.At]:=rfl
theorem qy7 (xs:List S44) (n:Nat):isE [.str,.int .i64] 0 ((q9h.encL xs).getD n [])=decide (n<xs.length):=by
 by_cases h:n<xs.length
 ·simp only [EC.getD_lt _ _ h];simp [enc_44,isE,isK,h]
 ·simp only [EC.getD_ge _ _ (Nat.not_lt.1 h)];simp [isE,isK,h]
theorem q3n (xs:List S44) (n:Nat):qrk (((q9h.encL xs).getD n []).getD 0 .ne)=(xs.getD n (q9h.dec [])).Sender:=by
 by_cases h:n<xs.length
 ·simp only [EC.getD_lt _ _ h];simp [enc_44,h,qrk,List.getD_eq_getElem?_getD]
 ·simp only [EC.getD_ge _ _ (Nat.not_lt.1 h)];simp [Nat.not_lt.1 h,q9h,qrk,qiy,List.getD_eq_getElem?_getD]
theorem q3o (xs:List S44) (n:Nat):qiy (((q9h.encL xs).getD n []).getD 1 .ne)=(xs.getD n (q9h.dec [])).At:=by
 by_cases h:n<xs.length
 ·simp only [EC.getD_lt _ _ h];simp [enc_44,h,qiy,List.getD_eq_getElem?_getD]
 ·simp only [EC.getD_ge _ _ (Nat.not_lt.1 h)];simp [Nat.not_lt.1 h,q9h,qrk,qiy,List.getD_eq_getElem?_getD]
theorem all_44 (xs:List S44):(q9h.encL xs).all (fun (el:List C)=>el.length==2)=true:=by induction xs with|nil=>rfl|cons x xs ih=>first|(simp [EC.encL,enc_44];done)|simpa [EC.encL,enc_44] using ih
theorem qq0 (xs:List S44) (n:Nat) (a1:Int):(q9h.encL xs).set n (splice ((q9h.encL xs).getD n []) 1 [.int .i64 a1])=q9h.encL (xs.set n ({ xs.getD n (q9h.dec []) with At:=a1 })):=by
 by_cases h:n<xs.length
 ·rw [EC.getD_lt _ _ h];simp [EC.encL,List.map_set,enc_44,splice,List.getD_eq_getElem?_getD,h]
 ·simp [EC.encL,List.set_eq_of_length_le,Nat.not_lt.1 h]
def bsR_ca:Cod (List V) ((List S44)×ByteArray×Unit):=(qjl (vC (cSl q9h)) (qjl (vC cStr) (qjn (vFn 28 qjm))))
def q6s:=sLS [0,1,2,8,9,10] (qjl (vC (cSl q9h)) (qjl (vC cStr) (qjl (vFn 28 qjm) (qjl (vC (cInt .i64)) (qjl (vC (cInt .i64)) (qjn (vC (cInt .i64)))))))) qjm [] [] (by decide) (fun _=>rfl)
def q6r:=sLS [0,1,2,8,9,10,17] (qjl (vC (cSl q9h)) (qjl (vC cStr) (qjl (vFn 28 qjm) (qjl (vC (cInt .i64)) (qjl (vC (cInt .i64)) (qjl (vC (cInt .i64)) (qjn (vC cBool)))))))) qjm [] [] (by decide) (fun _=>rfl)
def q6q:=oAt 2 q6r
def bsR_l3 (x:(List S44)) (target:ByteArray) (n:Int) (i:Int) (j:Int):Option (((List S44)×ByteArray×Unit×Int×Int×Int×Bool)×Unit):=lS Tryz.prog lv X0 27 49 (qg9 (cdF Tryz.f27) 3) q6s q6q ((x,target,(),n,i,j),())
def q6t (x:(List S44)) (target:ByteArray) (n:Int) (i:Int) (j:Int):Option (((List S44)×ByteArray×Unit×Int×Int×Int×Bool)×Unit) :=
 (brE (decide (i<j))
 (gdE (decide (0≤(IntKind.wrap .i64 (Int.fdiv (IntKind.wrap .u64 (IntKind.wrap .i64 (i+j))) (2 ^ (Min.min (Int.toNat 1) (Go.IntKind.bits Go.IntKind.u64)))))))<|
 (gdE ((decide ((Int.toNat (IntKind.wrap .i64 (Int.fdiv (IntKind.wrap .u64 (IntKind.wrap .i64 (i+j))) (2 ^ (Min.min (Int.toNat 1) (Go.IntKind.bits Go.IntKind.u64))))))<(List.length (EC.encL q9h x))))&&(isE [K1.str,(K1.int Go.IntKind.i64)] 0 (List.getD (EC.encL q9h x) (Int.toNat (IntKind.wrap .i64 (Int.fdiv (IntKind.wrap .u64 (IntKind.wrap .i64 (i+j))) (2 ^ (Min.min (Int.toNat 1) (Go.IntKind.bits Go.IntKind.u64)))))) [])))<|
 (Option.bind (qvw (qrk (List.getD (List.getD (EC.encL q9h x) (Int.toNat (IntKind.wrap .i64 (Int.fdiv (IntKind.wrap .u64 (IntKind.wrap .i64 (i+j))) (2 ^ (Min.min (Int.toNat 1) (Go.IntKind.bits Go.IntKind.u64)))))) []) 0 C.ne)) (qiy (List.getD (List.getD (EC.encL q9h x) (Int.toNat (IntKind.wrap .i64 (Int.fdiv (IntKind.wrap .u64 (IntKind.wrap .i64 (i+j))) (2 ^ (Min.min (Int.toNat 1) (Go.IntKind.bits Go.IntKind.u64)))))) []) 1 C.ne)) target) fun r0 =>
 (brE (decide (r0<0))
 (gdE (EC.isL q9h (EC.encL q9h x))<|
 (bsR_l3 (EC.decL q9h (EC.encL q9h x)) target n (IntKind.wrap .i64 ((IntKind.wrap .i64 (Int.fdiv (IntKind.wrap .u64 (IntKind.wrap .i64 (i+j))) (2 ^ (Min.min (Int.toNat 1) (Go.IntKind.bits Go.IntKind.u64)))))+1)) j))
 (gdE (EC.isL q9h (EC.encL q9h x))<|
 (bsR_l3 (EC.decL q9h (EC.encL q9h x)) target n i (IntKind.wrap .i64 (Int.fdiv (IntKind.wrap .u64 (IntKind.wrap .i64 (i+j))) (2 ^ (Min.min (Int.toNat 1) (Go.IntKind.bits Go.IntKind.u64)))))))))))
 (gdE (EC.isL q9h (EC.encL q9h x))<|
 (some (((EC.decL q9h (EC.encL q9h x)),(target,((),(n,(i,(j,false)))))),()))))
theorem q6p {x target n i j r} (h:q6t x target n i j=some r):bsR_l3 x target n i j=some r :=
 qjp (es:=qu9) (hs:=[]) [] (by kernel_rfl) trivial trivial (by kernel_rfl) h
def q6o:=qk9 Tryz.prog lv X0 3 (qg9 (cdF Tryz.f27) 3) q6s q6q (fun x=>bsR_l3 x.1.1 x.1.2.1 x.1.2.2.2.1 x.1.2.2.2.2.1 x.1.2.2.2.2.2) (fun _ _ h=>qjo h)
def bsR_cr:Cod (V×List B) (Int×Bool):=(cFstU (cPair (vTup (qjl (vC (cInt .i64)) (qjn (vC cBool)))) qjm))
def bsR_s (x:(List S44)) (target:ByteArray):Option (Int×Bool):=fS Tryz.prog lv X0 27 bsR_ca bsR_cr (x,target,())
def bsR_t (x:(List S44)) (target:ByteArray):Option (Int×Bool) :=
 (gdE (EC.isL q9h (EC.encL q9h x))<|
 ((bsR_l3 (EC.decL q9h (EC.encL q9h x)) target (List.length (EC.encL q9h x):Int) 0 (List.length (EC.encL q9h x):Int)).bind fun r0 =>
 (brE ((decide (r0.1.2.2.2.2.1<r0.1.2.2.2.1))==true)
 (gdE (decide (0≤r0.1.2.2.2.2.1))<|
 (gdE ((decide ((Int.toNat r0.1.2.2.2.2.1)<(List.length (EC.encL q9h r0.1.1))))&&(isE [K1.str,(K1.int Go.IntKind.i64)] 0 (List.getD (EC.encL q9h r0.1.1) (Int.toNat r0.1.2.2.2.2.1) [])))<|
 ((qvw (qrk (List.getD (List.getD (EC.encL q9h r0.1.1) (Int.toNat r0.1.2.2.2.2.1) []) 0 C.ne)) (qiy (List.getD (List.getD (EC.encL q9h r0.1.1) (Int.toNat r0.1.2.2.2.2.1) []) 1 C.ne)) r0.1.2.1).bind fun r1 =>
 (some (r0.1.2.2.2.2.1,(r1==0))))))
 (some (r0.1.2.2.2.2.1,false)))))
theorem bsR_eq {x target r} (h:bsR_t x target=some r):bsR_s x target=some r :=
 qc8 (es:=qu9) (hs:=[]) [q6o] Tryz.func27 rfl (by kernel_rfl) rfl (by kernel_rfl) (by kernel_rfl) ⟨⟨_,rfl,rfl⟩,trivial⟩ trivial (by kernel_rfl) h
def bsR_e:=entS Tryz.prog lv X0 27 [28] bsR_ca bsR_cr (fun x=>bsR_s x.1 x.2.1) (fun _ _ h=>qc7 h)
def qt8:=bsR_e::qu9
def qvy:=(qjl (vC (cSl q9h)) (qjn (vC cStr)))
def qvz:Cod (V×List B) (Int×Bool):=(cFstU (cPair (vTup (qjl (vC (cInt .i64)) (qjn (vC cBool)))) qjm))
def qw2 (r_:(List S44)) (s:ByteArray):Option (Int×Bool):=fS Tryz.prog lv X0 8 qvy qvz (r_,s)
def qw3 (r_:(List S44)) (s:ByteArray):Option (Int×Bool) :=
 (gdE (EC.isL q9h (EC.encL q9h r_))<|
 ((bsR_s (EC.decL q9h (EC.encL q9h r_)) s).bind fun r0 =>
 (some (r0.1,r0.2))))
theorem qw1 {r_ s r} (h:qw3 r_ s=some r):qw2 r_ s=some r :=
 qc8 (es:=qt8) (hs:=[]) [] Tryz.func8 rfl (by kernel_rfl) rfl (by kernel_rfl) (by kernel_rfl) trivial trivial (by kernel_rfl) h
def qw0:=entS Tryz.prog lv X0 8 [] qvy qvz (fun x=>qw2 x.1 x.2) (fun _ _ h=>qc7 h)
def qu8:=qw0::qt8
def qwa:=(qjl (vAgg (qjl (vC cStr) (qjn (vC (cInt .i64))))) (qjn (vC (cInt .i64))))
def qwb:Cod (V×List B) Bool:=(cFstU (cPair (vC cBool) qjm))
def qwe (x_Sender:ByteArray) (x_At:Int) (now:Int):Option Bool:=fS Tryz.prog lv X0 12 qwa qwb ((x_Sender,x_At),now)
def qwf (_x_Sender:ByteArray) (x_At:Int) (now:Int):Option Bool :=
 (some (decide ((IntKind.wrap .i64 (now - x_At))≥604800)))
theorem qwd {x_Sender x_At now r} (h:qwf x_Sender x_At now=some r):qwe x_Sender x_At now=some r :=
 qc8 (es:=qu8) (hs:=[]) [] Tryz.func12 rfl (by kernel_rfl) rfl (by kernel_rfl) (by kernel_rfl) trivial trivial (by kernel_rfl) h
def qwc:=entS Tryz.prog lv X0 12 [] qwa qwb (fun x=>qwe x.1.1 x.1.2 x.2) (fun _ _ h=>qc7 h)
def qub:=qwc::qu8
def qv0:=(qjn (vC (cSl q9h)))
def qva:=sLS [0,2,9,10,11] (qjl (vC (cSl q9h)) (qjl (vPtr 0 0) (qjl (vC (cSl q9h)) (qjl (vC (cInt .i64)) (qjn (vC (cInt .i64))))))) (qjn (qmx (bBox (qjl (vC (cInt .i64)) (qjn (vC (cInt .i64))))))) [false] [] (by decide) (fun _=>rfl)
def qv9:=sLS [0,2,9,10,11,12] (qjl (vC (cSl q9h)) (qjl (vPtr 0 0) (qjl (vC (cSl q9h)) (qjl (vC (cInt .i64)) (qjl (vC (cInt .i64)) (qjn (vC cBool))))))) (qjn (qmx (bBox (qjl (vC (cInt .i64)) (qjn (vC (cInt .i64))))))) [false] [] (by decide) (fun _=>rfl)
def qv8:=sLS [2] (qjn (vPtr 0 0)) (qjn (qmx (bBox (qjl (vC (cInt .i64)) (qjn (vC (cInt .i64))))))) [false] [] (by decide) (fun _=>rfl)
def qv7:=oOr 1 qv8 (oAt 2 qv9) (fun x=>(by decide:(2:Nat)≠1))
def qv4 (r_:(List S44)) (t9:(List S44)) (t10:Int) (t11:Int) (b0:Int) (b0_1:Int):Option ((Unit×(Int×Int))⊕(((List S44)×Unit×(List S44)×Int×Int×Bool)×(Int×Int))):=lS Tryz.prog lv X0 24 48 (qg9 (cdF Tryz.f24) 4) qva qv7 ((r_,(),t9,t10,t11),(b0,b0_1))
def qvb (r_:(List S44)) (t9:(List S44)) (t10:Int) (t11:Int) (b0:Int) (b0_1:Int):Option ((Unit×(Int×Int))⊕(((List S44)×Unit×(List S44)×Int×Int×Bool)×(Int×Int))) :=
 (brE (decide (t11<t10))
 (gdE (decide (0≤t11))<|
 (gdE ((decide ((Int.toNat t11)<(List.length (EC.encL q9h t9))))&&(isE [K1.str,(K1.int Go.IntKind.i64)] 0 (List.getD (EC.encL q9h t9) (Int.toNat t11) [])))<|
 ((q9z (qrk (List.getD (List.getD (EC.encL q9h t9) (Int.toNat t11) []) 0 C.ne))).bind fun r0 =>
 (brE (!r0)
 ((q4s 10 t11).bind fun r1 =>
 (some (.inl ((),(r1.1,r1.2)))))
 ((q65 (qiy (List.getD (List.getD (EC.encL q9h t9) (Int.toNat t11) []) 1 C.ne))).bind fun r1 =>
 (brE (!r1)
 ((q4s 3 t11).bind fun r2 =>
 (some (.inl ((),(r2.1,r2.2)))))
 (brE ((decide (t11>0))==true)
 (gdE (decide (0≤(IntKind.wrap .i64 (t11 - 1))))<|
 (gdE ((decide ((Int.toNat (IntKind.wrap .i64 (t11 - 1)))<(List.length (EC.encL q9h r_))))&&(isE [K1.str,(K1.int Go.IntKind.i64)] 0 (List.getD (EC.encL q9h r_) (Int.toNat (IntKind.wrap .i64 (t11 - 1))) [])))<|
 (brE ((Go.Op.bytesLess (ByteArray.toList (qrk (List.getD (List.getD (EC.encL q9h t9) (Int.toNat t11) []) 0 C.ne))) (ByteArray.toList (qrk (List.getD (List.getD (EC.encL q9h r_) (Int.toNat (IntKind.wrap .i64 (t11 - 1))) []) 0 C.ne))))||((ByteArray.toList (qrk (List.getD (List.getD (EC.encL q9h t9) (Int.toNat t11) []) 0 C.ne)))==(ByteArray.toList (qrk (List.getD (List.getD (EC.encL q9h r_) (Int.toNat (IntKind.wrap .i64 (t11 - 1))) []) 0 C.ne)))))
 ((q4s 19 t11).bind fun r2 =>
 (some (.inl ((),(r2.1,r2.2)))))
 (gdE (EC.isL q9h (EC.encL q9h r_))<|
 (gdE (EC.isL q9h (EC.encL q9h t9))<|
 (qv4 (EC.decL q9h (EC.encL q9h r_)) (EC.decL q9h (EC.encL q9h t9)) t10 (IntKind.wrap .i64 (t11+1)) b0 b0_1))))))
 (gdE (EC.isL q9h (EC.encL q9h r_))<|
 (gdE (EC.isL q9h (EC.encL q9h t9))<|
 (qv4 (EC.decL q9h (EC.encL q9h r_)) (EC.decL q9h (EC.encL q9h t9)) t10 (IntKind.wrap .i64 (t11+1)) b0 b0_1))))))))))
 (gdE (EC.isL q9h (EC.encL q9h r_))<|
 (gdE (EC.isL q9h (EC.encL q9h t9))<|
 (some (.inr (((EC.decL q9h (EC.encL q9h r_)),((),((EC.decL q9h (EC.encL q9h t9)),(t10,(t11,false))))),(b0,b0_1)))))))
theorem qv6 {r_ t9 t10 t11 b0 b0_1 r} (h:qvb r_ t9 t10 t11 b0 b0_1=some r):qv4 r_ t9 t10 t11 b0 b0_1=some r :=
 qjp (es:=qub) (hs:=[]) [] (by kernel_rfl) trivial trivial (by kernel_rfl) h
def qv5:=qk9 Tryz.prog lv X0 4 (qg9 (cdF Tryz.f24) 4) qva qv7 (fun x=>qv4 x.1.1 x.1.2.2.1 x.1.2.2.2.1 x.1.2.2.2.2 x.2.1 x.2.2) (fun _ _ h=>qjo h)
def qv1:Cod (V×List B) (Int×Int):=(cFstU (cPair (vAgg (qjl (vC (cInt .i64)) (qjn (vC (cInt .i64))))) qjm))
def qvc (r_:(List S44)):Option (Int×Int):=fS Tryz.prog lv X0 24 qv0 qv1 r_
def qvd (r_:(List S44)):Option (Int×Int) :=
 (brE (decide ((List.length (EC.encL q9h r_):Int)>300))
 ((q4s 2 (-1)).bind fun r0 =>
 (some (r0.1,r0.2)))
 (gdE (EC.isL q9h (EC.encL q9h r_))<|
 (gdE (EC.isL q9h (EC.encL q9h r_))<|
 ((qv4 (EC.decL q9h (EC.encL q9h r_)) (EC.decL q9h (EC.encL q9h r_)) (List.length (EC.encL q9h r_):Int) 0 0 0).bind fun r0 =>
 (Sum.elim (fun r1=>(some (r1.2.1,r1.2.2)))
 (fun _r1=>(Option.bind q5t fun r2 =>
 (some (r2.1,r2.2)))) r0)))))
theorem qv3 {r_ r} (h:qvd r_=some r):qvc r_=some r :=
 qc8 (es:=qub) (hs:=[]) [qv5] Tryz.func24 rfl (by kernel_rfl) rfl (by kernel_rfl) (by kernel_rfl) ⟨⟨_,rfl,rfl⟩,trivial⟩ trivial (by kernel_rfl) h
def qv2:=entS Tryz.prog lv X0 24 [] qv0 qv1 (fun x=>qvc x) (fun _ _ h=>qc7 h)
def qu6:=qv2::qub
def qqe:=(qjl (vC (cSl q9l)) (qjn (vC cStr)))
def qqo:=sLS [0,1,7,8] (qjl (vC (cSl q9l)) (qjl (vC cStr) (qjl (vC (cInt .i64)) (qjn (vC (cInt .i64)))))) qjm [] [] (by decide) (fun _=>rfl)
def qqn:=sLS [0,1,7,8,9] (qjl (vC (cSl q9l)) (qjl (vC cStr) (qjl (vC (cInt .i64)) (qjl (vC (cInt .i64)) (qjn (vC cBool)))))) qjm [] [] (by decide) (fun _=>rfl)
def qqm:=sLS [4] (qjn (vC (cInt .i64))) qjm [] [] (by decide) (fun _=>rfl)
def qql:=oOr 1 qqm (oAt 2 qqn) (fun x=>(by decide:(2:Nat)≠1))
def qqi (s:(List ByteArray)) (v:ByteArray) (t7:Int) (t8:Int):Option ((Int×Unit)⊕(((List ByteArray)×ByteArray×Int×Int×Bool)×Unit)):=lS Tryz.prog lv X0 56 19 (qg9 (cdF Tryz.f56) 2) qqo qql ((s,v,t7,t8),())
def qqp (s:(List ByteArray)) (v:ByteArray) (t7:Int) (t8:Int):Option ((Int×Unit)⊕(((List ByteArray)×ByteArray×Int×Int×Bool)×Unit)) :=
 (brE (decide (t8<t7))
 (gdE (decide (0≤t8))<|
 (gdE ((decide ((Int.toNat t8)<(List.length (EC.encL q9l s))))&&(isE [K1.str] 0 (List.getD (EC.encL q9l s) (Int.toNat t8) [])))<|
 (brE (v.toList==(ByteArray.toList (qrk (List.getD (List.getD (EC.encL q9l s) (Int.toNat t8) []) 0 C.ne))))
 (some (.inl (t8,())))
 (gdE (EC.isL q9l (EC.encL q9l s))<|
 (qqi (EC.decL q9l (EC.encL q9l s)) v t7 (IntKind.wrap .i64 (t8+1)))))))
 (gdE (EC.isL q9l (EC.encL q9l s))<|
 (some (.inr (((EC.decL q9l (EC.encL q9l s)),(v,(t7,(t8,false)))),())))))
theorem qqk {s v t7 t8 r} (h:qqp s v t7 t8=some r):qqi s v t7 t8=some r :=
 qjp (es:=qu6) (hs:=[]) [] (by kernel_rfl) trivial trivial (by kernel_rfl) h
def qqj:=qk9 Tryz.prog lv X0 2 (qg9 (cdF Tryz.f56) 2) qqo qql (fun x=>qqi x.1.1 x.1.2.1 x.1.2.2.1 x.1.2.2.2) (fun _ _ h=>qjo h)
def qqf:Cod (V×List B) Int:=(cFstU (cPair (vC (cInt .i64)) qjm))
def qqq (s:(List ByteArray)) (v:ByteArray):Option Int:=fS Tryz.prog lv X0 56 qqe qqf (s,v)
def qqr (s:(List ByteArray)) (v:ByteArray):Option Int :=
 (gdE (EC.isL q9l (EC.encL q9l s))<|
 ((qqi (EC.decL q9l (EC.encL q9l s)) v (List.length (EC.encL q9l s):Int) 0).bind fun r0 =>
 (Sum.elim (fun r1=>(some r1.1))
 (fun _r1=>(some (-1:Int))) r0)))
theorem qqh {s v r} (h:qqr s v=some r):qqq s v=some r :=
 qc8 (es:=qu6) (hs:=[]) [qqj] Tryz.func56 rfl (by kernel_rfl) rfl (by kernel_rfl) (by kernel_rfl) ⟨⟨_,rfl,rfl⟩,trivial⟩ trivial (by kernel_rfl) h
def qqg:=entS Tryz.prog lv X0 56 [] qqe qqf (fun x=>qqq x.1 x.2) (fun _ _ h=>qc7 h)
def qty:=qqg::qu6
def qq8:=(qjl (vC (cSl q9l)) (qjn (vC cStr)))
def qq9:Cod (V×List B) Bool:=(cFstU (cPair (vC cBool) qjm))
def qqc (s:(List ByteArray)) (v:ByteArray):Option Bool:=fS Tryz.prog lv X0 32 qq8 qq9 (s,v)
def qqd (s:(List ByteArray)) (v:ByteArray):Option Bool :=
 (gdE (EC.isL q9l (EC.encL q9l s))<|
 ((qqq (EC.decL q9l (EC.encL q9l s)) v).bind fun r0 =>
 (some (decide (r0≥0)))))
theorem qqb {s v r} (h:qqd s v=some r):qqc s v=some r :=
 qc8 (es:=qty) (hs:=[]) [] Tryz.func32 rfl (by kernel_rfl) rfl (by kernel_rfl) (by kernel_rfl) trivial trivial (by kernel_rfl) h
def qqa:=entS Tryz.prog lv X0 32 [] qq8 qq9 (fun x=>qqc x.1 x.2) (fun _ _ h=>qc7 h)
def qtx:=qqa::qty
def qve:=(qjn (vC (cSl q9j)))
def qvo:=sLS [16,17,18] (qjl (vC (cSl q9j)) (qjl (vC (cInt .i64)) (qjn (vC (cInt .i64))))) qjm [] [] (by decide) (fun _=>rfl)
def qvn:=sLS [16,17,18,19] (qjl (vC (cSl q9j)) (qjl (vC (cInt .i64)) (qjl (vC (cInt .i64)) (qjn (vC cBool))))) qjm [] [] (by decide) (fun _=>rfl)
def qvm:=sLS [2] (qjn (vC cBool)) qjm [] [] (by decide) (fun _=>rfl)
def qvl:=oOr 1 qvm (oAt 2 qvn) (fun x=>(by decide:(2:Nat)≠1))
def qvi (t16:(List S57)) (t17:Int) (t18:Int):Option ((Bool×Unit)⊕(((List S57)×Int×Int×Bool)×Unit)):=lS Tryz.prog lv X0 11 41 (qg9 (cdF Tryz.f11) 5) qvo qvl ((t16,t17,t18),())
def qvp (t16:(List S57)) (t17:Int) (t18:Int):Option ((Bool×Unit)⊕(((List S57)×Int×Int×Bool)×Unit)) :=
 (brE (decide (t18<t17))
 (gdE (decide (0≤t18))<|
 (gdE ((decide ((Int.toNat t18)<(List.length (EC.encL q9j t16))))&&(isE [K1.str,K1.str] 0 (List.getD (EC.encL q9j t16) (Int.toNat t18) [])))<|
 ((q5b (qrk (List.getD (List.getD (EC.encL q9j t16) (Int.toNat t18) []) 1 C.ne))).bind fun r0 =>
 ((q5z (qrk (List.getD (List.getD (EC.encL q9j t16) (Int.toNat t18) []) 0 C.ne)) (ByteArray.mk (List.toArray [(65:UInt8),(117:UInt8),(116:UInt8),(111:UInt8),(45:UInt8),(83:UInt8),(117:UInt8),(98:UInt8),(109:UInt8),(105:UInt8),(116:UInt8),(116:UInt8),(101:UInt8),(100:UInt8)]))).bind fun r1 =>
 (brE (r1==true)
 (brE (!(r0.toList==(ByteArray.toList (ByteArray.mk (List.toArray [(110:UInt8),(111:UInt8)])))))
 (some (.inl (true,())))
 ((q5z (qrk (List.getD (List.getD (EC.encL q9j t16) (Int.toNat t18) []) 0 C.ne)) (ByteArray.mk (List.toArray [(80:UInt8),(114:UInt8),(101:UInt8),(99:UInt8),(101:UInt8),(100:UInt8),(101:UInt8),(110:UInt8),(99:UInt8),(101:UInt8)]))).bind fun r2 =>
 (brE (r2==true)
 ((qqc (EC.decL q9l [[(C.str (ByteArray.mk (List.toArray [(98:UInt8),(117:UInt8),(108:UInt8),(107:UInt8)])))],[(C.str (ByteArray.mk (List.toArray [(108:UInt8),(105:UInt8),(115:UInt8),(116:UInt8)])))],[(C.str (ByteArray.mk (List.toArray [(106:UInt8),(117:UInt8),(110:UInt8),(107:UInt8)])))]]) r0).bind fun r3 =>
 (brE r3
 (some (.inl (true,())))
 (gdE (EC.isL q9j (EC.encL q9j t16))<|
 (qvi (EC.decL q9j (EC.encL q9j t16)) t17 (IntKind.wrap .i64 (t18+1))))))
 (gdE (EC.isL q9j (EC.encL q9j t16))<|
 (qvi (EC.decL q9j (EC.encL q9j t16)) t17 (IntKind.wrap .i64 (t18+1)))))))
 ((q5z (qrk (List.getD (List.getD (EC.encL q9j t16) (Int.toNat t18) []) 0 C.ne)) (ByteArray.mk (List.toArray [(80:UInt8),(114:UInt8),(101:UInt8),(99:UInt8),(101:UInt8),(100:UInt8),(101:UInt8),(110:UInt8),(99:UInt8),(101:UInt8)]))).bind fun r2 =>
 (brE (r2==true)
 ((qqc (EC.decL q9l [[(C.str (ByteArray.mk (List.toArray [(98:UInt8),(117:UInt8),(108:UInt8),(107:UInt8)])))],[(C.str (ByteArray.mk (List.toArray [(108:UInt8),(105:UInt8),(115:UInt8),(116:UInt8)])))],[(C.str (ByteArray.mk (List.toArray [(106:UInt8),(117:UInt8),(110:UInt8),(107:UInt8)])))]]) r0).bind fun r3 =>
 (brE r3
 (some (.inl (true,())))
 (gdE (EC.isL q9j (EC.encL q9j t16))<|
 (qvi (EC.decL q9j (EC.encL q9j t16)) t17 (IntKind.wrap .i64 (t18+1))))))
 (gdE (EC.isL q9j (EC.encL q9j t16))<|
 (qvi (EC.decL q9j (EC.encL q9j t16)) t17 (IntKind.wrap .i64 (t18+1)))))))))))
 (gdE (EC.isL q9j (EC.encL q9j t16))<|
 (some (.inr (((EC.decL q9j (EC.encL q9j t16)),(t17,(t18,false))),())))))
theorem qvk {t16 t17 t18 r} (h:qvp t16 t17 t18=some r):qvi t16 t17 t18=some r :=
 qjp (es:=qtx) (hs:=[]) [] (by kernel_rfl) trivial trivial (by kernel_rfl) h
def qvj:=qk9 Tryz.prog lv X0 5 (qg9 (cdF Tryz.f11) 5) qvo qvl (fun x=>qvi x.1.1 x.1.2.1 x.1.2.2) (fun _ _ h=>qjo h)
def qvf:Cod (V×List B) Bool:=(cFstU (cPair (vC cBool) qjm))
def qvq (l:(List S57)):Option Bool:=fS Tryz.prog lv X0 11 qve qvf l
def qvr (l:(List S57)):Option Bool :=
 (gdE (EC.isL q9j (EC.encL q9j l))<|
 ((qh2 (EC.decL q9j (EC.encL q9j l)) (ByteArray.mk (List.toArray [(76:UInt8),(105:UInt8),(115:UInt8),(116:UInt8),(45:UInt8),(73:UInt8),(100:UInt8)]))).bind fun r0 =>
 (brE (decide (((r0.1.1:Nat):Int)>0))
 (some true)
 (gdE (EC.isL q9j (EC.encL q9j l))<|
 ((qvi (EC.decL q9j (EC.encL q9j l)) (List.length (EC.encL q9j l):Int) 0).bind fun r1 =>
 (Sum.elim (fun r2=>(some r2.1))
 (fun _r2=>(some false)) r1))))))
theorem qvh {l r} (h:qvr l=some r):qvq l=some r :=
 qc8 (es:=qtx) (hs:=[]) [qvj] Tryz.func11 rfl (by kernel_rfl) rfl (by kernel_rfl) (by kernel_rfl) ⟨⟨_,rfl,rfl⟩,trivial⟩ trivial (by kernel_rfl) h
def qvg:=entS Tryz.prog lv X0 11 [] qve qvf (fun x=>qvq x) (fun _ _ h=>qc7 h)
def qu7:=qvg::qtx
def qw4:=(qjl (vC (cSl q9j)) (qjn (vC cStr)))
def qw5:Cod (V×List B) ByteArray:=(cFstU (cPair (vC cStr) qjm))
def qw8 (l:(List S57)) (name:ByteArray):Option ByteArray:=fS Tryz.prog lv X0 34 qw4 qw5 (l,name)
def qw9 (l:(List S57)) (name:ByteArray):Option ByteArray :=
 (gdE (EC.isL q9j (EC.encL q9j l))<|
 ((qh2 (EC.decL q9j (EC.encL q9j l)) name).bind fun r0 =>
 (brE (decide (((r0.1.1:Nat):Int)>0))
 (gdE ((decide ((0:Int)≤0))&&(decide (0<((r0.1.1:Nat):Int))))<|
 (gdE ((decide ((Int.toNat 0)<(List.length (EC.encL q9l r0.2))))&&((List.length (List.getD (EC.encL q9l r0.2) (Int.toNat 0) []))==1))<|
 (gdE (isP [K1.str] 0 (List.getD (EC.encL q9l r0.2) (Int.toNat 0) []))<|
 (some (qrk (List.getD (List.getD (EC.encL q9l r0.2) (Int.toNat 0) []) 0 C.ne))))))
 (some ⟨#[]⟩))))
theorem qw7 {l name r} (h:qw9 l name=some r):qw8 l name=some r :=
 qc8 (es:=qu7) (hs:=[]) [] Tryz.func34 rfl (by kernel_rfl) rfl (by kernel_rfl) (by kernel_rfl) trivial trivial (by kernel_rfl) h
def qw6:=entS Tryz.prog lv X0 34 [] qw4 qw5 (fun x=>qw8 x.1 x.2) (fun _ _ h=>qc7 h)
def qua:=qw6::qu7
def qsg:=(qjl (vC cStr) (qjn (vC cStr)))
def qsh:Cod (V×List B) ByteArray:=(cFstU (cPair (vC cStr) qjm))
def qsk (s:ByteArray) (suffix:ByteArray):Option ByteArray:=fS Tryz.prog lv X0 57 qsg qsh (s,suffix)
def qsl (s:ByteArray) (suffix:ByteArray):Option ByteArray :=
 ((qse s suffix).bind fun r0 =>
 (brE r0
 (gdE ((decide (0≤(IntKind.wrap .i64 ((s.size:Int) - (suffix.size:Int)))))&&(decide ((IntKind.wrap .i64 ((s.size:Int) - (suffix.size:Int)))≤(s.size:Int))))<|
 (some (ByteArray.extract s 0 (Int.toNat (IntKind.wrap .i64 ((s.size:Int) - (suffix.size:Int)))))))
 (some s)))
theorem qsj {s suffix r} (h:qsl s suffix=some r):qsk s suffix=some r :=
 qc8 (es:=qua) (hs:=[]) [] Tryz.func57 rfl (by kernel_rfl) rfl (by kernel_rfl) (by kernel_rfl) trivial trivial (by kernel_rfl) h
def qsi:=entS Tryz.prog lv X0 57 [] qsg qsh (fun x=>qsk x.1 x.2) (fun _ _ h=>qc7 h)
def qu4:=qsi::qua
def qry:=(qjl (vC cStr) (qjn (vC cStr)))
def qrz:Cod (V×List B) ByteArray:=(cFstU (cPair (vC cStr) qjm))
def qs2 (s:ByteArray) (suffix:ByteArray):Option ByteArray:=fS Tryz.prog lv X0 33 qry qrz (s,suffix)
def qs3 (s:ByteArray) (suffix:ByteArray):Option ByteArray :=
 ((qsk s suffix).bind fun r0 =>
 (some r0))
theorem qs1 {s suffix r} (h:qs3 s suffix=some r):qs2 s suffix=some r :=
 qc8 (es:=qu4) (hs:=[]) [] Tryz.func33 rfl (by kernel_rfl) rfl (by kernel_rfl) (by kernel_rfl) trivial trivial (by kernel_rfl) h
def qs0:=entS Tryz.prog lv X0 33 [] qry qrz (fun x=>qs2 x.1 x.2) (fun _ _ h=>qc7 h)
def qu1:=qs0::qu4
def qwg:=(qjl (vAgg (qjl (vC cStr) (qjl (vC (cSl q181)) (qjl (vC cStr) (qjl (vC (cSl q9j)) (qjn (vC (cSl q9i)))))))) (qjl (vC cStr) (qjn (vC cStr))))
def qwh:Cod (V×List B) (ByteArray×(List S69)×ByteArray×(List S57)×(List Int)):=(cFstU (cPair (vAgg (qjl (vC cStr) (qjl (vC (cSl q181)) (qjl (vC cStr) (qjl (vC (cSl q9j)) (qjn (vC (cSl q9i)))))))) qjm))
def qwk (m_Envelope_From:ByteArray) (m_Envelope_To:(List S69)) (m_Envelope_Id:ByteArray) (m_Message_Fields:(List S57)) (m_Message_Body:(List Int)) (me:ByteArray) (text:ByteArray):Option (ByteArray×(List S69)×ByteArray×(List S57)×(List Int)):=fS Tryz.prog lv X0 14 qwg qwh ((m_Envelope_From,m_Envelope_To,m_Envelope_Id,m_Message_Fields,m_Message_Body),me,text)
def qwl (m_Envelope_From:ByteArray) (_m_Envelope_To:(List S69)) (m_Envelope_Id:ByteArray) (m_Message_Fields:(List S57)) (_m_Message_Body:(List Int)) (me:ByteArray) (text:ByteArray):Option (ByteArray×(List S69)×ByteArray×(List S57)×(List Int)) :=
 (brE (decide (((((ByteArray.size (ByteArray.mk (List.toArray [(60:UInt8)])))+me.size):Nat):Int)>(Go.IntKind.max Go.IntKind.i64)))
 none
 (brE (decide (((((ByteArray.size ((ByteArray.mk (List.toArray [(60:UInt8)]))++me))+(ByteArray.size (ByteArray.mk (List.toArray [(62:UInt8)])))):Nat):Int)>(Go.IntKind.max Go.IntKind.i64)))
 none
 (brE (decide (((((ByteArray.size (ByteArray.mk (List.toArray [(60:UInt8)])))+m_Envelope_From.size):Nat):Int)>(Go.IntKind.max Go.IntKind.i64)))
 none
 (brE (decide (((((ByteArray.size ((ByteArray.mk (List.toArray [(60:UInt8)]))++m_Envelope_From))+(ByteArray.size (ByteArray.mk (List.toArray [(62:UInt8)])))):Nat):Int)>(Go.IntKind.max Go.IntKind.i64)))
 none
 (gdE (EC.isL q9j (EC.encL q9j m_Message_Fields))<|
 ((qw8 (EC.decL q9j (EC.encL q9j m_Message_Fields)) (ByteArray.mk (List.toArray [(83:UInt8),(117:UInt8),(98:UInt8),(106:UInt8),(101:UInt8),(99:UInt8),(116:UInt8)]))).bind fun r0 =>
 (brE (decide (((((ByteArray.size (ByteArray.mk (List.toArray [(82:UInt8),(101:UInt8),(58:UInt8),(32:UInt8)])))+r0.size):Nat):Int)>(Go.IntKind.max Go.IntKind.i64)))
 none
 ((qs2 ((ByteArray.mk (List.toArray [(82:UInt8),(101:UInt8),(58:UInt8),(32:UInt8)]))++r0) (ByteArray.mk (List.toArray [(32:UInt8)]))).bind fun r1 =>
 (gdE (EC.isL q9j (EC.encL q9j m_Message_Fields))<|
 ((qw8 (EC.decL q9j (EC.encL q9j m_Message_Fields)) (ByteArray.mk (List.toArray [(77:UInt8),(101:UInt8),(115:UInt8),(115:UInt8),(97:UInt8),(103:UInt8),(101:UInt8),(45:UInt8),(73:UInt8),(100:UInt8)]))).bind fun r2 =>
 (brE (!(r2.toList==(ByteArray.toList ⟨#[]⟩)))
 (brE (decide (((((ByteArray.size (ByteArray.mk (List.toArray [(114:UInt8),(101:UInt8),(112:UInt8),(108:UInt8),(121:UInt8),(46:UInt8)])))+m_Envelope_Id.size):Nat):Int)>(Go.IntKind.max Go.IntKind.i64)))
 none
 ((linP text).bind fun r3 =>
 (gdE (decide (r3.size≤9223372036854775807))<|
 (brE (r3.size==0)
 (some (⟨#[]⟩,((EC.decL q181 [[(C.str m_Envelope_From),(C.int Go.IntKind.i64 0)]]),(((ByteArray.mk (List.toArray [(114:UInt8),(101:UInt8),(112:UInt8),(108:UInt8),(121:UInt8),(46:UInt8)]))++m_Envelope_Id),((EC.decL q9j (([[(C.str (ByteArray.mk (List.toArray [(70:UInt8),(114:UInt8),(111:UInt8),(109:UInt8)]))),(C.str (((ByteArray.mk (List.toArray [(60:UInt8)]))++me)++(ByteArray.mk (List.toArray [(62:UInt8)]))))],[(C.str (ByteArray.mk (List.toArray [(84:UInt8),(111:UInt8)]))),(C.str (((ByteArray.mk (List.toArray [(60:UInt8)]))++m_Envelope_From)++(ByteArray.mk (List.toArray [(62:UInt8)]))))],[(C.str (ByteArray.mk (List.toArray [(83:UInt8),(117:UInt8),(98:UInt8),(106:UInt8),(101:UInt8),(99:UInt8),(116:UInt8)]))),(C.str r1)]]++[[(C.str (ByteArray.mk (List.toArray [(73:UInt8),(110:UInt8),(45:UInt8),(82:UInt8),(101:UInt8),(112:UInt8),(108:UInt8),(121:UInt8),(45:UInt8),(84:UInt8),(111:UInt8)]))),(C.str r2)]])++[[(C.str (ByteArray.mk (List.toArray [(65:UInt8),(117:UInt8),(116:UInt8),(111:UInt8),(45:UInt8),(83:UInt8),(117:UInt8),(98:UInt8),(109:UInt8),(105:UInt8),(116:UInt8),(116:UInt8),(101:UInt8),(100:UInt8)]))),(C.str (ByteArray.mk (List.toArray [(97:UInt8),(117:UInt8),(116:UInt8),(111:UInt8),(45:UInt8),(114:UInt8),(101:UInt8),(112:UInt8),(108:UInt8),(105:UInt8),(101:UInt8),(100:UInt8)])))]])),(EC.decL q9i []))))))
 (gdE (EC.isL q9i (bytesL r3))<|
 (some (⟨#[]⟩,((EC.decL q181 [[(C.str m_Envelope_From),(C.int Go.IntKind.i64 0)]]),(((ByteArray.mk (List.toArray [(114:UInt8),(101:UInt8),(112:UInt8),(108:UInt8),(121:UInt8),(46:UInt8)]))++m_Envelope_Id),((EC.decL q9j (([[(C.str (ByteArray.mk (List.toArray [(70:UInt8),(114:UInt8),(111:UInt8),(109:UInt8)]))),(C.str (((ByteArray.mk (List.toArray [(60:UInt8)]))++me)++(ByteArray.mk (List.toArray [(62:UInt8)]))))],[(C.str (ByteArray.mk (List.toArray [(84:UInt8),(111:UInt8)]))),(C.str (((ByteArray.mk (List.toArray [(60:UInt8)]))++m_Envelope_From)++(ByteArray.mk (List.toArray [(62:UInt8)]))))],[(C.str (ByteArray.mk (List.toArray [(83:UInt8),(117:UInt8),(98:UInt8),(106:UInt8),(101:UInt8),(99:UInt8),(116:UInt8)]))),(C.str r1)]]++[[(C.str (ByteArray.mk (List.toArray [(73:UInt8),(110:UInt8),(45:UInt8),(82:UInt8),(101:UInt8),(112:UInt8),(108:UInt8),(121:UInt8),(45:UInt8),(84:UInt8),(111:UInt8)]))),(C.str r2)]])++[[(C.str (ByteArray.mk (List.toArray [(65:UInt8),(117:UInt8),(116:UInt8),(111:UInt8),(45:UInt8),(83:UInt8),(117:UInt8),(98:UInt8),(109:UInt8),(105:UInt8),(116:UInt8),(116:UInt8),(101:UInt8),(100:UInt8)]))),(C.str (ByteArray.mk (List.toArray [(97:UInt8),(117:UInt8),(116:UInt8),(111:UInt8),(45:UInt8),(114:UInt8),(101:UInt8),(112:UInt8),(108:UInt8),(105:UInt8),(101:UInt8),(100:UInt8)])))]])),(EC.decL q9i (bytesL r3))))))))))))
 (brE (decide (((((ByteArray.size (ByteArray.mk (List.toArray [(114:UInt8),(101:UInt8),(112:UInt8),(108:UInt8),(121:UInt8),(46:UInt8)])))+m_Envelope_Id.size):Nat):Int)>(Go.IntKind.max Go.IntKind.i64)))
 none
 ((linP text).bind fun r3 =>
 (gdE (decide (r3.size≤9223372036854775807))<|
 (brE (r3.size==0)
 (some (⟨#[]⟩,((EC.decL q181 [[(C.str m_Envelope_From),(C.int Go.IntKind.i64 0)]]),(((ByteArray.mk (List.toArray [(114:UInt8),(101:UInt8),(112:UInt8),(108:UInt8),(121:UInt8),(46:UInt8)]))++m_Envelope_Id),((EC.decL q9j ([[(C.str (ByteArray.mk (List.toArray [(70:UInt8),(114:UInt8),(111:UInt8),(109:UInt8)]))),(C.str (((ByteArray.mk (List.toArray [(60:UInt8)]))++me)++(ByteArray.mk (List.toArray [(62:UInt8)]))))],[(C.str (ByteArray.mk (List.toArray [(84:UInt8),(111:UInt8)]))),(C.str (((ByteArray.mk (List.toArray [(60:UInt8)]))++m_Envelope_From)++(ByteArray.mk (List.toArray [(62:UInt8)]))))],[(C.str (ByteArray.mk (List.toArray [(83:UInt8),(117:UInt8),(98:UInt8),(106:UInt8),(101:UInt8),(99:UInt8),(116:UInt8)]))),(C.str r1)]]++[[(C.str (ByteArray.mk (List.toArray [(65:UInt8),(117:UInt8),(116:UInt8),(111:UInt8),(45:UInt8),(83:UInt8),(117:UInt8),(98:UInt8),(109:UInt8),(105:UInt8),(116:UInt8),(116:UInt8),(101:UInt8),(100:UInt8)]))),(C.str (ByteArray.mk (List.toArray [(97:UInt8),(117:UInt8),(116:UInt8),(111:UInt8),(45:UInt8),(114:UInt8),(101:UInt8),(112:UInt8),(108:UInt8),(105:UInt8),(101:UInt8),(100:UInt8)])))]])),(EC.decL q9i []))))))
 (gdE (EC.isL q9i (bytesL r3))<|
 (some (⟨#[]⟩,((EC.decL q181 [[(C.str m_Envelope_From),(C.int Go.IntKind.i64 0)]]),(((ByteArray.mk (List.toArray [(114:UInt8),(101:UInt8),(112:UInt8),(108:UInt8),(121:UInt8),(46:UInt8)]))++m_Envelope_Id),((EC.decL q9j ([[(C.str (ByteArray.mk (List.toArray [(70:UInt8),(114:UInt8),(111:UInt8),(109:UInt8)]))),(C.str (((ByteArray.mk (List.toArray [(60:UInt8)]))++me)++(ByteArray.mk (List.toArray [(62:UInt8)]))))],[(C.str (ByteArray.mk (List.toArray [(84:UInt8),(111:UInt8)]))),(C.str (((ByteArray.mk (List.toArray [(60:UInt8)]))++m_Envelope_From)++(ByteArray.mk (List.toArray [(62:UInt8)]))))],[(C.str (ByteArray.mk (List.toArray [(83:UInt8),(117:UInt8),(98:UInt8),(106:UInt8),(101:UInt8),(99:UInt8),(116:UInt8)]))),(C.str r1)]]++[[(C.str (ByteArray.mk (List.toArray [(65:UInt8),(117:UInt8),(116:UInt8),(111:UInt8),(45:UInt8),(83:UInt8),(117:UInt8),(98:UInt8),(109:UInt8),(105:UInt8),(116:UInt8),(116:UInt8),(101:UInt8),(100:UInt8)]))),(C.str (ByteArray.mk (List.toArray [(97:UInt8),(117:UInt8),(116:UInt8),(111:UInt8),(45:UInt8),(114:UInt8),(101:UInt8),(112:UInt8),(108:UInt8),(105:UInt8),(101:UInt8),(100:UInt8)])))]])),(EC.decL q9i (bytesL r3)))))))))))))))))))))))
theorem qwj {m_Envelope_From m_Envelope_To m_Envelope_Id m_Message_Fields m_Message_Body me text r} (h:qwl m_Envelope_From m_Envelope_To m_Envelope_Id m_Message_Fields m_Message_Body me text=some r):qwk m_Envelope_From m_Envelope_To m_Envelope_Id m_Message_Fields m_Message_Body me text=some r :=
 qc8 (es:=qu1) (hs:=[]) [] Tryz.func14 rfl (by kernel_rfl) rfl (by kernel_rfl) (by kernel_rfl) trivial trivial (by kernel_rfl) h
def qwi:=entS Tryz.prog lv X0 14 [] qwg qwh (fun x=>qwk x.1.1 x.1.2.1 x.1.2.2.1 x.1.2.2.2.1 x.1.2.2.2.2 x.2.1 x.2.2) (fun _ _ h=>qc7 h)
def quc:=qwi::qu1
def qwm:=(qjl (vC (cSl q9h)) (qjl (vAgg (qjl (vC cStr) (qjl (vC (cSl q181)) (qjl (vC cStr) (qjl (vC (cSl q9j)) (qjn (vC (cSl q9i)))))))) (qjl (vC cStr) (qjl (vC cStr) (qjn (vC (cInt .i64)))))))
def qwn:Cod (V×List B) (Int×Int):=(cFstU (cPair (vAgg (qjl (vC (cInt .i64)) (qjn (vC (cInt .i64))))) qjm))
def qwq (r_:(List S44)) (m_Envelope_From:ByteArray) (m_Envelope_To:(List S69)) (m_Envelope_Id:ByteArray) (m_Message_Fields:(List S57)) (m_Message_Body:(List Int)) (me:ByteArray) (text:ByteArray) (now:Int):Option (Int×Int):=fS Tryz.prog lv X0 6 qwm qwn (r_,(m_Envelope_From,m_Envelope_To,m_Envelope_Id,m_Message_Fields,m_Message_Body),me,text,now)
def qwr (r_:(List S44)) (m_Envelope_From:ByteArray) (m_Envelope_To:(List S69)) (m_Envelope_Id:ByteArray) (m_Message_Fields:(List S57)) (m_Message_Body:(List Int)) (me:ByteArray) (text:ByteArray) (now:Int):Option (Int×Int) :=
 (gdE (EC.isL q9h (EC.encL q9h r_))<|
 ((qvc (EC.decL q9h (EC.encL q9h r_))).bind fun r0 =>
 ((q4m r0.1 r0.2).bind fun r1 =>
 (brE r1
 (some (r0.1,r0.2))
 (gdE (EC.isL q9j (EC.encL q9j m_Message_Fields))<|
 (gdE (EC.isL q9i (EC.encL q9i m_Message_Body))<|
 ((qlf (EC.decL q9j (EC.encL q9j m_Message_Fields)) (EC.decL q9i (EC.encL q9i m_Message_Body))).bind fun r2 =>
 ((q4m r2.1 r2.2).bind fun r3 =>
 (brE r3
 ((q4s r2.1 (-2)).bind fun r4 =>
 (some (r4.1,r4.2)))
 (gdE (EC.isL q181 (EC.encL q181 m_Envelope_To))<|
 ((qbd m_Envelope_From (EC.decL q181 (EC.encL q181 m_Envelope_To)) m_Envelope_Id).bind fun r4 =>
 ((q4m r4.1 r4.2).bind fun r5 =>
 (brE r5
 ((q4s r4.1 (-3)).bind fun r6 =>
 (some (r6.1,r6.2)))
 (gdE (EC.isL q9h (EC.encL q9h r_))<|
 ((qw2 (EC.decL q9h (EC.encL q9h r_)) m_Envelope_From).bind fun r6 =>
 ((q9z me).bind fun r7 =>
 (brE (!r7)
 ((q4s 10 (-4)).bind fun r8 =>
 (some (r8.1,r8.2)))
 (brE (decide ((text.size:Int)>4000))
 ((q4s 1 (-5)).bind fun r8 =>
 (some (r8.1,r8.2)))
 ((q65 now).bind fun r8 =>
 (brE (!r8)
 ((q4s 3 (-6)).bind fun r9 =>
 (some (r9.1,r9.2)))
 (brE (r6.2==true)
 (gdE (decide (0≤r6.1))<|
 (gdE ((decide ((Int.toNat r6.1)<(List.length (EC.encL q9h r_))))&&(isE [K1.str,(K1.int Go.IntKind.i64)] 0 (List.getD (EC.encL q9h r_) (Int.toNat r6.1) [])))<|
 (brE (decide ((qiy (List.getD (List.getD (EC.encL q9h r_) (Int.toNat r6.1) []) 1 C.ne))>now))
 ((q4s 19 r6.1).bind fun r9 =>
 (some (r9.1,r9.2)))
 (Option.bind q5t fun r9 =>
 (some (r9.1,r9.2))))))
 (Option.bind q5t fun r9 =>
 (some (r9.1,r9.2))))))))))))))))))))))))
theorem qwp {r_ m_Envelope_From m_Envelope_To m_Envelope_Id m_Message_Fields m_Message_Body me text now r} (h:qwr r_ m_Envelope_From m_Envelope_To m_Envelope_Id m_Message_Fields m_Message_Body me text now=some r):qwq r_ m_Envelope_From m_Envelope_To m_Envelope_Id m_Message_Fields m_Message_Body me text now=some r :=
 qc8 (es:=quc) (hs:=[]) [] Tryz.func6 rfl (by kernel_rfl) rfl (by kernel_rfl) (by kernel_rfl) trivial trivial (by kernel_rfl) h
def qwo:=entS Tryz.prog lv X0 6 [] qwm qwn (fun x=>qwq x.1 x.2.1.1 x.2.1.2.1 x.2.1.2.2.1 x.2.1.2.2.2.1 x.2.1.2.2.2.2 x.2.2.1 x.2.2.2.1 x.2.2.2.2) (fun _ _ h=>qc7 h)
def qud:=qwo::quc
def q3c:=(qjn (vC (cSl q9h)))
def q3d:Cod (V×List B) (Nat×(List S44)):=(cPair (vRow 0) (qjn (bRow q9h)))
def q3h (s:(List S44)):Option (Nat×(List S44)):=fS Tryz.prog lv X0 9 q3c q3d s
def q3i (s:(List S44)):Option (Nat×(List S44)) :=
 (gdE (!(List.isEmpty (EC.encL q9h s)))<|
 (gdE (((List.all (EC.encL q9h s) (fun (el:(List C))=>((List.length el)==2)))&&(decide (((((List.length (EC.encL q9h s))+((List.length (EC.encL q9h s)) / 4))+192)*24)≤281474976710656)))&&(decide ((List.length (EC.encL q9h s))≤9223372036854775807)))<|
 (gdE (EC.isL q9h (EC.encL q9h s))<|
 (some ((List.length (EC.encL q9h s)),(EC.decL q9h (EC.encL q9h s)))))))
theorem q3f {s r} (h:q3i s=some r):q3h s=some r:=by
 cases s with
 |nil=>exact nomatch (show (none:Option (Nat×(List S44)))=some r from h)
 |cons x xs=>exact qc8 (es:=qud) (hs:=[]) [] Tryz.func9 rfl (by kernel_rfl) rfl (by kernel_rfl) (by kernel_rfl) trivial trivial (by kernel_rfl) h
theorem q3g:q3h []=some (0,[]):=fS_of (r:=(0,[])) (by unfold Call callD;rfl)
def q3e:=entS Tryz.prog lv X0 9 [] q3c q3d (fun x=>q3h x) (fun _ _ h=>qc7 h)
def qsw:=q3e::qud
def quu:=(qjl (vC (cSl q9h)) (qjl (vAgg (qjl (vC cStr) (qjl (vC (cSl q181)) (qjl (vC cStr) (qjl (vC (cSl q9j)) (qjn (vC (cSl q9i)))))))) (qjl (vC cStr) (qjl (vC cStr) (qjn (vC (cInt .i64)))))))
def quv:Cod (V×List B) ((List S44)×(ByteArray×(List S69)×ByteArray×(List S57)×(List Int))×Bool×(Int×Int)):=(cFstU (cPair (vTup (qjl (vC (cSl q9h)) (qjl (vAgg (qjl (vC cStr) (qjl (vC (cSl q181)) (qjl (vC cStr) (qjl (vC (cSl q9j)) (qjn (vC (cSl q9i)))))))) (qjl (vC cBool) (qjn (vAgg (qjl (vC (cInt .i64)) (qjn (vC (cInt .i64)))))))))) qjm))
def quy (r_:(List S44)) (m_Envelope_From:ByteArray) (m_Envelope_To:(List S69)) (m_Envelope_Id:ByteArray) (m_Message_Fields:(List S57)) (m_Message_Body:(List Int)) (me:ByteArray) (text:ByteArray) (now:Int):Option ((List S44)×(ByteArray×(List S69)×ByteArray×(List S57)×(List Int))×Bool×(Int×Int)):=fS Tryz.prog lv X0 4 quu quv (r_,(m_Envelope_From,m_Envelope_To,m_Envelope_Id,m_Message_Fields,m_Message_Body),me,text,now)
def quz (r_:(List S44)) (m_Envelope_From:ByteArray) (m_Envelope_To:(List S69)) (m_Envelope_Id:ByteArray) (m_Message_Fields:(List S57)) (m_Message_Body:(List Int)) (me:ByteArray) (text:ByteArray) (now:Int):Option ((List S44)×(ByteArray×(List S69)×ByteArray×(List S57)×(List Int))×Bool×(Int×Int)) :=
 (gdE (EC.isL q9h (EC.encL q9h r_))<|
 (gdE (EC.isL q181 (EC.encL q181 m_Envelope_To))<|
 (gdE (EC.isL q9j (EC.encL q9j m_Message_Fields))<|
 (gdE (EC.isL q9i (EC.encL q9i m_Message_Body))<|
 ((qwq (EC.decL q9h (EC.encL q9h r_)) m_Envelope_From (EC.decL q181 (EC.encL q181 m_Envelope_To)) m_Envelope_Id (EC.decL q9j (EC.encL q9j m_Message_Fields)) (EC.decL q9i (EC.encL q9i m_Message_Body)) me text now).bind fun r0 =>
 ((q4m r0.1 r0.2).bind fun r1 =>
 (brE r1
 (some ((EC.decL q9h []),((⟨#[]⟩,((EC.decL q181 []),(⟨#[]⟩,((EC.decL q9j []),(EC.decL q9i []))))),(false,(r0.1,r0.2)))))
 (gdE (EC.isL q9h (EC.encL q9h r_))<|
 ((qw2 (EC.decL q9h (EC.encL q9h r_)) m_Envelope_From).bind fun r2 =>
 (gdE (EC.isL q9h (EC.encL q9h r_))<|
 ((q3h (EC.decL q9h (EC.encL q9h r_))).bind fun r3 =>
 (brE ((m_Envelope_From.toList==(ByteArray.toList ⟨#[]⟩))==false)
 ((q5z m_Envelope_From me).bind fun r4 =>
 (brE (r4==false)
 (gdE (EC.isL q9j (EC.encL q9j m_Message_Fields))<|
 ((qvq (EC.decL q9j (EC.encL q9j m_Message_Fields))).bind fun r5 =>
 (brE (r5==false)
 (brE (r2.2==true)
 (gdE (decide (0≤r2.1))<|
 (gdE ((decide ((Int.toNat r2.1)<(List.length (EC.encL q9h r_))))&&(isE [K1.str,(K1.int Go.IntKind.i64)] 0 (List.getD (EC.encL q9h r_) (Int.toNat r2.1) [])))<|
 ((qwe (qrk (List.getD (List.getD (EC.encL q9h r_) (Int.toNat r2.1) []) 0 C.ne)) (qiy (List.getD (List.getD (EC.encL q9h r_) (Int.toNat r2.1) []) 1 C.ne)) now).bind fun r6 =>
 (brE (!r6)
 (Option.bind q5t fun r7 =>
 (gdE (EC.isL q9h (EC.encL q9h r3.2))<|
 (some ((EC.decL q9h (EC.encL q9h r3.2)),((⟨#[]⟩,((EC.decL q181 []),(⟨#[]⟩,((EC.decL q9j []),(EC.decL q9i []))))),(false,(r7.1,r7.2)))))))
 (gdE (EC.isL q181 (EC.encL q181 m_Envelope_To))<|
 (gdE (EC.isL q9j (EC.encL q9j m_Message_Fields))<|
 (gdE (EC.isL q9i (EC.encL q9i m_Message_Body))<|
 ((qwk m_Envelope_From (EC.decL q181 (EC.encL q181 m_Envelope_To)) m_Envelope_Id (EC.decL q9j (EC.encL q9j m_Message_Fields)) (EC.decL q9i (EC.encL q9i m_Message_Body)) me text).bind fun r7 =>
 (gdE (EC.isL q181 (EC.encL q181 r7.2.1))<|
 ((qbd r7.1 (EC.decL q181 (EC.encL q181 r7.2.1)) r7.2.2.1).bind fun r8 =>
 ((q4m r8.1 r8.2).bind fun r9 =>
 (brE (!r9)
 (gdE (EC.isL q9j (EC.encL q9j r7.2.2.2.1))<|
 (gdE (EC.isL q9i (EC.encL q9i r7.2.2.2.2))<|
 ((qlf (EC.decL q9j (EC.encL q9j r7.2.2.2.1)) (EC.decL q9i (EC.encL q9i r7.2.2.2.2))).bind fun r10 =>
 ((q4m r10.1 r10.2).bind fun r11 =>
 (brE r11
 ((q4s r10.1 (-7)).bind fun r12 =>
 (some ((EC.decL q9h []),((⟨#[]⟩,((EC.decL q181 []),(⟨#[]⟩,((EC.decL q9j []),(EC.decL q9i []))))),(false,(r12.1,r12.2))))))
 (brE r2.2
 (gdE ((decide (0≤r2.1))&&(decide (r2.1<((r3.1:Nat):Int))))<|
 (gdE ((decide ((Int.toNat r2.1)<(List.length (EC.encL q9h r3.2))))&&((List.length (List.getD (EC.encL q9h r3.2) (Int.toNat r2.1) []))==2))<|
 (Option.bind q5t fun r12 =>
 (gdE (EC.isL q9h (List.set (EC.encL q9h r3.2) (Int.toNat r2.1) (splice (List.getD (EC.encL q9h r3.2) (Int.toNat r2.1) []) 1 [(C.int Go.IntKind.i64 now)])))<|
 (gdE (EC.isL q181 (EC.encL q181 r7.2.1))<|
 (gdE (EC.isL q9j (EC.encL q9j r7.2.2.2.1))<|
 (gdE (EC.isL q9i (EC.encL q9i r7.2.2.2.2))<|
 (some ((EC.decL q9h (List.set (EC.encL q9h r3.2) (Int.toNat r2.1) (splice (List.getD (EC.encL q9h r3.2) (Int.toNat r2.1) []) 1 [(C.int Go.IntKind.i64 now)]))),((r7.1,((EC.decL q181 (EC.encL q181 r7.2.1)),(r7.2.2.1,((EC.decL q9j (EC.encL q9j r7.2.2.2.1)),(EC.decL q9i (EC.encL q9i r7.2.2.2.2)))))),(true,(r12.1,r12.2))))))))))))
 (gdE (List.all (EC.encL q9h r3.2) repB)<|
 (brE ((List.isEmpty (List.filter (newB now) (EC.encL q9h r3.2)))&&(!(List.isEmpty (EC.encL q9h r3.2))))
 ((qw2 (EC.decL q9h []) m_Envelope_From).bind fun r12 =>
 (gdE ((((List.all [[(C.str m_Envelope_From),(C.int Go.IntKind.i64 now)]] repB)&&(decide (r12.1=0)))&&(!(List.isEmpty (List.map zeroR (EC.encL q9h r3.2)))))&&(List.all (List.map zeroR (EC.encL q9h r3.2)) repB))<|
 (Option.bind q5t fun r13 =>
 (gdE (EC.isL q181 (EC.encL q181 r7.2.1))<|
 (gdE (EC.isL q9j (EC.encL q9j r7.2.2.2.1))<|
 (gdE (EC.isL q9i (EC.encL q9i r7.2.2.2.2))<|
 (some ((EC.decL q9h [[(C.str m_Envelope_From),(C.int Go.IntKind.i64 now)]]),((r7.1,((EC.decL q181 (EC.encL q181 r7.2.1)),(r7.2.2.1,((EC.decL q9j (EC.encL q9j r7.2.2.2.1)),(EC.decL q9i (EC.encL q9i r7.2.2.2.2)))))),(true,(r13.1,r13.2)))))))))))
 (brE ((((List.length (List.filter (newB now) (EC.encL q9h r3.2))):Nat):Int)==300)
 ((q4s 2 (-1)).bind fun r12 =>
 (some ((EC.decL q9h []),((⟨#[]⟩,((EC.decL q181 []),(⟨#[]⟩,((EC.decL q9j []),(EC.decL q9i []))))),(false,(r12.1,r12.2))))))
 (gdE (EC.isL q9h (List.filter (newB now) (EC.encL q9h r3.2)))<|
 ((qw2 (EC.decL q9h (List.filter (newB now) (EC.encL q9h r3.2))) m_Envelope_From).bind fun r12 =>
 (gdE (((((List.all (List.filter (newB now) (EC.encL q9h r3.2)) repB)&&(List.all [[(C.str m_Envelope_From),(C.int Go.IntKind.i64 now)]] repB))&&(decide (0≤r12.1)))&&(decide (r12.1≤(((List.length (List.filter (newB now) (EC.encL q9h r3.2))):Nat):Int))))&&(decide ((List.length (List.filter (newB now) (EC.encL q9h r3.2)))≤1000000)))<|
 (Option.bind q5t fun r13 =>
 (gdE (EC.isL q9h ((List.take (Int.toNat r12.1) (List.filter (newB now) (EC.encL q9h r3.2)))++([[(C.str m_Envelope_From),(C.int Go.IntKind.i64 now)]]++(List.drop (Int.toNat r12.1) (List.filter (newB now) (EC.encL q9h r3.2))))))<|
 (gdE (EC.isL q181 (EC.encL q181 r7.2.1))<|
 (gdE (EC.isL q9j (EC.encL q9j r7.2.2.2.1))<|
 (gdE (EC.isL q9i (EC.encL q9i r7.2.2.2.2))<|
 (some ((EC.decL q9h ((List.take (Int.toNat r12.1) (List.filter (newB now) (EC.encL q9h r3.2)))++([[(C.str m_Envelope_From),(C.int Go.IntKind.i64 now)]]++(List.drop (Int.toNat r12.1) (List.filter (newB now) (EC.encL q9h r3.2)))))),((r7.1,((EC.decL q181 (EC.encL q181 r7.2.1)),(r7.2.2.1,((EC.decL q9j (EC.encL q9j r7.2.2.2.1)),(EC.decL q9i (EC.encL q9i r7.2.2.2.2)))))),(true,(r13.1,r13.2))))))))))))))))))))))
 ((q4m r8.1 r8.2).bind fun r10 =>
 (brE r10
 ((q4s r8.1 (-7)).bind fun r11 =>
 (some ((EC.decL q9h []),((⟨#[]⟩,((EC.decL q181 []),(⟨#[]⟩,((EC.decL q9j []),(EC.decL q9i []))))),(false,(r11.1,r11.2))))))
 (brE r2.2
 (gdE ((decide (0≤r2.1))&&(decide (r2.1<((r3.1:Nat):Int))))<|
 (gdE ((decide ((Int.toNat r2.1)<(List.length (EC.encL q9h r3.2))))&&((List.length (List.getD (EC.encL q9h r3.2) (Int.toNat r2.1) []))==2))<|
 (Option.bind q5t fun r11 =>
 (gdE (EC.isL q9h (List.set (EC.encL q9h r3.2) (Int.toNat r2.1) (splice (List.getD (EC.encL q9h r3.2) (Int.toNat r2.1) []) 1 [(C.int Go.IntKind.i64 now)])))<|
 (gdE (EC.isL q181 (EC.encL q181 r7.2.1))<|
 (gdE (EC.isL q9j (EC.encL q9j r7.2.2.2.1))<|
 (gdE (EC.isL q9i (EC.encL q9i r7.2.2.2.2))<|
 (some ((EC.decL q9h (List.set (EC.encL q9h r3.2) (Int.toNat r2.1) (splice (List.getD (EC.encL q9h r3.2) (Int.toNat r2.1) []) 1 [(C.int Go.IntKind.i64 now)]))),((r7.1,((EC.decL q181 (EC.encL q181 r7.2.1)),(r7.2.2.1,((EC.decL q9j (EC.encL q9j r7.2.2.2.1)),(EC.decL q9i (EC.encL q9i r7.2.2.2.2)))))),(true,(r11.1,r11.2))))))))))))
 (gdE (List.all (EC.encL q9h r3.2) repB)<|
 (brE ((List.isEmpty (List.filter (newB now) (EC.encL q9h r3.2)))&&(!(List.isEmpty (EC.encL q9h r3.2))))
 ((qw2 (EC.decL q9h []) m_Envelope_From).bind fun r11 =>
 (gdE ((((List.all [[(C.str m_Envelope_From),(C.int Go.IntKind.i64 now)]] repB)&&(decide (r11.1=0)))&&(!(List.isEmpty (List.map zeroR (EC.encL q9h r3.2)))))&&(List.all (List.map zeroR (EC.encL q9h r3.2)) repB))<|
 (Option.bind q5t fun r12 =>
 (gdE (EC.isL q181 (EC.encL q181 r7.2.1))<|
 (gdE (EC.isL q9j (EC.encL q9j r7.2.2.2.1))<|
 (gdE (EC.isL q9i (EC.encL q9i r7.2.2.2.2))<|
 (some ((EC.decL q9h [[(C.str m_Envelope_From),(C.int Go.IntKind.i64 now)]]),((r7.1,((EC.decL q181 (EC.encL q181 r7.2.1)),(r7.2.2.1,((EC.decL q9j (EC.encL q9j r7.2.2.2.1)),(EC.decL q9i (EC.encL q9i r7.2.2.2.2)))))),(true,(r12.1,r12.2)))))))))))
 (brE ((((List.length (List.filter (newB now) (EC.encL q9h r3.2))):Nat):Int)==300)
 ((q4s 2 (-1)).bind fun r11 =>
 (some ((EC.decL q9h []),((⟨#[]⟩,((EC.decL q181 []),(⟨#[]⟩,((EC.decL q9j []),(EC.decL q9i []))))),(false,(r11.1,r11.2))))))
 (gdE (EC.isL q9h (List.filter (newB now) (EC.encL q9h r3.2)))<|
 ((qw2 (EC.decL q9h (List.filter (newB now) (EC.encL q9h r3.2))) m_Envelope_From).bind fun r11 =>
 (gdE (((((List.all (List.filter (newB now) (EC.encL q9h r3.2)) repB)&&(List.all [[(C.str m_Envelope_From),(C.int Go.IntKind.i64 now)]] repB))&&(decide (0≤r11.1)))&&(decide (r11.1≤(((List.length (List.filter (newB now) (EC.encL q9h r3.2))):Nat):Int))))&&(decide ((List.length (List.filter (newB now) (EC.encL q9h r3.2)))≤1000000)))<|
 (Option.bind q5t fun r12 =>
 (gdE (EC.isL q9h ((List.take (Int.toNat r11.1) (List.filter (newB now) (EC.encL q9h r3.2)))++([[(C.str m_Envelope_From),(C.int Go.IntKind.i64 now)]]++(List.drop (Int.toNat r11.1) (List.filter (newB now) (EC.encL q9h r3.2))))))<|
 (gdE (EC.isL q181 (EC.encL q181 r7.2.1))<|
 (gdE (EC.isL q9j (EC.encL q9j r7.2.2.2.1))<|
 (gdE (EC.isL q9i (EC.encL q9i r7.2.2.2.2))<|
 (some ((EC.decL q9h ((List.take (Int.toNat r11.1) (List.filter (newB now) (EC.encL q9h r3.2)))++([[(C.str m_Envelope_From),(C.int Go.IntKind.i64 now)]]++(List.drop (Int.toNat r11.1) (List.filter (newB now) (EC.encL q9h r3.2)))))),((r7.1,((EC.decL q181 (EC.encL q181 r7.2.1)),(r7.2.2.1,((EC.decL q9j (EC.encL q9j r7.2.2.2.1)),(EC.decL q9i (EC.encL q9i r7.2.2.2.2)))))),(true,(r12.1,r12.2)))))))))))))))))))))))))))))))
 (gdE (EC.isL q181 (EC.encL q181 m_Envelope_To))<|
 (gdE (EC.isL q9j (EC.encL q9j m_Message_Fields))<|
 (gdE (EC.isL q9i (EC.encL q9i m_Message_Body))<|
 ((qwk m_Envelope_From (EC.decL q181 (EC.encL q181 m_Envelope_To)) m_Envelope_Id (EC.decL q9j (EC.encL q9j m_Message_Fields)) (EC.decL q9i (EC.encL q9i m_Message_Body)) me text).bind fun r6 =>
 (gdE (EC.isL q181 (EC.encL q181 r6.2.1))<|
 ((qbd r6.1 (EC.decL q181 (EC.encL q181 r6.2.1)) r6.2.2.1).bind fun r7 =>
 ((q4m r7.1 r7.2).bind fun r8 =>
 (brE (!r8)
 (gdE (EC.isL q9j (EC.encL q9j r6.2.2.2.1))<|
 (gdE (EC.isL q9i (EC.encL q9i r6.2.2.2.2))<|
 ((qlf (EC.decL q9j (EC.encL q9j r6.2.2.2.1)) (EC.decL q9i (EC.encL q9i r6.2.2.2.2))).bind fun r9 =>
 ((q4m r9.1 r9.2).bind fun r10 =>
 (brE r10
 ((q4s r9.1 (-7)).bind fun r11 =>
 (some ((EC.decL q9h []),((⟨#[]⟩,((EC.decL q181 []),(⟨#[]⟩,((EC.decL q9j []),(EC.decL q9i []))))),(false,(r11.1,r11.2))))))
 (brE r2.2
 (gdE ((decide (0≤r2.1))&&(decide (r2.1<((r3.1:Nat):Int))))<|
 (gdE ((decide ((Int.toNat r2.1)<(List.length (EC.encL q9h r3.2))))&&((List.length (List.getD (EC.encL q9h r3.2) (Int.toNat r2.1) []))==2))<|
 (Option.bind q5t fun r11 =>
 (gdE (EC.isL q9h (List.set (EC.encL q9h r3.2) (Int.toNat r2.1) (splice (List.getD (EC.encL q9h r3.2) (Int.toNat r2.1) []) 1 [(C.int Go.IntKind.i64 now)])))<|
 (gdE (EC.isL q181 (EC.encL q181 r6.2.1))<|
 (gdE (EC.isL q9j (EC.encL q9j r6.2.2.2.1))<|
 (gdE (EC.isL q9i (EC.encL q9i r6.2.2.2.2))<|
 (some ((EC.decL q9h (List.set (EC.encL q9h r3.2) (Int.toNat r2.1) (splice (List.getD (EC.encL q9h r3.2) (Int.toNat r2.1) []) 1 [(C.int Go.IntKind.i64 now)]))),((r6.1,((EC.decL q181 (EC.encL q181 r6.2.1)),(r6.2.2.1,((EC.decL q9j (EC.encL q9j r6.2.2.2.1)),(EC.decL q9i (EC.encL q9i r6.2.2.2.2)))))),(true,(r11.1,r11.2))))))))))))
 (gdE (List.all (EC.encL q9h r3.2) repB)<|
 (brE ((List.isEmpty (List.filter (newB now) (EC.encL q9h r3.2)))&&(!(List.isEmpty (EC.encL q9h r3.2))))
 ((qw2 (EC.decL q9h []) m_Envelope_From).bind fun r11 =>
 (gdE ((((List.all [[(C.str m_Envelope_From),(C.int Go.IntKind.i64 now)]] repB)&&(decide (r11.1=0)))&&(!(List.isEmpty (List.map zeroR (EC.encL q9h r3.2)))))&&(List.all (List.map zeroR (EC.encL q9h r3.2)) repB))<|
 (Option.bind q5t fun r12 =>
 (gdE (EC.isL q181 (EC.encL q181 r6.2.1))<|
 (gdE (EC.isL q9j (EC.encL q9j r6.2.2.2.1))<|
 (gdE (EC.isL q9i (EC.encL q9i r6.2.2.2.2))<|
 (some ((EC.decL q9h [[(C.str m_Envelope_From),(C.int Go.IntKind.i64 now)]]),((r6.1,((EC.decL q181 (EC.encL q181 r6.2.1)),(r6.2.2.1,((EC.decL q9j (EC.encL q9j r6.2.2.2.1)),(EC.decL q9i (EC.encL q9i r6.2.2.2.2)))))),(true,(r12.1,r12.2)))))))))))
 (brE ((((List.length (List.filter (newB now) (EC.encL q9h r3.2))):Nat):Int)==300)
 ((q4s 2 (-1)).bind fun r11 =>
 (some ((EC.decL q9h []),((⟨#[]⟩,((EC.decL q181 []),(⟨#[]⟩,((EC.decL q9j []),(EC.decL q9i []))))),(false,(r11.1,r11.2))))))
 (gdE (EC.isL q9h (List.filter (newB now) (EC.encL q9h r3.2)))<|
 ((qw2 (EC.decL q9h (List.filter (newB now) (EC.encL q9h r3.2))) m_Envelope_From).bind fun r11 =>
 (gdE (((((List.all (List.filter (newB now) (EC.encL q9h r3.2)) repB)&&(List.all [[(C.str m_Envelope_From),(C.int Go.IntKind.i64 now)]] repB))&&(decide (0≤r11.1)))&&(decide (r11.1≤(((List.length (List.filter (newB now) (EC.encL q9h r3.2))):Nat):Int))))&&(decide ((List.length (List.filter (newB now) (EC.encL q9h r3.2)))≤1000000)))<|
 (Option.bind q5t fun r12 =>
 (gdE (EC.isL q9h ((List.take (Int.toNat r11.1) (List.filter (newB now) (EC.encL q9h r3.2)))++([[(C.str m_Envelope_From),(C.int Go.IntKind.i64 now)]]++(List.drop (Int.toNat r11.1) (List.filter (newB now) (EC.encL q9h r3.2))))))<|
 (gdE (EC.isL q181 (EC.encL q181 r6.2.1))<|
 (gdE (EC.isL q9j (EC.encL q9j r6.2.2.2.1))<|
 (gdE (EC.isL q9i (EC.encL q9i r6.2.2.2.2))<|
 (some ((EC.decL q9h ((List.take (Int.toNat r11.1) (List.filter (newB now) (EC.encL q9h r3.2)))++([[(C.str m_Envelope_From),(C.int Go.IntKind.i64 now)]]++(List.drop (Int.toNat r11.1) (List.filter (newB now) (EC.encL q9h r3.2)))))),((r6.1,((EC.decL q181 (EC.encL q181 r6.2.1)),(r6.2.2.1,((EC.decL q9j (EC.encL q9j r6.2.2.2.1)),(EC.decL q9i (EC.encL q9i r6.2.2.2.2)))))),(true,(r12.1,r12.2))))))))))))))))))))))
 ((q4m r7.1 r7.2).bind fun r9 =>
 (brE r9
 ((q4s r7.1 (-7)).bind fun r10 =>
 (some ((EC.decL q9h []),((⟨#[]⟩,((EC.decL q181 []),(⟨#[]⟩,((EC.decL q9j []),(EC.decL q9i []))))),(false,(r10.1,r10.2))))))
 (brE r2.2
 (gdE ((decide (0≤r2.1))&&(decide (r2.1<((r3.1:Nat):Int))))<|
 (gdE ((decide ((Int.toNat r2.1)<(List.length (EC.encL q9h r3.2))))&&((List.length (List.getD (EC.encL q9h r3.2) (Int.toNat r2.1) []))==2))<|
 (Option.bind q5t fun r10 =>
 (gdE (EC.isL q9h (List.set (EC.encL q9h r3.2) (Int.toNat r2.1) (splice (List.getD (EC.encL q9h r3.2) (Int.toNat r2.1) []) 1 [(C.int Go.IntKind.i64 now)])))<|
 (gdE (EC.isL q181 (EC.encL q181 r6.2.1))<|
 (gdE (EC.isL q9j (EC.encL q9j r6.2.2.2.1))<|
 (gdE (EC.isL q9i (EC.encL q9i r6.2.2.2.2))<|
 (some ((EC.decL q9h (List.set (EC.encL q9h r3.2) (Int.toNat r2.1) (splice (List.getD (EC.encL q9h r3.2) (Int.toNat r2.1) []) 1 [(C.int Go.IntKind.i64 now)]))),((r6.1,((EC.decL q181 (EC.encL q181 r6.2.1)),(r6.2.2.1,((EC.decL q9j (EC.encL q9j r6.2.2.2.1)),(EC.decL q9i (EC.encL q9i r6.2.2.2.2)))))),(true,(r10.1,r10.2))))))))))))
 (gdE (List.all (EC.encL q9h r3.2) repB)<|
 (brE ((List.isEmpty (List.filter (newB now) (EC.encL q9h r3.2)))&&(!(List.isEmpty (EC.encL q9h r3.2))))
 ((qw2 (EC.decL q9h []) m_Envelope_From).bind fun r10 =>
 (gdE ((((List.all [[(C.str m_Envelope_From),(C.int Go.IntKind.i64 now)]] repB)&&(decide (r10.1=0)))&&(!(List.isEmpty (List.map zeroR (EC.encL q9h r3.2)))))&&(List.all (List.map zeroR (EC.encL q9h r3.2)) repB))<|
 (Option.bind q5t fun r11 =>
 (gdE (EC.isL q181 (EC.encL q181 r6.2.1))<|
 (gdE (EC.isL q9j (EC.encL q9j r6.2.2.2.1))<|
 (gdE (EC.isL q9i (EC.encL q9i r6.2.2.2.2))<|
 (some ((EC.decL q9h [[(C.str m_Envelope_From),(C.int Go.IntKind.i64 now)]]),((r6.1,((EC.decL q181 (EC.encL q181 r6.2.1)),(r6.2.2.1,((EC.decL q9j (EC.encL q9j r6.2.2.2.1)),(EC.decL q9i (EC.encL q9i r6.2.2.2.2)))))),(true,(r11.1,r11.2)))))))))))
 (brE ((((List.length (List.filter (newB now) (EC.encL q9h r3.2))):Nat):Int)==300)
 ((q4s 2 (-1)).bind fun r10 =>
 (some ((EC.decL q9h []),((⟨#[]⟩,((EC.decL q181 []),(⟨#[]⟩,((EC.decL q9j []),(EC.decL q9i []))))),(false,(r10.1,r10.2))))))
 (gdE (EC.isL q9h (List.filter (newB now) (EC.encL q9h r3.2)))<|
 ((qw2 (EC.decL q9h (List.filter (newB now) (EC.encL q9h r3.2))) m_Envelope_From).bind fun r10 =>
 (gdE (((((List.all (List.filter (newB now) (EC.encL q9h r3.2)) repB)&&(List.all [[(C.str m_Envelope_From),(C.int Go.IntKind.i64 now)]] repB))&&(decide (0≤r10.1)))&&(decide (r10.1≤(((List.length (List.filter (newB now) (EC.encL q9h r3.2))):Nat):Int))))&&(decide ((List.length (List.filter (newB now) (EC.encL q9h r3.2)))≤1000000)))<|
 (Option.bind q5t fun r11 =>
 (gdE (EC.isL q9h ((List.take (Int.toNat r10.1) (List.filter (newB now) (EC.encL q9h r3.2)))++([[(C.str m_Envelope_From),(C.int Go.IntKind.i64 now)]]++(List.drop (Int.toNat r10.1) (List.filter (newB now) (EC.encL q9h r3.2))))))<|
 (gdE (EC.isL q181 (EC.encL q181 r6.2.1))<|
 (gdE (EC.isL q9j (EC.encL q9j r6.2.2.2.1))<|
 (gdE (EC.isL q9i (EC.encL q9i r6.2.2.2.2))<|
 (some ((EC.decL q9h ((List.take (Int.toNat r10.1) (List.filter (newB now) (EC.encL q9h r3.2)))++([[(C.str m_Envelope_From),(C.int Go.IntKind.i64 now)]]++(List.drop (Int.toNat r10.1) (List.filter (newB now) (EC.encL q9h r3.2)))))),((r6.1,((EC.decL q181 (EC.encL q181 r6.2.1)),(r6.2.2.1,((EC.decL q9j (EC.encL q9j r6.2.2.2.1)),(EC.decL q9i (EC.encL q9i r6.2.2.2.2)))))),(true,(r11.1,r11.2))))))))))))))))))))))))))))
 (Option.bind q5t fun r6 =>
 (gdE (EC.isL q9h (EC.encL q9h r3.2))<|
 (some ((EC.decL q9h (EC.encL q9h r3.2)),((⟨#[]⟩,((EC.decL q181 []),(⟨#[]⟩,((EC.decL q9j []),(EC.decL q9i []))))),(false,(r6.1,r6.2))))))))))
 (Option.bind q5t fun r5 =>
 (gdE (EC.isL q9h (EC.encL q9h r3.2))<|
 (some ((EC.decL q9h (EC.encL q9h r3.2)),((⟨#[]⟩,((EC.decL q181 []),(⟨#[]⟩,((EC.decL q9j []),(EC.decL q9i []))))),(false,(r5.1,r5.2)))))))))
 (Option.bind q5t fun r4 =>
 (gdE (EC.isL q9h (EC.encL q9h r3.2))<|
 (some ((EC.decL q9h (EC.encL q9h r3.2)),((⟨#[]⟩,((EC.decL q181 []),(⟨#[]⟩,((EC.decL q9j []),(EC.decL q9i []))))),(false,(r4.1,r4.2)))))))))))))))))))
theorem qux {r_ m_Envelope_From m_Envelope_To m_Envelope_Id m_Message_Fields m_Message_Body me text now r} (h:quz r_ m_Envelope_From m_Envelope_To m_Envelope_Id m_Message_Fields m_Message_Body me text now=some r):quy r_ m_Envelope_From m_Envelope_To m_Envelope_Id m_Message_Fields m_Message_Body me text now=some r :=
 qc8 (es:=qsw) (hs:=[]) [] Tryz.func4 rfl (by kernel_rfl) rfl (by kernel_rfl) (by kernel_rfl) trivial trivial (by kernel_rfl) h
def quw:=entS Tryz.prog lv X0 4 [] quu quv (fun x=>quy x.1 x.2.1.1 x.2.1.2.1 x.2.1.2.2.1 x.2.1.2.2.2.1 x.2.1.2.2.2.2 x.2.2.1 x.2.2.2.1 x.2.2.2.2) (fun _ _ h=>qc7 h)
def qu5:=quw::qsw
end
end Go.Proofs.YtmacbkjehjbjeaaGreatDoor
