/- Functions of the program as plain functions: made by program from the machine. -/
import Derived.Test.YtepmpilapglklaaGreatH1
namespace Go.Proofs.YtepmpilapglklaaGreat
open Go.RowKit
set_option maxRecDepth 100000
noncomputable section
def q1bn:=(qaj (vC (cInt .i64)))
def q1bo:Cod (V×List B) Bool:=(cFstU (cPair (vC cBool) qai))
def q1br (t:Int):Option Bool:=fS Tryz.prog lv X0 37 q1bn q1bo t
def q1bs (t:Int):Option Bool :=
 (brE ((decide (t≥(-68719476736)))==true)
 (some (decide (t≤68719476736)))
 (some false))
theorem q1bq {t r} (h:q1bs t=some r):q1br t=some r :=
 q6x (es:=q1qq) (hs:=[]) [] Tryz.func37 rfl (by kernel_rfl) rfl (by kernel_rfl) (by kernel_rfl) trivial trivial (by kernel_rfl) h
def q1bp:=entS Tryz.prog lv X0 37 [] q1bn q1bo (fun x=>q1br x) (fun _ _ h=>q6w h)
def q1qh:=q1bp::q1qq
def q1sq:=(qah (vAgg (qah (vC cStr) (qaj (vC (cInt .i64))))) (qaj (vC cStr)))
def q1sr:Cod (V×List B) Int:=(cFstU (cPair (vC (cInt .i64)) qai))
def q1su (x_Sender:ByteArray) (x_At:Int) (s:ByteArray):Option Int:=fS Tryz.prog lv X0 51 q1sq q1sr ((x_Sender,x_At),s)
def q1sv (x_Sender:ByteArray) (x_At:Int) (s:ByteArray):Option Int :=
 (some (Go.Lib.compareBytes (Array.toList x_Sender.data) (Array.toList s.data)))
theorem q1st {x_Sender x_At s r} (h:q1sv x_Sender x_At s=some r):q1su x_Sender x_At s=some r :=
 q6x (es:=q1qh) (hs:=[]) [] Tryz.func51 rfl (by kernel_rfl) rfl (by kernel_rfl) (by kernel_rfl) trivial trivial (by kernel_rfl) h
def q1ss:=entS Tryz.prog lv X0 51 [] q1sq q1sr (fun x=>q1su x.1.1 x.1.2 x.2) (fun _ _ h=>q6w h)
def q1rk:=q1ss::q1qh
structure S44 where
 Sender:ByteArray
 At:Int
def q1dj:EC S44 where
 enc x:=[.str x.Sender,.int .i64 x.At]
 dec c:=⟨qss (c.getD 0 .ne),q9n (c.getD 1 .ne)⟩
 is c:=isE [.str,.int .i64] 0 c
 enc_dec h:=q4x h
 dec_enc x:=by rfl
 is_enc x:=by simp [isE,isK]
theorem enc_44 (x:S44):q1dj.enc x=[.str x.Sender,.int .i64 x.At]:=rfl
theorem q1ka (xs:List S44) (n:Nat):isE [.str,.int .i64] 0 ((q1dj.encL xs).getD n [])=decide (n<xs.length):=by
 by_cases h:n<xs.length
 ·simp only [EC.getD_lt _ _ h];simp [enc_44,isE,isK,h]
 ·simp only [EC.getD_ge _ _ (Nat.not_lt.1 h)];simp [isE,isK,h]
theorem q19t (xs:List S44) (n:Nat):qss (((q1dj.encL xs).getD n []).getD 0 .ne)=(xs.getD n (q1dj.dec [])).Sender:=by
 by_cases h:n<xs.length
 ·simp only [EC.getD_lt _ _ h];simp [enc_44,h,qss,List.getD_eq_getElem?_getD]
 ·simp only [EC.getD_ge _ _ (Nat.not_lt.1 h)];simp [Nat.not_lt.1 h,q1dj,qss,q9n,List.getD_eq_getElem?_getD]
theorem q19u (xs:List S44) (n:Nat):q9n (((q1dj.encL xs).getD n []).getD 1 .ne)=(xs.getD n (q1dj.dec [])).At:=by
 by_cases h:n<xs.length
 ·simp only [EC.getD_lt _ _ h];simp [enc_44,h,q9n,List.getD_eq_getElem?_getD]
 ·simp only [EC.getD_ge _ _ (Nat.not_lt.1 h)];simp [Nat.not_lt.1 h,q1dj,qss,q9n,List.getD_eq_getElem?_getD]
theorem all_44 (xs:List S44):(q1dj.encL xs).all (fun (el:List C)=>el.length==2)=true:=by induction xs with|nil=>rfl|cons x xs ih=>first|(simp [EC.encL,enc_44];done)|simpa [EC.encL,enc_44] using ih
theorem q1o9 (xs:List S44) (n:Nat) (a1:Int):(q1dj.encL xs).set n (splice ((q1dj.encL xs).getD n []) 1 [.int .i64 a1])=q1dj.encL (xs.set n ({ xs.getD n (q1dj.dec []) with At:=a1 })):=by
 by_cases h:n<xs.length
 ·rw [EC.getD_lt _ _ h];simp [EC.encL,List.map_set,enc_44,splice,List.getD_eq_getElem?_getD,h]
 ·simp [EC.encL,List.set_eq_of_length_le,Nat.not_lt.1 h]
def bsR_ca:Cod (List V) ((List S44)×ByteArray×Unit):=(qah (vC (cSl q1dj)) (qah (vC cStr) (qaj (vFn 51 qai))))
def q1c4:=sLS [0,1,2,8,9,10] (qah (vC (cSl q1dj)) (qah (vC cStr) (qah (vFn 51 qai) (qah (vC (cInt .i64)) (qah (vC (cInt .i64)) (qaj (vC (cInt .i64)))))))) qai [] [] (by decide) (fun _=>rfl)
def q1c3:=sLS [0,1,2,8,9,10,17] (qah (vC (cSl q1dj)) (qah (vC cStr) (qah (vFn 51 qai) (qah (vC (cInt .i64)) (qah (vC (cInt .i64)) (qah (vC (cInt .i64)) (qaj (vC cBool)))))))) qai [] [] (by decide) (fun _=>rfl)
def q1c2:=oAt 2 q1c3
def bsR_l3 (x:(List S44)) (target:ByteArray) (n:Int) (i:Int) (j:Int):Option (((List S44)×ByteArray×Unit×Int×Int×Int×Bool)×Unit):=lS Tryz.prog lv X0 50 49 (q8l (cdF Tryz.f50) 3) q1c4 q1c2 ((x,target,(),n,i,j),())
def q1c5 (x:(List S44)) (target:ByteArray) (n:Int) (i:Int) (j:Int):Option (((List S44)×ByteArray×Unit×Int×Int×Int×Bool)×Unit) :=
 (brE (decide (i<j))
 (gdE (decide (0≤(IntKind.wrap .i64 (Int.fdiv (IntKind.wrap .u64 (IntKind.wrap .i64 (i+j))) (2 ^ (Min.min (Int.toNat 1) (Go.IntKind.bits Go.IntKind.u64)))))))<|
 (gdE ((decide ((Int.toNat (IntKind.wrap .i64 (Int.fdiv (IntKind.wrap .u64 (IntKind.wrap .i64 (i+j))) (2 ^ (Min.min (Int.toNat 1) (Go.IntKind.bits Go.IntKind.u64))))))<(List.length (EC.encL q1dj x))))&&(isE [K1.str,(K1.int Go.IntKind.i64)] 0 (List.getD (EC.encL q1dj x) (Int.toNat (IntKind.wrap .i64 (Int.fdiv (IntKind.wrap .u64 (IntKind.wrap .i64 (i+j))) (2 ^ (Min.min (Int.toNat 1) (Go.IntKind.bits Go.IntKind.u64)))))) [])))<|
 (Option.bind (q1su (qss (List.getD (List.getD (EC.encL q1dj x) (Int.toNat (IntKind.wrap .i64 (Int.fdiv (IntKind.wrap .u64 (IntKind.wrap .i64 (i+j))) (2 ^ (Min.min (Int.toNat 1) (Go.IntKind.bits Go.IntKind.u64)))))) []) 0 C.ne)) (q9n (List.getD (List.getD (EC.encL q1dj x) (Int.toNat (IntKind.wrap .i64 (Int.fdiv (IntKind.wrap .u64 (IntKind.wrap .i64 (i+j))) (2 ^ (Min.min (Int.toNat 1) (Go.IntKind.bits Go.IntKind.u64)))))) []) 1 C.ne)) target) fun r0 =>
 (brE (decide (r0<0))
 (gdE (EC.isL q1dj (EC.encL q1dj x))<|
 (bsR_l3 (EC.decL q1dj (EC.encL q1dj x)) target n (IntKind.wrap .i64 ((IntKind.wrap .i64 (Int.fdiv (IntKind.wrap .u64 (IntKind.wrap .i64 (i+j))) (2 ^ (Min.min (Int.toNat 1) (Go.IntKind.bits Go.IntKind.u64)))))+1)) j))
 (gdE (EC.isL q1dj (EC.encL q1dj x))<|
 (bsR_l3 (EC.decL q1dj (EC.encL q1dj x)) target n i (IntKind.wrap .i64 (Int.fdiv (IntKind.wrap .u64 (IntKind.wrap .i64 (i+j))) (2 ^ (Min.min (Int.toNat 1) (Go.IntKind.bits Go.IntKind.u64)))))))))))
 (gdE (EC.isL q1dj (EC.encL q1dj x))<|
 (some (((EC.decL q1dj (EC.encL q1dj x)),(target,((),(n,(i,(j,false)))))),()))))
theorem q1c1 {x target n i j r} (h:q1c5 x target n i j=some r):bsR_l3 x target n i j=some r :=
 qal (es:=q1rk) (hs:=[]) [] (by kernel_rfl) trivial trivial (by kernel_rfl) h
def q1c0:=qb9 Tryz.prog lv X0 3 (q8l (cdF Tryz.f50) 3) q1c4 q1c2 (fun x=>bsR_l3 x.1.1 x.1.2.1 x.1.2.2.2.1 x.1.2.2.2.2.1 x.1.2.2.2.2.2) (fun _ _ h=>qak h)
def bsR_cr:Cod (V×List B) (Int×Bool):=(cFstU (cPair (vTup (qah (vC (cInt .i64)) (qaj (vC cBool)))) qai))
def bsR_s (x:(List S44)) (target:ByteArray):Option (Int×Bool):=fS Tryz.prog lv X0 50 bsR_ca bsR_cr (x,target,())
def bsR_t (x:(List S44)) (target:ByteArray):Option (Int×Bool) :=
 (gdE (EC.isL q1dj (EC.encL q1dj x))<|
 ((bsR_l3 (EC.decL q1dj (EC.encL q1dj x)) target (List.length (EC.encL q1dj x):Int) 0 (List.length (EC.encL q1dj x):Int)).bind fun r0 =>
 (brE ((decide (r0.1.2.2.2.2.1<r0.1.2.2.2.1))==true)
 (gdE (decide (0≤r0.1.2.2.2.2.1))<|
 (gdE ((decide ((Int.toNat r0.1.2.2.2.2.1)<(List.length (EC.encL q1dj r0.1.1))))&&(isE [K1.str,(K1.int Go.IntKind.i64)] 0 (List.getD (EC.encL q1dj r0.1.1) (Int.toNat r0.1.2.2.2.2.1) [])))<|
 ((q1su (qss (List.getD (List.getD (EC.encL q1dj r0.1.1) (Int.toNat r0.1.2.2.2.2.1) []) 0 C.ne)) (q9n (List.getD (List.getD (EC.encL q1dj r0.1.1) (Int.toNat r0.1.2.2.2.2.1) []) 1 C.ne)) r0.1.2.1).bind fun r1 =>
 (some (r0.1.2.2.2.2.1,(r1==0))))))
 (some (r0.1.2.2.2.2.1,false)))))
theorem bsR_eq {x target r} (h:bsR_t x target=some r):bsR_s x target=some r :=
 q6x (es:=q1rk) (hs:=[]) [q1c0] Tryz.func50 rfl (by kernel_rfl) rfl (by kernel_rfl) (by kernel_rfl) ⟨⟨_,rfl,rfl⟩,trivial⟩ trivial (by kernel_rfl) h
def bsR_e:=entS Tryz.prog lv X0 50 [51] bsR_ca bsR_cr (fun x=>bsR_s x.1 x.2.1) (fun _ _ h=>q6w h)
def q1qi:=bsR_e::q1rk
def q1sw:=(qah (vC (cSl q1dj)) (qaj (vC cStr)))
def q1sx:Cod (V×List B) (Int×Bool):=(cFstU (cPair (vTup (qah (vC (cInt .i64)) (qaj (vC cBool)))) qai))
def q1t0 (r_:(List S44)) (s:ByteArray):Option (Int×Bool):=fS Tryz.prog lv X0 25 q1sw q1sx (r_,s)
def q1t1 (r_:(List S44)) (s:ByteArray):Option (Int×Bool) :=
 (gdE (EC.isL q1dj (EC.encL q1dj r_))<|
 ((bsR_s (EC.decL q1dj (EC.encL q1dj r_)) s).bind fun r0 =>
 (some (r0.1,r0.2))))
theorem q1sz {r_ s r} (h:q1t1 r_ s=some r):q1t0 r_ s=some r :=
 q6x (es:=q1qi) (hs:=[]) [] Tryz.func25 rfl (by kernel_rfl) rfl (by kernel_rfl) (by kernel_rfl) trivial trivial (by kernel_rfl) h
def q1sy:=entS Tryz.prog lv X0 25 [] q1sw q1sx (fun x=>q1t0 x.1 x.2) (fun _ _ h=>q6w h)
def q1rj:=q1sy::q1qi
def q1t8:=(qah (vAgg (qah (vC cStr) (qaj (vC (cInt .i64))))) (qaj (vC (cInt .i64))))
def q1t9:Cod (V×List B) Bool:=(cFstU (cPair (vC cBool) qai))
def q1tc (x_Sender:ByteArray) (x_At:Int) (now:Int):Option Bool:=fS Tryz.prog lv X0 29 q1t8 q1t9 ((x_Sender,x_At),now)
def q1td (x_Sender:ByteArray) (x_At:Int) (now:Int):Option Bool :=
 (some (decide ((IntKind.wrap .i64 (now - x_At))≥604800)))
theorem q1tb {x_Sender x_At now r} (h:q1td x_Sender x_At now=some r):q1tc x_Sender x_At now=some r :=
 q6x (es:=q1rj) (hs:=[]) [] Tryz.func29 rfl (by kernel_rfl) rfl (by kernel_rfl) (by kernel_rfl) trivial trivial (by kernel_rfl) h
def q1ta:=entS Tryz.prog lv X0 29 [] q1t8 q1t9 (fun x=>q1tc x.1.1 x.1.2 x.2) (fun _ _ h=>q6w h)
def q1rm:=q1ta::q1rj
def q1ry:=(qaj (vC (cSl q1dj)))
def q1s8:=sLS [0,2,9,10,11] (qah (vC (cSl q1dj)) (qah (vPtr 0 0) (qah (vC (cSl q1dj)) (qah (vC (cInt .i64)) (qaj (vC (cInt .i64))))))) (qaj (qd1 (bBox (qah (vC (cInt .i64)) (qaj (vC (cInt .i64))))))) [false] [] (by decide) (fun _=>rfl)
def q1s7:=sLS [0,2,9,10,11,12] (qah (vC (cSl q1dj)) (qah (vPtr 0 0) (qah (vC (cSl q1dj)) (qah (vC (cInt .i64)) (qah (vC (cInt .i64)) (qaj (vC cBool))))))) (qaj (qd1 (bBox (qah (vC (cInt .i64)) (qaj (vC (cInt .i64))))))) [false] [] (by decide) (fun _=>rfl)
def q1s6:=sLS [2] (qaj (vPtr 0 0)) (qaj (qd1 (bBox (qah (vC (cInt .i64)) (qaj (vC (cInt .i64))))))) [false] [] (by decide) (fun _=>rfl)
def q1s5:=oOr 1 q1s6 (oAt 2 q1s7) (fun x=>(by decide:(2:Nat)≠1))
def q1s2 (r_:(List S44)) (t9:(List S44)) (t10:Int) (t11:Int) (b0:Int) (b0_1:Int):Option ((Unit×(Int×Int))⊕(((List S44)×Unit×(List S44)×Int×Int×Bool)×(Int×Int))):=lS Tryz.prog lv X0 9 48 (q8l (cdF Tryz.f9) 4) q1s8 q1s5 ((r_,(),t9,t10,t11),(b0,b0_1))
def q1s9 (r_:(List S44)) (t9:(List S44)) (t10:Int) (t11:Int) (b0:Int) (b0_1:Int):Option ((Unit×(Int×Int))⊕(((List S44)×Unit×(List S44)×Int×Int×Bool)×(Int×Int))) :=
 (brE (decide (t11<t10))
 (gdE (decide (0≤t11))<|
 (gdE ((decide ((Int.toNat t11)<(List.length (EC.encL q1dj t9))))&&(isE [K1.str,(K1.int Go.IntKind.i64)] 0 (List.getD (EC.encL q1dj t9) (Int.toNat t11) [])))<|
 ((q1du (qss (List.getD (List.getD (EC.encL q1dj t9) (Int.toNat t11) []) 0 C.ne))).bind fun r0 =>
 (brE (!r0)
 ((q32 10 t11).bind fun r1 =>
 (some (.inl ((),(r1.1,r1.2)))))
 ((q1br (q9n (List.getD (List.getD (EC.encL q1dj t9) (Int.toNat t11) []) 1 C.ne))).bind fun r1 =>
 (brE (!r1)
 ((q32 3 t11).bind fun r2 =>
 (some (.inl ((),(r2.1,r2.2)))))
 (brE ((decide (t11>0))==true)
 (gdE (decide (0≤(IntKind.wrap .i64 (t11 - 1))))<|
 (gdE ((decide ((Int.toNat (IntKind.wrap .i64 (t11 - 1)))<(List.length (EC.encL q1dj r_))))&&(isE [K1.str,(K1.int Go.IntKind.i64)] 0 (List.getD (EC.encL q1dj r_) (Int.toNat (IntKind.wrap .i64 (t11 - 1))) [])))<|
 (brE ((Go.Op.bytesLess (ByteArray.toList (qss (List.getD (List.getD (EC.encL q1dj t9) (Int.toNat t11) []) 0 C.ne))) (ByteArray.toList (qss (List.getD (List.getD (EC.encL q1dj r_) (Int.toNat (IntKind.wrap .i64 (t11 - 1))) []) 0 C.ne))))||((ByteArray.toList (qss (List.getD (List.getD (EC.encL q1dj t9) (Int.toNat t11) []) 0 C.ne)))==(ByteArray.toList (qss (List.getD (List.getD (EC.encL q1dj r_) (Int.toNat (IntKind.wrap .i64 (t11 - 1))) []) 0 C.ne)))))
 ((q32 19 t11).bind fun r2 =>
 (some (.inl ((),(r2.1,r2.2)))))
 (gdE (EC.isL q1dj (EC.encL q1dj r_))<|
 (gdE (EC.isL q1dj (EC.encL q1dj t9))<|
 (q1s2 (EC.decL q1dj (EC.encL q1dj r_)) (EC.decL q1dj (EC.encL q1dj t9)) t10 (IntKind.wrap .i64 (t11+1)) b0 b0_1))))))
 (gdE (EC.isL q1dj (EC.encL q1dj r_))<|
 (gdE (EC.isL q1dj (EC.encL q1dj t9))<|
 (q1s2 (EC.decL q1dj (EC.encL q1dj r_)) (EC.decL q1dj (EC.encL q1dj t9)) t10 (IntKind.wrap .i64 (t11+1)) b0 b0_1))))))))))
 (gdE (EC.isL q1dj (EC.encL q1dj r_))<|
 (gdE (EC.isL q1dj (EC.encL q1dj t9))<|
 (some (.inr (((EC.decL q1dj (EC.encL q1dj r_)),((),((EC.decL q1dj (EC.encL q1dj t9)),(t10,(t11,false))))),(b0,b0_1)))))))
theorem q1s4 {r_ t9 t10 t11 b0 b0_1 r} (h:q1s9 r_ t9 t10 t11 b0 b0_1=some r):q1s2 r_ t9 t10 t11 b0 b0_1=some r :=
 qal (es:=q1rm) (hs:=[]) [] (by kernel_rfl) trivial trivial (by kernel_rfl) h
def q1s3:=qb9 Tryz.prog lv X0 4 (q8l (cdF Tryz.f9) 4) q1s8 q1s5 (fun x=>q1s2 x.1.1 x.1.2.2.1 x.1.2.2.2.1 x.1.2.2.2.2 x.2.1 x.2.2) (fun _ _ h=>qak h)
def q1rz:Cod (V×List B) (Int×Int):=(cFstU (cPair (vAgg (qah (vC (cInt .i64)) (qaj (vC (cInt .i64))))) qai))
def q1sa (r_:(List S44)):Option (Int×Int):=fS Tryz.prog lv X0 9 q1ry q1rz r_
def q1sb (r_:(List S44)):Option (Int×Int) :=
 (brE (decide ((List.length (EC.encL q1dj r_):Int)>300))
 ((q32 2 (-1)).bind fun r0 =>
 (some (r0.1,r0.2)))
 (gdE (EC.isL q1dj (EC.encL q1dj r_))<|
 (gdE (EC.isL q1dj (EC.encL q1dj r_))<|
 ((q1s2 (EC.decL q1dj (EC.encL q1dj r_)) (EC.decL q1dj (EC.encL q1dj r_)) (List.length (EC.encL q1dj r_):Int) 0 0 0).bind fun r0 =>
 (Sum.elim (fun r1=>(some (r1.2.1,r1.2.2)))
 (fun r1=>(Option.bind q38 fun r2 =>
 (some (r2.1,r2.2)))) r0)))))
theorem q1s1 {r_ r} (h:q1sb r_=some r):q1sa r_=some r :=
 q6x (es:=q1rm) (hs:=[]) [q1s3] Tryz.func9 rfl (by kernel_rfl) rfl (by kernel_rfl) (by kernel_rfl) ⟨⟨_,rfl,rfl⟩,trivial⟩ trivial (by kernel_rfl) h
def q1s0:=entS Tryz.prog lv X0 9 [] q1ry q1rz (fun x=>q1sa x) (fun _ _ h=>q6w h)
def q1rh:=q1s0::q1rm
def q1ok:=(qah (vC (cSl q5m)) (qaj (vC cStr)))
def q1ou:=sLS [0,1,7,8] (qah (vC (cSl q5m)) (qah (vC cStr) (qah (vC (cInt .i64)) (qaj (vC (cInt .i64)))))) qai [] [] (by decide) (fun _=>rfl)
def q1ot:=sLS [0,1,7,8,9] (qah (vC (cSl q5m)) (qah (vC cStr) (qah (vC (cInt .i64)) (qah (vC (cInt .i64)) (qaj (vC cBool)))))) qai [] [] (by decide) (fun _=>rfl)
def q1os:=sLS [4] (qaj (vC (cInt .i64))) qai [] [] (by decide) (fun _=>rfl)
def q1or:=oOr 1 q1os (oAt 2 q1ot) (fun x=>(by decide:(2:Nat)≠1))
def q1oo (s:(List ByteArray)) (v:ByteArray) (t7:Int) (t8:Int):Option ((Int×Unit)⊕(((List ByteArray)×ByteArray×Int×Int×Bool)×Unit)):=lS Tryz.prog lv X0 76 19 (q8l (cdF Tryz.f76) 2) q1ou q1or ((s,v,t7,t8),())
def q1ov (s:(List ByteArray)) (v:ByteArray) (t7:Int) (t8:Int):Option ((Int×Unit)⊕(((List ByteArray)×ByteArray×Int×Int×Bool)×Unit)) :=
 (brE (decide (t8<t7))
 (gdE (decide (0≤t8))<|
 (gdE ((decide ((Int.toNat t8)<(List.length (EC.encL q5m s))))&&(isE [K1.str] 0 (List.getD (EC.encL q5m s) (Int.toNat t8) [])))<|
 (brE (v.toList==(ByteArray.toList (qss (List.getD (List.getD (EC.encL q5m s) (Int.toNat t8) []) 0 C.ne))))
 (some (.inl (t8,())))
 (gdE (EC.isL q5m (EC.encL q5m s))<|
 (q1oo (EC.decL q5m (EC.encL q5m s)) v t7 (IntKind.wrap .i64 (t8+1)))))))
 (gdE (EC.isL q5m (EC.encL q5m s))<|
 (some (.inr (((EC.decL q5m (EC.encL q5m s)),(v,(t7,(t8,false)))),())))))
theorem q1oq {s v t7 t8 r} (h:q1ov s v t7 t8=some r):q1oo s v t7 t8=some r :=
 qal (es:=q1rh) (hs:=[]) [] (by kernel_rfl) trivial trivial (by kernel_rfl) h
def q1op:=qb9 Tryz.prog lv X0 2 (q8l (cdF Tryz.f76) 2) q1ou q1or (fun x=>q1oo x.1.1 x.1.2.1 x.1.2.2.1 x.1.2.2.2) (fun _ _ h=>qak h)
def q1ol:Cod (V×List B) Int:=(cFstU (cPair (vC (cInt .i64)) qai))
def q1ow (s:(List ByteArray)) (v:ByteArray):Option Int:=fS Tryz.prog lv X0 76 q1ok q1ol (s,v)
def q1ox (s:(List ByteArray)) (v:ByteArray):Option Int :=
 (gdE (EC.isL q5m (EC.encL q5m s))<|
 ((q1oo (EC.decL q5m (EC.encL q5m s)) v (List.length (EC.encL q5m s):Int) 0).bind fun r0 =>
 (Sum.elim (fun r1=>(some r1.1))
 (fun r1=>(some (-1:Int))) r0)))
theorem q1on {s v r} (h:q1ox s v=some r):q1ow s v=some r :=
 q6x (es:=q1rh) (hs:=[]) [q1op] Tryz.func76 rfl (by kernel_rfl) rfl (by kernel_rfl) (by kernel_rfl) ⟨⟨_,rfl,rfl⟩,trivial⟩ trivial (by kernel_rfl) h
def q1om:=entS Tryz.prog lv X0 76 [] q1ok q1ol (fun x=>q1ow x.1 x.2) (fun _ _ h=>q6w h)
def q1r9:=q1om::q1rh
def q1oe:=(qah (vC (cSl q5m)) (qaj (vC cStr)))
def q1of:Cod (V×List B) Bool:=(cFstU (cPair (vC cBool) qai))
def q1oi (s:(List ByteArray)) (v:ByteArray):Option Bool:=fS Tryz.prog lv X0 55 q1oe q1of (s,v)
def q1oj (s:(List ByteArray)) (v:ByteArray):Option Bool :=
 (gdE (EC.isL q5m (EC.encL q5m s))<|
 ((q1ow (EC.decL q5m (EC.encL q5m s)) v).bind fun r0 =>
 (some (decide (r0≥0)))))
theorem q1oh {s v r} (h:q1oj s v=some r):q1oi s v=some r :=
 q6x (es:=q1r9) (hs:=[]) [] Tryz.func55 rfl (by kernel_rfl) rfl (by kernel_rfl) (by kernel_rfl) trivial trivial (by kernel_rfl) h
def q1og:=entS Tryz.prog lv X0 55 [] q1oe q1of (fun x=>q1oi x.1 x.2) (fun _ _ h=>q6w h)
def q1r8:=q1og::q1r9
def q1sc:=(qaj (vC (cSl q5k)))
def q1sm:=sLS [16,17,18] (qah (vC (cSl q5k)) (qah (vC (cInt .i64)) (qaj (vC (cInt .i64))))) qai [] [] (by decide) (fun _=>rfl)
def q1sl:=sLS [16,17,18,19] (qah (vC (cSl q5k)) (qah (vC (cInt .i64)) (qah (vC (cInt .i64)) (qaj (vC cBool))))) qai [] [] (by decide) (fun _=>rfl)
def q1sk:=sLS [2] (qaj (vC cBool)) qai [] [] (by decide) (fun _=>rfl)
def q1sj:=oOr 1 q1sk (oAt 2 q1sl) (fun x=>(by decide:(2:Nat)≠1))
def q1sg (t16:(List S57)) (t17:Int) (t18:Int):Option ((Bool×Unit)⊕(((List S57)×Int×Int×Bool)×Unit)):=lS Tryz.prog lv X0 28 41 (q8l (cdF Tryz.f28) 5) q1sm q1sj ((t16,t17,t18),())
def q1sn (t16:(List S57)) (t17:Int) (t18:Int):Option ((Bool×Unit)⊕(((List S57)×Int×Int×Bool)×Unit)) :=
 (brE (decide (t18<t17))
 (gdE (decide (0≤t18))<|
 (gdE ((decide ((Int.toNat t18)<(List.length (EC.encL q5k t16))))&&(isE [K1.str,K1.str] 0 (List.getD (EC.encL q5k t16) (Int.toNat t18) [])))<|
 ((q1b3 (qss (List.getD (List.getD (EC.encL q5k t16) (Int.toNat t18) []) 1 C.ne))).bind fun r0 =>
 ((q1bl (qss (List.getD (List.getD (EC.encL q5k t16) (Int.toNat t18) []) 0 C.ne)) (ByteArray.mk (List.toArray [(65:UInt8),(117:UInt8),(116:UInt8),(111:UInt8),(45:UInt8),(83:UInt8),(117:UInt8),(98:UInt8),(109:UInt8),(105:UInt8),(116:UInt8),(116:UInt8),(101:UInt8),(100:UInt8)]))).bind fun r1 =>
 (brE (r1==true)
 (brE (!(r0.toList==(ByteArray.toList (ByteArray.mk (List.toArray [(110:UInt8),(111:UInt8)])))))
 (some (.inl (true,())))
 ((q1bl (qss (List.getD (List.getD (EC.encL q5k t16) (Int.toNat t18) []) 0 C.ne)) (ByteArray.mk (List.toArray [(80:UInt8),(114:UInt8),(101:UInt8),(99:UInt8),(101:UInt8),(100:UInt8),(101:UInt8),(110:UInt8),(99:UInt8),(101:UInt8)]))).bind fun r2 =>
 (brE (r2==true)
 ((q1oi (EC.decL q5m [[(C.str (ByteArray.mk (List.toArray [(98:UInt8),(117:UInt8),(108:UInt8),(107:UInt8)])))],[(C.str (ByteArray.mk (List.toArray [(108:UInt8),(105:UInt8),(115:UInt8),(116:UInt8)])))],[(C.str (ByteArray.mk (List.toArray [(106:UInt8),(117:UInt8),(110:UInt8),(107:UInt8)])))]]) r0).bind fun r3 =>
 (brE r3
 (some (.inl (true,())))
 (gdE (EC.isL q5k (EC.encL q5k t16))<|
 (q1sg (EC.decL q5k (EC.encL q5k t16)) t17 (IntKind.wrap .i64 (t18+1))))))
 (gdE (EC.isL q5k (EC.encL q5k t16))<|
 (q1sg (EC.decL q5k (EC.encL q5k t16)) t17 (IntKind.wrap .i64 (t18+1)))))))
 ((q1bl (qss (List.getD (List.getD (EC.encL q5k t16) (Int.toNat t18) []) 0 C.ne)) (ByteArray.mk (List.toArray [(80:UInt8),(114:UInt8),(101:UInt8),(99:UInt8),(101:UInt8),(100:UInt8),(101:UInt8),(110:UInt8),(99:UInt8),(101:UInt8)]))).bind fun r2 =>
 (brE (r2==true)
 ((q1oi (EC.decL q5m [[(C.str (ByteArray.mk (List.toArray [(98:UInt8),(117:UInt8),(108:UInt8),(107:UInt8)])))],[(C.str (ByteArray.mk (List.toArray [(108:UInt8),(105:UInt8),(115:UInt8),(116:UInt8)])))],[(C.str (ByteArray.mk (List.toArray [(106:UInt8),(117:UInt8),(110:UInt8),(107:UInt8)])))]]) r0).bind fun r3 =>
 (brE r3
 (some (.inl (true,())))
 (gdE (EC.isL q5k (EC.encL q5k t16))<|
 (q1sg (EC.decL q5k (EC.encL q5k t16)) t17 (IntKind.wrap .i64 (t18+1))))))
 (gdE (EC.isL q5k (EC.encL q5k t16))<|
 (q1sg (EC.decL q5k (EC.encL q5k t16)) t17 (IntKind.wrap .i64 (t18+1)))))))))))
 (gdE (EC.isL q5k (EC.encL q5k t16))<|
 (some (.inr (((EC.decL q5k (EC.encL q5k t16)),(t17,(t18,false))),())))))
theorem q1si {t16 t17 t18 r} (h:q1sn t16 t17 t18=some r):q1sg t16 t17 t18=some r :=
 qal (es:=q1r8) (hs:=[]) [] (by kernel_rfl) trivial trivial (by kernel_rfl) h
def q1sh:=qb9 Tryz.prog lv X0 5 (q8l (cdF Tryz.f28) 5) q1sm q1sj (fun x=>q1sg x.1.1 x.1.2.1 x.1.2.2) (fun _ _ h=>qak h)
def q1sd:Cod (V×List B) Bool:=(cFstU (cPair (vC cBool) qai))
def q1so (l:(List S57)):Option Bool:=fS Tryz.prog lv X0 28 q1sc q1sd l
def q1sp (l:(List S57)):Option Bool :=
 (gdE (EC.isL q5k (EC.encL q5k l))<|
 ((q1in (EC.decL q5k (EC.encL q5k l)) (ByteArray.mk (List.toArray [(76:UInt8),(105:UInt8),(115:UInt8),(116:UInt8),(45:UInt8),(73:UInt8),(100:UInt8)]))).bind fun r0 =>
 (brE (decide (((r0.1.1:Nat):Int)>0))
 (some true)
 (gdE (EC.isL q5k (EC.encL q5k l))<|
 ((q1sg (EC.decL q5k (EC.encL q5k l)) (List.length (EC.encL q5k l):Int) 0).bind fun r1 =>
 (Sum.elim (fun r2=>(some r2.1))
 (fun r2=>(some false)) r1))))))
theorem q1sf {l r} (h:q1sp l=some r):q1so l=some r :=
 q6x (es:=q1r8) (hs:=[]) [q1sh] Tryz.func28 rfl (by kernel_rfl) rfl (by kernel_rfl) (by kernel_rfl) ⟨⟨_,rfl,rfl⟩,trivial⟩ trivial (by kernel_rfl) h
def q1se:=entS Tryz.prog lv X0 28 [] q1sc q1sd (fun x=>q1so x) (fun _ _ h=>q6w h)
def q1ri:=q1se::q1r8
def q1t2:=(qah (vC (cSl q5k)) (qaj (vC cStr)))
def q1t3:Cod (V×List B) ByteArray:=(cFstU (cPair (vC cStr) qai))
def q1t6 (l:(List S57)) (name:ByteArray):Option ByteArray:=fS Tryz.prog lv X0 57 q1t2 q1t3 (l,name)
def q1t7 (l:(List S57)) (name:ByteArray):Option ByteArray :=
 (gdE (EC.isL q5k (EC.encL q5k l))<|
 ((q1in (EC.decL q5k (EC.encL q5k l)) name).bind fun r0 =>
 (brE (decide (((r0.1.1:Nat):Int)>0))
 (gdE ((decide ((0:Int)≤0))&&(decide (0<((r0.1.1:Nat):Int))))<|
 (gdE ((decide ((Int.toNat 0)<(List.length (EC.encL q5m r0.2))))&&((List.length (List.getD (EC.encL q5m r0.2) (Int.toNat 0) []))==1))<|
 (gdE (isP [K1.str] 0 (List.getD (EC.encL q5m r0.2) (Int.toNat 0) []))<|
 (some (qss (List.getD (List.getD (EC.encL q5m r0.2) (Int.toNat 0) []) 0 C.ne))))))
 (some ⟨#[]⟩))))
theorem q1t5 {l name r} (h:q1t7 l name=some r):q1t6 l name=some r :=
 q6x (es:=q1ri) (hs:=[]) [] Tryz.func57 rfl (by kernel_rfl) rfl (by kernel_rfl) (by kernel_rfl) trivial trivial (by kernel_rfl) h
def q1t4:=entS Tryz.prog lv X0 57 [] q1t2 q1t3 (fun x=>q1t6 x.1 x.2) (fun _ _ h=>q6w h)
def q1rl:=q1t4::q1ri
def q1pv:=(qah (vC cStr) (qaj (vC cStr)))
def q1pw:Cod (V×List B) ByteArray:=(cFstU (cPair (vC cStr) qai))
def q1pz (s:ByteArray) (suffix:ByteArray):Option ByteArray:=fS Tryz.prog lv X0 77 q1pv q1pw (s,suffix)
def q1q0 (s:ByteArray) (suffix:ByteArray):Option ByteArray :=
 ((q1pt s suffix).bind fun r0 =>
 (brE r0
 (gdE ((decide (0≤(IntKind.wrap .i64 ((s.size:Int) - (suffix.size:Int)))))&&(decide ((IntKind.wrap .i64 ((s.size:Int) - (suffix.size:Int)))≤(s.size:Int))))<|
 (some (ByteArray.extract s 0 (Int.toNat (IntKind.wrap .i64 ((s.size:Int) - (suffix.size:Int)))))))
 (some s)))
theorem q1py {s suffix r} (h:q1q0 s suffix=some r):q1pz s suffix=some r :=
 q6x (es:=q1rl) (hs:=[]) [] Tryz.func77 rfl (by kernel_rfl) rfl (by kernel_rfl) (by kernel_rfl) trivial trivial (by kernel_rfl) h
def q1px:=entS Tryz.prog lv X0 77 [] q1pv q1pw (fun x=>q1pz x.1 x.2) (fun _ _ h=>q6w h)
def q1rf:=q1px::q1rl
def q1pd:=(qah (vC cStr) (qaj (vC cStr)))
def q1pe:Cod (V×List B) ByteArray:=(cFstU (cPair (vC cStr) qai))
def q1ph (s:ByteArray) (suffix:ByteArray):Option ByteArray:=fS Tryz.prog lv X0 56 q1pd q1pe (s,suffix)
def q1pi (s:ByteArray) (suffix:ByteArray):Option ByteArray :=
 ((q1pz s suffix).bind fun r0 =>
 (some r0))
theorem q1pg {s suffix r} (h:q1pi s suffix=some r):q1ph s suffix=some r :=
 q6x (es:=q1rf) (hs:=[]) [] Tryz.func56 rfl (by kernel_rfl) rfl (by kernel_rfl) (by kernel_rfl) trivial trivial (by kernel_rfl) h
def q1pf:=entS Tryz.prog lv X0 56 [] q1pd q1pe (fun x=>q1ph x.1 x.2) (fun _ _ h=>q6w h)
def q1rc:=q1pf::q1rf
def q1te:=(qah (vAgg (qah (vC cStr) (qah (vC (cSl q1dk)) (qah (vC cStr) (qah (vC (cSl q5k)) (qaj (vC (cSl q5j)))))))) (qah (vC cStr) (qaj (vC cStr))))
def q1tf:Cod (V×List B) (ByteArray×(List S81)×ByteArray×(List S57)×(List Int)):=(cFstU (cPair (vAgg (qah (vC cStr) (qah (vC (cSl q1dk)) (qah (vC cStr) (qah (vC (cSl q5k)) (qaj (vC (cSl q5j)))))))) qai))
def q1ti (m_Envelope_From:ByteArray) (m_Envelope_To:(List S81)) (m_Envelope_Id:ByteArray) (m_Message_Fields:(List S57)) (m_Message_Body:(List Int)) (me:ByteArray) (text:ByteArray):Option (ByteArray×(List S81)×ByteArray×(List S57)×(List Int)):=fS Tryz.prog lv X0 31 q1te q1tf ((m_Envelope_From,m_Envelope_To,m_Envelope_Id,m_Message_Fields,m_Message_Body),me,text)
def q1tj (m_Envelope_From:ByteArray) (m_Envelope_To:(List S81)) (m_Envelope_Id:ByteArray) (m_Message_Fields:(List S57)) (m_Message_Body:(List Int)) (me:ByteArray) (text:ByteArray):Option (ByteArray×(List S81)×ByteArray×(List S57)×(List Int)) :=
 (brE (decide (((((ByteArray.size (ByteArray.mk (List.toArray [(60:UInt8)])))+me.size):Nat):Int)>(Go.IntKind.max Go.IntKind.i64)))
 none
 (brE (decide (((((ByteArray.size ((ByteArray.mk (List.toArray [(60:UInt8)]))++me))+(ByteArray.size (ByteArray.mk (List.toArray [(62:UInt8)])))):Nat):Int)>(Go.IntKind.max Go.IntKind.i64)))
 none
 (brE (decide (((((ByteArray.size (ByteArray.mk (List.toArray [(60:UInt8)])))+m_Envelope_From.size):Nat):Int)>(Go.IntKind.max Go.IntKind.i64)))
 none
 (brE (decide (((((ByteArray.size ((ByteArray.mk (List.toArray [(60:UInt8)]))++m_Envelope_From))+(ByteArray.size (ByteArray.mk (List.toArray [(62:UInt8)])))):Nat):Int)>(Go.IntKind.max Go.IntKind.i64)))
 none
 (gdE (EC.isL q5k (EC.encL q5k m_Message_Fields))<|
 ((q1t6 (EC.decL q5k (EC.encL q5k m_Message_Fields)) (ByteArray.mk (List.toArray [(83:UInt8),(117:UInt8),(98:UInt8),(106:UInt8),(101:UInt8),(99:UInt8),(116:UInt8)]))).bind fun r0 =>
 (brE (decide (((((ByteArray.size (ByteArray.mk (List.toArray [(82:UInt8),(101:UInt8),(58:UInt8),(32:UInt8)])))+r0.size):Nat):Int)>(Go.IntKind.max Go.IntKind.i64)))
 none
 ((q1ph ((ByteArray.mk (List.toArray [(82:UInt8),(101:UInt8),(58:UInt8),(32:UInt8)]))++r0) (ByteArray.mk (List.toArray [(32:UInt8)]))).bind fun r1 =>
 (gdE (EC.isL q5k (EC.encL q5k m_Message_Fields))<|
 ((q1t6 (EC.decL q5k (EC.encL q5k m_Message_Fields)) (ByteArray.mk (List.toArray [(77:UInt8),(101:UInt8),(115:UInt8),(115:UInt8),(97:UInt8),(103:UInt8),(101:UInt8),(45:UInt8),(73:UInt8),(100:UInt8)]))).bind fun r2 =>
 (brE (!(r2.toList==(ByteArray.toList ⟨#[]⟩)))
 (brE (decide (((((ByteArray.size (ByteArray.mk (List.toArray [(114:UInt8),(101:UInt8),(112:UInt8),(108:UInt8),(121:UInt8),(46:UInt8)])))+m_Envelope_Id.size):Nat):Int)>(Go.IntKind.max Go.IntKind.i64)))
 none
 ((linP text).bind fun r3 =>
 (gdE (decide (r3.size≤9223372036854775807))<|
 (brE (r3.size==0)
 (some (⟨#[]⟩,((EC.decL q1dk [[(C.str m_Envelope_From),(C.int Go.IntKind.i64 0)]]),(((ByteArray.mk (List.toArray [(114:UInt8),(101:UInt8),(112:UInt8),(108:UInt8),(121:UInt8),(46:UInt8)]))++m_Envelope_Id),((EC.decL q5k (([[(C.str (ByteArray.mk (List.toArray [(70:UInt8),(114:UInt8),(111:UInt8),(109:UInt8)]))),(C.str (((ByteArray.mk (List.toArray [(60:UInt8)]))++me)++(ByteArray.mk (List.toArray [(62:UInt8)]))))],[(C.str (ByteArray.mk (List.toArray [(84:UInt8),(111:UInt8)]))),(C.str (((ByteArray.mk (List.toArray [(60:UInt8)]))++m_Envelope_From)++(ByteArray.mk (List.toArray [(62:UInt8)]))))],[(C.str (ByteArray.mk (List.toArray [(83:UInt8),(117:UInt8),(98:UInt8),(106:UInt8),(101:UInt8),(99:UInt8),(116:UInt8)]))),(C.str r1)]]++[[(C.str (ByteArray.mk (List.toArray [(73:UInt8),(110:UInt8),(45:UInt8),(82:UInt8),(101:UInt8),(112:UInt8),(108:UInt8),(121:UInt8),(45:UInt8),(84:UInt8),(111:UInt8)]))),(C.str r2)]])++[[(C.str (ByteArray.mk (List.toArray [(65:UInt8),(117:UInt8),(116:UInt8),(111:UInt8),(45:UInt8),(83:UInt8),(117:UInt8),(98:UInt8),(109:UInt8),(105:UInt8),(116:UInt8),(116:UInt8),(101:UInt8),(100:UInt8)]))),(C.str (ByteArray.mk (List.toArray [(97:UInt8),(117:UInt8),(116:UInt8),(111:UInt8),(45:UInt8),(114:UInt8),(101:UInt8),(112:UInt8),(108:UInt8),(105:UInt8),(101:UInt8),(100:UInt8)])))]])),(EC.decL q5j []))))))
 (gdE (EC.isL q5j (bytesL r3))<|
 (some (⟨#[]⟩,((EC.decL q1dk [[(C.str m_Envelope_From),(C.int Go.IntKind.i64 0)]]),(((ByteArray.mk (List.toArray [(114:UInt8),(101:UInt8),(112:UInt8),(108:UInt8),(121:UInt8),(46:UInt8)]))++m_Envelope_Id),((EC.decL q5k (([[(C.str (ByteArray.mk (List.toArray [(70:UInt8),(114:UInt8),(111:UInt8),(109:UInt8)]))),(C.str (((ByteArray.mk (List.toArray [(60:UInt8)]))++me)++(ByteArray.mk (List.toArray [(62:UInt8)]))))],[(C.str (ByteArray.mk (List.toArray [(84:UInt8),(111:UInt8)]))),(C.str (((ByteArray.mk (List.toArray [(60:UInt8)]))++m_Envelope_From)++(ByteArray.mk (List.toArray [(62:UInt8)]))))],[(C.str (ByteArray.mk (List.toArray [(83:UInt8),(117:UInt8),(98:UInt8),(106:UInt8),(101:UInt8),(99:UInt8),(116:UInt8)]))),(C.str r1)]]++[[(C.str (ByteArray.mk (List.toArray [(73:UInt8),(110:UInt8),(45:UInt8),(82:UInt8),(101:UInt8),(112:UInt8),(108:UInt8),(121:UInt8),(45:UInt8),(84:UInt8),(111:UInt8)]))),(C.str r2)]])++[[(C.str (ByteArray.mk (List.toArray [(65:UInt8),(117:UInt8),(116:UInt8),(111:UInt8),(45:UInt8),(83:UInt8),(117:UInt8),(98:UInt8),(109:UInt8),(105:UInt8),(116:UInt8),(116:UInt8),(101:UInt8),(100:UInt8)]))),(C.str (ByteArray.mk (List.toArray [(97:UInt8),(117:UInt8),(116:UInt8),(111:UInt8),(45:UInt8),(114:UInt8),(101:UInt8),(112:UInt8),(108:UInt8),(105:UInt8),(101:UInt8),(100:UInt8)])))]])),(EC.decL q5j (bytesL r3))))))))))))
 (brE (decide (((((ByteArray.size (ByteArray.mk (List.toArray [(114:UInt8),(101:UInt8),(112:UInt8),(108:UInt8),(121:UInt8),(46:UInt8)])))+m_Envelope_Id.size):Nat):Int)>(Go.IntKind.max Go.IntKind.i64)))
 none
 ((linP text).bind fun r3 =>
 (gdE (decide (r3.size≤9223372036854775807))<|
 (brE (r3.size==0)
 (some (⟨#[]⟩,((EC.decL q1dk [[(C.str m_Envelope_From),(C.int Go.IntKind.i64 0)]]),(((ByteArray.mk (List.toArray [(114:UInt8),(101:UInt8),(112:UInt8),(108:UInt8),(121:UInt8),(46:UInt8)]))++m_Envelope_Id),((EC.decL q5k ([[(C.str (ByteArray.mk (List.toArray [(70:UInt8),(114:UInt8),(111:UInt8),(109:UInt8)]))),(C.str (((ByteArray.mk (List.toArray [(60:UInt8)]))++me)++(ByteArray.mk (List.toArray [(62:UInt8)]))))],[(C.str (ByteArray.mk (List.toArray [(84:UInt8),(111:UInt8)]))),(C.str (((ByteArray.mk (List.toArray [(60:UInt8)]))++m_Envelope_From)++(ByteArray.mk (List.toArray [(62:UInt8)]))))],[(C.str (ByteArray.mk (List.toArray [(83:UInt8),(117:UInt8),(98:UInt8),(106:UInt8),(101:UInt8),(99:UInt8),(116:UInt8)]))),(C.str r1)]]++[[(C.str (ByteArray.mk (List.toArray [(65:UInt8),(117:UInt8),(116:UInt8),(111:UInt8),(45:UInt8),(83:UInt8),(117:UInt8),(98:UInt8),(109:UInt8),(105:UInt8),(116:UInt8),(116:UInt8),(101:UInt8),(100:UInt8)]))),(C.str (ByteArray.mk (List.toArray [(97:UInt8),(117:UInt8),(116:UInt8),(111:UInt8),(45:UInt8),(114:UInt8),(101:UInt8),(112:UInt8),(108:UInt8),(105:UInt8),(101:UInt8),(100:UInt8)])))]])),(EC.decL q5j []))))))
 (gdE (EC.isL q5j (bytesL r3))<|
 (some (⟨#[]⟩,((EC.decL q1dk [[(C.str m_Envelope_From),(C.int Go.IntKind.i64 0)]]),(((ByteArray.mk (List.toArray [(114:UInt8),(101:UInt8),(112:UInt8),(108:UInt8),(121:UInt8),(46:UInt8)]))++m_Envelope_Id),((EC.decL q5k ([[(C.str (ByteArray.mk (List.toArray [(70:UInt8),(114:UInt8),(111:UInt8),(109:UInt8)]))),(C.str (((ByteArray.mk (List.toArray [(60:UInt8)]))++me)++(ByteArray.mk (List.toArray [(62:UInt8)]))))],[(C.str (ByteArray.mk (List.toArray [(84:UInt8),(111:UInt8)]))),(C.str (((ByteArray.mk (List.toArray [(60:UInt8)]))++m_Envelope_From)++(ByteArray.mk (List.toArray [(62:UInt8)]))))],[(C.str (ByteArray.mk (List.toArray [(83:UInt8),(117:UInt8),(98:UInt8),(106:UInt8),(101:UInt8),(99:UInt8),(116:UInt8)]))),(C.str r1)]]++[[(C.str (ByteArray.mk (List.toArray [(65:UInt8),(117:UInt8),(116:UInt8),(111:UInt8),(45:UInt8),(83:UInt8),(117:UInt8),(98:UInt8),(109:UInt8),(105:UInt8),(116:UInt8),(116:UInt8),(101:UInt8),(100:UInt8)]))),(C.str (ByteArray.mk (List.toArray [(97:UInt8),(117:UInt8),(116:UInt8),(111:UInt8),(45:UInt8),(114:UInt8),(101:UInt8),(112:UInt8),(108:UInt8),(105:UInt8),(101:UInt8),(100:UInt8)])))]])),(EC.decL q5j (bytesL r3)))))))))))))))))))))))
theorem q1th {m_Envelope_From m_Envelope_To m_Envelope_Id m_Message_Fields m_Message_Body me text r} (h:q1tj m_Envelope_From m_Envelope_To m_Envelope_Id m_Message_Fields m_Message_Body me text=some r):q1ti m_Envelope_From m_Envelope_To m_Envelope_Id m_Message_Fields m_Message_Body me text=some r :=
 q6x (es:=q1rc) (hs:=[]) [] Tryz.func31 rfl (by kernel_rfl) rfl (by kernel_rfl) (by kernel_rfl) trivial trivial (by kernel_rfl) h
def q1tg:=entS Tryz.prog lv X0 31 [] q1te q1tf (fun x=>q1ti x.1.1 x.1.2.1 x.1.2.2.1 x.1.2.2.2.1 x.1.2.2.2.2 x.2.1 x.2.2) (fun _ _ h=>q6w h)
def q1rn:=q1tg::q1rc
def q1tk:=(qah (vC (cSl q1dj)) (qah (vAgg (qah (vC cStr) (qah (vC (cSl q1dk)) (qah (vC cStr) (qah (vC (cSl q5k)) (qaj (vC (cSl q5j)))))))) (qah (vC cStr) (qah (vC cStr) (qaj (vC (cInt .i64)))))))
def q1tl:Cod (V×List B) (Int×Int):=(cFstU (cPair (vAgg (qah (vC (cInt .i64)) (qaj (vC (cInt .i64))))) qai))
def q1to (r_:(List S44)) (m_Envelope_From:ByteArray) (m_Envelope_To:(List S81)) (m_Envelope_Id:ByteArray) (m_Message_Fields:(List S57)) (m_Message_Body:(List Int)) (me:ByteArray) (text:ByteArray) (now:Int):Option (Int×Int):=fS Tryz.prog lv X0 23 q1tk q1tl (r_,(m_Envelope_From,m_Envelope_To,m_Envelope_Id,m_Message_Fields,m_Message_Body),me,text,now)
def q1tp (r_:(List S44)) (m_Envelope_From:ByteArray) (m_Envelope_To:(List S81)) (m_Envelope_Id:ByteArray) (m_Message_Fields:(List S57)) (m_Message_Body:(List Int)) (me:ByteArray) (text:ByteArray) (now:Int):Option (Int×Int) :=
 (gdE (EC.isL q1dj (EC.encL q1dj r_))<|
 ((q1sa (EC.decL q1dj (EC.encL q1dj r_))).bind fun r0 =>
 ((q2w r0.1 r0.2).bind fun r1 =>
 (brE r1
 (some (r0.1,r0.2))
 (gdE (EC.isL q5k (EC.encL q5k m_Message_Fields))<|
 (gdE (EC.isL q5j (EC.encL q5j m_Message_Body))<|
 ((q1lg (EC.decL q5k (EC.encL q5k m_Message_Fields)) (EC.decL q5j (EC.encL q5j m_Message_Body))).bind fun r2 =>
 ((q2w r2.1 r2.2).bind fun r3 =>
 (brE r3
 ((q32 r2.1 (-2)).bind fun r4 =>
 (some (r4.1,r4.2)))
 (gdE (EC.isL q1dk (EC.encL q1dk m_Envelope_To))<|
 ((q1f8 m_Envelope_From (EC.decL q1dk (EC.encL q1dk m_Envelope_To)) m_Envelope_Id).bind fun r4 =>
 ((q2w r4.1 r4.2).bind fun r5 =>
 (brE r5
 ((q32 r4.1 (-3)).bind fun r6 =>
 (some (r6.1,r6.2)))
 (gdE (EC.isL q1dj (EC.encL q1dj r_))<|
 ((q1t0 (EC.decL q1dj (EC.encL q1dj r_)) m_Envelope_From).bind fun r6 =>
 ((q1du me).bind fun r7 =>
 (brE (!r7)
 ((q32 10 (-4)).bind fun r8 =>
 (some (r8.1,r8.2)))
 (brE (decide ((text.size:Int)>4000))
 ((q32 1 (-5)).bind fun r8 =>
 (some (r8.1,r8.2)))
 ((q1br now).bind fun r8 =>
 (brE (!r8)
 ((q32 3 (-6)).bind fun r9 =>
 (some (r9.1,r9.2)))
 (brE (r6.2==true)
 (gdE (decide (0≤r6.1))<|
 (gdE ((decide ((Int.toNat r6.1)<(List.length (EC.encL q1dj r_))))&&(isE [K1.str,(K1.int Go.IntKind.i64)] 0 (List.getD (EC.encL q1dj r_) (Int.toNat r6.1) [])))<|
 (brE (decide ((q9n (List.getD (List.getD (EC.encL q1dj r_) (Int.toNat r6.1) []) 1 C.ne))>now))
 ((q32 19 r6.1).bind fun r9 =>
 (some (r9.1,r9.2)))
 (Option.bind q38 fun r9 =>
 (some (r9.1,r9.2))))))
 (Option.bind q38 fun r9 =>
 (some (r9.1,r9.2))))))))))))))))))))))))
theorem q1tn {r_ m_Envelope_From m_Envelope_To m_Envelope_Id m_Message_Fields m_Message_Body me text now r} (h:q1tp r_ m_Envelope_From m_Envelope_To m_Envelope_Id m_Message_Fields m_Message_Body me text now=some r):q1to r_ m_Envelope_From m_Envelope_To m_Envelope_Id m_Message_Fields m_Message_Body me text now=some r :=
 q6x (es:=q1rn) (hs:=[]) [] Tryz.func23 rfl (by kernel_rfl) rfl (by kernel_rfl) (by kernel_rfl) trivial trivial (by kernel_rfl) h
def q1tm:=entS Tryz.prog lv X0 23 [] q1tk q1tl (fun x=>q1to x.1 x.2.1.1 x.2.1.2.1 x.2.1.2.2.1 x.2.1.2.2.2.1 x.2.1.2.2.2.2 x.2.2.1 x.2.2.2.1 x.2.2.2.2) (fun _ _ h=>q6w h)
def q1ro:=q1tm::q1rn
def q19k:=(qaj (vC (cSl q1dj)))
def q19l:Cod (V×List B) (Nat×(List S44)):=(cPair (vRow 0) (qaj (bRow q1dj)))
def q19p (s:(List S44)):Option (Nat×(List S44)):=fS Tryz.prog lv X0 26 q19k q19l s
def q19q (s:(List S44)):Option (Nat×(List S44)) :=
 (gdE (!(List.isEmpty (EC.encL q1dj s)))<|
 (gdE (((List.all (EC.encL q1dj s) (fun (el:(List C))=>((List.length el)==2)))&&(decide (((((List.length (EC.encL q1dj s))+((List.length (EC.encL q1dj s)) / 4))+192)*24)≤281474976710656)))&&(decide ((List.length (EC.encL q1dj s))≤9223372036854775807)))<|
 (gdE (EC.isL q1dj (EC.encL q1dj s))<|
 (some ((List.length (EC.encL q1dj s)),(EC.decL q1dj (EC.encL q1dj s)))))))
theorem q19n {s r} (h:q19q s=some r):q19p s=some r:=by
 cases s with
 |nil=>exact nomatch (show (none:Option (Nat×(List S44)))=some r from h)
 |cons x xs=>exact q6x (es:=q1ro) (hs:=[]) [] Tryz.func26 rfl (by kernel_rfl) rfl (by kernel_rfl) (by kernel_rfl) trivial trivial (by kernel_rfl) h
theorem q19o:q19p []=some (0,[]):=fS_of (r:=(0,[])) (by unfold Call callD;rfl)
def q19m:=entS Tryz.prog lv X0 26 [] q19k q19l (fun x=>q19p x) (fun _ _ h=>q6w h)
def q1q9:=q19m::q1ro
def q1rs:=(qah (vC (cSl q1dj)) (qah (vAgg (qah (vC cStr) (qah (vC (cSl q1dk)) (qah (vC cStr) (qah (vC (cSl q5k)) (qaj (vC (cSl q5j)))))))) (qah (vC cStr) (qah (vC cStr) (qaj (vC (cInt .i64)))))))
def q1rt:Cod (V×List B) ((List S44)×(ByteArray×(List S81)×ByteArray×(List S57)×(List Int))×Bool×(Int×Int)):=(cFstU (cPair (vTup (qah (vC (cSl q1dj)) (qah (vAgg (qah (vC cStr) (qah (vC (cSl q1dk)) (qah (vC cStr) (qah (vC (cSl q5k)) (qaj (vC (cSl q5j)))))))) (qah (vC cBool) (qaj (vAgg (qah (vC (cInt .i64)) (qaj (vC (cInt .i64)))))))))) qai))
def q1rw (r_:(List S44)) (m_Envelope_From:ByteArray) (m_Envelope_To:(List S81)) (m_Envelope_Id:ByteArray) (m_Message_Fields:(List S57)) (m_Message_Body:(List Int)) (me:ByteArray) (text:ByteArray) (now:Int):Option ((List S44)×(ByteArray×(List S81)×ByteArray×(List S57)×(List Int))×Bool×(Int×Int)):=fS Tryz.prog lv X0 7 q1rs q1rt (r_,(m_Envelope_From,m_Envelope_To,m_Envelope_Id,m_Message_Fields,m_Message_Body),me,text,now)
def q1rx (r_:(List S44)) (m_Envelope_From:ByteArray) (m_Envelope_To:(List S81)) (m_Envelope_Id:ByteArray) (m_Message_Fields:(List S57)) (m_Message_Body:(List Int)) (me:ByteArray) (text:ByteArray) (now:Int):Option ((List S44)×(ByteArray×(List S81)×ByteArray×(List S57)×(List Int))×Bool×(Int×Int)) :=
 (gdE (EC.isL q1dj (EC.encL q1dj r_))<|
 (gdE (EC.isL q1dk (EC.encL q1dk m_Envelope_To))<|
 (gdE (EC.isL q5k (EC.encL q5k m_Message_Fields))<|
 (gdE (EC.isL q5j (EC.encL q5j m_Message_Body))<|
 ((q1to (EC.decL q1dj (EC.encL q1dj r_)) m_Envelope_From (EC.decL q1dk (EC.encL q1dk m_Envelope_To)) m_Envelope_Id (EC.decL q5k (EC.encL q5k m_Message_Fields)) (EC.decL q5j (EC.encL q5j m_Message_Body)) me text now).bind fun r0 =>
 ((q2w r0.1 r0.2).bind fun r1 =>
 (brE r1
 (some ((EC.decL q1dj []),((⟨#[]⟩,((EC.decL q1dk []),(⟨#[]⟩,((EC.decL q5k []),(EC.decL q5j []))))),(false,(r0.1,r0.2)))))
 (gdE (EC.isL q1dj (EC.encL q1dj r_))<|
 ((q1t0 (EC.decL q1dj (EC.encL q1dj r_)) m_Envelope_From).bind fun r2 =>
 (gdE (EC.isL q1dj (EC.encL q1dj r_))<|
 ((q19p (EC.decL q1dj (EC.encL q1dj r_))).bind fun r3 =>
 (brE ((m_Envelope_From.toList==(ByteArray.toList ⟨#[]⟩))==false)
 ((q1bl m_Envelope_From me).bind fun r4 =>
 (brE (r4==false)
 (gdE (EC.isL q5k (EC.encL q5k m_Message_Fields))<|
 ((q1so (EC.decL q5k (EC.encL q5k m_Message_Fields))).bind fun r5 =>
 (brE (r5==false)
 (brE (r2.2==true)
 (gdE (decide (0≤r2.1))<|
 (gdE ((decide ((Int.toNat r2.1)<(List.length (EC.encL q1dj r_))))&&(isE [K1.str,(K1.int Go.IntKind.i64)] 0 (List.getD (EC.encL q1dj r_) (Int.toNat r2.1) [])))<|
 ((q1tc (qss (List.getD (List.getD (EC.encL q1dj r_) (Int.toNat r2.1) []) 0 C.ne)) (q9n (List.getD (List.getD (EC.encL q1dj r_) (Int.toNat r2.1) []) 1 C.ne)) now).bind fun r6 =>
 (brE (!r6)
 (Option.bind q38 fun r7 =>
 (gdE (EC.isL q1dj (EC.encL q1dj r3.2))<|
 (some ((EC.decL q1dj (EC.encL q1dj r3.2)),((⟨#[]⟩,((EC.decL q1dk []),(⟨#[]⟩,((EC.decL q5k []),(EC.decL q5j []))))),(false,(r7.1,r7.2)))))))
 (gdE (EC.isL q1dk (EC.encL q1dk m_Envelope_To))<|
 (gdE (EC.isL q5k (EC.encL q5k m_Message_Fields))<|
 (gdE (EC.isL q5j (EC.encL q5j m_Message_Body))<|
 ((q1ti m_Envelope_From (EC.decL q1dk (EC.encL q1dk m_Envelope_To)) m_Envelope_Id (EC.decL q5k (EC.encL q5k m_Message_Fields)) (EC.decL q5j (EC.encL q5j m_Message_Body)) me text).bind fun r7 =>
 (gdE (EC.isL q1dk (EC.encL q1dk r7.2.1))<|
 ((q1f8 r7.1 (EC.decL q1dk (EC.encL q1dk r7.2.1)) r7.2.2.1).bind fun r8 =>
 ((q2w r8.1 r8.2).bind fun r9 =>
 (brE (!r9)
 (gdE (EC.isL q5k (EC.encL q5k r7.2.2.2.1))<|
 (gdE (EC.isL q5j (EC.encL q5j r7.2.2.2.2))<|
 ((q1lg (EC.decL q5k (EC.encL q5k r7.2.2.2.1)) (EC.decL q5j (EC.encL q5j r7.2.2.2.2))).bind fun r10 =>
 ((q2w r10.1 r10.2).bind fun r11 =>
 (brE r11
 ((q32 r10.1 (-7)).bind fun r12 =>
 (some ((EC.decL q1dj []),((⟨#[]⟩,((EC.decL q1dk []),(⟨#[]⟩,((EC.decL q5k []),(EC.decL q5j []))))),(false,(r12.1,r12.2))))))
 (brE r2.2
 (gdE ((decide (0≤r2.1))&&(decide (r2.1<((r3.1:Nat):Int))))<|
 (gdE ((decide ((Int.toNat r2.1)<(List.length (EC.encL q1dj r3.2))))&&((List.length (List.getD (EC.encL q1dj r3.2) (Int.toNat r2.1) []))==2))<|
 (Option.bind q38 fun r12 =>
 (gdE (EC.isL q1dj (List.set (EC.encL q1dj r3.2) (Int.toNat r2.1) (splice (List.getD (EC.encL q1dj r3.2) (Int.toNat r2.1) []) 1 [(C.int Go.IntKind.i64 now)])))<|
 (gdE (EC.isL q1dk (EC.encL q1dk r7.2.1))<|
 (gdE (EC.isL q5k (EC.encL q5k r7.2.2.2.1))<|
 (gdE (EC.isL q5j (EC.encL q5j r7.2.2.2.2))<|
 (some ((EC.decL q1dj (List.set (EC.encL q1dj r3.2) (Int.toNat r2.1) (splice (List.getD (EC.encL q1dj r3.2) (Int.toNat r2.1) []) 1 [(C.int Go.IntKind.i64 now)]))),((r7.1,((EC.decL q1dk (EC.encL q1dk r7.2.1)),(r7.2.2.1,((EC.decL q5k (EC.encL q5k r7.2.2.2.1)),(EC.decL q5j (EC.encL q5j r7.2.2.2.2)))))),(true,(r12.1,r12.2))))))))))))
 (gdE (List.all (EC.encL q1dj r3.2) repB)<|
 (brE ((List.isEmpty (List.filter (newB now) (EC.encL q1dj r3.2)))&&(!(List.isEmpty (EC.encL q1dj r3.2))))
 ((q1t0 (EC.decL q1dj []) m_Envelope_From).bind fun r12 =>
 (gdE ((((List.all [[(C.str m_Envelope_From),(C.int Go.IntKind.i64 now)]] repB)&&(decide (r12.1=0)))&&(!(List.isEmpty (List.map zeroR (EC.encL q1dj r3.2)))))&&(List.all (List.map zeroR (EC.encL q1dj r3.2)) repB))<|
 (Option.bind q38 fun r13 =>
 (gdE (EC.isL q1dk (EC.encL q1dk r7.2.1))<|
 (gdE (EC.isL q5k (EC.encL q5k r7.2.2.2.1))<|
 (gdE (EC.isL q5j (EC.encL q5j r7.2.2.2.2))<|
 (some ((EC.decL q1dj [[(C.str m_Envelope_From),(C.int Go.IntKind.i64 now)]]),((r7.1,((EC.decL q1dk (EC.encL q1dk r7.2.1)),(r7.2.2.1,((EC.decL q5k (EC.encL q5k r7.2.2.2.1)),(EC.decL q5j (EC.encL q5j r7.2.2.2.2)))))),(true,(r13.1,r13.2)))))))))))
 (brE ((((List.length (List.filter (newB now) (EC.encL q1dj r3.2))):Nat):Int)==300)
 ((q32 2 (-1)).bind fun r12 =>
 (some ((EC.decL q1dj []),((⟨#[]⟩,((EC.decL q1dk []),(⟨#[]⟩,((EC.decL q5k []),(EC.decL q5j []))))),(false,(r12.1,r12.2))))))
 (gdE (EC.isL q1dj (List.filter (newB now) (EC.encL q1dj r3.2)))<|
 ((q1t0 (EC.decL q1dj (List.filter (newB now) (EC.encL q1dj r3.2))) m_Envelope_From).bind fun r12 =>
 (gdE (((((List.all (List.filter (newB now) (EC.encL q1dj r3.2)) repB)&&(List.all [[(C.str m_Envelope_From),(C.int Go.IntKind.i64 now)]] repB))&&(decide (0≤r12.1)))&&(decide (r12.1≤(((List.length (List.filter (newB now) (EC.encL q1dj r3.2))):Nat):Int))))&&(decide ((List.length (List.filter (newB now) (EC.encL q1dj r3.2)))≤1000000)))<|
 (Option.bind q38 fun r13 =>
 (gdE (EC.isL q1dj ((List.take (Int.toNat r12.1) (List.filter (newB now) (EC.encL q1dj r3.2)))++([[(C.str m_Envelope_From),(C.int Go.IntKind.i64 now)]]++(List.drop (Int.toNat r12.1) (List.filter (newB now) (EC.encL q1dj r3.2))))))<|
 (gdE (EC.isL q1dk (EC.encL q1dk r7.2.1))<|
 (gdE (EC.isL q5k (EC.encL q5k r7.2.2.2.1))<|
 (gdE (EC.isL q5j (EC.encL q5j r7.2.2.2.2))<|
 (some ((EC.decL q1dj ((List.take (Int.toNat r12.1) (List.filter (newB now) (EC.encL q1dj r3.2)))++([[(C.str m_Envelope_From),(C.int Go.IntKind.i64 now)]]++(List.drop (Int.toNat r12.1) (List.filter (newB now) (EC.encL q1dj r3.2)))))),((r7.1,((EC.decL q1dk (EC.encL q1dk r7.2.1)),(r7.2.2.1,((EC.decL q5k (EC.encL q5k r7.2.2.2.1)),(EC.decL q5j (EC.encL q5j r7.2.2.2.2)))))),(true,(r13.1,r13.2))))))))))))))))))))))
 ((q2w r8.1 r8.2).bind fun r10 =>
 (brE r10
 ((q32 r8.1 (-7)).bind fun r11 =>
 (some ((EC.decL q1dj []),((⟨#[]⟩,((EC.decL q1dk []),(⟨#[]⟩,((EC.decL q5k []),(EC.decL q5j []))))),(false,(r11.1,r11.2))))))
 (brE r2.2
 (gdE ((decide (0≤r2.1))&&(decide (r2.1<((r3.1:Nat):Int))))<|
 (gdE ((decide ((Int.toNat r2.1)<(List.length (EC.encL q1dj r3.2))))&&((List.length (List.getD (EC.encL q1dj r3.2) (Int.toNat r2.1) []))==2))<|
 (Option.bind q38 fun r11 =>
 (gdE (EC.isL q1dj (List.set (EC.encL q1dj r3.2) (Int.toNat r2.1) (splice (List.getD (EC.encL q1dj r3.2) (Int.toNat r2.1) []) 1 [(C.int Go.IntKind.i64 now)])))<|
 (gdE (EC.isL q1dk (EC.encL q1dk r7.2.1))<|
 (gdE (EC.isL q5k (EC.encL q5k r7.2.2.2.1))<|
 (gdE (EC.isL q5j (EC.encL q5j r7.2.2.2.2))<|
 (some ((EC.decL q1dj (List.set (EC.encL q1dj r3.2) (Int.toNat r2.1) (splice (List.getD (EC.encL q1dj r3.2) (Int.toNat r2.1) []) 1 [(C.int Go.IntKind.i64 now)]))),((r7.1,((EC.decL q1dk (EC.encL q1dk r7.2.1)),(r7.2.2.1,((EC.decL q5k (EC.encL q5k r7.2.2.2.1)),(EC.decL q5j (EC.encL q5j r7.2.2.2.2)))))),(true,(r11.1,r11.2))))))))))))
 (gdE (List.all (EC.encL q1dj r3.2) repB)<|
 (brE ((List.isEmpty (List.filter (newB now) (EC.encL q1dj r3.2)))&&(!(List.isEmpty (EC.encL q1dj r3.2))))
 ((q1t0 (EC.decL q1dj []) m_Envelope_From).bind fun r11 =>
 (gdE ((((List.all [[(C.str m_Envelope_From),(C.int Go.IntKind.i64 now)]] repB)&&(decide (r11.1=0)))&&(!(List.isEmpty (List.map zeroR (EC.encL q1dj r3.2)))))&&(List.all (List.map zeroR (EC.encL q1dj r3.2)) repB))<|
 (Option.bind q38 fun r12 =>
 (gdE (EC.isL q1dk (EC.encL q1dk r7.2.1))<|
 (gdE (EC.isL q5k (EC.encL q5k r7.2.2.2.1))<|
 (gdE (EC.isL q5j (EC.encL q5j r7.2.2.2.2))<|
 (some ((EC.decL q1dj [[(C.str m_Envelope_From),(C.int Go.IntKind.i64 now)]]),((r7.1,((EC.decL q1dk (EC.encL q1dk r7.2.1)),(r7.2.2.1,((EC.decL q5k (EC.encL q5k r7.2.2.2.1)),(EC.decL q5j (EC.encL q5j r7.2.2.2.2)))))),(true,(r12.1,r12.2)))))))))))
 (brE ((((List.length (List.filter (newB now) (EC.encL q1dj r3.2))):Nat):Int)==300)
 ((q32 2 (-1)).bind fun r11 =>
 (some ((EC.decL q1dj []),((⟨#[]⟩,((EC.decL q1dk []),(⟨#[]⟩,((EC.decL q5k []),(EC.decL q5j []))))),(false,(r11.1,r11.2))))))
 (gdE (EC.isL q1dj (List.filter (newB now) (EC.encL q1dj r3.2)))<|
 ((q1t0 (EC.decL q1dj (List.filter (newB now) (EC.encL q1dj r3.2))) m_Envelope_From).bind fun r11 =>
 (gdE (((((List.all (List.filter (newB now) (EC.encL q1dj r3.2)) repB)&&(List.all [[(C.str m_Envelope_From),(C.int Go.IntKind.i64 now)]] repB))&&(decide (0≤r11.1)))&&(decide (r11.1≤(((List.length (List.filter (newB now) (EC.encL q1dj r3.2))):Nat):Int))))&&(decide ((List.length (List.filter (newB now) (EC.encL q1dj r3.2)))≤1000000)))<|
 (Option.bind q38 fun r12 =>
 (gdE (EC.isL q1dj ((List.take (Int.toNat r11.1) (List.filter (newB now) (EC.encL q1dj r3.2)))++([[(C.str m_Envelope_From),(C.int Go.IntKind.i64 now)]]++(List.drop (Int.toNat r11.1) (List.filter (newB now) (EC.encL q1dj r3.2))))))<|
 (gdE (EC.isL q1dk (EC.encL q1dk r7.2.1))<|
 (gdE (EC.isL q5k (EC.encL q5k r7.2.2.2.1))<|
 (gdE (EC.isL q5j (EC.encL q5j r7.2.2.2.2))<|
 (some ((EC.decL q1dj ((List.take (Int.toNat r11.1) (List.filter (newB now) (EC.encL q1dj r3.2)))++([[(C.str m_Envelope_From),(C.int Go.IntKind.i64 now)]]++(List.drop (Int.toNat r11.1) (List.filter (newB now) (EC.encL q1dj r3.2)))))),((r7.1,((EC.decL q1dk (EC.encL q1dk r7.2.1)),(r7.2.2.1,((EC.decL q5k (EC.encL q5k r7.2.2.2.1)),(EC.decL q5j (EC.encL q5j r7.2.2.2.2)))))),(true,(r12.1,r12.2)))))))))))))))))))))))))))))))
 (gdE (EC.isL q1dk (EC.encL q1dk m_Envelope_To))<|
 (gdE (EC.isL q5k (EC.encL q5k m_Message_Fields))<|
 (gdE (EC.isL q5j (EC.encL q5j m_Message_Body))<|
 ((q1ti m_Envelope_From (EC.decL q1dk (EC.encL q1dk m_Envelope_To)) m_Envelope_Id (EC.decL q5k (EC.encL q5k m_Message_Fields)) (EC.decL q5j (EC.encL q5j m_Message_Body)) me text).bind fun r6 =>
 (gdE (EC.isL q1dk (EC.encL q1dk r6.2.1))<|
 ((q1f8 r6.1 (EC.decL q1dk (EC.encL q1dk r6.2.1)) r6.2.2.1).bind fun r7 =>
 ((q2w r7.1 r7.2).bind fun r8 =>
 (brE (!r8)
 (gdE (EC.isL q5k (EC.encL q5k r6.2.2.2.1))<|
 (gdE (EC.isL q5j (EC.encL q5j r6.2.2.2.2))<|
 ((q1lg (EC.decL q5k (EC.encL q5k r6.2.2.2.1)) (EC.decL q5j (EC.encL q5j r6.2.2.2.2))).bind fun r9 =>
 ((q2w r9.1 r9.2).bind fun r10 =>
 (brE r10
 ((q32 r9.1 (-7)).bind fun r11 =>
 (some ((EC.decL q1dj []),((⟨#[]⟩,((EC.decL q1dk []),(⟨#[]⟩,((EC.decL q5k []),(EC.decL q5j []))))),(false,(r11.1,r11.2))))))
 (brE r2.2
 (gdE ((decide (0≤r2.1))&&(decide (r2.1<((r3.1:Nat):Int))))<|
 (gdE ((decide ((Int.toNat r2.1)<(List.length (EC.encL q1dj r3.2))))&&((List.length (List.getD (EC.encL q1dj r3.2) (Int.toNat r2.1) []))==2))<|
 (Option.bind q38 fun r11 =>
 (gdE (EC.isL q1dj (List.set (EC.encL q1dj r3.2) (Int.toNat r2.1) (splice (List.getD (EC.encL q1dj r3.2) (Int.toNat r2.1) []) 1 [(C.int Go.IntKind.i64 now)])))<|
 (gdE (EC.isL q1dk (EC.encL q1dk r6.2.1))<|
 (gdE (EC.isL q5k (EC.encL q5k r6.2.2.2.1))<|
 (gdE (EC.isL q5j (EC.encL q5j r6.2.2.2.2))<|
 (some ((EC.decL q1dj (List.set (EC.encL q1dj r3.2) (Int.toNat r2.1) (splice (List.getD (EC.encL q1dj r3.2) (Int.toNat r2.1) []) 1 [(C.int Go.IntKind.i64 now)]))),((r6.1,((EC.decL q1dk (EC.encL q1dk r6.2.1)),(r6.2.2.1,((EC.decL q5k (EC.encL q5k r6.2.2.2.1)),(EC.decL q5j (EC.encL q5j r6.2.2.2.2)))))),(true,(r11.1,r11.2))))))))))))
 (gdE (List.all (EC.encL q1dj r3.2) repB)<|
 (brE ((List.isEmpty (List.filter (newB now) (EC.encL q1dj r3.2)))&&(!(List.isEmpty (EC.encL q1dj r3.2))))
 ((q1t0 (EC.decL q1dj []) m_Envelope_From).bind fun r11 =>
 (gdE ((((List.all [[(C.str m_Envelope_From),(C.int Go.IntKind.i64 now)]] repB)&&(decide (r11.1=0)))&&(!(List.isEmpty (List.map zeroR (EC.encL q1dj r3.2)))))&&(List.all (List.map zeroR (EC.encL q1dj r3.2)) repB))<|
 (Option.bind q38 fun r12 =>
 (gdE (EC.isL q1dk (EC.encL q1dk r6.2.1))<|
 (gdE (EC.isL q5k (EC.encL q5k r6.2.2.2.1))<|
 (gdE (EC.isL q5j (EC.encL q5j r6.2.2.2.2))<|
 (some ((EC.decL q1dj [[(C.str m_Envelope_From),(C.int Go.IntKind.i64 now)]]),((r6.1,((EC.decL q1dk (EC.encL q1dk r6.2.1)),(r6.2.2.1,((EC.decL q5k (EC.encL q5k r6.2.2.2.1)),(EC.decL q5j (EC.encL q5j r6.2.2.2.2)))))),(true,(r12.1,r12.2)))))))))))
 (brE ((((List.length (List.filter (newB now) (EC.encL q1dj r3.2))):Nat):Int)==300)
 ((q32 2 (-1)).bind fun r11 =>
 (some ((EC.decL q1dj []),((⟨#[]⟩,((EC.decL q1dk []),(⟨#[]⟩,((EC.decL q5k []),(EC.decL q5j []))))),(false,(r11.1,r11.2))))))
 (gdE (EC.isL q1dj (List.filter (newB now) (EC.encL q1dj r3.2)))<|
 ((q1t0 (EC.decL q1dj (List.filter (newB now) (EC.encL q1dj r3.2))) m_Envelope_From).bind fun r11 =>
 (gdE (((((List.all (List.filter (newB now) (EC.encL q1dj r3.2)) repB)&&(List.all [[(C.str m_Envelope_From),(C.int Go.IntKind.i64 now)]] repB))&&(decide (0≤r11.1)))&&(decide (r11.1≤(((List.length (List.filter (newB now) (EC.encL q1dj r3.2))):Nat):Int))))&&(decide ((List.length (List.filter (newB now) (EC.encL q1dj r3.2)))≤1000000)))<|
 (Option.bind q38 fun r12 =>
 (gdE (EC.isL q1dj ((List.take (Int.toNat r11.1) (List.filter (newB now) (EC.encL q1dj r3.2)))++([[(C.str m_Envelope_From),(C.int Go.IntKind.i64 now)]]++(List.drop (Int.toNat r11.1) (List.filter (newB now) (EC.encL q1dj r3.2))))))<|
 (gdE (EC.isL q1dk (EC.encL q1dk r6.2.1))<|
 (gdE (EC.isL q5k (EC.encL q5k r6.2.2.2.1))<|
 (gdE (EC.isL q5j (EC.encL q5j r6.2.2.2.2))<|
 (some ((EC.decL q1dj ((List.take (Int.toNat r11.1) (List.filter (newB now) (EC.encL q1dj r3.2)))++([[(C.str m_Envelope_From),(C.int Go.IntKind.i64 now)]]++(List.drop (Int.toNat r11.1) (List.filter (newB now) (EC.encL q1dj r3.2)))))),((r6.1,((EC.decL q1dk (EC.encL q1dk r6.2.1)),(r6.2.2.1,((EC.decL q5k (EC.encL q5k r6.2.2.2.1)),(EC.decL q5j (EC.encL q5j r6.2.2.2.2)))))),(true,(r12.1,r12.2))))))))))))))))))))))
 ((q2w r7.1 r7.2).bind fun r9 =>
 (brE r9
 ((q32 r7.1 (-7)).bind fun r10 =>
 (some ((EC.decL q1dj []),((⟨#[]⟩,((EC.decL q1dk []),(⟨#[]⟩,((EC.decL q5k []),(EC.decL q5j []))))),(false,(r10.1,r10.2))))))
 (brE r2.2
 (gdE ((decide (0≤r2.1))&&(decide (r2.1<((r3.1:Nat):Int))))<|
 (gdE ((decide ((Int.toNat r2.1)<(List.length (EC.encL q1dj r3.2))))&&((List.length (List.getD (EC.encL q1dj r3.2) (Int.toNat r2.1) []))==2))<|
 (Option.bind q38 fun r10 =>
 (gdE (EC.isL q1dj (List.set (EC.encL q1dj r3.2) (Int.toNat r2.1) (splice (List.getD (EC.encL q1dj r3.2) (Int.toNat r2.1) []) 1 [(C.int Go.IntKind.i64 now)])))<|
 (gdE (EC.isL q1dk (EC.encL q1dk r6.2.1))<|
 (gdE (EC.isL q5k (EC.encL q5k r6.2.2.2.1))<|
 (gdE (EC.isL q5j (EC.encL q5j r6.2.2.2.2))<|
 (some ((EC.decL q1dj (List.set (EC.encL q1dj r3.2) (Int.toNat r2.1) (splice (List.getD (EC.encL q1dj r3.2) (Int.toNat r2.1) []) 1 [(C.int Go.IntKind.i64 now)]))),((r6.1,((EC.decL q1dk (EC.encL q1dk r6.2.1)),(r6.2.2.1,((EC.decL q5k (EC.encL q5k r6.2.2.2.1)),(EC.decL q5j (EC.encL q5j r6.2.2.2.2)))))),(true,(r10.1,r10.2))))))))))))
 (gdE (List.all (EC.encL q1dj r3.2) repB)<|
 (brE ((List.isEmpty (List.filter (newB now) (EC.encL q1dj r3.2)))&&(!(List.isEmpty (EC.encL q1dj r3.2))))
 ((q1t0 (EC.decL q1dj []) m_Envelope_From).bind fun r10 =>
 (gdE ((((List.all [[(C.str m_Envelope_From),(C.int Go.IntKind.i64 now)]] repB)&&(decide (r10.1=0)))&&(!(List.isEmpty (List.map zeroR (EC.encL q1dj r3.2)))))&&(List.all (List.map zeroR (EC.encL q1dj r3.2)) repB))<|
 (Option.bind q38 fun r11 =>
 (gdE (EC.isL q1dk (EC.encL q1dk r6.2.1))<|
 (gdE (EC.isL q5k (EC.encL q5k r6.2.2.2.1))<|
 (gdE (EC.isL q5j (EC.encL q5j r6.2.2.2.2))<|
 (some ((EC.decL q1dj [[(C.str m_Envelope_From),(C.int Go.IntKind.i64 now)]]),((r6.1,((EC.decL q1dk (EC.encL q1dk r6.2.1)),(r6.2.2.1,((EC.decL q5k (EC.encL q5k r6.2.2.2.1)),(EC.decL q5j (EC.encL q5j r6.2.2.2.2)))))),(true,(r11.1,r11.2)))))))))))
 (brE ((((List.length (List.filter (newB now) (EC.encL q1dj r3.2))):Nat):Int)==300)
 ((q32 2 (-1)).bind fun r10 =>
 (some ((EC.decL q1dj []),((⟨#[]⟩,((EC.decL q1dk []),(⟨#[]⟩,((EC.decL q5k []),(EC.decL q5j []))))),(false,(r10.1,r10.2))))))
 (gdE (EC.isL q1dj (List.filter (newB now) (EC.encL q1dj r3.2)))<|
 ((q1t0 (EC.decL q1dj (List.filter (newB now) (EC.encL q1dj r3.2))) m_Envelope_From).bind fun r10 =>
 (gdE (((((List.all (List.filter (newB now) (EC.encL q1dj r3.2)) repB)&&(List.all [[(C.str m_Envelope_From),(C.int Go.IntKind.i64 now)]] repB))&&(decide (0≤r10.1)))&&(decide (r10.1≤(((List.length (List.filter (newB now) (EC.encL q1dj r3.2))):Nat):Int))))&&(decide ((List.length (List.filter (newB now) (EC.encL q1dj r3.2)))≤1000000)))<|
 (Option.bind q38 fun r11 =>
 (gdE (EC.isL q1dj ((List.take (Int.toNat r10.1) (List.filter (newB now) (EC.encL q1dj r3.2)))++([[(C.str m_Envelope_From),(C.int Go.IntKind.i64 now)]]++(List.drop (Int.toNat r10.1) (List.filter (newB now) (EC.encL q1dj r3.2))))))<|
 (gdE (EC.isL q1dk (EC.encL q1dk r6.2.1))<|
 (gdE (EC.isL q5k (EC.encL q5k r6.2.2.2.1))<|
 (gdE (EC.isL q5j (EC.encL q5j r6.2.2.2.2))<|
 (some ((EC.decL q1dj ((List.take (Int.toNat r10.1) (List.filter (newB now) (EC.encL q1dj r3.2)))++([[(C.str m_Envelope_From),(C.int Go.IntKind.i64 now)]]++(List.drop (Int.toNat r10.1) (List.filter (newB now) (EC.encL q1dj r3.2)))))),((r6.1,((EC.decL q1dk (EC.encL q1dk r6.2.1)),(r6.2.2.1,((EC.decL q5k (EC.encL q5k r6.2.2.2.1)),(EC.decL q5j (EC.encL q5j r6.2.2.2.2)))))),(true,(r11.1,r11.2))))))))))))))))))))))))))))
 (Option.bind q38 fun r6 =>
 (gdE (EC.isL q1dj (EC.encL q1dj r3.2))<|
 (some ((EC.decL q1dj (EC.encL q1dj r3.2)),((⟨#[]⟩,((EC.decL q1dk []),(⟨#[]⟩,((EC.decL q5k []),(EC.decL q5j []))))),(false,(r6.1,r6.2))))))))))
 (Option.bind q38 fun r5 =>
 (gdE (EC.isL q1dj (EC.encL q1dj r3.2))<|
 (some ((EC.decL q1dj (EC.encL q1dj r3.2)),((⟨#[]⟩,((EC.decL q1dk []),(⟨#[]⟩,((EC.decL q5k []),(EC.decL q5j []))))),(false,(r5.1,r5.2)))))))))
 (Option.bind q38 fun r4 =>
 (gdE (EC.isL q1dj (EC.encL q1dj r3.2))<|
 (some ((EC.decL q1dj (EC.encL q1dj r3.2)),((⟨#[]⟩,((EC.decL q1dk []),(⟨#[]⟩,((EC.decL q5k []),(EC.decL q5j []))))),(false,(r4.1,r4.2)))))))))))))))))))
theorem q1rv {r_ m_Envelope_From m_Envelope_To m_Envelope_Id m_Message_Fields m_Message_Body me text now r} (h:q1rx r_ m_Envelope_From m_Envelope_To m_Envelope_Id m_Message_Fields m_Message_Body me text now=some r):q1rw r_ m_Envelope_From m_Envelope_To m_Envelope_Id m_Message_Fields m_Message_Body me text now=some r :=
 q6x (es:=q1q9) (hs:=[]) [] Tryz.func7 rfl (by kernel_rfl) rfl (by kernel_rfl) (by kernel_rfl) trivial trivial (by kernel_rfl) h
def q1ru:=entS Tryz.prog lv X0 7 [] q1rs q1rt (fun x=>q1rw x.1 x.2.1.1 x.2.1.2.1 x.2.1.2.2.1 x.2.1.2.2.2.1 x.2.1.2.2.2.2 x.2.2.1 x.2.2.2.1 x.2.2.2.2) (fun _ _ h=>q6w h)
def q1rg:=q1ru::q1q9
end
end Go.Proofs.YtepmpilapglklaaGreat
