/- Functions of the program as plain functions: made by program from the machine. -/
import Derived.Test.YtmacbkjehjbjeaaGreatDoorGB
namespace Go.Proofs.YtmacbkjehjbjeaaGreatDoor
open Go.RowKit
set_option maxRecDepth 100000
noncomputable section
def q4o:=(qjl (vC (cInt .i64)) (qjn (vC (cInt .i64))))
def q4p:Cod (V×List B) (Int×Int):=(cFstU (cPair (vAgg (qjl (vC (cInt .i64)) (qjn (vC (cInt .i64))))) qjm))
def q4s (code:Int) (at_:Int):Option (Int×Int):=fS Tryz.prog lv X0 17 q4o q4p (code,at_)
def q4t (code:Int) (at_:Int):Option (Int×Int) :=
 (some (code,at_))
theorem q4r {code at_ r} (h:q4t code at_=some r):q4s code at_=some r :=
 qc8 (es:=tab0) (hs:=[]) [] Tryz.func17 rfl (by kernel_rfl) rfl (by kernel_rfl) (by kernel_rfl) trivial trivial (by kernel_rfl) h
def q4q:=entS Tryz.prog lv X0 17 [] q4o q4p (fun x=>q4s x.1 x.2) (fun _ _ h=>qc7 h)
def qt0:=q4q::tab0
def q5p:Cod (List V) Unit:=qjm
def q5q:Cod (V×List B) (Int×Int):=(cFstU (cPair (vAgg (qjl (vC (cInt .i64)) (qjn (vC (cInt .i64))))) qjm))
def q5t :Option (Int×Int):=fS Tryz.prog lv X0 13 q5p q5q ()
def q5u :Option (Int×Int) :=
 (some (0,0))
theorem q5s {r} (h:q5u =some r):q5t =some r :=
 qc8 (es:=qt0) (hs:=[]) [] Tryz.func13 rfl (by kernel_rfl) rfl (by kernel_rfl) (by kernel_rfl) trivial trivial (by kernel_rfl) h
def q5r:=entS Tryz.prog lv X0 13 [] q5p q5q (fun _x=>q5t ) (fun _ _ h=>qc7 h)
def qt5:=q5r::qt0
def q4i:=(qjn (vAgg (qjl (vC (cInt .i64)) (qjn (vC (cInt .i64))))))
def q4j:Cod (V×List B) Bool:=(cFstU (cPair (vC cBool) qjm))
def q4m (f_Code:Int) (f_Index:Int):Option Bool:=fS Tryz.prog lv X0 7 q4i q4j (f_Code,f_Index)
def q4n (f_Code:Int) (_f_Index:Int):Option Bool :=
 (some (f_Code != 0))
theorem q4l {f_Code f_Index r} (h:q4n f_Code f_Index=some r):q4m f_Code f_Index=some r :=
 qc8 (es:=qt5) (hs:=[]) [] Tryz.func7 rfl (by kernel_rfl) rfl (by kernel_rfl) (by kernel_rfl) trivial trivial (by kernel_rfl) h
def q4k:=entS Tryz.prog lv X0 7 [] q4i q4j (fun x=>q4m x.1 x.2) (fun _ _ h=>qc7 h)
def qsz:=q4k::qt5
def q4u:=(qjn (vC (cInt .u8)))
def q4v:Cod (V×List B) Bool:=(cFstU (cPair (vC cBool) qjm))
def q4y (c:Int):Option Bool:=fS Tryz.prog lv X0 63 q4u q4v c
def q4z (c:Int):Option Bool :=
 (brE ((decide (c≥97))==true)
 (brE ((decide (c≤122))==false)
 (brE ((decide (c≥65))==true)
 (brE ((decide (c≤90))==false)
 (brE ((decide (c≥48))==true)
 (some (decide (c≤57)))
 (some false))
 (some true))
 (brE ((decide (c≥48))==true)
 (some (decide (c≤57)))
 (some false)))
 (some true))
 (brE ((decide (c≥65))==true)
 (brE ((decide (c≤90))==false)
 (brE ((decide (c≥48))==true)
 (some (decide (c≤57)))
 (some false))
 (some true))
 (brE ((decide (c≥48))==true)
 (some (decide (c≤57)))
 (some false))))
theorem q4x {c r} (h:q4z c=some r):q4y c=some r :=
 qc8 (es:=qsz) (hs:=[]) [] Tryz.func63 rfl (by kernel_rfl) rfl (by kernel_rfl) (by kernel_rfl) trivial trivial (by kernel_rfl) h
def q4w:=entS Tryz.prog lv X0 63 [] q4u q4v (fun x=>q4y x) (fun _ _ h=>qc7 h)
def qt1:=q4w::qsz
def q3y:=(qjn (vC (cInt .u8)))
def q3z:Cod (V×List B) Bool:=(cFstU (cPair (vC cBool) qjm))
def q42 (c:Int):Option Bool:=fS Tryz.prog lv X0 130 q3y q3z c
def q43 (c:Int):Option Bool :=
 (brE ((c==32)==false)
 (some (c==9))
 (some true))
theorem q41 {c r} (h:q43 c=some r):q42 c=some r :=
 qc8 (es:=qt1) (hs:=[]) [] Tryz.func130 rfl (by kernel_rfl) rfl (by kernel_rfl) (by kernel_rfl) trivial trivial (by kernel_rfl) h
def q40:=entS Tryz.prog lv X0 130 [] q3y q3z (fun x=>q42 x) (fun _ _ h=>qc7 h)
def qsx:=q40::qt1
def q9i:EC Int where
 enc x:=[.int .u8 x]
 dec c:=qiy (c.getD 0 .ne)
 is c:=isE [.int .u8] 0 c
 enc_dec h:=q8y h
 dec_enc x:=by rfl
 is_enc x:=by simp [isE,isK]
theorem enc_5 (x:Int):q9i.enc x=[.int .u8 x]:=rfl
theorem isE_5 (xs:List Int) (n:Nat):isE [.int .u8] 0 ((q9i.encL xs).getD n [])=decide (n<xs.length):=by
 by_cases h:n<xs.length
 ·simp only [EC.getD_lt _ _ h];simp [enc_5,isE,isK,h]
 ·simp only [EC.getD_ge _ _ (Nat.not_lt.1 h)];simp [isE,isK,h]
theorem at_5_0 (xs:List Int) (n:Nat):qiy (((q9i.encL xs).getD n []).getD 0 .ne)=(xs.getD n (q9i.dec [])):=by
 by_cases h:n<xs.length
 ·simp only [EC.getD_lt _ _ h];simp [enc_5,h,qiy,List.getD_eq_getElem?_getD]
 ·simp only [EC.getD_ge _ _ (Nat.not_lt.1 h)];simp [Nat.not_lt.1 h,q9i,qiy,List.getD_eq_getElem?_getD]
theorem len_5 (xs:List Int) (n:Nat) (h:n<xs.length):((q9i.encL xs).getD n []).length=1:=by rw [EC.getD_lt _ _ h];rfl
theorem qxo (xs:List Int):(q9i.encL xs).all (fun (el:List C)=>el.length==1)=true:=by induction xs with|nil=>rfl|cons x xs ih=>first|(simp [EC.encL,enc_5];done)|simpa [EC.encL,enc_5] using ih
theorem qq1 (xs:List Int) (n:Nat) (a0:Int):(q9i.encL xs).set n (splice ((q9i.encL xs).getD n []) 0 [.int .u8 a0])=q9i.encL (xs.set n (a0)):=by
 by_cases h:n<xs.length
 ·rw [EC.getD_lt _ _ h];simp [EC.encL,List.map_set,enc_5,splice]
 ·simp [EC.encL,List.set_eq_of_length_le,Nat.not_lt.1 h]
def q50:=(qjn (vC cStr))
def q59:=sLS [3,8,9,10] (qjl (vRow 0) (qjl (vRow 0) (qjl (vC (cInt .i64)) (qjn (vC (cInt .i64)))))) (qjn (qmx (bRow q9i))) [false] [] (by decide) (fun _=>rfl)
def q58:=sLS [3,8,9,10,11] (qjl (vRow 0) (qjl (vRow 0) (qjl (vC (cInt .i64)) (qjl (vC (cInt .i64)) (qjn (vC cBool)))))) (qjn (qmx (bRow q9i))) [false] [] (by decide) (fun _=>rfl)
def q57:=oAt 2 q58
def q54 (b:Nat) (t8:Nat) (t9:Int) (t10:Int) (b0:(List Int)):Option ((Nat×Nat×Int×Int×Bool)×(List Int)):=lS Tryz.prog lv X0 30 30 (qg9 (cdF Tryz.f30) 3) q59 q57 ((b,t8,t9,t10),b0)
def q5a (b:Nat) (t8:Nat) (t9:Int) (t10:Int) (b0:(List Int)):Option ((Nat×Nat×Int×Int×Bool)×(List Int)) :=
 (brE (decide (t10<t9))
 (gdE ((decide (0≤t10))&&(decide (t10<((t8:Nat):Int))))<|
 (gdE ((decide ((Int.toNat t10)<(List.length (EC.encL q9i b0))))&&((List.length (List.getD (EC.encL q9i b0) (Int.toNat t10) []))==1))<|
 (gdE (isP [(K1.int Go.IntKind.u8)] 0 (List.getD (EC.encL q9i b0) (Int.toNat t10) []))<|
 (brE ((decide ((qiy (List.getD (List.getD (EC.encL q9i b0) (Int.toNat t10) []) 0 C.ne))≥65))==true)
 (brE (decide ((qiy (List.getD (List.getD (EC.encL q9i b0) (Int.toNat t10) []) 0 C.ne))≤90))
 (gdE ((decide (0≤t10))&&(decide (t10<((b:Nat):Int))))<|
 (gdE ((decide ((Int.toNat t10)<(List.length (EC.encL q9i b0))))&&((List.length (List.getD (EC.encL q9i b0) (Int.toNat t10) []))==1))<|
 (gdE (EC.isL q9i (List.set (EC.encL q9i b0) (Int.toNat t10) (splice (List.getD (EC.encL q9i b0) (Int.toNat t10) []) 0 [(C.int Go.IntKind.u8 (IntKind.wrap .u8 ((IntKind.wrap .u8 ((qiy (List.getD (List.getD (EC.encL q9i b0) (Int.toNat t10) []) 0 C.ne))+97)) - 65)))])))<|
 (q54 b t8 t9 (IntKind.wrap .i64 (t10+1)) (EC.decL q9i (List.set (EC.encL q9i b0) (Int.toNat t10) (splice (List.getD (EC.encL q9i b0) (Int.toNat t10) []) 0 [(C.int Go.IntKind.u8 (IntKind.wrap .u8 ((IntKind.wrap .u8 ((qiy (List.getD (List.getD (EC.encL q9i b0) (Int.toNat t10) []) 0 C.ne))+97)) - 65)))])))))))
 (gdE (EC.isL q9i (EC.encL q9i b0))<|
 (q54 b t8 t9 (IntKind.wrap .i64 (t10+1)) (EC.decL q9i (EC.encL q9i b0)))))
 (gdE (EC.isL q9i (EC.encL q9i b0))<|
 (q54 b t8 t9 (IntKind.wrap .i64 (t10+1)) (EC.decL q9i (EC.encL q9i b0))))))))
 (gdE (EC.isL q9i (EC.encL q9i b0))<|
 (some ((b,(t8,(t9,(t10,false)))),(EC.decL q9i (EC.encL q9i b0))))))
theorem q56 {b t8 t9 t10 b0 r} (h:q5a b t8 t9 t10 b0=some r):q54 b t8 t9 t10 b0=some r :=
 qjp (es:=qsx) (hs:=[]) [] (by kernel_rfl) trivial trivial (by kernel_rfl) h
def q55:=qk9 Tryz.prog lv X0 3 (qg9 (cdF Tryz.f30) 3) q59 q57 (fun x=>q54 x.1.1 x.1.2.1 x.1.2.2.1 x.1.2.2.2 x.2) (fun _ _ h=>qjo h)
def q51:Cod (V×List B) ByteArray:=(cFstU (cPair (vC cStr) qjm))
def q5b (s:ByteArray):Option ByteArray:=fS Tryz.prog lv X0 30 q50 q51 s
def q5c (s:ByteArray):Option ByteArray :=
 (gdE ((decide (s.size≤9223372036854775807))&&(!(s.size==0)))<|
 (gdE (EC.isL q9i (bytesL s))<|
 ((q54 s.size s.size (s.size:Int) 0 (EC.decL q9i (bytesL s))).bind fun r0 =>
 ((bytesOf (EC.encL q9i r0.2)).bind fun r1 =>
 (some (ByteArray.mk (List.toArray r1)))))))
theorem q53 {s r} (h:q5c s=some r):q5b s=some r :=
 qc8 (es:=qsx) (hs:=[]) [q55] Tryz.func30 rfl (by kernel_rfl) rfl (by kernel_rfl) (by kernel_rfl) ⟨⟨_,rfl,rfl⟩,trivial⟩ trivial (by kernel_rfl) h
def q52:=entS Tryz.prog lv X0 30 [] q50 q51 (fun x=>q5b x) (fun _ _ h=>qc7 h)
def qt2:=q52::qsx
def q5v:=(qjl (vC cStr) (qjn (vC cStr)))
def q5w:Cod (V×List B) Bool:=(cFstU (cPair (vC cBool) qjm))
def q5z (a:ByteArray) (b:ByteArray):Option Bool:=fS Tryz.prog lv X0 10 q5v q5w (a,b)
def q60 (a:ByteArray) (b:ByteArray):Option Bool :=
 (brE (((a.size:Int)==(b.size:Int))==true)
 ((q5b a).bind fun r0 =>
 ((q5b b).bind fun r1 =>
 (some (r0.toList==r1.toList))))
 (some false))
theorem q5y {a b r} (h:q60 a b=some r):q5z a b=some r :=
 qc8 (es:=qt2) (hs:=[]) [] Tryz.func10 rfl (by kernel_rfl) rfl (by kernel_rfl) (by kernel_rfl) trivial trivial (by kernel_rfl) h
def q5x:=entS Tryz.prog lv X0 10 [] q5v q5w (fun x=>q5z x.1 x.2) (fun _ _ h=>qc7 h)
def qt6:=q5x::qt2
def q44:=(qjn (vC (cSl q9i)))
def q4e:=sLS [0,3,4] (qjl (vC (cSl q9i)) (qjl (vC (cInt .i64)) (qjn (vC (cInt .i64))))) qjm [] [] (by decide) (fun _=>rfl)
def q4d:=sLS [0,3,4,9] (qjl (vC (cSl q9i)) (qjl (vC (cInt .i64)) (qjl (vC (cInt .i64)) (qjn (vC cBool))))) qjm [] [] (by decide) (fun _=>rfl)
def q4c:=sLS [2] (qjn (vC (cInt .i64))) qjm [] [] (by decide) (fun _=>rfl)
def q4b:=oOr 1 q4c (oAt 2 q4d) (fun x=>(by decide:(2:Nat)≠1))
def q48 (b:(List Int)) (column:Int) (i:Int):Option ((Int×Unit)⊕(((List Int)×Int×Int×Bool)×Unit)):=lS Tryz.prog lv X0 68 45 (qg9 (cdF Tryz.f68) 3) q4e q4b ((b,column,i),())
def q4f (b:(List Int)) (column:Int) (i:Int):Option ((Int×Unit)⊕(((List Int)×Int×Int×Bool)×Unit)) :=
 (brE (decide (i<(List.length (EC.encL q9i b):Int)))
 (gdE (decide (0≤i))<|
 (gdE ((decide ((Int.toNat i)<(List.length (EC.encL q9i b))))&&(isE [(K1.int Go.IntKind.u8)] 0 (List.getD (EC.encL q9i b) (Int.toNat i) [])))<|
 (brE (((qiy (List.getD (List.getD (EC.encL q9i b) (Int.toNat i) []) 0 C.ne))==13)==true)
 (brE ((decide ((IntKind.wrap .i64 (i+1))<(List.length (EC.encL q9i b):Int)))==true)
 (gdE (decide (0≤(IntKind.wrap .i64 (i+1))))<|
 (gdE ((decide ((Int.toNat (IntKind.wrap .i64 (i+1)))<(List.length (EC.encL q9i b))))&&(isE [(K1.int Go.IntKind.u8)] 0 (List.getD (EC.encL q9i b) (Int.toNat (IntKind.wrap .i64 (i+1))) [])))<|
 (brE ((qiy (List.getD (List.getD (EC.encL q9i b) (Int.toNat (IntKind.wrap .i64 (i+1))) []) 0 C.ne))==10)
 (gdE (EC.isL q9i (EC.encL q9i b))<|
 (q48 (EC.decL q9i (EC.encL q9i b)) 0 (IntKind.wrap .i64 ((IntKind.wrap .i64 (i+1))+1))))
 (brE (((qiy (List.getD (List.getD (EC.encL q9i b) (Int.toNat i) []) 0 C.ne))==13)==false)
 (brE ((qiy (List.getD (List.getD (EC.encL q9i b) (Int.toNat i) []) 0 C.ne))==10)
 (some (.inl (11,())))
 (brE (decide ((IntKind.wrap .i64 (column+1))>998))
 (some (.inl (1,())))
 (gdE (EC.isL q9i (EC.encL q9i b))<|
 (q48 (EC.decL q9i (EC.encL q9i b)) (IntKind.wrap .i64 (column+1)) (IntKind.wrap .i64 (i+1))))))
 (some (.inl (11,())))))))
 (brE (((qiy (List.getD (List.getD (EC.encL q9i b) (Int.toNat i) []) 0 C.ne))==13)==false)
 (brE ((qiy (List.getD (List.getD (EC.encL q9i b) (Int.toNat i) []) 0 C.ne))==10)
 (some (.inl (11,())))
 (brE (decide ((IntKind.wrap .i64 (column+1))>998))
 (some (.inl (1,())))
 (gdE (EC.isL q9i (EC.encL q9i b))<|
 (q48 (EC.decL q9i (EC.encL q9i b)) (IntKind.wrap .i64 (column+1)) (IntKind.wrap .i64 (i+1))))))
 (some (.inl (11,())))))
 (brE (((qiy (List.getD (List.getD (EC.encL q9i b) (Int.toNat i) []) 0 C.ne))==13)==false)
 (brE ((qiy (List.getD (List.getD (EC.encL q9i b) (Int.toNat i) []) 0 C.ne))==10)
 (some (.inl (11,())))
 (brE (decide ((IntKind.wrap .i64 (column+1))>998))
 (some (.inl (1,())))
 (gdE (EC.isL q9i (EC.encL q9i b))<|
 (q48 (EC.decL q9i (EC.encL q9i b)) (IntKind.wrap .i64 (column+1)) (IntKind.wrap .i64 (i+1))))))
 (some (.inl (11,())))))))
 (gdE (EC.isL q9i (EC.encL q9i b))<|
 (some (.inr (((EC.decL q9i (EC.encL q9i b)),(column,(i,false))),())))))
theorem q4a {b column i r} (h:q4f b column i=some r):q48 b column i=some r :=
 qjp (es:=qt6) (hs:=[]) [] (by kernel_rfl) trivial trivial (by kernel_rfl) h
def q49:=qk9 Tryz.prog lv X0 3 (qg9 (cdF Tryz.f68) 3) q4e q4b (fun x=>q48 x.1.1 x.1.2.1 x.1.2.2) (fun _ _ h=>qjo h)
def q45:Cod (V×List B) Int:=(cFstU (cPair (vC (cInt .i64)) qjm))
def q4g (b:(List Int)):Option Int:=fS Tryz.prog lv X0 68 q44 q45 b
def q4h (b:(List Int)):Option Int :=
 (gdE (EC.isL q9i (EC.encL q9i b))<|
 ((q48 (EC.decL q9i (EC.encL q9i b)) 0 0).bind fun r0 =>
 (Sum.elim (fun r1=>(some r1.1))
 (fun _r1=>(some 0)) r0)))
theorem q47 {b r} (h:q4h b=some r):q4g b=some r :=
 qc8 (es:=qt6) (hs:=[]) [q49] Tryz.func68 rfl (by kernel_rfl) rfl (by kernel_rfl) (by kernel_rfl) ⟨⟨_,rfl,rfl⟩,trivial⟩ trivial (by kernel_rfl) h
def q46:=entS Tryz.prog lv X0 68 [] q44 q45 (fun x=>q4g x) (fun _ _ h=>qc7 h)
def qsy:=q46::qt6
def q5d:=(qjn (vC (cInt .u8)))
def q5e:Cod (V×List B) Bool:=(cFstU (cPair (vC cBool) qjm))
def q5h (c:Int):Option Bool:=fS Tryz.prog lv X0 62 q5d q5e c
def q5i (c:Int):Option Bool :=
 ((q4y c).bind fun r0 =>
 (brE (r0==false)
 (brE ((c==45)==false)
 (brE ((c==95)==false)
 (some (c==46))
 (some true))
 (some true))
 (some true)))
theorem q5g {c r} (h:q5i c=some r):q5h c=some r :=
 qc8 (es:=qsy) (hs:=[]) [] Tryz.func62 rfl (by kernel_rfl) rfl (by kernel_rfl) (by kernel_rfl) trivial trivial (by kernel_rfl) h
def q5f:=entS Tryz.prog lv X0 62 [] q5d q5e (fun x=>q5h x) (fun _ _ h=>qc7 h)
def qt4:=q5f::qsy
def q2n:Cod (List V) (ByteArray×Unit):=(qjl (vC cStr) (qjn (vFn 62 qjm)))
def q2x:=sLS [0,1,7,8] (qjl (vC cStr) (qjl (vFn 62 qjm) (qjl (vC (cInt .i64)) (qjn (vC (cInt .i64)))))) qjm [] [] (by decide) (fun _=>rfl)
def q2w:=sLS [0,1,7,8,9] (qjl (vC cStr) (qjl (vFn 62 qjm) (qjl (vC (cInt .i64)) (qjl (vC (cInt .i64)) (qjn (vC cBool)))))) qjm [] [] (by decide) (fun _=>rfl)
def q2v:=sLS [4] (qjn (vC cBool)) qjm [] [] (by decide) (fun _=>rfl)
def q2u:=oOr 1 q2v (oAt 2 q2w) (fun x=>(by decide:(2:Nat)≠1))
def q2r (s:ByteArray) (t7:Int) (t8:Int):Option ((Bool×Unit)⊕((ByteArray×Unit×Int×Int×Bool)×Unit)):=lS Tryz.prog lv X0 61 18 (qg9 (cdF Tryz.f61) 2) q2x q2u ((s,(),t7,t8),())
def q2y (s:ByteArray) (t7:Int) (t8:Int):Option ((Bool×Unit)⊕((ByteArray×Unit×Int×Int×Bool)×Unit)) :=
 (brE (decide (t8<t7))
 (gdE ((decide (0≤t8))&&(decide ((Int.toNat t8)<s.size)))<|
 ((q5h (((UInt8.toNat (Array.getD s.data (Int.toNat t8) (0:UInt8))):Nat):Int)).bind fun r0 =>
 (brE (!r0)
 (some (.inl (false,())))
 (q2r s t7 (IntKind.wrap .i64 (t8+1))))))
 (some (.inr ((s,((),(t7,(t8,false)))),()))))
theorem q2t {s t7 t8 r} (h:q2y s t7 t8=some r):q2r s t7 t8=some r :=
 qjp (es:=qt4) (hs:=[]) [] (by kernel_rfl) trivial trivial (by kernel_rfl) h
def q2s:=qk9 Tryz.prog lv X0 2 (qg9 (cdF Tryz.f61) 2) q2x q2u (fun x=>q2r x.1.1 x.1.2.2.1 x.1.2.2.2) (fun _ _ h=>qjo h)
def q2o:Cod (V×List B) Bool:=(cFstU (cPair (vC cBool) qjm))
def q31 (s:ByteArray):Option Bool:=fS Tryz.prog lv X0 61 q2n q2o (s,())
def q33 (s:ByteArray):Option Bool :=
 ((q2r s (s.size:Int) 0).bind fun r0 =>
 (Sum.elim (fun r1=>(some r1.1))
 (fun _r1=>(some true)) r0))
theorem q2q {s r} (h:q33 s=some r):q31 s=some r :=
 qc8 (es:=qt4) (hs:=[]) [q2s] Tryz.func61 rfl (by kernel_rfl) rfl (by kernel_rfl) (by kernel_rfl) ⟨⟨_,rfl,rfl⟩,trivial⟩ trivial (by kernel_rfl) h
def q2p:=entS Tryz.prog lv X0 61 [62] q2n q2o (fun x=>q31 x.1) (fun _ _ h=>qc7 h)
def qsv:=q2p::qt4
def q5j:=(qjn (vC cStr))
def q5k:Cod (V×List B) Bool:=(cFstU (cPair (vC cBool) qjm))
def q5n (s:ByteArray):Option Bool:=fS Tryz.prog lv X0 36 q5j q5k s
def q5o (s:ByteArray):Option Bool :=
 (brE ((!(s.toList==(ByteArray.toList ⟨#[]⟩)))==true)
 (brE ((decide ((s.size:Int)≤60))==true)
 ((q31 s).bind fun r0 =>
 (some r0))
 (some false))
 (some false))
theorem q5m {s r} (h:q5o s=some r):q5n s=some r :=
 qc8 (es:=qsv) (hs:=[]) [] Tryz.func36 rfl (by kernel_rfl) rfl (by kernel_rfl) (by kernel_rfl) trivial trivial (by kernel_rfl) h
def q5l:=entS Tryz.prog lv X0 36 [] q5j q5k (fun x=>q5n x) (fun _ _ h=>qc7 h)
def qt3:=q5l::qsv
def qs4:=(qjl (vC cStr) (qjn (vC cStr)))
def qs5:Cod (V×List B) Bool:=(cFstU (cPair (vC cBool) qjm))
def qs8 (s:ByteArray) (prefix_:ByteArray):Option Bool:=fS Tryz.prog lv X0 151 qs4 qs5 (s,prefix_)
def qs9 (s:ByteArray) (prefix_:ByteArray):Option Bool :=
 (brE ((decide ((s.size:Int)≥(prefix_.size:Int)))==true)
 (gdE ((decide (0≤(prefix_.size:Int)))&&(decide ((prefix_.size:Int)≤(s.size:Int))))<|
 (some ((ByteArray.toList (ByteArray.extract s 0 (Int.toNat (prefix_.size:Int))))==prefix_.toList)))
 (some false))
theorem qs7 {s prefix_ r} (h:qs9 s prefix_=some r):qs8 s prefix_=some r :=
 qc8 (es:=qt3) (hs:=[]) [] Tryz.func151 rfl (by kernel_rfl) rfl (by kernel_rfl) (by kernel_rfl) trivial trivial (by kernel_rfl) h
def qs6:=entS Tryz.prog lv X0 151 [] qs4 qs5 (fun x=>qs8 x.1 x.2) (fun _ _ h=>qc7 h)
def qu2:=qs6::qt3
def qsa:=(qjl (vC cStr) (qjn (vC cStr)))
def qsb:Cod (V×List B) Bool:=(cFstU (cPair (vC cBool) qjm))
def qse (s:ByteArray) (suffix:ByteArray):Option Bool:=fS Tryz.prog lv X0 94 qsa qsb (s,suffix)
def qsf (s:ByteArray) (suffix:ByteArray):Option Bool :=
 (brE ((decide ((s.size:Int)≥(suffix.size:Int)))==true)
 (gdE ((decide (0≤(IntKind.wrap .i64 ((s.size:Int) - (suffix.size:Int)))))&&(decide ((IntKind.wrap .i64 ((s.size:Int) - (suffix.size:Int)))≤(s.size:Int))))<|
 (some ((ByteArray.toList (ByteArray.extract s (Int.toNat (IntKind.wrap .i64 ((s.size:Int) - (suffix.size:Int)))) s.size))==suffix.toList)))
 (some false))
theorem qsd {s suffix r} (h:qsf s suffix=some r):qse s suffix=some r :=
 qc8 (es:=qu2) (hs:=[]) [] Tryz.func94 rfl (by kernel_rfl) rfl (by kernel_rfl) (by kernel_rfl) trivial trivial (by kernel_rfl) h
def qsc:=entS Tryz.prog lv X0 94 [] qsa qsb (fun x=>qse x.1 x.2) (fun _ _ h=>qc7 h)
def qu3:=qsc::qu2
def qrm:=(qjl (vC cStr) (qjn (vC cStr)))
def qrn:Cod (V×List B) Bool:=(cFstU (cPair (vC cBool) qjm))
def qrq (s:ByteArray) (prefix_:ByteArray):Option Bool:=fS Tryz.prog lv X0 123 qrm qrn (s,prefix_)
def qrr (s:ByteArray) (prefix_:ByteArray):Option Bool :=
 ((qs8 s prefix_).bind fun r0 =>
 (some r0))
theorem qrp {s prefix_ r} (h:qrr s prefix_=some r):qrq s prefix_=some r :=
 qc8 (es:=qu3) (hs:=[]) [] Tryz.func123 rfl (by kernel_rfl) rfl (by kernel_rfl) (by kernel_rfl) trivial trivial (by kernel_rfl) h
def qro:=entS Tryz.prog lv X0 123 [] qrm qrn (fun x=>qrq x.1 x.2) (fun _ _ h=>qc7 h)
def qtz:=qro::qu3
def qrs:=(qjl (vC cStr) (qjn (vC cStr)))
def qrt:Cod (V×List B) Bool:=(cFstU (cPair (vC cBool) qjm))
def qrw (s:ByteArray) (suffix:ByteArray):Option Bool:=fS Tryz.prog lv X0 60 qrs qrt (s,suffix)
def qrx (s:ByteArray) (suffix:ByteArray):Option Bool :=
 ((qse s suffix).bind fun r0 =>
 (some r0))
theorem qrv {s suffix r} (h:qrx s suffix=some r):qrw s suffix=some r :=
 qc8 (es:=qtz) (hs:=[]) [] Tryz.func60 rfl (by kernel_rfl) rfl (by kernel_rfl) (by kernel_rfl) trivial trivial (by kernel_rfl) h
def qru:=entS Tryz.prog lv X0 60 [] qrs qrt (fun x=>qrw x.1 x.2) (fun _ _ h=>qc7 h)
def qu0:=qru::qtz
def qdy:=(qjn (vC (cInt .u8)))
def qdz:Cod (V×List B) Bool:=(cFstU (cPair (vC cBool) qjm))
def qe2 (c:Int):Option Bool:=fS Tryz.prog lv X0 128 qdy qdz c
def qe3 (c:Int):Option Bool :=
 (brE ((decide (c≥33))==true)
 (brE ((decide (c≤126))==true)
 (some (c != 58))
 (some false))
 (some false))
theorem qe1 {c r} (h:qe3 c=some r):qe2 c=some r :=
 qc8 (es:=qu0) (hs:=[]) [] Tryz.func128 rfl (by kernel_rfl) rfl (by kernel_rfl) (by kernel_rfl) trivial trivial (by kernel_rfl) h
def qe0:=entS Tryz.prog lv X0 128 [] qdy qdz (fun x=>qe2 x) (fun _ _ h=>qc7 h)
def qtk:=qe0::qu0
def q1n:Cod (List V) (ByteArray×Unit):=(qjl (vC cStr) (qjn (vFn 128 qjm)))
def q1x:=sLS [0,1,7,8] (qjl (vC cStr) (qjl (vFn 128 qjm) (qjl (vC (cInt .i64)) (qjn (vC (cInt .i64)))))) qjm [] [] (by decide) (fun _=>rfl)
def q1w:=sLS [0,1,7,8,9] (qjl (vC cStr) (qjl (vFn 128 qjm) (qjl (vC (cInt .i64)) (qjl (vC (cInt .i64)) (qjn (vC cBool)))))) qjm [] [] (by decide) (fun _=>rfl)
def q1v:=sLS [4] (qjn (vC cBool)) qjm [] [] (by decide) (fun _=>rfl)
def q1u:=oOr 1 q1v (oAt 2 q1w) (fun x=>(by decide:(2:Nat)≠1))
def q1r (s:ByteArray) (t7:Int) (t8:Int):Option ((Bool×Unit)⊕((ByteArray×Unit×Int×Int×Bool)×Unit)):=lS Tryz.prog lv X0 61 18 (qg9 (cdF Tryz.f61) 2) q1x q1u ((s,(),t7,t8),())
def q1y (s:ByteArray) (t7:Int) (t8:Int):Option ((Bool×Unit)⊕((ByteArray×Unit×Int×Int×Bool)×Unit)) :=
 (brE (decide (t8<t7))
 (gdE ((decide (0≤t8))&&(decide ((Int.toNat t8)<s.size)))<|
 ((qe2 (((UInt8.toNat (Array.getD s.data (Int.toNat t8) (0:UInt8))):Nat):Int)).bind fun r0 =>
 (brE (!r0)
 (some (.inl (false,())))
 (q1r s t7 (IntKind.wrap .i64 (t8+1))))))
 (some (.inr ((s,((),(t7,(t8,false)))),()))))
theorem q1t {s t7 t8 r} (h:q1y s t7 t8=some r):q1r s t7 t8=some r :=
 qjp (es:=qtk) (hs:=[]) [] (by kernel_rfl) trivial trivial (by kernel_rfl) h
def q1s:=qk9 Tryz.prog lv X0 2 (qg9 (cdF Tryz.f61) 2) q1x q1u (fun x=>q1r x.1.1 x.1.2.2.1 x.1.2.2.2) (fun _ _ h=>qjo h)
def q1o:Cod (V×List B) Bool:=(cFstU (cPair (vC cBool) qjm))
def q21 (s:ByteArray):Option Bool:=fS Tryz.prog lv X0 61 q1n q1o (s,())
def q23 (s:ByteArray):Option Bool :=
 ((q1r s (s.size:Int) 0).bind fun r0 =>
 (Sum.elim (fun r1=>(some r1.1))
 (fun _r1=>(some true)) r0))
theorem q1q {s r} (h:q23 s=some r):q21 s=some r :=
 qc8 (es:=qtk) (hs:=[]) [q1s] Tryz.func61 rfl (by kernel_rfl) rfl (by kernel_rfl) (by kernel_rfl) ⟨⟨_,rfl,rfl⟩,trivial⟩ trivial (by kernel_rfl) h
def q1p:=entS Tryz.prog lv X0 61 [128] q1n q1o (fun x=>q21 x.1) (fun _ _ h=>qc7 h)
def qst:=q1p::qtk
def qe4:=(qjn (vC cStr))
def qe5:Cod (V×List B) Bool:=(cFstU (cPair (vC cBool) qjm))
def qe8 (s:ByteArray):Option Bool:=fS Tryz.prog lv X0 98 qe4 qe5 s
def qe9 (s:ByteArray):Option Bool :=
 (brE ((!(s.toList==(ByteArray.toList ⟨#[]⟩)))==true)
 (brE ((decide ((s.size:Int)≤60))==true)
 ((q21 s).bind fun r0 =>
 (some r0))
 (some false))
 (some false))
theorem qe7 {s r} (h:qe9 s=some r):qe8 s=some r :=
 qc8 (es:=qst) (hs:=[]) [] Tryz.func98 rfl (by kernel_rfl) rfl (by kernel_rfl) (by kernel_rfl) trivial trivial (by kernel_rfl) h
def qe6:=entS Tryz.prog lv X0 98 [] qe4 qe5 (fun x=>qe8 x) (fun _ _ h=>qc7 h)
def qtj:=qe6::qst
def qdq:=(qjn (vC cStr))
def qdr:Cod (V×List B) Bool:=(cFstU (cPair (vC cBool) qjm))
def qdu (s:ByteArray):Option Bool:=fS Tryz.prog lv X0 129 qdq qdr s
def qdv (s:ByteArray):Option Bool :=
 ((canyP s (ByteArray.mk (List.toArray [(13:UInt8),(10:UInt8),(0:UInt8)]))).bind fun r0 =>
 (some r0))
theorem qdt {s r} (h:qdv s=some r):qdu s=some r :=
 qc8 (es:=qtj) (hs:=[]) [] Tryz.func129 rfl (by kernel_rfl) rfl (by kernel_rfl) (by kernel_rfl) trivial trivial (by kernel_rfl) h
def qds:=entS Tryz.prog lv X0 129 [] qdq qdr (fun x=>qdu x) (fun _ _ h=>qc7 h)
def qti:=qds::qtj
def qep:=(qjn (vC cStr))
def qeq:Cod (V×List B) Bool:=(cFstU (cPair (vC cBool) qjm))
def qet (s:ByteArray):Option Bool:=fS Tryz.prog lv X0 99 qep qeq s
def qeu (s:ByteArray):Option Bool :=
 ((qdu s).bind fun r0 =>
 (brE ((!r0)==true)
 (brE ((s.toList==(ByteArray.toList ⟨#[]⟩))==false)
 (gdE ((decide ((0:Int)≤0))&&(decide ((Int.toNat 0)<s.size)))<|
 ((q42 (((UInt8.toNat (Array.getD s.data (Int.toNat 0) (0:UInt8))):Nat):Int)).bind fun r1 =>
 (brE ((!r1)==true)
 (gdE ((decide (0≤(IntKind.wrap .i64 ((s.size:Int) - 1))))&&(decide ((Int.toNat (IntKind.wrap .i64 ((s.size:Int) - 1)))<s.size)))<|
 (Option.bind (q42 (((UInt8.toNat (Array.getD s.data (Int.toNat (IntKind.wrap .i64 ((s.size:Int) - 1))) (0:UInt8))):Nat):Int)) fun r2 =>
 (some (!r2))))
 (some false))))
 (some true))
 (some false)))
theorem qes {s r} (h:qeu s=some r):qet s=some r :=
 qc8 (es:=qti) (hs:=[]) [] Tryz.func99 rfl (by kernel_rfl) rfl (by kernel_rfl) (by kernel_rfl) trivial trivial (by kernel_rfl) h
def qer:=entS Tryz.prog lv X0 99 [] qep qeq (fun x=>qet x) (fun _ _ h=>qc7 h)
def qtm:=qer::qti
def qeb:=(qjl (vC cStr) (qjn (vC (cInt .i64))))
def qel:=sLS [0,5,6] (qjl (vC cStr) (qjl (vC (cInt .i64)) (qjn (vC (cInt .i64))))) qjm [] [] (by decide) (fun _=>rfl)
def qej:=sLS [0,5,6,32] (qjl (vC cStr) (qjl (vC (cInt .i64)) (qjl (vC (cInt .i64)) (qjn (vC cBool))))) qjm [] [] (by decide) (fun _=>rfl)
def qek:SC ((ByteArray×Int×Int×Bool)×Unit):=sLS [0,5,6,12] (qjl (vC cStr) (qjl (vC (cInt .i64)) (qjl (vC (cInt .i64)) (qjn (vC cBool))))) qjm [] [] (by decide) (fun _=>rfl)
def qei:=oOrK 2 [0,5,6,12] qek (oAt 2 qej) (fun x y=>.inr (st_ne 12 (by decide:(false:Bool)≠true)))
def qef (s:ByteArray) (best:Int) (i:Int):Option (((ByteArray×Int×Int×Bool)×Unit)⊕((ByteArray×Int×Int×Bool)×Unit)):=lS Tryz.prog lv X0 100 35 (qg9 (cdF Tryz.f100) 3) qel qei ((s,best,i),())
def qem (s:ByteArray) (best:Int) (i:Int):Option (((ByteArray×Int×Int×Bool)×Unit)⊕((ByteArray×Int×Int×Bool)×Unit)) :=
 (brE (decide (i<(s.size:Int)))
 (gdE ((decide (0≤i))&&(decide ((Int.toNat i)<s.size)))<|
 ((q42 (((UInt8.toNat (Array.getD s.data (Int.toNat i) (0:UInt8))):Nat):Int)).bind fun r0 =>
 (brE ((!r0)==false)
 (gdE ((decide (0≤(IntKind.wrap .i64 (i - 1))))&&(decide ((Int.toNat (IntKind.wrap .i64 (i - 1)))<s.size)))<|
 (Option.bind (q42 (((UInt8.toNat (Array.getD s.data (Int.toNat (IntKind.wrap .i64 (i - 1))) (0:UInt8))):Nat):Int)) fun r1 =>
 (brE r1
 (qef s best (IntKind.wrap .i64 (i+1)))
 (brE ((decide (best>0))==true)
 (brE (decide (i>78))
 (some (.inr ((s,(best,(i,true))),())))
 (qef s i (IntKind.wrap .i64 (i+1))))
 (qef s i (IntKind.wrap .i64 (i+1)))))))
 (qef s best (IntKind.wrap .i64 (i+1))))))
 (some (.inl ((s,(best,(i,false))),()))))
theorem qeh {s best i r} (h:qem s best i=some r):qef s best i=some r :=
 qjp (es:=qtm) (hs:=[]) [] (by kernel_rfl) trivial trivial (by kernel_rfl) h
def qeg:=qk9 Tryz.prog lv X0 3 (qg9 (cdF Tryz.f100) 3) qel qei (fun x=>qef x.1.1 x.1.2.1 x.1.2.2) (fun _ _ h=>qjo h)
def qec:Cod (V×List B) Int:=(cFstU (cPair (vC (cInt .i64)) qjm))
def qen (s:ByteArray) (from_:Int):Option Int:=fS Tryz.prog lv X0 100 qeb qec (s,from_)
def qeo (s:ByteArray) (from_:Int):Option Int :=
 ((qef s 0 (ite (true=true) (ite (from_<1) 1 from_) (ite (1<from_) 1 from_))).bind fun r0 =>
 (Sum.elim (fun r1=>(some r1.1.2.1))
 (fun r1=>(some r1.1.2.1)) r0))
theorem qee {s from_ r} (h:qeo s from_=some r):qen s from_=some r :=
 qc8 (es:=qtm) (hs:=[]) [qeg] Tryz.func100 rfl (by kernel_rfl) rfl (by kernel_rfl) (by kernel_rfl) ⟨⟨_,rfl,rfl⟩,trivial⟩ trivial (by kernel_rfl) h
def qed:=entS Tryz.prog lv X0 100 [] qeb qec (fun x=>qen x.1 x.2) (fun _ _ h=>qc7 h)
def qtl:=qed::qtm
def q9l:EC ByteArray where
 enc x:=[.str x]
 dec c:=qrk (c.getD 0 .ne)
 is c:=isE [.str] 0 c
 enc_dec h:=q8y h
 dec_enc x:=by rfl
 is_enc x:=by simp [isE,isK]
theorem enc_9 (x:ByteArray):q9l.enc x=[.str x]:=rfl
theorem isE_9 (xs:List ByteArray) (n:Nat):isE [.str] 0 ((q9l.encL xs).getD n [])=decide (n<xs.length):=by
 by_cases h:n<xs.length
 ·simp only [EC.getD_lt _ _ h];simp [enc_9,isE,isK,h]
 ·simp only [EC.getD_ge _ _ (Nat.not_lt.1 h)];simp [isE,isK,h]
theorem qxs (xs:List ByteArray) (n:Nat):qrk (((q9l.encL xs).getD n []).getD 0 .ne)=(xs.getD n (q9l.dec [])):=by
 by_cases h:n<xs.length
 ·simp only [EC.getD_lt _ _ h];simp [enc_9,h,qrk,List.getD_eq_getElem?_getD]
 ·simp only [EC.getD_ge _ _ (Nat.not_lt.1 h)];simp [Nat.not_lt.1 h,q9l,qrk,List.getD_eq_getElem?_getD]
theorem lit_9 (a0:ByteArray):([.str a0]:List C)=q9l.enc a0:=rfl
theorem qxr (xs:List ByteArray) (a0:ByteArray):q9l.encL xs++[[.str a0]]=q9l.encL (xs++[a0]):=by rw [lit_9];simp [EC.encL]
theorem len_9 (xs:List ByteArray) (n:Nat) (h:n<xs.length):((q9l.encL xs).getD n []).length=1:=by rw [EC.getD_lt _ _ h];rfl
theorem qxp (xs:List ByteArray):(q9l.encL xs).all (fun (el:List C)=>el.length==1)=true:=by induction xs with|nil=>rfl|cons x xs ih=>first|(simp [EC.encL,enc_9];done)|simpa [EC.encL,enc_9] using ih
def qd4:=(qjl (vC cStr) (qjn (vC cStr)))
def qdm:=sLS [5,6,7,8] (qjl (vPtr 0 0) (qjl (vC cStr) (qjl (vC (cInt .i64)) (qjn (vRow 1))))) (qjl (qmx (bBox (qjl (vC (cInt .i64)) (qjn (vC (cInt .i64)))))) (qjn (qmx (bRow q9l)))) [false,false] [] (by decide) (fun _=>rfl)
def qdk:=sLS [5,6,8,9,41] (qjl (vPtr 0 0) (qjl (vC cStr) (qjl (vRow 1) (qjl (vC (cInt .i64)) (qjn (vC cBool)))))) (qjl (qmx (bBox (qjl (vC (cInt .i64)) (qjn (vC (cInt .i64)))))) (qjn (qmx (bRow q9l)))) [false,false] [] (by decide) (fun _=>rfl)
def qdl:SC ((Unit×ByteArray×Int×Nat×Bool)×((Int×Int)×(List ByteArray))):=sLS [5,6,7,8,36] (qjl (vPtr 0 0) (qjl (vC cStr) (qjl (vC (cInt .i64)) (qjl (vRow 1) (qjn (vC cBool)))))) (qjl (qmx (bBox (qjl (vC (cInt .i64)) (qjn (vC (cInt .i64)))))) (qjn (qmx (bRow q9l)))) [false,false] [] (by decide) (fun _=>rfl)
def qdj:=oOrK 3 [5,6,7,8,36] qdl (oAt 3 qdk) (fun x y=>.inr (st_ne 7 (by decide:(false:Bool)≠true)))
def qdg (rest:ByteArray) (from_:Int) (out:Nat) (b0:Int) (b0_1:Int) (b1:(List ByteArray)):Option (((Unit×ByteArray×Int×Nat×Bool)×((Int×Int)×(List ByteArray)))⊕((Unit×ByteArray×Nat×Int×Bool)×((Int×Int)×(List ByteArray)))):=lS Tryz.prog lv X0 67 70 (qg9 (cdF Tryz.f67) 9) qdm qdj (((),rest,from_,out),((b0,b0_1),b1))
def qdn (rest:ByteArray) (from_:Int) (out:Nat) (b0:Int) (b0_1:Int) (b1:(List ByteArray)):Option (((Unit×ByteArray×Int×Nat×Bool)×((Int×Int)×(List ByteArray)))⊕((Unit×ByteArray×Nat×Int×Bool)×((Int×Int)×(List ByteArray)))) :=
 (brE (decide ((rest.size:Int)>78))
 ((qen rest from_).bind fun r0 =>
 (brE (r0==0)
 (gdE (EC.isL q9l (EC.encL q9l b1))<|
 (some (.inr (((),(rest,(out,(r0,true)))),((b0,b0_1),(EC.decL q9l (EC.encL q9l b1)))))))
 (gdE ((decide (0≤r0))&&(decide (r0≤(rest.size:Int))))<|
 (gdE ((((List.all [[(C.str (ByteArray.extract rest 0 (Int.toNat r0)))]] (fun (el:(List C))=>((List.length el)==1)))&&(List.all (EC.encL q9l b1) (fun (el:(List C))=>((List.length el)==1))))&&(decide (((((out+(List.length [[(C.str (ByteArray.extract rest 0 (Int.toNat r0)))]]))+((out+(List.length [[(C.str (ByteArray.extract rest 0 (Int.toNat r0)))]])) / 4))+192)*16)≤281474976710656)))&&(decide ((out+(List.length [[(C.str (ByteArray.extract rest 0 (Int.toNat r0)))]]))≤9223372036854775807)))<|
 (gdE ((decide (0≤r0))&&(decide (r0≤(rest.size:Int))))<|
 (gdE (EC.isL q9l ((EC.encL q9l b1)++[[(C.str (ByteArray.extract rest 0 (Int.toNat r0)))]]))<|
 (qdg (ByteArray.extract rest (Int.toNat r0) rest.size) 0 (out+(List.length [[(C.str (ByteArray.extract rest 0 (Int.toNat r0)))]])) b0 b0_1 (EC.decL q9l ((EC.encL q9l b1)++[[(C.str (ByteArray.extract rest 0 (Int.toNat r0)))]])))))))))
 (gdE (EC.isL q9l (EC.encL q9l b1))<|
 (some (.inl (((),(rest,(from_,(out,false)))),((b0,b0_1),(EC.decL q9l (EC.encL q9l b1))))))))
theorem qdi {rest from_ out b0 b0_1 b1 r} (h:qdn rest from_ out b0 b0_1 b1=some r):qdg rest from_ out b0 b0_1 b1=some r :=
 qjp (es:=qtl) (hs:=[]) [] (by kernel_rfl) trivial trivial (by kernel_rfl) h
def qdh:=qk9 Tryz.prog lv X0 9 (qg9 (cdF Tryz.f67) 9) qdm qdj (fun x=>qdg x.1.2.1 x.1.2.2.1 x.1.2.2.2 x.2.1.1 x.2.1.2 x.2.2) (fun _ _ h=>qjo h)
def qde:=sLS [5,8,55,56,57] (qjl (vPtr 0 0) (qjl (vRow 1) (qjl (vRow 1) (qjl (vC (cInt .i64)) (qjn (vC (cInt .i64))))))) (qjl (qmx (bBox (qjl (vC (cInt .i64)) (qjn (vC (cInt .i64)))))) (qjn (qmx (bRow q9l)))) [false,false] [] (by decide) (fun _=>rfl)
def qdd:=sLS [5,8,55,56,57,58] (qjl (vPtr 0 0) (qjl (vRow 1) (qjl (vRow 1) (qjl (vC (cInt .i64)) (qjl (vC (cInt .i64)) (qjn (vC cBool))))))) (qjl (qmx (bBox (qjl (vC (cInt .i64)) (qjn (vC (cInt .i64)))))) (qjn (qmx (bRow q9l)))) [false,false] [] (by decide) (fun _=>rfl)
def qdc:=sLS [4,5] (qjl (vRow 0) (qjn (vPtr 1 0))) (qjl (qmx (bRow q9l)) (qjn (qmx (bBox (qjl (vC (cInt .i64)) (qjn (vC (cInt .i64)))))))) [false,false] [] (by decide) (fun _=>rfl)
def qdb:=oOr 1 qdc (oAt 5 qdd) (fun x=>(by decide:(5:Nat)≠1))
def qd8 (out:Nat) (t55:Nat) (t56:Int) (t57:Int) (b0:Int) (b0_1:Int) (b1:(List ByteArray)):Option (((Nat×Unit)×((List ByteArray)×(Int×Int)))⊕((Unit×Nat×Nat×Int×Int×Bool)×((Int×Int)×(List ByteArray)))):=lS Tryz.prog lv X0 67 70 (qg9 (cdF Tryz.f67) 16) qde qdb (((),out,t55,t56,t57),((b0,b0_1),b1))
def qdf (out:Nat) (t55:Nat) (t56:Int) (t57:Int) (b0:Int) (b0_1:Int) (b1:(List ByteArray)):Option (((Nat×Unit)×((List ByteArray)×(Int×Int)))⊕((Unit×Nat×Nat×Int×Int×Bool)×((Int×Int)×(List ByteArray)))) :=
 (brE (decide (t57<t56))
 (gdE ((decide (0≤t57))&&(decide (t57<((t55:Nat):Int))))<|
 (gdE ((decide ((Int.toNat t57)<(List.length (EC.encL q9l b1))))&&((List.length (List.getD (EC.encL q9l b1) (Int.toNat t57) []))==1))<|
 (gdE (isP [K1.str] 0 (List.getD (EC.encL q9l b1) (Int.toNat t57) []))<|
 (brE (decide ((((ByteArray.size (qrk (List.getD (List.getD (EC.encL q9l b1) (Int.toNat t57) []) 0 C.ne))):Nat):Int)>998))
 ((q4s 1 t57).bind fun r0 =>
 (some (.inl ((0,()),((EC.decL q9l []),(r0.1,r0.2))))))
 (gdE (EC.isL q9l (EC.encL q9l b1))<|
 (qd8 out t55 t56 (IntKind.wrap .i64 (t57+1)) b0 b0_1 (EC.decL q9l (EC.encL q9l b1))))))))
 (gdE (EC.isL q9l (EC.encL q9l b1))<|
 (some (.inr (((),(out,(t55,(t56,(t57,false))))),((b0,b0_1),(EC.decL q9l (EC.encL q9l b1))))))))
theorem qda {out t55 t56 t57 b0 b0_1 b1 r} (h:qdf out t55 t56 t57 b0 b0_1 b1=some r):qd8 out t55 t56 t57 b0 b0_1 b1=some r :=
 qjp (es:=qtl) (hs:=[]) [] (by kernel_rfl) trivial trivial (by kernel_rfl) h
def qd9:=qk9 Tryz.prog lv X0 16 (qg9 (cdF Tryz.f67) 16) qde qdb (fun x=>qd8 x.1.2.1 x.1.2.2.1 x.1.2.2.2.1 x.1.2.2.2.2 x.2.1.1 x.2.1.2 x.2.2) (fun _ _ h=>qjo h)
def qd5:Cod (V×List B) ((Nat×(Int×Int))×(List ByteArray)):=(cPair (vTup (qjl (vRow 0) (qjn (vAgg (qjl (vC (cInt .i64)) (qjn (vC (cInt .i64)))))))) (qjn (bRow q9l)))
def qdo (n:ByteArray) (v:ByteArray):Option ((Nat×(Int×Int))×(List ByteArray)):=fS Tryz.prog lv X0 67 qd4 qd5 (n,v)
def qdp (n:ByteArray) (v:ByteArray):Option ((Nat×(Int×Int))×(List ByteArray)) :=
 ((qe8 n).bind fun r0 =>
 (brE (!r0)
 ((q4s 10 (-1)).bind fun r1 =>
 (some ((0,(r1.1,r1.2)),(EC.decL q9l []))))
 (brE (decide ((v.size:Int)>4000))
 ((q4s 1 (-1)).bind fun r1 =>
 (some ((0,(r1.1,r1.2)),(EC.decL q9l []))))
 ((qet v).bind fun r1 =>
 (brE (!r1)
 ((q4s 11 (-1)).bind fun r2 =>
 (some ((0,(r2.1,r2.2)),(EC.decL q9l []))))
 (brE (decide ((((n.size+(ByteArray.size (ByteArray.mk (List.toArray [(58:UInt8),(32:UInt8)])))):Nat):Int)>(Go.IntKind.max Go.IntKind.i64)))
 none
 (brE (decide (((((ByteArray.size (n++(ByteArray.mk (List.toArray [(58:UInt8),(32:UInt8)]))))+v.size):Nat):Int)>(Go.IntKind.max Go.IntKind.i64)))
 none
 ((qdg ((n++(ByteArray.mk (List.toArray [(58:UInt8),(32:UInt8)])))++v) (IntKind.wrap .i64 ((n.size:Int)+2)) 0 0 0 (EC.decL q9l [])).bind fun r2 =>
 (Sum.elim (fun r3=>(gdE ((((List.all [[(C.str r3.1.2.1)]] (fun (el:(List C))=>((List.length el)==1)))&&(List.all (EC.encL q9l r3.2.2) (fun (el:(List C))=>((List.length el)==1))))&&(decide (((((r3.1.2.2.2.1+(List.length [[(C.str r3.1.2.1)]]))+((r3.1.2.2.2.1+(List.length [[(C.str r3.1.2.1)]])) / 4))+192)*16)≤281474976710656)))&&(decide ((r3.1.2.2.2.1+(List.length [[(C.str r3.1.2.1)]]))≤9223372036854775807)))<|
 (gdE (EC.isL q9l ((EC.encL q9l r3.2.2)++[[(C.str r3.1.2.1)]]))<|
 ((qd8 (r3.1.2.2.2.1+(List.length [[(C.str r3.1.2.1)]])) (r3.1.2.2.2.1+(List.length [[(C.str r3.1.2.1)]])) (((r3.1.2.2.2.1+(List.length [[(C.str r3.1.2.1)]])):Nat):Int) 0 r3.2.1.1 r3.2.1.2 (EC.decL q9l ((EC.encL q9l r3.2.2)++[[(C.str r3.1.2.1)]]))).bind fun r4 =>
 (Sum.elim (fun r5=>(gdE (EC.isL q9l (EC.encL q9l r5.2.1))<|
 (some ((r5.1.1,(r5.2.2.1,r5.2.2.2)),(EC.decL q9l (EC.encL q9l r5.2.1))))))
 (fun r5=>(Option.bind q5t fun r6 =>
 (gdE (EC.isL q9l (EC.encL q9l r5.2.2))<|
 (some ((r5.1.2.1,(r6.1,r6.2)),(EC.decL q9l (EC.encL q9l r5.2.2))))))) r4)))))
 (fun r3=>(gdE ((((List.all [[(C.str r3.1.2.1)]] (fun (el:(List C))=>((List.length el)==1)))&&(List.all (EC.encL q9l r3.2.2) (fun (el:(List C))=>((List.length el)==1))))&&(decide (((((r3.1.2.2.1+(List.length [[(C.str r3.1.2.1)]]))+((r3.1.2.2.1+(List.length [[(C.str r3.1.2.1)]])) / 4))+192)*16)≤281474976710656)))&&(decide ((r3.1.2.2.1+(List.length [[(C.str r3.1.2.1)]]))≤9223372036854775807)))<|
 (gdE (EC.isL q9l ((EC.encL q9l r3.2.2)++[[(C.str r3.1.2.1)]]))<|
 ((qd8 (r3.1.2.2.1+(List.length [[(C.str r3.1.2.1)]])) (r3.1.2.2.1+(List.length [[(C.str r3.1.2.1)]])) (((r3.1.2.2.1+(List.length [[(C.str r3.1.2.1)]])):Nat):Int) 0 r3.2.1.1 r3.2.1.2 (EC.decL q9l ((EC.encL q9l r3.2.2)++[[(C.str r3.1.2.1)]]))).bind fun r4 =>
 (Sum.elim (fun r5=>(gdE (EC.isL q9l (EC.encL q9l r5.2.1))<|
 (some ((r5.1.1,(r5.2.2.1,r5.2.2.2)),(EC.decL q9l (EC.encL q9l r5.2.1))))))
 (fun r5=>(Option.bind q5t fun r6 =>
 (gdE (EC.isL q9l (EC.encL q9l r5.2.2))<|
 (some ((r5.1.2.1,(r6.1,r6.2)),(EC.decL q9l (EC.encL q9l r5.2.2))))))) r4))))) r2)))))))))
theorem qd7 {n v r} (h:qdp n v=some r):qdo n v=some r :=
 qc8 (es:=qtl) (hs:=[]) [qdh,qd9] Tryz.func67 rfl (by kernel_rfl) rfl (by kernel_rfl) (by kernel_rfl) ⟨⟨_,rfl,rfl⟩,⟨_,rfl,rfl⟩,trivial⟩ trivial (by kernel_rfl) h
def qd6:=entS Tryz.prog lv X0 67 [] qd4 qd5 (fun x=>qdo x.1 x.2) (fun _ _ h=>qc7 h)
def qth:=qd6::qtl
structure S57 where
 Name:ByteArray
 Value:ByteArray
def q9j:EC S57 where
 enc x:=[.str x.Name,.str x.Value]
 dec c:=⟨qrk (c.getD 0 .ne),qrk (c.getD 1 .ne)⟩
 is c:=isE [.str,.str] 0 c
 enc_dec h:=q8y h
 dec_enc x:=by rfl
 is_enc x:=by simp [isE,isK]
theorem enc_57 (x:S57):q9j.enc x=[.str x.Name,.str x.Value]:=rfl
theorem qy8 (xs:List S57) (n:Nat):isE [.str,.str] 0 ((q9j.encL xs).getD n [])=decide (n<xs.length):=by
 by_cases h:n<xs.length
 ·simp only [EC.getD_lt _ _ h];simp [enc_57,isE,isK,h]
 ·simp only [EC.getD_ge _ _ (Nat.not_lt.1 h)];simp [isE,isK,h]
theorem q3p (xs:List S57) (n:Nat):qrk (((q9j.encL xs).getD n []).getD 0 .ne)=(xs.getD n (q9j.dec [])).Name:=by
 by_cases h:n<xs.length
 ·simp only [EC.getD_lt _ _ h];simp [enc_57,h,qrk,List.getD_eq_getElem?_getD]
 ·simp only [EC.getD_ge _ _ (Nat.not_lt.1 h)];simp [Nat.not_lt.1 h,q9j,qrk,List.getD_eq_getElem?_getD]
theorem q3q (xs:List S57) (n:Nat):qrk (((q9j.encL xs).getD n []).getD 1 .ne)=(xs.getD n (q9j.dec [])).Value:=by
 by_cases h:n<xs.length
 ·simp only [EC.getD_lt _ _ h];simp [enc_57,h,qrk,List.getD_eq_getElem?_getD]
 ·simp only [EC.getD_ge _ _ (Nat.not_lt.1 h)];simp [Nat.not_lt.1 h,q9j,qrk,List.getD_eq_getElem?_getD]
def qh4:=(qjn (vC (cSl q9j)))
def qhe:=sLS [2,11,12,13] (qjl (vPtr 0 0) (qjl (vC (cSl q9j)) (qjl (vC (cInt .i64)) (qjn (vC (cInt .i64)))))) (qjn (qmx (bBox (qjl (vC (cInt .i64)) (qjn (vC (cInt .i64))))))) [false] [] (by decide) (fun _=>rfl)
def qhd:=sLS [2,11,12,13,14] (qjl (vPtr 0 0) (qjl (vC (cSl q9j)) (qjl (vC (cInt .i64)) (qjl (vC (cInt .i64)) (qjn (vC cBool)))))) (qjn (qmx (bBox (qjl (vC (cInt .i64)) (qjn (vC (cInt .i64))))))) [false] [] (by decide) (fun _=>rfl)
def qhc:=sLS [2] (qjn (vPtr 0 0)) (qjn (qmx (bBox (qjl (vC (cInt .i64)) (qjn (vC (cInt .i64))))))) [false] [] (by decide) (fun _=>rfl)
def qhb:=oOr 1 qhc (oAt 2 qhd) (fun x=>(by decide:(2:Nat)≠1))
def qh8 (t11:(List S57)) (t12:Int) (t13:Int) (b0:Int) (b0_1:Int):Option ((Unit×(Int×Int))⊕((Unit×(List S57)×Int×Int×Bool)×(Int×Int))):=lS Tryz.prog lv X0 38 34 (qg9 (cdF Tryz.f38) 4) qhe qhb (((),t11,t12,t13),(b0,b0_1))
def qhf (t11:(List S57)) (t12:Int) (t13:Int) (b0:Int) (b0_1:Int):Option ((Unit×(Int×Int))⊕((Unit×(List S57)×Int×Int×Bool)×(Int×Int))) :=
 (brE (decide (t13<t12))
 (gdE (decide (0≤t13))<|
 (gdE ((decide ((Int.toNat t13)<(List.length (EC.encL q9j t11))))&&(isE [K1.str,K1.str] 0 (List.getD (EC.encL q9j t11) (Int.toNat t13) [])))<|
 ((qdo (qrk (List.getD (List.getD (EC.encL q9j t11) (Int.toNat t13) []) 0 C.ne)) (qrk (List.getD (List.getD (EC.encL q9j t11) (Int.toNat t13) []) 1 C.ne))).bind fun r0 =>
 ((q4m r0.1.2.1 r0.1.2.2).bind fun r1 =>
 (brE r1
 ((q4s r0.1.2.1 t13).bind fun r2 =>
 (some (.inl ((),(r2.1,r2.2)))))
 (gdE (EC.isL q9j (EC.encL q9j t11))<|
 (qh8 (EC.decL q9j (EC.encL q9j t11)) t12 (IntKind.wrap .i64 (t13+1)) b0 b0_1)))))))
 (gdE (EC.isL q9j (EC.encL q9j t11))<|
 (some (.inr (((),((EC.decL q9j (EC.encL q9j t11)),(t12,(t13,false)))),(b0,b0_1))))))
theorem qha {t11 t12 t13 b0 b0_1 r} (h:qhf t11 t12 t13 b0 b0_1=some r):qh8 t11 t12 t13 b0 b0_1=some r :=
 qjp (es:=qth) (hs:=[]) [] (by kernel_rfl) trivial trivial (by kernel_rfl) h
def qh9:=qk9 Tryz.prog lv X0 4 (qg9 (cdF Tryz.f38) 4) qhe qhb (fun x=>qh8 x.1.2.1 x.1.2.2.1 x.1.2.2.2 x.2.1 x.2.2) (fun _ _ h=>qjo h)
def qh5:Cod (V×List B) (Int×Int):=(cFstU (cPair (vAgg (qjl (vC (cInt .i64)) (qjn (vC (cInt .i64))))) qjm))
def qhg (l:(List S57)):Option (Int×Int):=fS Tryz.prog lv X0 38 qh4 qh5 l
def qhh (l:(List S57)):Option (Int×Int) :=
 (brE (decide ((List.length (EC.encL q9j l):Int)>60))
 ((q4s 2 (-1)).bind fun r0 =>
 (some (r0.1,r0.2)))
 (gdE (EC.isL q9j (EC.encL q9j l))<|
 ((qh8 (EC.decL q9j (EC.encL q9j l)) (List.length (EC.encL q9j l):Int) 0 0 0).bind fun r0 =>
 (Sum.elim (fun r1=>(some (r1.2.1,r1.2.2)))
 (fun _r1=>(Option.bind q5t fun r2 =>
 (some (r2.1,r2.2)))) r0))))
theorem qh7 {l r} (h:qhh l=some r):qhg l=some r :=
 qc8 (es:=qth) (hs:=[]) [qh9] Tryz.func38 rfl (by kernel_rfl) rfl (by kernel_rfl) (by kernel_rfl) ⟨⟨_,rfl,rfl⟩,trivial⟩ trivial (by kernel_rfl) h
def qh6:=entS Tryz.prog lv X0 38 [] qh4 qh5 (fun x=>qhg x) (fun _ _ h=>qc7 h)
def qtp:=qh6::qth
def qhi:=(qjn (vC cStr))
def qhj:Cod (V×List B) Bool:=(cFstU (cPair (vC cBool) qjm))
def qhm (s:ByteArray):Option Bool:=fS Tryz.prog lv X0 93 qhi qhj s
def qhn (s:ByteArray):Option Bool :=
 ((qdo s ⟨#[]⟩).bind fun r0 =>
 ((q4m r0.1.2.1 r0.1.2.2).bind fun r1 =>
 (some (!r1))))
theorem qhl {s r} (h:qhn s=some r):qhm s=some r :=
 qc8 (es:=qtp) (hs:=[]) [] Tryz.func93 rfl (by kernel_rfl) rfl (by kernel_rfl) (by kernel_rfl) trivial trivial (by kernel_rfl) h
def qhk:=entS Tryz.prog lv X0 93 [] qhi qhj (fun x=>qhm x) (fun _ _ h=>qc7 h)
def qtq:=qhk::qtp
def qho:=(qjl (vC (cSl q9j)) (qjn (vC cStr)))
def qhp:Cod (V×List B) (Int×Int):=(cFstU (cPair (vAgg (qjl (vC (cInt .i64)) (qjn (vC (cInt .i64))))) qjm))
def qhs (l:(List S57)) (n:ByteArray):Option (Int×Int):=fS Tryz.prog lv X0 55 qho qhp (l,n)
def qht (l:(List S57)) (n:ByteArray):Option (Int×Int) :=
 (gdE (EC.isL q9j (EC.encL q9j l))<|
 ((qhg (EC.decL q9j (EC.encL q9j l))).bind fun r0 =>
 ((q4m r0.1 r0.2).bind fun r1 =>
 (brE r1
 (some (r0.1,r0.2))
 ((qhm n).bind fun r2 =>
 (brE (!r2)
 ((q4s 10 (-3)).bind fun r3 =>
 (some (r3.1,r3.2)))
 (Option.bind q5t fun r3 =>
 (some (r3.1,r3.2)))))))))
theorem qhr {l n r} (h:qht l n=some r):qhs l n=some r :=
 qc8 (es:=qtq) (hs:=[]) [] Tryz.func55 rfl (by kernel_rfl) rfl (by kernel_rfl) (by kernel_rfl) trivial trivial (by kernel_rfl) h
def qhq:=entS Tryz.prog lv X0 55 [] qho qhp (fun x=>qhs x.1 x.2) (fun _ _ h=>qc7 h)
def qtr:=qhq::qtq
def qgr:=(qjl (vC (cSl q9j)) (qjn (vC cStr)))
def qh0:=sLS [1,5,7,16,17,18] (qjl (vC cStr) (qjl (vPtr 0 0) (qjl (vRow 1) (qjl (vC (cSl q9j)) (qjl (vC (cInt .i64)) (qjn (vC (cInt .i64)))))))) (qjl (qmx (bBox (qjl (vC (cInt .i64)) (qjn (vC (cInt .i64)))))) (qjn (qmx (bRow q9l)))) [false,false] [] (by decide) (fun _=>rfl)
def qgz:=sLS [1,5,7,16,17,18,19] (qjl (vC cStr) (qjl (vPtr 0 0) (qjl (vRow 1) (qjl (vC (cSl q9j)) (qjl (vC (cInt .i64)) (qjl (vC (cInt .i64)) (qjn (vC cBool)))))))) (qjl (qmx (bBox (qjl (vC (cInt .i64)) (qjn (vC (cInt .i64)))))) (qjn (qmx (bRow q9l)))) [false,false] [] (by decide) (fun _=>rfl)
def qgy:=oAt 2 qgz
def qgv (n:ByteArray) (out:Nat) (t16:(List S57)) (t17:Int) (t18:Int) (b0:Int) (b0_1:Int) (b1:(List ByteArray)):Option ((ByteArray×Unit×Nat×(List S57)×Int×Int×Bool)×((Int×Int)×(List ByteArray))):=lS Tryz.prog lv X0 31 34 (qg9 (cdF Tryz.f31) 6) qh0 qgy ((n,(),out,t16,t17,t18),((b0,b0_1),b1))
def qh1 (n:ByteArray) (out:Nat) (t16:(List S57)) (t17:Int) (t18:Int) (b0:Int) (b0_1:Int) (b1:(List ByteArray)):Option ((ByteArray×Unit×Nat×(List S57)×Int×Int×Bool)×((Int×Int)×(List ByteArray))) :=
 (brE (decide (t18<t17))
 (gdE (decide (0≤t18))<|
 (gdE ((decide ((Int.toNat t18)<(List.length (EC.encL q9j t16))))&&(isE [K1.str,K1.str] 0 (List.getD (EC.encL q9j t16) (Int.toNat t18) [])))<|
 ((q5z (qrk (List.getD (List.getD (EC.encL q9j t16) (Int.toNat t18) []) 0 C.ne)) n).bind fun r0 =>
 (brE r0
 (gdE ((((List.all [[(C.str (qrk (List.getD (List.getD (EC.encL q9j t16) (Int.toNat t18) []) 1 C.ne)))]] (fun (el:(List C))=>((List.length el)==1)))&&(List.all (EC.encL q9l b1) (fun (el:(List C))=>((List.length el)==1))))&&(decide (((((out+(List.length [[(C.str (qrk (List.getD (List.getD (EC.encL q9j t16) (Int.toNat t18) []) 1 C.ne)))]]))+((out+(List.length [[(C.str (qrk (List.getD (List.getD (EC.encL q9j t16) (Int.toNat t18) []) 1 C.ne)))]])) / 4))+192)*16)≤281474976710656)))&&(decide ((out+(List.length [[(C.str (qrk (List.getD (List.getD (EC.encL q9j t16) (Int.toNat t18) []) 1 C.ne)))]]))≤9223372036854775807)))<|
 (gdE (EC.isL q9j (EC.encL q9j t16))<|
 (gdE (EC.isL q9l ((EC.encL q9l b1)++[[(C.str (qrk (List.getD (List.getD (EC.encL q9j t16) (Int.toNat t18) []) 1 C.ne)))]]))<|
 (qgv n (out+(List.length [[(C.str (qrk (List.getD (List.getD (EC.encL q9j t16) (Int.toNat t18) []) 1 C.ne)))]])) (EC.decL q9j (EC.encL q9j t16)) t17 (IntKind.wrap .i64 (t18+1)) b0 b0_1 (EC.decL q9l ((EC.encL q9l b1)++[[(C.str (qrk (List.getD (List.getD (EC.encL q9j t16) (Int.toNat t18) []) 1 C.ne)))]]))))))
 (gdE (EC.isL q9j (EC.encL q9j t16))<|
 (gdE (EC.isL q9l (EC.encL q9l b1))<|
 (qgv n out (EC.decL q9j (EC.encL q9j t16)) t17 (IntKind.wrap .i64 (t18+1)) b0 b0_1 (EC.decL q9l (EC.encL q9l b1)))))))))
 (gdE (EC.isL q9j (EC.encL q9j t16))<|
 (gdE (EC.isL q9l (EC.encL q9l b1))<|
 (some ((n,((),(out,((EC.decL q9j (EC.encL q9j t16)),(t17,(t18,false)))))),((b0,b0_1),(EC.decL q9l (EC.encL q9l b1))))))))
theorem qgx {n out t16 t17 t18 b0 b0_1 b1 r} (h:qh1 n out t16 t17 t18 b0 b0_1 b1=some r):qgv n out t16 t17 t18 b0 b0_1 b1=some r :=
 qjp (es:=qtr) (hs:=[]) [] (by kernel_rfl) trivial trivial (by kernel_rfl) h
def qgw:=qk9 Tryz.prog lv X0 6 (qg9 (cdF Tryz.f31) 6) qh0 qgy (fun x=>qgv x.1.1 x.1.2.2.1 x.1.2.2.2.1 x.1.2.2.2.2.1 x.1.2.2.2.2.2 x.2.1.1 x.2.1.2 x.2.2) (fun _ _ h=>qjo h)
def qgs:Cod (V×List B) ((Nat×(Int×Int))×(List ByteArray)):=(cPair (vTup (qjl (vRow 0) (qjn (vAgg (qjl (vC (cInt .i64)) (qjn (vC (cInt .i64)))))))) (qjn (bRow q9l)))
def qh2 (l:(List S57)) (n:ByteArray):Option ((Nat×(Int×Int))×(List ByteArray)):=fS Tryz.prog lv X0 31 qgr qgs (l,n)
def qh3 (l:(List S57)) (n:ByteArray):Option ((Nat×(Int×Int))×(List ByteArray)) :=
 (gdE (EC.isL q9j (EC.encL q9j l))<|
 ((qhs (EC.decL q9j (EC.encL q9j l)) n).bind fun r0 =>
 ((q4m r0.1 r0.2).bind fun r1 =>
 (brE r1
 (some ((0,(r0.1,r0.2)),(EC.decL q9l [])))
 (gdE (EC.isL q9j (EC.encL q9j l))<|
 ((qgv n 0 (EC.decL q9j (EC.encL q9j l)) (List.length (EC.encL q9j l):Int) 0 0 0 (EC.decL q9l [])).bind fun r2 =>
 (Option.bind q5t fun r3 =>
 (gdE (EC.isL q9l (EC.encL q9l r2.2.2))<|
 (some ((r2.1.2.2.1,(r3.1,r3.2)),(EC.decL q9l (EC.encL q9l r2.2.2))))))))))))
theorem qgu {l n r} (h:qh3 l n=some r):qh2 l n=some r :=
 qc8 (es:=qtr) (hs:=[]) [qgw] Tryz.func31 rfl (by kernel_rfl) rfl (by kernel_rfl) (by kernel_rfl) ⟨⟨_,rfl,rfl⟩,trivial⟩ trivial (by kernel_rfl) h
def qgt:=entS Tryz.prog lv X0 31 [] qgr qgs (fun x=>qh2 x.1 x.2) (fun _ _ h=>qc7 h)
def qto:=qgt::qtr
def qln:=(qjn (vAgg (qjl (vC (cSl q9j)) (qjn (vC (cSl q9i))))))
def qm3:=sLS [1,3,11,12,13,25,26,27] (qjl (vPtr 0 0) (qjl (vRow 1) (qjl (vC (cSl q9j)) (qjl (vC (cInt .i64)) (qjl (vC (cInt .i64)) (qjl (vRow 2) (qjl (vC (cInt .i64)) (qjn (vC (cInt .i64)))))))))) (qjl (qmx (bBox (qjl (vC (cSl q9j)) (qjn (vC (cSl q9i)))))) (qjl (qmx (bRow q9i)) (qjn (qmx (bRow q9l))))) [false,false,false] [] (by decide) (fun _=>rfl)
def qm2:=sLS [1,3,11,12,13,25,26,27,28] (qjl (vPtr 0 0) (qjl (vRow 1) (qjl (vC (cSl q9j)) (qjl (vC (cInt .i64)) (qjl (vC (cInt .i64)) (qjl (vRow 2) (qjl (vC (cInt .i64)) (qjl (vC (cInt .i64)) (qjn (vC cBool)))))))))) (qjl (qmx (bBox (qjl (vC (cSl q9j)) (qjn (vC (cSl q9i)))))) (qjl (qmx (bRow q9i)) (qjn (qmx (bRow q9l))))) [false,false,false] [] (by decide) (fun _=>rfl)
def qm1:=oAt 4 qm2
def qly (out:Nat) (t11:(List S57)) (t12:Int) (t13:Int) (t25:Nat) (t26:Int) (t27:Int) (b0:(List S57)) (b0_1:(List Int)) (b1:(List Int)) (b2:(List ByteArray)):Option ((Unit×Nat×(List S57)×Int×Int×Nat×Int×Int×Bool)×(((List S57)×(List Int))×(List Int)×(List ByteArray))):=lS Tryz.prog lv X0 39 44 (qg9 (cdF Tryz.f39) 7) qm3 qm1 (((),out,t11,t12,t13,t25,t26,t27),((b0,b0_1),b1,b2))
def qm4 (out:Nat) (t11:(List S57)) (t12:Int) (t13:Int) (t25:Nat) (t26:Int) (t27:Int) (b0:(List S57)) (b0_1:(List Int)) (b1:(List Int)) (b2:(List ByteArray)):Option ((Unit×Nat×(List S57)×Int×Int×Nat×Int×Int×Bool)×(((List S57)×(List Int))×(List Int)×(List ByteArray))) :=
 (brE (decide (t27<t26))
 (gdE ((decide (0≤t27))&&(decide (t27<((t25:Nat):Int))))<|
 (gdE ((decide ((Int.toNat t27)<(List.length (EC.encL q9l b2))))&&((List.length (List.getD (EC.encL q9l b2) (Int.toNat t27) []))==1))<|
 (gdE (isP [K1.str] 0 (List.getD (EC.encL q9l b2) (Int.toNat t27) []))<|
 (gdE ((((List.all (List.map (fun (b:UInt8)=>[(byteC b)]) (Array.toList (ByteArray.data (qrk (List.getD (List.getD (EC.encL q9l b2) (Int.toNat t27) []) 0 C.ne))))) (fun (el:(List C))=>((List.length el)==1)))&&(List.all (EC.encL q9i b1) (fun (el:(List C))=>((List.length el)==1))))&&(decide (((((out+(List.length (List.map (fun (b:UInt8)=>[(byteC b)]) (Array.toList (ByteArray.data (qrk (List.getD (List.getD (EC.encL q9l b2) (Int.toNat t27) []) 0 C.ne)))))))+((out+(List.length (List.map (fun (b:UInt8)=>[(byteC b)]) (Array.toList (ByteArray.data (qrk (List.getD (List.getD (EC.encL q9l b2) (Int.toNat t27) []) 0 C.ne))))))) / 4))+192)*1)≤281474976710656)))&&(decide ((out+(List.length (List.map (fun (b:UInt8)=>[(byteC b)]) (Array.toList (ByteArray.data (qrk (List.getD (List.getD (EC.encL q9l b2) (Int.toNat t27) []) 0 C.ne)))))))≤9223372036854775807)))<|
 (gdE ((((List.all [[(C.int Go.IntKind.u8 13)],[(C.int Go.IntKind.u8 10)]] (fun (el:(List C))=>((List.length el)==1)))&&(List.all ((EC.encL q9i b1)++(List.map (fun (b:UInt8)=>[(byteC b)]) (Array.toList (ByteArray.data (qrk (List.getD (List.getD (EC.encL q9l b2) (Int.toNat t27) []) 0 C.ne)))))) (fun (el:(List C))=>((List.length el)==1))))&&(decide ((((((out+(List.length (List.map (fun (b:UInt8)=>[(byteC b)]) (Array.toList (ByteArray.data (qrk (List.getD (List.getD (EC.encL q9l b2) (Int.toNat t27) []) 0 C.ne)))))))+(List.length [[(C.int Go.IntKind.u8 13)],[(C.int Go.IntKind.u8 10)]]))+(((out+(List.length (List.map (fun (b:UInt8)=>[(byteC b)]) (Array.toList (ByteArray.data (qrk (List.getD (List.getD (EC.encL q9l b2) (Int.toNat t27) []) 0 C.ne)))))))+(List.length [[(C.int Go.IntKind.u8 13)],[(C.int Go.IntKind.u8 10)]])) / 4))+192)*1)≤281474976710656)))&&(decide (((out+(List.length (List.map (fun (b:UInt8)=>[(byteC b)]) (Array.toList (ByteArray.data (qrk (List.getD (List.getD (EC.encL q9l b2) (Int.toNat t27) []) 0 C.ne)))))))+(List.length [[(C.int Go.IntKind.u8 13)],[(C.int Go.IntKind.u8 10)]]))≤9223372036854775807)))<|
 (gdE (EC.isL q9j (EC.encL q9j t11))<|
 (gdE (EC.isL q9j (EC.encL q9j b0))<|
 (gdE (EC.isL q9i (EC.encL q9i b0_1))<|
 (gdE (EC.isL q9i (((EC.encL q9i b1)++(List.map (fun (b:UInt8)=>[(byteC b)]) (Array.toList (ByteArray.data (qrk (List.getD (List.getD (EC.encL q9l b2) (Int.toNat t27) []) 0 C.ne))))))++[[(C.int Go.IntKind.u8 13)],[(C.int Go.IntKind.u8 10)]]))<|
 (gdE (EC.isL q9l (EC.encL q9l b2))<|
 (qly ((out+(List.length (List.map (fun (b:UInt8)=>[(byteC b)]) (Array.toList (ByteArray.data (qrk (List.getD (List.getD (EC.encL q9l b2) (Int.toNat t27) []) 0 C.ne)))))))+(List.length [[(C.int Go.IntKind.u8 13)],[(C.int Go.IntKind.u8 10)]])) (EC.decL q9j (EC.encL q9j t11)) t12 t13 t25 t26 (IntKind.wrap .i64 (t27+1)) (EC.decL q9j (EC.encL q9j b0)) (EC.decL q9i (EC.encL q9i b0_1)) (EC.decL q9i (((EC.encL q9i b1)++(List.map (fun (b:UInt8)=>[(byteC b)]) (Array.toList (ByteArray.data (qrk (List.getD (List.getD (EC.encL q9l b2) (Int.toNat t27) []) 0 C.ne))))))++[[(C.int Go.IntKind.u8 13)],[(C.int Go.IntKind.u8 10)]])) (EC.decL q9l (EC.encL q9l b2)))))))))))))
 (gdE (EC.isL q9j (EC.encL q9j t11))<|
 (gdE (EC.isL q9j (EC.encL q9j b0))<|
 (gdE (EC.isL q9i (EC.encL q9i b0_1))<|
 (gdE (EC.isL q9i (EC.encL q9i b1))<|
 (gdE (EC.isL q9l (EC.encL q9l b2))<|
 (some (((),(out,((EC.decL q9j (EC.encL q9j t11)),(t12,(t13,(t25,(t26,(t27,false)))))))),(((EC.decL q9j (EC.encL q9j b0)),(EC.decL q9i (EC.encL q9i b0_1))),((EC.decL q9i (EC.encL q9i b1)),(EC.decL q9l (EC.encL q9l b2))))))))))))
theorem qm0 {out t11 t12 t13 t25 t26 t27 b0 b0_1 b1 b2 r} (h:qm4 out t11 t12 t13 t25 t26 t27 b0 b0_1 b1 b2=some r):qly out t11 t12 t13 t25 t26 t27 b0 b0_1 b1 b2=some r :=
 qjp (es:=qto) (hs:=[]) [] (by kernel_rfl) trivial trivial (by kernel_rfl) h
def qlz:=qk9 Tryz.prog lv X0 7 (qg9 (cdF Tryz.f39) 7) qm3 qm1 (fun x=>qly x.1.2.1 x.1.2.2.1 x.1.2.2.2.1 x.1.2.2.2.2.1 x.1.2.2.2.2.2.1 x.1.2.2.2.2.2.2.1 x.1.2.2.2.2.2.2.2 x.2.1.1 x.2.1.2 x.2.2.1 x.2.2.2) (fun _ _ h=>qjo h)
def qlw:=sLS [1,3,11,12,13] (qjl (vPtr 0 0) (qjl (vRow 1) (qjl (vC (cSl q9j)) (qjl (vC (cInt .i64)) (qjn (vC (cInt .i64))))))) (qjl (qmx (bBox (qjl (vC (cSl q9j)) (qjn (vC (cSl q9i)))))) (qjn (qmx (bRow q9i)))) [false,false] [] (by decide) (fun _=>rfl)
def qlv:=sLS [1,3,11,12,13,14] (qjl (vPtr 0 0) (qjl (vRow 1) (qjl (vC (cSl q9j)) (qjl (vC (cInt .i64)) (qjl (vC (cInt .i64)) (qjn (vC cBool))))))) (qjl (qmx (bBox (qjl (vC (cSl q9j)) (qjn (vC (cSl q9i)))))) (qjn (qmx (bRow q9i)))) [false,false] [] (by decide) (fun _=>rfl)
def qlu:=oAt 2 qlv
def qlr (out:Nat) (t11:(List S57)) (t12:Int) (t13:Int) (b0:(List S57)) (b0_1:(List Int)) (b1:(List Int)):Option ((Unit×Nat×(List S57)×Int×Int×Bool)×(((List S57)×(List Int))×(List Int))):=lS Tryz.prog lv X0 39 44 (qg9 (cdF Tryz.f39) 3) qlw qlu (((),out,t11,t12,t13),((b0,b0_1),b1))
def qlx (out:Nat) (t11:(List S57)) (t12:Int) (t13:Int) (b0:(List S57)) (b0_1:(List Int)) (b1:(List Int)):Option ((Unit×Nat×(List S57)×Int×Int×Bool)×(((List S57)×(List Int))×(List Int))) :=
 (brE (decide (t13<t12))
 (gdE (decide (0≤t13))<|
 (gdE ((decide ((Int.toNat t13)<(List.length (EC.encL q9j t11))))&&(isE [K1.str,K1.str] 0 (List.getD (EC.encL q9j t11) (Int.toNat t13) [])))<|
 ((qdo (qrk (List.getD (List.getD (EC.encL q9j t11) (Int.toNat t13) []) 0 C.ne)) (qrk (List.getD (List.getD (EC.encL q9j t11) (Int.toNat t13) []) 1 C.ne))).bind fun r0 =>
 (gdE (EC.isL q9j (EC.encL q9j t11))<|
 (gdE (EC.isL q9j (EC.encL q9j b0))<|
 (gdE (EC.isL q9i (EC.encL q9i b0_1))<|
 (gdE (EC.isL q9i (EC.encL q9i b1))<|
 (gdE (EC.isL q9l (EC.encL q9l r0.2))<|
 ((qly out (EC.decL q9j (EC.encL q9j t11)) t12 t13 r0.1.1 ((r0.1.1:Nat):Int) 0 (EC.decL q9j (EC.encL q9j b0)) (EC.decL q9i (EC.encL q9i b0_1)) (EC.decL q9i (EC.encL q9i b1)) (EC.decL q9l (EC.encL q9l r0.2))).bind fun r1 =>
 (gdE (EC.isL q9j (EC.encL q9j r1.1.2.2.1))<|
 (gdE (EC.isL q9j (EC.encL q9j r1.2.1.1))<|
 (gdE (EC.isL q9i (EC.encL q9i r1.2.1.2))<|
 (gdE (EC.isL q9i (EC.encL q9i r1.2.2.1))<|
 (qlr r1.1.2.1 (EC.decL q9j (EC.encL q9j r1.1.2.2.1)) r1.1.2.2.2.1 (IntKind.wrap .i64 (r1.1.2.2.2.2.1+1)) (EC.decL q9j (EC.encL q9j r1.2.1.1)) (EC.decL q9i (EC.encL q9i r1.2.1.2)) (EC.decL q9i (EC.encL q9i r1.2.2.1))))))))))))))))
 (gdE (EC.isL q9j (EC.encL q9j t11))<|
 (gdE (EC.isL q9j (EC.encL q9j b0))<|
 (gdE (EC.isL q9i (EC.encL q9i b0_1))<|
 (gdE (EC.isL q9i (EC.encL q9i b1))<|
 (some (((),(out,((EC.decL q9j (EC.encL q9j t11)),(t12,(t13,false))))),(((EC.decL q9j (EC.encL q9j b0)),(EC.decL q9i (EC.encL q9i b0_1))),(EC.decL q9i (EC.encL q9i b1))))))))))
theorem qlt {out t11 t12 t13 b0 b0_1 b1 r} (h:qlx out t11 t12 t13 b0 b0_1 b1=some r):qlr out t11 t12 t13 b0 b0_1 b1=some r :=
 qjp (es:=qto) (hs:=[]) [qlz] (by kernel_rfl) ⟨⟨_,rfl,rfl⟩,trivial⟩ trivial (by kernel_rfl) h
def qls:=qk9 Tryz.prog lv X0 3 (qg9 (cdF Tryz.f39) 3) qlw qlu (fun x=>qlr x.1.2.1 x.1.2.2.1 x.1.2.2.2.1 x.1.2.2.2.2 x.2.1.1 x.2.1.2 x.2.2) (fun _ _ h=>qjo h)
def qlo:Cod (V×List B) (Nat×(List Int)):=(cPair (vRow 0) (qjn (bRow q9i)))
def qm5 (m_Fields:(List S57)) (m_Body:(List Int)):Option (Nat×(List Int)):=fS Tryz.prog lv X0 39 qln qlo (m_Fields,m_Body)
def qm6 (m_Fields:(List S57)) (m_Body:(List Int)):Option (Nat×(List Int)) :=
 (gdE (EC.isL q9j (EC.encL q9j m_Fields))<|
 (gdE (EC.isL q9j (EC.encL q9j m_Fields))<|
 (gdE (EC.isL q9i (EC.encL q9i m_Body))<|
 ((qlr 0 (EC.decL q9j (EC.encL q9j m_Fields)) (List.length (EC.encL q9j m_Fields):Int) 0 (EC.decL q9j (EC.encL q9j m_Fields)) (EC.decL q9i (EC.encL q9i m_Body)) (EC.decL q9i [])).bind fun r0 =>
 (gdE ((((List.all [[(C.int Go.IntKind.u8 13)],[(C.int Go.IntKind.u8 10)]] (fun (el:(List C))=>((List.length el)==1)))&&(List.all (EC.encL q9i r0.2.2) (fun (el:(List C))=>((List.length el)==1))))&&(decide (((((r0.1.2.1+(List.length [[(C.int Go.IntKind.u8 13)],[(C.int Go.IntKind.u8 10)]]))+((r0.1.2.1+(List.length [[(C.int Go.IntKind.u8 13)],[(C.int Go.IntKind.u8 10)]])) / 4))+192)*1)≤281474976710656)))&&(decide ((r0.1.2.1+(List.length [[(C.int Go.IntKind.u8 13)],[(C.int Go.IntKind.u8 10)]]))≤9223372036854775807)))<|
 (gdE ((((List.all (EC.encL q9i r0.2.1.2) (fun (el:(List C))=>((List.length el)==1)))&&(List.all ((EC.encL q9i r0.2.2)++[[(C.int Go.IntKind.u8 13)],[(C.int Go.IntKind.u8 10)]]) (fun (el:(List C))=>((List.length el)==1))))&&(decide ((((((r0.1.2.1+(List.length [[(C.int Go.IntKind.u8 13)],[(C.int Go.IntKind.u8 10)]]))+(List.length (EC.encL q9i r0.2.1.2)))+(((r0.1.2.1+(List.length [[(C.int Go.IntKind.u8 13)],[(C.int Go.IntKind.u8 10)]]))+(List.length (EC.encL q9i r0.2.1.2))) / 4))+192)*1)≤281474976710656)))&&(decide (((r0.1.2.1+(List.length [[(C.int Go.IntKind.u8 13)],[(C.int Go.IntKind.u8 10)]]))+(List.length (EC.encL q9i r0.2.1.2)))≤9223372036854775807)))<|
 (gdE (EC.isL q9i (((EC.encL q9i r0.2.2)++[[(C.int Go.IntKind.u8 13)],[(C.int Go.IntKind.u8 10)]])++(EC.encL q9i r0.2.1.2)))<|
 (some (((r0.1.2.1+(List.length [[(C.int Go.IntKind.u8 13)],[(C.int Go.IntKind.u8 10)]]))+(List.length (EC.encL q9i r0.2.1.2))),(EC.decL q9i (((EC.encL q9i r0.2.2)++[[(C.int Go.IntKind.u8 13)],[(C.int Go.IntKind.u8 10)]])++(EC.encL q9i r0.2.1.2))))))))))))
theorem qlq {m_Fields m_Body r} (h:qm6 m_Fields m_Body=some r):qm5 m_Fields m_Body=some r :=
 qc8 (es:=qto) (hs:=[]) [qls] Tryz.func39 rfl (by kernel_rfl) rfl (by kernel_rfl) (by kernel_rfl) ⟨⟨_,rfl,rfl⟩,trivial⟩ trivial (by kernel_rfl) h
def qlp:=entS Tryz.prog lv X0 39 [] qln qlo (fun x=>qm5 x.1 x.2) (fun _ _ h=>qc7 h)
def qtv:=qlp::qto
def qlh:=(qjn (vC (cSl q9i)))
def qli:Cod (V×List B) (Int×Int):=(cFstU (cPair (vAgg (qjl (vC (cInt .i64)) (qjn (vC (cInt .i64))))) qjm))
def qll (b:(List Int)):Option (Int×Int):=fS Tryz.prog lv X0 40 qlh qli b
def qlm (b:(List Int)):Option (Int×Int) :=
 (gdE (EC.isL q9i (EC.encL q9i b))<|
 ((q4g (EC.decL q9i (EC.encL q9i b))).bind fun r0 =>
 (brE (r0==11)
 ((q4s 11 (-5)).bind fun r1 =>
 (some (r1.1,r1.2)))
 (brE (r0==1)
 ((q4s 1 (-6)).bind fun r1 =>
 (some (r1.1,r1.2)))
 (Option.bind q5t fun r1 =>
 (some (r1.1,r1.2)))))))
theorem qlk {b r} (h:qlm b=some r):qll b=some r :=
 qc8 (es:=qtv) (hs:=[]) [] Tryz.func40 rfl (by kernel_rfl) rfl (by kernel_rfl) (by kernel_rfl) trivial trivial (by kernel_rfl) h
def qlj:=entS Tryz.prog lv X0 40 [] qlh qli (fun x=>qll x) (fun _ _ h=>qc7 h)
def qtu:=qlj::qtv
def qlb:=(qjn (vAgg (qjl (vC (cSl q9j)) (qjn (vC (cSl q9i))))))
def qlc:Cod (V×List B) (Int×Int):=(cFstU (cPair (vAgg (qjl (vC (cInt .i64)) (qjn (vC (cInt .i64))))) qjm))
def qlf (m_Fields:(List S57)) (m_Body:(List Int)):Option (Int×Int):=fS Tryz.prog lv X0 16 qlb qlc (m_Fields,m_Body)
def qlg (m_Fields:(List S57)) (m_Body:(List Int)):Option (Int×Int) :=
 (gdE (EC.isL q9j (EC.encL q9j m_Fields))<|
 ((qhg (EC.decL q9j (EC.encL q9j m_Fields))).bind fun r0 =>
 ((q4m r0.1 r0.2).bind fun r1 =>
 (brE r1
 (some (r0.1,r0.2))
 (gdE (EC.isL q9j (EC.encL q9j m_Fields))<|
 (gdE (EC.isL q9i (EC.encL q9i m_Body))<|
 ((qm5 (EC.decL q9j (EC.encL q9j m_Fields)) (EC.decL q9i (EC.encL q9i m_Body))).bind fun r2 =>
 (brE (decide (((r2.1:Nat):Int)>12000))
 ((q4s 1 (-4)).bind fun r3 =>
 (some (r3.1,r3.2)))
 (gdE (EC.isL q9i (EC.encL q9i m_Body))<|
 ((qll (EC.decL q9i (EC.encL q9i m_Body))).bind fun r3 =>
 (some (r3.1,r3.2))))))))))))
theorem qle {m_Fields m_Body r} (h:qlg m_Fields m_Body=some r):qlf m_Fields m_Body=some r :=
 qc8 (es:=qtu) (hs:=[]) [] Tryz.func16 rfl (by kernel_rfl) rfl (by kernel_rfl) (by kernel_rfl) trivial trivial (by kernel_rfl) h
def qld:=entS Tryz.prog lv X0 16 [] qlb qlc (fun x=>qlf x.1 x.2) (fun _ _ h=>qc7 h)
def qtt:=qld::qtu
def qa1:=(qjn (vC (cInt .u8)))
def qa2:Cod (V×List B) Bool:=(cFstU (cPair (vC cBool) qjm))
def qa5 (c:Int):Option Bool:=fS Tryz.prog lv X0 122 qa1 qa2 c
def qa6 (c:Int):Option Bool :=
 (brE ((decide (c≥97))==true)
 (brE ((decide (c≤122))==false)
 (brE ((decide (c≥48))==true)
 (brE ((decide (c≤57))==false)
 (brE ((c==45)==false)
 (some (c==46))
 (some true))
 (some true))
 (brE ((c==45)==false)
 (some (c==46))
 (some true)))
 (some true))
 (brE ((decide (c≥48))==true)
 (brE ((decide (c≤57))==false)
 (brE ((c==45)==false)
 (some (c==46))
 (some true))
 (some true))
 (brE ((c==45)==false)
 (some (c==46))
 (some true))))
theorem qa4 {c r} (h:qa6 c=some r):qa5 c=some r :=
 qc8 (es:=qtt) (hs:=[]) [] Tryz.func122 rfl (by kernel_rfl) rfl (by kernel_rfl) (by kernel_rfl) trivial trivial (by kernel_rfl) h
def qa3:=entS Tryz.prog lv X0 122 [] qa1 qa2 (fun x=>qa5 x) (fun _ _ h=>qc7 h)
def qtb:=qa3::qtt
def q15:Cod (List V) (ByteArray×Unit):=(qjl (vC cStr) (qjn (vFn 122 qjm)))
def q1f:=sLS [0,1,7,8] (qjl (vC cStr) (qjl (vFn 122 qjm) (qjl (vC (cInt .i64)) (qjn (vC (cInt .i64)))))) qjm [] [] (by decide) (fun _=>rfl)
def q1e:=sLS [0,1,7,8,9] (qjl (vC cStr) (qjl (vFn 122 qjm) (qjl (vC (cInt .i64)) (qjl (vC (cInt .i64)) (qjn (vC cBool)))))) qjm [] [] (by decide) (fun _=>rfl)
def q1d:=sLS [4] (qjn (vC cBool)) qjm [] [] (by decide) (fun _=>rfl)
def q1c:=oOr 1 q1d (oAt 2 q1e) (fun x=>(by decide:(2:Nat)≠1))
def q19 (s:ByteArray) (t7:Int) (t8:Int):Option ((Bool×Unit)⊕((ByteArray×Unit×Int×Int×Bool)×Unit)):=lS Tryz.prog lv X0 61 18 (qg9 (cdF Tryz.f61) 2) q1f q1c ((s,(),t7,t8),())
def q1g (s:ByteArray) (t7:Int) (t8:Int):Option ((Bool×Unit)⊕((ByteArray×Unit×Int×Int×Bool)×Unit)) :=
 (brE (decide (t8<t7))
 (gdE ((decide (0≤t8))&&(decide ((Int.toNat t8)<s.size)))<|
 ((qa5 (((UInt8.toNat (Array.getD s.data (Int.toNat t8) (0:UInt8))):Nat):Int)).bind fun r0 =>
 (brE (!r0)
 (some (.inl (false,())))
 (q19 s t7 (IntKind.wrap .i64 (t8+1))))))
 (some (.inr ((s,((),(t7,(t8,false)))),()))))
theorem q1b {s t7 t8 r} (h:q1g s t7 t8=some r):q19 s t7 t8=some r :=
 qjp (es:=qtb) (hs:=[]) [] (by kernel_rfl) trivial trivial (by kernel_rfl) h
def q1a:=qk9 Tryz.prog lv X0 2 (qg9 (cdF Tryz.f61) 2) q1f q1c (fun x=>q19 x.1.1 x.1.2.2.1 x.1.2.2.2) (fun _ _ h=>qjo h)
def q16:Cod (V×List B) Bool:=(cFstU (cPair (vC cBool) qjm))
def q1j (s:ByteArray):Option Bool:=fS Tryz.prog lv X0 61 q15 q16 (s,())
def q1l (s:ByteArray):Option Bool :=
 ((q19 s (s.size:Int) 0).bind fun r0 =>
 (Sum.elim (fun r1=>(some r1.1))
 (fun _r1=>(some true)) r0))
theorem q18 {s r} (h:q1l s=some r):q1j s=some r :=
 qc8 (es:=qtb) (hs:=[]) [q1a] Tryz.func61 rfl (by kernel_rfl) rfl (by kernel_rfl) (by kernel_rfl) ⟨⟨_,rfl,rfl⟩,trivial⟩ trivial (by kernel_rfl) h
def q17:=entS Tryz.prog lv X0 61 [122] q15 q16 (fun x=>q1j x.1) (fun _ _ h=>qc7 h)
def qss:=q17::qtb
def qa7:=(qjn (vC cStr))
def qa8:Cod (V×List B) Bool:=(cFstU (cPair (vC cBool) qjm))
def qab (s:ByteArray):Option Bool:=fS Tryz.prog lv X0 91 qa7 qa8 s
def qac (s:ByteArray):Option Bool :=
 (brE ((!(s.toList==(ByteArray.toList ⟨#[]⟩)))==true)
 (brE ((decide ((s.size:Int)≤60))==true)
 ((q1j s).bind fun r0 =>
 (brE (r0==true)
 ((qrq s (ByteArray.mk (List.toArray [(46:UInt8)]))).bind fun r1 =>
 (brE ((!r1)==true)
 ((qrw s (ByteArray.mk (List.toArray [(46:UInt8)]))).bind fun r2 =>
 (brE ((!r2)==true)
 ((contP s (ByteArray.mk (List.toArray [(46:UInt8),(46:UInt8)]))).bind fun r3 =>
 (some (!r3)))
 (some false)))
 (some false)))
 (some false)))
 (some false))
 (some false))
theorem qaa {s r} (h:qac s=some r):qab s=some r :=
 qc8 (es:=qss) (hs:=[]) [] Tryz.func91 rfl (by kernel_rfl) rfl (by kernel_rfl) (by kernel_rfl) trivial trivial (by kernel_rfl) h
def qa9:=entS Tryz.prog lv X0 91 [] qa7 qa8 (fun x=>qab x) (fun _ _ h=>qc7 h)
def qta:=qa9::qss
def qax:=(qjn (vC (cInt .u8)))
def qay:Cod (V×List B) Bool:=(cFstU (cPair (vC cBool) qjm))
def qb1 (c:Int):Option Bool:=fS Tryz.prog lv X0 90 qax qay c
def qb2 (c:Int):Option Bool :=
 ((q4y c).bind fun r0 =>
 (brE (r0==false)
 (some (decide ((Go.Lib.indexByte (Array.toList (List.toArray [(45:UInt8),(95:UInt8),(46:UInt8),(43:UInt8),(61:UInt8)])) (Nat.toUInt8 (Int.toNat c)))≥0)))
 (some true)))
theorem qb0 {c r} (h:qb2 c=some r):qb1 c=some r :=
 qc8 (es:=qta) (hs:=[]) [] Tryz.func90 rfl (by kernel_rfl) rfl (by kernel_rfl) (by kernel_rfl) trivial trivial (by kernel_rfl) h
def qaz:=entS Tryz.prog lv X0 90 [] qax qay (fun x=>qb1 x) (fun _ _ h=>qc7 h)
def qtf:=qaz::qta
def q25:Cod (List V) (ByteArray×Unit):=(qjl (vC cStr) (qjn (vFn 90 qjm)))
def q2f:=sLS [0,1,7,8] (qjl (vC cStr) (qjl (vFn 90 qjm) (qjl (vC (cInt .i64)) (qjn (vC (cInt .i64)))))) qjm [] [] (by decide) (fun _=>rfl)
def q2e:=sLS [0,1,7,8,9] (qjl (vC cStr) (qjl (vFn 90 qjm) (qjl (vC (cInt .i64)) (qjl (vC (cInt .i64)) (qjn (vC cBool)))))) qjm [] [] (by decide) (fun _=>rfl)
def q2d:=sLS [4] (qjn (vC cBool)) qjm [] [] (by decide) (fun _=>rfl)
def q2c:=oOr 1 q2d (oAt 2 q2e) (fun x=>(by decide:(2:Nat)≠1))
def q29 (s:ByteArray) (t7:Int) (t8:Int):Option ((Bool×Unit)⊕((ByteArray×Unit×Int×Int×Bool)×Unit)):=lS Tryz.prog lv X0 61 18 (qg9 (cdF Tryz.f61) 2) q2f q2c ((s,(),t7,t8),())
def q2g (s:ByteArray) (t7:Int) (t8:Int):Option ((Bool×Unit)⊕((ByteArray×Unit×Int×Int×Bool)×Unit)) :=
 (brE (decide (t8<t7))
 (gdE ((decide (0≤t8))&&(decide ((Int.toNat t8)<s.size)))<|
 ((qb1 (((UInt8.toNat (Array.getD s.data (Int.toNat t8) (0:UInt8))):Nat):Int)).bind fun r0 =>
 (brE (!r0)
 (some (.inl (false,())))
 (q29 s t7 (IntKind.wrap .i64 (t8+1))))))
 (some (.inr ((s,((),(t7,(t8,false)))),()))))
theorem q2b {s t7 t8 r} (h:q2g s t7 t8=some r):q29 s t7 t8=some r :=
 qjp (es:=qtf) (hs:=[]) [] (by kernel_rfl) trivial trivial (by kernel_rfl) h
def q2a:=qk9 Tryz.prog lv X0 2 (qg9 (cdF Tryz.f61) 2) q2f q2c (fun x=>q29 x.1.1 x.1.2.2.1 x.1.2.2.2) (fun _ _ h=>qjo h)
def q26:Cod (V×List B) Bool:=(cFstU (cPair (vC cBool) qjm))
def q2j (s:ByteArray):Option Bool:=fS Tryz.prog lv X0 61 q25 q26 (s,())
def q2l (s:ByteArray):Option Bool :=
 ((q29 s (s.size:Int) 0).bind fun r0 =>
 (Sum.elim (fun r1=>(some r1.1))
 (fun _r1=>(some true)) r0))
theorem q28 {s r} (h:q2l s=some r):q2j s=some r :=
 qc8 (es:=qtf) (hs:=[]) [q2a] Tryz.func61 rfl (by kernel_rfl) rfl (by kernel_rfl) (by kernel_rfl) ⟨⟨_,rfl,rfl⟩,trivial⟩ trivial (by kernel_rfl) h
def q27:=entS Tryz.prog lv X0 61 [90] q25 q26 (fun x=>q2j x.1) (fun _ _ h=>qc7 h)
def qsu:=q27::qtf
def qb3:=(qjn (vC cStr))
def qb4:Cod (V×List B) (ByteArray×ByteArray×Bool):=(cFstU (cPair (vTup (qjl (vC cStr) (qjl (vC cStr) (qjn (vC cBool))))) qjm))
def qb7 (s:ByteArray):Option (ByteArray×ByteArray×Bool):=fS Tryz.prog lv X0 53 qb3 qb4 s
def qb8 (s:ByteArray):Option (ByteArray×ByteArray×Bool) :=
 ((cutP s (ByteArray.mk (List.toArray [(64:UInt8)]))).bind fun r0 =>
 (brE (r0.2.2==true)
 (brE ((!(r0.1.toList==(ByteArray.toList ⟨#[]⟩)))==true)
 (brE ((decide (((r0.1.size:Nat):Int)≤60))==true)
 ((q2j r0.1).bind fun r1 =>
 (brE (r1==true)
 ((qab r0.2.1).bind fun r2 =>
 (some (r0.1,(r0.2.1,r2))))
 (some (r0.1,(r0.2.1,false)))))
 (some (r0.1,(r0.2.1,false))))
 (some (r0.1,(r0.2.1,false))))
 (some (r0.1,(r0.2.1,false)))))
theorem qb6 {s r} (h:qb8 s=some r):qb7 s=some r :=
 qc8 (es:=qsu) (hs:=[]) [] Tryz.func53 rfl (by kernel_rfl) rfl (by kernel_rfl) (by kernel_rfl) trivial trivial (by kernel_rfl) h
def qb5:=entS Tryz.prog lv X0 53 [] qb3 qb4 (fun x=>qb7 x) (fun _ _ h=>qc7 h)
def qte:=qb5::qsu
def q9v:=(qjn (vC cStr))
def q9w:Cod (V×List B) Bool:=(cFstU (cPair (vC cBool) qjm))
def q9z (s:ByteArray):Option Bool:=fS Tryz.prog lv X0 25 q9v q9w s
def qa0 (s:ByteArray):Option Bool :=
 ((qb7 s).bind fun r0 =>
 (some r0.2.2))
theorem q9y {s r} (h:qa0 s=some r):q9z s=some r :=
 qc8 (es:=qte) (hs:=[]) [] Tryz.func25 rfl (by kernel_rfl) rfl (by kernel_rfl) (by kernel_rfl) trivial trivial (by kernel_rfl) h
def q9x:=entS Tryz.prog lv X0 25 [] q9v q9w (fun x=>q9z x) (fun _ _ h=>qc7 h)
def qt9:=q9x::qte
def qad:=(qjn (vC (cInt .i64)))
def qae:Cod (V×List B) Bool:=(cFstU (cPair (vC cBool) qjm))
def qah (n:Int):Option Bool:=fS Tryz.prog lv X0 64 qad qae n
def qai (n:Int):Option Bool :=
 (brE ((decide (n≥0))==true)
 (some (decide (n≤7)))
 (some false))
theorem qag {n r} (h:qai n=some r):qah n=some r :=
 qc8 (es:=qt9) (hs:=[]) [] Tryz.func64 rfl (by kernel_rfl) rfl (by kernel_rfl) (by kernel_rfl) trivial trivial (by kernel_rfl) h
def qaf:=entS Tryz.prog lv X0 64 [] qad qae (fun x=>qah x) (fun _ _ h=>qc7 h)
def qtc:=qaf::qt9
def qo0:=(qjl (vAgg (qjl (vC cStr) (qjn (vC (cInt .i64))))) (qjn (vEptr (qjl cStr (qjn (cInt .i64))) 0)))
def qo1:Cod (V×List B) Bool:=(cFstU (cPair (vC cBool) qjm))
def qo4 (x_Address:ByteArray) (x_Notify:Int) (c1_0:ByteArray) (c1_1:Int):Option Bool:=fS Tryz.prog lv X0 66 qo0 qo1 ((x_Address,x_Notify),(c1_0,c1_1))
def qo5 (x_Address:ByteArray) (_x_Notify:Int) (c1_0:ByteArray) (_c1_1:Int):Option Bool :=
 (some (x_Address.toList==c1_0.toList))
theorem qo3 {x_Address x_Notify c1_0 c1_1 r} (h:qo5 x_Address x_Notify c1_0 c1_1=some r):qo4 x_Address x_Notify c1_0 c1_1=some r :=
 qc8 (es:=qtc) (hs:=[]) [] Tryz.func66 rfl (by kernel_rfl) rfl (by kernel_rfl) (by kernel_rfl) trivial trivial (by kernel_rfl) h
def qo2:=entS Tryz.prog lv X0 66 [] qo0 qo1 (fun x=>qo4 x.1.1 x.1.2 x.2.1 x.2.2) (fun _ _ h=>qc7 h)
def qtw:=qo2::qtc
structure S69 where
 Address:ByteArray
 Notify:Int
def q181:EC S69 where
 enc x:=[.str x.Address,.int .i64 x.Notify]
 dec c:=⟨qrk (c.getD 0 .ne),qiy (c.getD 1 .ne)⟩
 is c:=isE [.str,.int .i64] 0 c
 enc_dec h:=q8y h
 dec_enc x:=by rfl
 is_enc x:=by simp [isE,isK]
theorem enc_69 (x:S69):q181.enc x=[.str x.Address,.int .i64 x.Notify]:=rfl
theorem isE_69 (xs:List S69) (n:Nat):isE [.str,.int .i64] 0 ((q181.encL xs).getD n [])=decide (n<xs.length):=by
 by_cases h:n<xs.length
 ·simp only [EC.getD_lt _ _ h];simp [enc_69,isE,isK,h]
 ·simp only [EC.getD_ge _ _ (Nat.not_lt.1 h)];simp [isE,isK,h]
theorem q178 (xs:List S69) (n:Nat):qrk (((q181.encL xs).getD n []).getD 0 .ne)=(xs.getD n (q181.dec [])).Address:=by
 by_cases h:n<xs.length
 ·simp only [EC.getD_lt _ _ h];simp [enc_69,h,qrk,List.getD_eq_getElem?_getD]
 ·simp only [EC.getD_ge _ _ (Nat.not_lt.1 h)];simp [Nat.not_lt.1 h,q181,qrk,qiy,List.getD_eq_getElem?_getD]
theorem q179 (xs:List S69) (n:Nat):qiy (((q181.encL xs).getD n []).getD 1 .ne)=(xs.getD n (q181.dec [])).Notify:=by
 by_cases h:n<xs.length
 ·simp only [EC.getD_lt _ _ h];simp [enc_69,h,qiy,List.getD_eq_getElem?_getD]
 ·simp only [EC.getD_ge _ _ (Nat.not_lt.1 h)];simp [Nat.not_lt.1 h,q181,qrk,qiy,List.getD_eq_getElem?_getD]
theorem all_69 (xs:List S69):(q181.encL xs).all (fun (el:List C)=>el.length==2)=true:=by induction xs with|nil=>rfl|cons x xs ih=>first|(simp [EC.encL,enc_69];done)|simpa [EC.encL,enc_69] using ih
def qi7:=(qjl (vC (cSl q181)) (qjn (vFn 66 (qjn (vEptr (qjl cStr (qjn (cInt .i64))) 0)))))
def qih:=sLS [0,1,7,8] (qjl (vC (cSl q181)) (qjl (vFn 66 (qjn (vEptr (qjl cStr (qjn (cInt .i64))) 0))) (qjl (vC (cInt .i64)) (qjn (vC (cInt .i64)))))) qjm [] [] (by decide) (fun _=>rfl)
def qig:=sLS [0,1,7,8,9] (qjl (vC (cSl q181)) (qjl (vFn 66 (qjn (vEptr (qjl cStr (qjn (cInt .i64))) 0))) (qjl (vC (cInt .i64)) (qjl (vC (cInt .i64)) (qjn (vC cBool)))))) qjm [] [] (by decide) (fun _=>rfl)
def qif:=sLS [4] (qjn (vC (cInt .i64))) qjm [] [] (by decide) (fun _=>rfl)
def qie:=oOr 1 qif (oAt 2 qig) (fun x=>(by decide:(2:Nat)≠1))
def qib (s:(List S69)) (f:ByteArray) (f_1:Int) (t7:Int) (t8:Int):Option ((Int×Unit)⊕(((List S69)×(ByteArray×Int)×Int×Int×Bool)×Unit)):=lS Tryz.prog lv X0 97 19 (qg9 (cdF Tryz.f97) 2) qih qie ((s,(f,f_1),t7,t8),())
def qii (s:(List S69)) (f:ByteArray) (f_1:Int) (t7:Int) (t8:Int):Option ((Int×Unit)⊕(((List S69)×(ByteArray×Int)×Int×Int×Bool)×Unit)) :=
 (brE (decide (t8<t7))
 (gdE (decide (0≤t8))<|
 (gdE ((decide ((Int.toNat t8)<(List.length (EC.encL q181 s))))&&(isE [K1.str,(K1.int Go.IntKind.i64)] 0 (List.getD (EC.encL q181 s) (Int.toNat t8) [])))<|
 ((qo4 (qrk (List.getD (List.getD (EC.encL q181 s) (Int.toNat t8) []) 0 C.ne)) (qiy (List.getD (List.getD (EC.encL q181 s) (Int.toNat t8) []) 1 C.ne)) f f_1).bind fun r0 =>
 (brE r0
 (some (.inl (t8,())))
 (gdE (EC.isL q181 (EC.encL q181 s))<|
 (qib (EC.decL q181 (EC.encL q181 s)) f f_1 t7 (IntKind.wrap .i64 (t8+1))))))))
 (gdE (EC.isL q181 (EC.encL q181 s))<|
 (some (.inr (((EC.decL q181 (EC.encL q181 s)),((f,f_1),(t7,(t8,false)))),())))))
theorem qid {s f f_1 t7 t8 r} (h:qii s f f_1 t7 t8=some r):qib s f f_1 t7 t8=some r :=
 qjp (es:=qtw) (hs:=[]) [] (by kernel_rfl) trivial trivial (by kernel_rfl) h
def qic:=qk9 Tryz.prog lv X0 2 (qg9 (cdF Tryz.f97) 2) qih qie (fun x=>qib x.1.1 x.1.2.1.1 x.1.2.1.2 x.1.2.2.1 x.1.2.2.2) (fun _ _ h=>qjo h)
def qi8:Cod (V×List B) Int:=(cFstU (cPair (vC (cInt .i64)) qjm))
def qik (s:(List S69)) (f_0:ByteArray) (f_1:Int):Option Int:=fS Tryz.prog lv X0 97 qi7 qi8 (s,(f_0,f_1))
def qil (s:(List S69)) (f_0:ByteArray) (f_1:Int):Option Int :=
 (gdE (EC.isL q181 (EC.encL q181 s))<|
 ((qib (EC.decL q181 (EC.encL q181 s)) f_0 f_1 (List.length (EC.encL q181 s):Int) 0).bind fun r0 =>
 (Sum.elim (fun r1=>(some r1.1))
 (fun _r1=>(some (-1:Int))) r0)))
theorem qia {s f_0 f_1 r} (h:qil s f_0 f_1=some r):qik s f_0 f_1=some r :=
 qc8 (es:=qtw) (hs:=[]) [qic] Tryz.func97 rfl (by kernel_rfl) rfl (by kernel_rfl) (by kernel_rfl) ⟨⟨_,rfl,rfl⟩,trivial⟩ trivial (by kernel_rfl) h
def qi9:=entS Tryz.prog lv X0 97 [66] qi7 qi8 (fun x=>qik x.1 x.2.1 x.2.2) (fun _ _ h=>qc7 h)
def qts:=qi9::qtw
def qgh:=(qjl (vC (cSl q181)) (qjn (vFn 66 (qjn (vEptr (qjl cStr (qjn (cInt .i64))) 0)))))
def qgi:Cod (V×List B) Bool:=(cFstU (cPair (vC cBool) qjm))
def qgm (s:(List S69)) (f_0:ByteArray) (f_1:Int):Option Bool:=fS Tryz.prog lv X0 65 qgh qgi (s,(f_0,f_1))
def qgn (s:(List S69)) (f_0:ByteArray) (f_1:Int):Option Bool :=
 (gdE (EC.isL q181 (EC.encL q181 s))<|
 ((qik (EC.decL q181 (EC.encL q181 s)) f_0 f_1).bind fun r0 =>
 (some (decide (r0≥0)))))
theorem qgk {s f_0 f_1 r} (h:qgn s f_0 f_1=some r):qgm s f_0 f_1=some r :=
 qc8 (es:=qts) (hs:=[]) [] Tryz.func65 rfl (by kernel_rfl) rfl (by kernel_rfl) (by kernel_rfl) trivial trivial (by kernel_rfl) h
def qgj:=entS Tryz.prog lv X0 65 [66] qgh qgi (fun x=>qgm x.1 x.2.1 x.2.2) (fun _ _ h=>qc7 h)
def qtn:=qgj::qts
def qaj:=(qjn (vC (cSl q181)))
def qat:=sLS [0,2,5,6,7] (qjl (vC (cSl q181)) (qjl (vPtr 0 0) (qjl (vC (cSl q181)) (qjl (vC (cInt .i64)) (qjn (vC (cInt .i64))))))) (qjn (qmx (bBox (qjl (vC (cInt .i64)) (qjn (vC (cInt .i64))))))) [false] [] (by decide) (fun _=>rfl)
def qas:=sLS [0,2,5,6,7,8] (qjl (vC (cSl q181)) (qjl (vPtr 0 0) (qjl (vC (cSl q181)) (qjl (vC (cInt .i64)) (qjl (vC (cInt .i64)) (qjn (vC cBool))))))) (qjn (qmx (bBox (qjl (vC (cInt .i64)) (qjn (vC (cInt .i64))))))) [false] [] (by decide) (fun _=>rfl)
def qar:=sLS [2] (qjn (vPtr 0 0)) (qjn (qmx (bBox (qjl (vC (cInt .i64)) (qjn (vC (cInt .i64))))))) [false] [] (by decide) (fun _=>rfl)
def qaq:=oOr 1 qar (oAt 2 qas) (fun x=>(by decide:(2:Nat)≠1))
def qan (l:(List S69)) (t5:(List S69)) (t6:Int) (t7:Int) (b0:Int) (b0_1:Int):Option ((Unit×(Int×Int))⊕(((List S69)×Unit×(List S69)×Int×Int×Bool)×(Int×Int))):=lS Tryz.prog lv X0 37 36 (qg9 (cdF Tryz.f37) 2) qat qaq ((l,(),t5,t6,t7),(b0,b0_1))
def qau (l:(List S69)) (t5:(List S69)) (t6:Int) (t7:Int) (b0:Int) (b0_1:Int):Option ((Unit×(Int×Int))⊕(((List S69)×Unit×(List S69)×Int×Int×Bool)×(Int×Int))) :=
 (brE (decide (t7<t6))
 (gdE (decide (0≤t7))<|
 (gdE ((decide ((Int.toNat t7)<(List.length (EC.encL q181 t5))))&&(isE [K1.str,(K1.int Go.IntKind.i64)] 0 (List.getD (EC.encL q181 t5) (Int.toNat t7) [])))<|
 ((q9z (qrk (List.getD (List.getD (EC.encL q181 t5) (Int.toNat t7) []) 0 C.ne))).bind fun r0 =>
 (brE (!r0)
 ((q4s 10 t7).bind fun r1 =>
 (some (.inl ((),(r1.1,r1.2)))))
 ((qah (qiy (List.getD (List.getD (EC.encL q181 t5) (Int.toNat t7) []) 1 C.ne))).bind fun r1 =>
 (brE (!r1)
 ((q4s 3 t7).bind fun r2 =>
 (some (.inl ((),(r2.1,r2.2)))))
 (gdE ((decide (0≤t7))&&(decide (t7≤(List.length (EC.encL q181 l):Int))))<|
 (gdE (List.all (EC.encL q181 l) (fun (el:(List C))=>((List.length el)==2)))<|
 (gdE (EC.isL q181 (List.take ((Int.toNat t7) - 0) (List.drop 0 (EC.encL q181 l))))<|
 ((qgm (EC.decL q181 (List.take ((Int.toNat t7) - 0) (List.drop 0 (EC.encL q181 l)))) (qrk (List.getD (List.getD (EC.encL q181 t5) (Int.toNat t7) []) 0 C.ne)) (qiy (List.getD (List.getD (EC.encL q181 t5) (Int.toNat t7) []) 1 C.ne))).bind fun r2 =>
 (brE r2
 ((q4s 7 t7).bind fun r3 =>
 (some (.inl ((),(r3.1,r3.2)))))
 (gdE (EC.isL q181 (EC.encL q181 l))<|
 (gdE (EC.isL q181 (EC.encL q181 t5))<|
 (qan (EC.decL q181 (EC.encL q181 l)) (EC.decL q181 (EC.encL q181 t5)) t6 (IntKind.wrap .i64 (t7+1)) b0 b0_1))))))))))))))
 (gdE (EC.isL q181 (EC.encL q181 l))<|
 (gdE (EC.isL q181 (EC.encL q181 t5))<|
 (some (.inr (((EC.decL q181 (EC.encL q181 l)),((),((EC.decL q181 (EC.encL q181 t5)),(t6,(t7,false))))),(b0,b0_1)))))))
theorem qap {l t5 t6 t7 b0 b0_1 r} (h:qau l t5 t6 t7 b0 b0_1=some r):qan l t5 t6 t7 b0 b0_1=some r :=
 qjp (es:=qtn) (hs:=[]) [] (by kernel_rfl) trivial trivial (by kernel_rfl) h
def qao:=qk9 Tryz.prog lv X0 2 (qg9 (cdF Tryz.f37) 2) qat qaq (fun x=>qan x.1.1 x.1.2.2.1 x.1.2.2.2.1 x.1.2.2.2.2 x.2.1 x.2.2) (fun _ _ h=>qjo h)
def qak:Cod (V×List B) (Int×Int):=(cFstU (cPair (vAgg (qjl (vC (cInt .i64)) (qjn (vC (cInt .i64))))) qjm))
def qav (l:(List S69)):Option (Int×Int):=fS Tryz.prog lv X0 37 qaj qak l
def qaw (l:(List S69)):Option (Int×Int) :=
 (gdE (EC.isL q181 (EC.encL q181 l))<|
 (gdE (EC.isL q181 (EC.encL q181 l))<|
 ((qan (EC.decL q181 (EC.encL q181 l)) (EC.decL q181 (EC.encL q181 l)) (List.length (EC.encL q181 l):Int) 0 0 0).bind fun r0 =>
 (Sum.elim (fun r1=>(some (r1.2.1,r1.2.2)))
 (fun _r1=>(Option.bind q5t fun r2 =>
 (some (r2.1,r2.2)))) r0))))
theorem qam {l r} (h:qaw l=some r):qav l=some r :=
 qc8 (es:=qtn) (hs:=[]) [qao] Tryz.func37 rfl (by kernel_rfl) rfl (by kernel_rfl) (by kernel_rfl) ⟨⟨_,rfl,rfl⟩,trivial⟩ trivial (by kernel_rfl) h
def qal:=entS Tryz.prog lv X0 37 [] qaj qak (fun x=>qav x) (fun _ _ h=>qc7 h)
def qtd:=qal::qtn
def qb9:=(qjn (vAgg (qjl (vC cStr) (qjl (vC (cSl q181)) (qjn (vC cStr))))))
def qba:Cod (V×List B) (Int×Int):=(cFstU (cPair (vAgg (qjl (vC (cInt .i64)) (qjn (vC (cInt .i64))))) qjm))
def qbd (e_From:ByteArray) (e_To:(List S69)) (e_Id:ByteArray):Option (Int×Int):=fS Tryz.prog lv X0 15 qb9 qba (e_From,e_To,e_Id)
def qbe (e_From:ByteArray) (e_To:(List S69)) (e_Id:ByteArray):Option (Int×Int) :=
 (brE ((!(e_From.toList==(ByteArray.toList ⟨#[]⟩)))==true)
 ((q9z e_From).bind fun r0 =>
 (brE (!r0)
 ((q4s 10 (-10)).bind fun r1 =>
 (some (r1.1,r1.2)))
 (brE ((decide ((List.length (EC.encL q181 e_To):Int)<1))==false)
 (brE (decide ((List.length (EC.encL q181 e_To):Int)>60))
 ((q4s 2 (-11)).bind fun r1 =>
 (some (r1.1,r1.2)))
 (brE ((!(e_Id.toList==(ByteArray.toList ⟨#[]⟩)))==true)
 ((q5n e_Id).bind fun r1 =>
 (brE (!r1)
 ((q4s 10 (-12)).bind fun r2 =>
 (some (r2.1,r2.2)))
 (gdE (EC.isL q181 (EC.encL q181 e_To))<|
 ((qav (EC.decL q181 (EC.encL q181 e_To))).bind fun r2 =>
 (some (r2.1,r2.2))))))
 (gdE (EC.isL q181 (EC.encL q181 e_To))<|
 ((qav (EC.decL q181 (EC.encL q181 e_To))).bind fun r1 =>
 (some (r1.1,r1.2))))))
 ((q4s 2 (-11)).bind fun r1 =>
 (some (r1.1,r1.2))))))
 (brE ((decide ((List.length (EC.encL q181 e_To):Int)<1))==false)
 (brE (decide ((List.length (EC.encL q181 e_To):Int)>60))
 ((q4s 2 (-11)).bind fun r0 =>
 (some (r0.1,r0.2)))
 (brE ((!(e_Id.toList==(ByteArray.toList ⟨#[]⟩)))==true)
 ((q5n e_Id).bind fun r0 =>
 (brE (!r0)
 ((q4s 10 (-12)).bind fun r1 =>
 (some (r1.1,r1.2)))
 (gdE (EC.isL q181 (EC.encL q181 e_To))<|
 ((qav (EC.decL q181 (EC.encL q181 e_To))).bind fun r1 =>
 (some (r1.1,r1.2))))))
 (gdE (EC.isL q181 (EC.encL q181 e_To))<|
 ((qav (EC.decL q181 (EC.encL q181 e_To))).bind fun r0 =>
 (some (r0.1,r0.2))))))
 ((q4s 2 (-11)).bind fun r0 =>
 (some (r0.1,r0.2)))))
theorem qbc {e_From e_To e_Id r} (h:qbe e_From e_To e_Id=some r):qbd e_From e_To e_Id=some r :=
 qc8 (es:=qtd) (hs:=[]) [] Tryz.func15 rfl (by kernel_rfl) rfl (by kernel_rfl) (by kernel_rfl) trivial trivial (by kernel_rfl) h
def qbb:=entS Tryz.prog lv X0 15 [] qb9 qba (fun x=>qbd x.1 x.2.1 x.2.2) (fun _ _ h=>qc7 h)
def qtg:=qbb::qtd
end
end Go.Proofs.YtmacbkjehjbjeaaGreatDoor
