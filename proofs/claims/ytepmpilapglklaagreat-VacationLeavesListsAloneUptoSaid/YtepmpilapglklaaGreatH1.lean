/- Functions of the program as plain functions: made by program from the machine. -/
import Derived.Test.YtepmpilapglklaaGreatGB
namespace Go.Proofs.YtepmpilapglklaaGreat
open Go.RowKit
set_option maxRecDepth 100000
noncomputable section
def q2y:=(qah (vC (cInt .i64)) (qaj (vC (cInt .i64))))
def q2z:Cod (V×List B) (Int×Int):=(cFstU (cPair (vAgg (qah (vC (cInt .i64)) (qaj (vC (cInt .i64))))) qai))
def q32 (code:Int) (at_:Int):Option (Int×Int):=fS Tryz.prog lv X0 32 q2y q2z (code,at_)
def q33 (code:Int) (at_:Int):Option (Int×Int) :=
 (some (code,at_))
theorem q31 {code at_ r} (h:q33 code at_=some r):q32 code at_=some r :=
 q6x (es:=tab0) (hs:=[]) [] Tryz.func32 rfl (by kernel_rfl) rfl (by kernel_rfl) (by kernel_rfl) trivial trivial (by kernel_rfl) h
def q30:=entS Tryz.prog lv X0 32 [] q2y q2z (fun x=>q32 x.1 x.2) (fun _ _ h=>q6w h)
def qtf:=q30::tab0
def q34:Cod (List V) Unit:=qai
def q35:Cod (V×List B) (Int×Int):=(cFstU (cPair (vAgg (qah (vC (cInt .i64)) (qaj (vC (cInt .i64))))) qai))
def q38 :Option (Int×Int):=fS Tryz.prog lv X0 30 q34 q35 ()
def q39 :Option (Int×Int) :=
 (some (0,0))
theorem q37 {r} (h:q39 =some r):q38 =some r :=
 q6x (es:=qtf) (hs:=[]) [] Tryz.func30 rfl (by kernel_rfl) rfl (by kernel_rfl) (by kernel_rfl) trivial trivial (by kernel_rfl) h
def q36:=entS Tryz.prog lv X0 30 [] q34 q35 (fun x=>q38 ) (fun _ _ h=>q6w h)
def qtg:=q36::qtf
def q2s:=(qaj (vAgg (qah (vC (cInt .i64)) (qaj (vC (cInt .i64))))))
def q2t:Cod (V×List B) Bool:=(cFstU (cPair (vC cBool) qai))
def q2w (f_Code:Int) (f_Index:Int):Option Bool:=fS Tryz.prog lv X0 24 q2s q2t (f_Code,f_Index)
def q2x (f_Code:Int) (f_Index:Int):Option Bool :=
 (some (f_Code != 0))
theorem q2v {f_Code f_Index r} (h:q2x f_Code f_Index=some r):q2w f_Code f_Index=some r :=
 q6x (es:=qtg) (hs:=[]) [] Tryz.func24 rfl (by kernel_rfl) rfl (by kernel_rfl) (by kernel_rfl) trivial trivial (by kernel_rfl) h
def q2u:=entS Tryz.prog lv X0 24 [] q2s q2t (fun x=>q2w x.1 x.2) (fun _ _ h=>q6w h)
def qte:=q2u::qtg
def q1am:=(qaj (vC (cInt .u8)))
def q1an:Cod (V×List B) Bool:=(cFstU (cPair (vC cBool) qai))
def q1aq (c:Int):Option Bool:=fS Tryz.prog lv X0 67 q1am q1an c
def q1ar (c:Int):Option Bool :=
 (brE ((decide (c≥97))==true)
 (brE ((decide (c≤122))==false)
 (brE ((decide (c≥65))==true)
 (brE ((decide (c≤90))==false)
 (brE ((decide (c≥48))==true)
 (some (decide (c≤57)))
 (some false))
 (some true))
 (brE ((decide (c≥48))==true)
 (some (decide (c≤57)))
 (some false)))
 (some true))
 (brE ((decide (c≥65))==true)
 (brE ((decide (c≤90))==false)
 (brE ((decide (c≥48))==true)
 (some (decide (c≤57)))
 (some false))
 (some true))
 (brE ((decide (c≥48))==true)
 (some (decide (c≤57)))
 (some false))))
theorem q1ap {c r} (h:q1ar c=some r):q1aq c=some r :=
 q6x (es:=qte) (hs:=[]) [] Tryz.func67 rfl (by kernel_rfl) rfl (by kernel_rfl) (by kernel_rfl) trivial trivial (by kernel_rfl) h
def q1ao:=entS Tryz.prog lv X0 67 [] q1am q1an (fun x=>q1aq x) (fun _ _ h=>q6w h)
def q1qc:=q1ao::qte
def q1a2:=(qaj (vC (cInt .u8)))
def q1a3:Cod (V×List B) Bool:=(cFstU (cPair (vC cBool) qai))
def q1a6 (c:Int):Option Bool:=fS Tryz.prog lv X0 103 q1a2 q1a3 c
def q1a7 (c:Int):Option Bool :=
 (brE ((c==32)==false)
 (some (c==9))
 (some true))
theorem q1a5 {c r} (h:q1a7 c=some r):q1a6 c=some r :=
 q6x (es:=q1qc) (hs:=[]) [] Tryz.func103 rfl (by kernel_rfl) rfl (by kernel_rfl) (by kernel_rfl) trivial trivial (by kernel_rfl) h
def q1a4:=entS Tryz.prog lv X0 103 [] q1a2 q1a3 (fun x=>q1a6 x) (fun _ _ h=>q6w h)
def q1qa:=q1a4::q1qc
def q5j:EC Int where
 enc x:=[.int .u8 x]
 dec c:=q9n (c.getD 0 .ne)
 is c:=isE [.int .u8] 0 c
 enc_dec h:=q4x h
 dec_enc x:=by rfl
 is_enc x:=by simp [isE,isK]
theorem enc_5 (x:Int):q5j.enc x=[.int .u8 x]:=rfl
theorem isE_5 (xs:List Int) (n:Nat):isE [.int .u8] 0 ((q5j.encL xs).getD n [])=decide (n<xs.length):=by
 by_cases h:n<xs.length
 ·simp only [EC.getD_lt _ _ h];simp [enc_5,isE,isK,h]
 ·simp only [EC.getD_ge _ _ (Nat.not_lt.1 h)];simp [isE,isK,h]
theorem at_5_0 (xs:List Int) (n:Nat):q9n (((q5j.encL xs).getD n []).getD 0 .ne)=(xs.getD n (q5j.dec [])):=by
 by_cases h:n<xs.length
 ·simp only [EC.getD_lt _ _ h];simp [enc_5,h,q9n,List.getD_eq_getElem?_getD]
 ·simp only [EC.getD_ge _ _ (Nat.not_lt.1 h)];simp [Nat.not_lt.1 h,q5j,q9n,List.getD_eq_getElem?_getD]
theorem len_5 (xs:List Int) (n:Nat) (h:n<xs.length):((q5j.encL xs).getD n []).length=1:=by rw [EC.getD_lt _ _ h];rfl
theorem q1ua (xs:List Int):(q5j.encL xs).all (fun (el:List C)=>el.length==1)=true:=by induction xs with|nil=>rfl|cons x xs ih=>first|(simp [EC.encL,enc_5];done)|simpa [EC.encL,enc_5] using ih
theorem q1oa (xs:List Int) (n:Nat) (a0:Int):(q5j.encL xs).set n (splice ((q5j.encL xs).getD n []) 0 [.int .u8 a0])=q5j.encL (xs.set n (a0)):=by
 by_cases h:n<xs.length
 ·rw [EC.getD_lt _ _ h];simp [EC.encL,List.map_set,enc_5,splice]
 ·simp [EC.encL,List.set_eq_of_length_le,Nat.not_lt.1 h]
def q1as:=(qaj (vC cStr))
def q1b1:=sLS [3,8,9,10] (qah (vRow 0) (qah (vRow 0) (qah (vC (cInt .i64)) (qaj (vC (cInt .i64)))))) (qaj (qd1 (bRow q5j))) [false] [] (by decide) (fun _=>rfl)
def q1b0:=sLS [3,8,9,10,11] (qah (vRow 0) (qah (vRow 0) (qah (vC (cInt .i64)) (qah (vC (cInt .i64)) (qaj (vC cBool)))))) (qaj (qd1 (bRow q5j))) [false] [] (by decide) (fun _=>rfl)
def q1az:=oAt 2 q1b0
def q1aw (b:Nat) (t8:Nat) (t9:Int) (t10:Int) (b0:(List Int)):Option ((Nat×Nat×Int×Int×Bool)×(List Int)):=lS Tryz.prog lv X0 53 30 (q8l (cdF Tryz.f53) 3) q1b1 q1az ((b,t8,t9,t10),b0)
def q1b2 (b:Nat) (t8:Nat) (t9:Int) (t10:Int) (b0:(List Int)):Option ((Nat×Nat×Int×Int×Bool)×(List Int)) :=
 (brE (decide (t10<t9))
 (gdE ((decide (0≤t10))&&(decide (t10<((t8:Nat):Int))))<|
 (gdE ((decide ((Int.toNat t10)<(List.length (EC.encL q5j b0))))&&((List.length (List.getD (EC.encL q5j b0) (Int.toNat t10) []))==1))<|
 (gdE (isP [(K1.int Go.IntKind.u8)] 0 (List.getD (EC.encL q5j b0) (Int.toNat t10) []))<|
 (brE ((decide ((q9n (List.getD (List.getD (EC.encL q5j b0) (Int.toNat t10) []) 0 C.ne))≥65))==true)
 (brE (decide ((q9n (List.getD (List.getD (EC.encL q5j b0) (Int.toNat t10) []) 0 C.ne))≤90))
 (gdE ((decide (0≤t10))&&(decide (t10<((b:Nat):Int))))<|
 (gdE ((decide ((Int.toNat t10)<(List.length (EC.encL q5j b0))))&&((List.length (List.getD (EC.encL q5j b0) (Int.toNat t10) []))==1))<|
 (gdE (EC.isL q5j (List.set (EC.encL q5j b0) (Int.toNat t10) (splice (List.getD (EC.encL q5j b0) (Int.toNat t10) []) 0 [(C.int Go.IntKind.u8 (IntKind.wrap .u8 ((IntKind.wrap .u8 ((q9n (List.getD (List.getD (EC.encL q5j b0) (Int.toNat t10) []) 0 C.ne))+97)) - 65)))])))<|
 (q1aw b t8 t9 (IntKind.wrap .i64 (t10+1)) (EC.decL q5j (List.set (EC.encL q5j b0) (Int.toNat t10) (splice (List.getD (EC.encL q5j b0) (Int.toNat t10) []) 0 [(C.int Go.IntKind.u8 (IntKind.wrap .u8 ((IntKind.wrap .u8 ((q9n (List.getD (List.getD (EC.encL q5j b0) (Int.toNat t10) []) 0 C.ne))+97)) - 65)))])))))))
 (gdE (EC.isL q5j (EC.encL q5j b0))<|
 (q1aw b t8 t9 (IntKind.wrap .i64 (t10+1)) (EC.decL q5j (EC.encL q5j b0)))))
 (gdE (EC.isL q5j (EC.encL q5j b0))<|
 (q1aw b t8 t9 (IntKind.wrap .i64 (t10+1)) (EC.decL q5j (EC.encL q5j b0))))))))
 (gdE (EC.isL q5j (EC.encL q5j b0))<|
 (some ((b,(t8,(t9,(t10,false)))),(EC.decL q5j (EC.encL q5j b0))))))
theorem q1ay {b t8 t9 t10 b0 r} (h:q1b2 b t8 t9 t10 b0=some r):q1aw b t8 t9 t10 b0=some r :=
 qal (es:=q1qa) (hs:=[]) [] (by kernel_rfl) trivial trivial (by kernel_rfl) h
def q1ax:=qb9 Tryz.prog lv X0 3 (q8l (cdF Tryz.f53) 3) q1b1 q1az (fun x=>q1aw x.1.1 x.1.2.1 x.1.2.2.1 x.1.2.2.2 x.2) (fun _ _ h=>qak h)
def q1at:Cod (V×List B) ByteArray:=(cFstU (cPair (vC cStr) qai))
def q1b3 (s:ByteArray):Option ByteArray:=fS Tryz.prog lv X0 53 q1as q1at s
def q1b4 (s:ByteArray):Option ByteArray :=
 (gdE ((decide (s.size≤9223372036854775807))&&(!(s.size==0)))<|
 (gdE (EC.isL q5j (bytesL s))<|
 ((q1aw s.size s.size (s.size:Int) 0 (EC.decL q5j (bytesL s))).bind fun r0 =>
 ((bytesOf (EC.encL q5j r0.2)).bind fun r1 =>
 (some (ByteArray.mk (List.toArray r1)))))))
theorem q1av {s r} (h:q1b4 s=some r):q1b3 s=some r :=
 q6x (es:=q1qa) (hs:=[]) [q1ax] Tryz.func53 rfl (by kernel_rfl) rfl (by kernel_rfl) (by kernel_rfl) ⟨⟨_,rfl,rfl⟩,trivial⟩ trivial (by kernel_rfl) h
def q1au:=entS Tryz.prog lv X0 53 [] q1as q1at (fun x=>q1b3 x) (fun _ _ h=>q6w h)
def q1qd:=q1au::q1qa
def q1bh:=(qah (vC cStr) (qaj (vC cStr)))
def q1bi:Cod (V×List B) Bool:=(cFstU (cPair (vC cBool) qai))
def q1bl (a:ByteArray) (b:ByteArray):Option Bool:=fS Tryz.prog lv X0 27 q1bh q1bi (a,b)
def q1bm (a:ByteArray) (b:ByteArray):Option Bool :=
 (brE (((a.size:Int)==(b.size:Int))==true)
 ((q1b3 a).bind fun r0 =>
 ((q1b3 b).bind fun r1 =>
 (some (r0.toList==r1.toList))))
 (some false))
theorem q1bk {a b r} (h:q1bm a b=some r):q1bl a b=some r :=
 q6x (es:=q1qd) (hs:=[]) [] Tryz.func27 rfl (by kernel_rfl) rfl (by kernel_rfl) (by kernel_rfl) trivial trivial (by kernel_rfl) h
def q1bj:=entS Tryz.prog lv X0 27 [] q1bh q1bi (fun x=>q1bl x.1 x.2) (fun _ _ h=>q6w h)
def q1qg:=q1bj::q1qd
def q1a8:=(qaj (vC (cSl q5j)))
def q1ai:=sLS [0,3,4] (qah (vC (cSl q5j)) (qah (vC (cInt .i64)) (qaj (vC (cInt .i64))))) qai [] [] (by decide) (fun _=>rfl)
def q1ah:=sLS [0,3,4,9] (qah (vC (cSl q5j)) (qah (vC (cInt .i64)) (qah (vC (cInt .i64)) (qaj (vC cBool))))) qai [] [] (by decide) (fun _=>rfl)
def q1ag:=sLS [2] (qaj (vC (cInt .i64))) qai [] [] (by decide) (fun _=>rfl)
def q1af:=oOr 1 q1ag (oAt 2 q1ah) (fun x=>(by decide:(2:Nat)≠1))
def q1ac (b:(List Int)) (column:Int) (i:Int):Option ((Int×Unit)⊕(((List Int)×Int×Int×Bool)×Unit)):=lS Tryz.prog lv X0 64 45 (q8l (cdF Tryz.f64) 3) q1ai q1af ((b,column,i),())
def q1aj (b:(List Int)) (column:Int) (i:Int):Option ((Int×Unit)⊕(((List Int)×Int×Int×Bool)×Unit)) :=
 (brE (decide (i<(List.length (EC.encL q5j b):Int)))
 (gdE (decide (0≤i))<|
 (gdE ((decide ((Int.toNat i)<(List.length (EC.encL q5j b))))&&(isE [(K1.int Go.IntKind.u8)] 0 (List.getD (EC.encL q5j b) (Int.toNat i) [])))<|
 (brE (((q9n (List.getD (List.getD (EC.encL q5j b) (Int.toNat i) []) 0 C.ne))==13)==true)
 (brE ((decide ((IntKind.wrap .i64 (i+1))<(List.length (EC.encL q5j b):Int)))==true)
 (gdE (decide (0≤(IntKind.wrap .i64 (i+1))))<|
 (gdE ((decide ((Int.toNat (IntKind.wrap .i64 (i+1)))<(List.length (EC.encL q5j b))))&&(isE [(K1.int Go.IntKind.u8)] 0 (List.getD (EC.encL q5j b) (Int.toNat (IntKind.wrap .i64 (i+1))) [])))<|
 (brE ((q9n (List.getD (List.getD (EC.encL q5j b) (Int.toNat (IntKind.wrap .i64 (i+1))) []) 0 C.ne))==10)
 (gdE (EC.isL q5j (EC.encL q5j b))<|
 (q1ac (EC.decL q5j (EC.encL q5j b)) 0 (IntKind.wrap .i64 ((IntKind.wrap .i64 (i+1))+1))))
 (brE (((q9n (List.getD (List.getD (EC.encL q5j b) (Int.toNat i) []) 0 C.ne))==13)==false)
 (brE ((q9n (List.getD (List.getD (EC.encL q5j b) (Int.toNat i) []) 0 C.ne))==10)
 (some (.inl (11,())))
 (brE (decide ((IntKind.wrap .i64 (column+1))>998))
 (some (.inl (1,())))
 (gdE (EC.isL q5j (EC.encL q5j b))<|
 (q1ac (EC.decL q5j (EC.encL q5j b)) (IntKind.wrap .i64 (column+1)) (IntKind.wrap .i64 (i+1))))))
 (some (.inl (11,())))))))
 (brE (((q9n (List.getD (List.getD (EC.encL q5j b) (Int.toNat i) []) 0 C.ne))==13)==false)
 (brE ((q9n (List.getD (List.getD (EC.encL q5j b) (Int.toNat i) []) 0 C.ne))==10)
 (some (.inl (11,())))
 (brE (decide ((IntKind.wrap .i64 (column+1))>998))
 (some (.inl (1,())))
 (gdE (EC.isL q5j (EC.encL q5j b))<|
 (q1ac (EC.decL q5j (EC.encL q5j b)) (IntKind.wrap .i64 (column+1)) (IntKind.wrap .i64 (i+1))))))
 (some (.inl (11,())))))
 (brE (((q9n (List.getD (List.getD (EC.encL q5j b) (Int.toNat i) []) 0 C.ne))==13)==false)
 (brE ((q9n (List.getD (List.getD (EC.encL q5j b) (Int.toNat i) []) 0 C.ne))==10)
 (some (.inl (11,())))
 (brE (decide ((IntKind.wrap .i64 (column+1))>998))
 (some (.inl (1,())))
 (gdE (EC.isL q5j (EC.encL q5j b))<|
 (q1ac (EC.decL q5j (EC.encL q5j b)) (IntKind.wrap .i64 (column+1)) (IntKind.wrap .i64 (i+1))))))
 (some (.inl (11,())))))))
 (gdE (EC.isL q5j (EC.encL q5j b))<|
 (some (.inr (((EC.decL q5j (EC.encL q5j b)),(column,(i,false))),())))))
theorem q1ae {b column i r} (h:q1aj b column i=some r):q1ac b column i=some r :=
 qal (es:=q1qg) (hs:=[]) [] (by kernel_rfl) trivial trivial (by kernel_rfl) h
def q1ad:=qb9 Tryz.prog lv X0 3 (q8l (cdF Tryz.f64) 3) q1ai q1af (fun x=>q1ac x.1.1 x.1.2.1 x.1.2.2) (fun _ _ h=>qak h)
def q1a9:Cod (V×List B) Int:=(cFstU (cPair (vC (cInt .i64)) qai))
def q1ak (b:(List Int)):Option Int:=fS Tryz.prog lv X0 64 q1a8 q1a9 b
def q1al (b:(List Int)):Option Int :=
 (gdE (EC.isL q5j (EC.encL q5j b))<|
 ((q1ac (EC.decL q5j (EC.encL q5j b)) 0 0).bind fun r0 =>
 (Sum.elim (fun r1=>(some r1.1))
 (fun r1=>(some 0)) r0)))
theorem q1ab {b r} (h:q1al b=some r):q1ak b=some r :=
 q6x (es:=q1qg) (hs:=[]) [q1ad] Tryz.func64 rfl (by kernel_rfl) rfl (by kernel_rfl) (by kernel_rfl) ⟨⟨_,rfl,rfl⟩,trivial⟩ trivial (by kernel_rfl) h
def q1aa:=entS Tryz.prog lv X0 64 [] q1a8 q1a9 (fun x=>q1ak x) (fun _ _ h=>q6w h)
def q1qb:=q1aa::q1qg
def q1b5:=(qaj (vC (cInt .u8)))
def q1b6:Cod (V×List B) Bool:=(cFstU (cPair (vC cBool) qai))
def q1b9 (c:Int):Option Bool:=fS Tryz.prog lv X0 66 q1b5 q1b6 c
def q1ba (c:Int):Option Bool :=
 ((q1aq c).bind fun r0 =>
 (brE (r0==false)
 (brE ((c==45)==false)
 (brE ((c==95)==false)
 (some (c==46))
 (some true))
 (some true))
 (some true)))
theorem q1b8 {c r} (h:q1ba c=some r):q1b9 c=some r :=
 q6x (es:=q1qb) (hs:=[]) [] Tryz.func66 rfl (by kernel_rfl) rfl (by kernel_rfl) (by kernel_rfl) trivial trivial (by kernel_rfl) h
def q1b7:=entS Tryz.prog lv X0 66 [] q1b5 q1b6 (fun x=>q1b9 x) (fun _ _ h=>q6w h)
def q1qf:=q1b7::q1qb
def q192:Cod (List V) (ByteArray×Unit):=(qah (vC cStr) (qaj (vFn 66 qai)))
def q19c:=sLS [0,1,7,8] (qah (vC cStr) (qah (vFn 66 qai) (qah (vC (cInt .i64)) (qaj (vC (cInt .i64)))))) qai [] [] (by decide) (fun _=>rfl)
def q19b:=sLS [0,1,7,8,9] (qah (vC cStr) (qah (vFn 66 qai) (qah (vC (cInt .i64)) (qah (vC (cInt .i64)) (qaj (vC cBool)))))) qai [] [] (by decide) (fun _=>rfl)
def q19a:=sLS [4] (qaj (vC cBool)) qai [] [] (by decide) (fun _=>rfl)
def q199:=oOr 1 q19a (oAt 2 q19b) (fun x=>(by decide:(2:Nat)≠1))
def q196 (s:ByteArray) (t7:Int) (t8:Int):Option ((Bool×Unit)⊕((ByteArray×Unit×Int×Int×Bool)×Unit)):=lS Tryz.prog lv X0 65 18 (q8l (cdF Tryz.f65) 2) q19c q199 ((s,(),t7,t8),())
def q19d (s:ByteArray) (t7:Int) (t8:Int):Option ((Bool×Unit)⊕((ByteArray×Unit×Int×Int×Bool)×Unit)) :=
 (brE (decide (t8<t7))
 (gdE ((decide (0≤t8))&&(decide ((Int.toNat t8)<s.size)))<|
 ((q1b9 (((UInt8.toNat (Array.getD s.data (Int.toNat t8) (0:UInt8))):Nat):Int)).bind fun r0 =>
 (brE (!r0)
 (some (.inl (false,())))
 (q196 s t7 (IntKind.wrap .i64 (t8+1))))))
 (some (.inr ((s,((),(t7,(t8,false)))),()))))
theorem q198 {s t7 t8 r} (h:q19d s t7 t8=some r):q196 s t7 t8=some r :=
 qal (es:=q1qf) (hs:=[]) [] (by kernel_rfl) trivial trivial (by kernel_rfl) h
def q197:=qb9 Tryz.prog lv X0 2 (q8l (cdF Tryz.f65) 2) q19c q199 (fun x=>q196 x.1.1 x.1.2.2.1 x.1.2.2.2) (fun _ _ h=>qak h)
def q193:Cod (V×List B) Bool:=(cFstU (cPair (vC cBool) qai))
def q19g (s:ByteArray):Option Bool:=fS Tryz.prog lv X0 65 q192 q193 (s,())
def q19i (s:ByteArray):Option Bool :=
 ((q196 s (s.size:Int) 0).bind fun r0 =>
 (Sum.elim (fun r1=>(some r1.1))
 (fun r1=>(some true)) r0))
theorem q195 {s r} (h:q19i s=some r):q19g s=some r :=
 q6x (es:=q1qf) (hs:=[]) [q197] Tryz.func65 rfl (by kernel_rfl) rfl (by kernel_rfl) (by kernel_rfl) ⟨⟨_,rfl,rfl⟩,trivial⟩ trivial (by kernel_rfl) h
def q194:=entS Tryz.prog lv X0 65 [66] q192 q193 (fun x=>q19g x.1) (fun _ _ h=>q6w h)
def q1q8:=q194::q1qf
def q1bb:=(qaj (vC cStr))
def q1bc:Cod (V×List B) Bool:=(cFstU (cPair (vC cBool) qai))
def q1bf (s:ByteArray):Option Bool:=fS Tryz.prog lv X0 41 q1bb q1bc s
def q1bg (s:ByteArray):Option Bool :=
 (brE ((!(s.toList==(ByteArray.toList ⟨#[]⟩)))==true)
 (brE ((decide ((s.size:Int)≤60))==true)
 ((q19g s).bind fun r0 =>
 (some r0))
 (some false))
 (some false))
theorem q1be {s r} (h:q1bg s=some r):q1bf s=some r :=
 q6x (es:=q1q8) (hs:=[]) [] Tryz.func41 rfl (by kernel_rfl) rfl (by kernel_rfl) (by kernel_rfl) trivial trivial (by kernel_rfl) h
def q1bd:=entS Tryz.prog lv X0 41 [] q1bb q1bc (fun x=>q1bf x) (fun _ _ h=>q6w h)
def q1qe:=q1bd::q1q8
def q1pj:=(qah (vC cStr) (qaj (vC cStr)))
def q1pk:Cod (V×List B) Bool:=(cFstU (cPair (vC cBool) qai))
def q1pn (s:ByteArray) (prefix_:ByteArray):Option Bool:=fS Tryz.prog lv X0 109 q1pj q1pk (s,prefix_)
def q1po (s:ByteArray) (prefix_:ByteArray):Option Bool :=
 (brE ((decide ((s.size:Int)≥(prefix_.size:Int)))==true)
 (gdE ((decide (0≤(prefix_.size:Int)))&&(decide ((prefix_.size:Int)≤(s.size:Int))))<|
 (some ((ByteArray.toList (ByteArray.extract s 0 (Int.toNat (prefix_.size:Int))))==prefix_.toList)))
 (some false))
theorem q1pm {s prefix_ r} (h:q1po s prefix_=some r):q1pn s prefix_=some r :=
 q6x (es:=q1qe) (hs:=[]) [] Tryz.func109 rfl (by kernel_rfl) rfl (by kernel_rfl) (by kernel_rfl) trivial trivial (by kernel_rfl) h
def q1pl:=entS Tryz.prog lv X0 109 [] q1pj q1pk (fun x=>q1pn x.1 x.2) (fun _ _ h=>q6w h)
def q1rd:=q1pl::q1qe
def q1pp:=(qah (vC cStr) (qaj (vC cStr)))
def q1pq:Cod (V×List B) Bool:=(cFstU (cPair (vC cBool) qai))
def q1pt (s:ByteArray) (suffix:ByteArray):Option Bool:=fS Tryz.prog lv X0 92 q1pp q1pq (s,suffix)
def q1pu (s:ByteArray) (suffix:ByteArray):Option Bool :=
 (brE ((decide ((s.size:Int)≥(suffix.size:Int)))==true)
 (gdE ((decide (0≤(IntKind.wrap .i64 ((s.size:Int) - (suffix.size:Int)))))&&(decide ((IntKind.wrap .i64 ((s.size:Int) - (suffix.size:Int)))≤(s.size:Int))))<|
 (some ((ByteArray.toList (ByteArray.extract s (Int.toNat (IntKind.wrap .i64 ((s.size:Int) - (suffix.size:Int)))) s.size))==suffix.toList)))
 (some false))
theorem q1ps {s suffix r} (h:q1pu s suffix=some r):q1pt s suffix=some r :=
 q6x (es:=q1rd) (hs:=[]) [] Tryz.func92 rfl (by kernel_rfl) rfl (by kernel_rfl) (by kernel_rfl) trivial trivial (by kernel_rfl) h
def q1pr:=entS Tryz.prog lv X0 92 [] q1pp q1pq (fun x=>q1pt x.1 x.2) (fun _ _ h=>q6w h)
def q1re:=q1pr::q1rd
def q1p1:=(qah (vC cStr) (qaj (vC cStr)))
def q1p2:Cod (V×List B) Bool:=(cFstU (cPair (vC cBool) qai))
def q1p5 (s:ByteArray) (prefix_:ByteArray):Option Bool:=fS Tryz.prog lv X0 99 q1p1 q1p2 (s,prefix_)
def q1p6 (s:ByteArray) (prefix_:ByteArray):Option Bool :=
 ((q1pn s prefix_).bind fun r0 =>
 (some r0))
theorem q1p4 {s prefix_ r} (h:q1p6 s prefix_=some r):q1p5 s prefix_=some r :=
 q6x (es:=q1re) (hs:=[]) [] Tryz.func99 rfl (by kernel_rfl) rfl (by kernel_rfl) (by kernel_rfl) trivial trivial (by kernel_rfl) h
def q1p3:=entS Tryz.prog lv X0 99 [] q1p1 q1p2 (fun x=>q1p5 x.1 x.2) (fun _ _ h=>q6w h)
def q1ra:=q1p3::q1re
def q1p7:=(qah (vC cStr) (qaj (vC cStr)))
def q1p8:Cod (V×List B) Bool:=(cFstU (cPair (vC cBool) qai))
def q1pb (s:ByteArray) (suffix:ByteArray):Option Bool:=fS Tryz.prog lv X0 80 q1p7 q1p8 (s,suffix)
def q1pc (s:ByteArray) (suffix:ByteArray):Option Bool :=
 ((q1pt s suffix).bind fun r0 =>
 (some r0))
theorem q1pa {s suffix r} (h:q1pc s suffix=some r):q1pb s suffix=some r :=
 q6x (es:=q1ra) (hs:=[]) [] Tryz.func80 rfl (by kernel_rfl) rfl (by kernel_rfl) (by kernel_rfl) trivial trivial (by kernel_rfl) h
def q1p9:=entS Tryz.prog lv X0 80 [] q1p7 q1p8 (fun x=>q1pb x.1 x.2) (fun _ _ h=>q6w h)
def q1rb:=q1p9::q1ra
def q1gj:=(qaj (vC (cInt .u8)))
def q1gk:Cod (V×List B) Bool:=(cFstU (cPair (vC cBool) qai))
def q1gn (c:Int):Option Bool:=fS Tryz.prog lv X0 101 q1gj q1gk c
def q1go (c:Int):Option Bool :=
 (brE ((decide (c≥33))==true)
 (brE ((decide (c≤126))==true)
 (some (c != 58))
 (some false))
 (some false))
theorem q1gm {c r} (h:q1go c=some r):q1gn c=some r :=
 q6x (es:=q1rb) (hs:=[]) [] Tryz.func101 rfl (by kernel_rfl) rfl (by kernel_rfl) (by kernel_rfl) trivial trivial (by kernel_rfl) h
def q1gl:=entS Tryz.prog lv X0 101 [] q1gj q1gk (fun x=>q1gn x) (fun _ _ h=>q6w h)
def q1qu:=q1gl::q1rb
def q183:Cod (List V) (ByteArray×Unit):=(qah (vC cStr) (qaj (vFn 101 qai)))
def q18d:=sLS [0,1,7,8] (qah (vC cStr) (qah (vFn 101 qai) (qah (vC (cInt .i64)) (qaj (vC (cInt .i64)))))) qai [] [] (by decide) (fun _=>rfl)
def q18c:=sLS [0,1,7,8,9] (qah (vC cStr) (qah (vFn 101 qai) (qah (vC (cInt .i64)) (qah (vC (cInt .i64)) (qaj (vC cBool)))))) qai [] [] (by decide) (fun _=>rfl)
def q18b:=sLS [4] (qaj (vC cBool)) qai [] [] (by decide) (fun _=>rfl)
def q18a:=oOr 1 q18b (oAt 2 q18c) (fun x=>(by decide:(2:Nat)≠1))
def q187 (s:ByteArray) (t7:Int) (t8:Int):Option ((Bool×Unit)⊕((ByteArray×Unit×Int×Int×Bool)×Unit)):=lS Tryz.prog lv X0 65 18 (q8l (cdF Tryz.f65) 2) q18d q18a ((s,(),t7,t8),())
def q18e (s:ByteArray) (t7:Int) (t8:Int):Option ((Bool×Unit)⊕((ByteArray×Unit×Int×Int×Bool)×Unit)) :=
 (brE (decide (t8<t7))
 (gdE ((decide (0≤t8))&&(decide ((Int.toNat t8)<s.size)))<|
 ((q1gn (((UInt8.toNat (Array.getD s.data (Int.toNat t8) (0:UInt8))):Nat):Int)).bind fun r0 =>
 (brE (!r0)
 (some (.inl (false,())))
 (q187 s t7 (IntKind.wrap .i64 (t8+1))))))
 (some (.inr ((s,((),(t7,(t8,false)))),()))))
theorem q189 {s t7 t8 r} (h:q18e s t7 t8=some r):q187 s t7 t8=some r :=
 qal (es:=q1qu) (hs:=[]) [] (by kernel_rfl) trivial trivial (by kernel_rfl) h
def q188:=qb9 Tryz.prog lv X0 2 (q8l (cdF Tryz.f65) 2) q18d q18a (fun x=>q187 x.1.1 x.1.2.2.1 x.1.2.2.2) (fun _ _ h=>qak h)
def q184:Cod (V×List B) Bool:=(cFstU (cPair (vC cBool) qai))
def q18h (s:ByteArray):Option Bool:=fS Tryz.prog lv X0 65 q183 q184 (s,())
def q18j (s:ByteArray):Option Bool :=
 ((q187 s (s.size:Int) 0).bind fun r0 =>
 (Sum.elim (fun r1=>(some r1.1))
 (fun r1=>(some true)) r0))
theorem q186 {s r} (h:q18j s=some r):q18h s=some r :=
 q6x (es:=q1qu) (hs:=[]) [q188] Tryz.func65 rfl (by kernel_rfl) rfl (by kernel_rfl) (by kernel_rfl) ⟨⟨_,rfl,rfl⟩,trivial⟩ trivial (by kernel_rfl) h
def q185:=entS Tryz.prog lv X0 65 [101] q183 q184 (fun x=>q18h x.1) (fun _ _ h=>q6w h)
def q1q6:=q185::q1qu
def q1gp:=(qaj (vC cStr))
def q1gq:Cod (V×List B) Bool:=(cFstU (cPair (vC cBool) qai))
def q1gt (s:ByteArray):Option Bool:=fS Tryz.prog lv X0 86 q1gp q1gq s
def q1gu (s:ByteArray):Option Bool :=
 (brE ((!(s.toList==(ByteArray.toList ⟨#[]⟩)))==true)
 (brE ((decide ((s.size:Int)≤60))==true)
 ((q18h s).bind fun r0 =>
 (some r0))
 (some false))
 (some false))
theorem q1gs {s r} (h:q1gu s=some r):q1gt s=some r :=
 q6x (es:=q1q6) (hs:=[]) [] Tryz.func86 rfl (by kernel_rfl) rfl (by kernel_rfl) (by kernel_rfl) trivial trivial (by kernel_rfl) h
def q1gr:=entS Tryz.prog lv X0 86 [] q1gp q1gq (fun x=>q1gt x) (fun _ _ h=>q6w h)
def q1qt:=q1gr::q1q6
def q1gc:=(qaj (vC cStr))
def q1gd:Cod (V×List B) Bool:=(cFstU (cPair (vC cBool) qai))
def q1gg (s:ByteArray):Option Bool:=fS Tryz.prog lv X0 102 q1gc q1gd s
def q1gh (s:ByteArray):Option Bool :=
 ((canyP s (ByteArray.mk (List.toArray [(13:UInt8),(10:UInt8),(0:UInt8)]))).bind fun r0 =>
 (some r0))
theorem q1gf {s r} (h:q1gh s=some r):q1gg s=some r :=
 q6x (es:=q1qt) (hs:=[]) [] Tryz.func102 rfl (by kernel_rfl) rfl (by kernel_rfl) (by kernel_rfl) trivial trivial (by kernel_rfl) h
def q1ge:=entS Tryz.prog lv X0 102 [] q1gc q1gd (fun x=>q1gg x) (fun _ _ h=>q6w h)
def q1qs:=q1ge::q1qt
def q1ha:=(qaj (vC cStr))
def q1hb:Cod (V×List B) Bool:=(cFstU (cPair (vC cBool) qai))
def q1he (s:ByteArray):Option Bool:=fS Tryz.prog lv X0 87 q1ha q1hb s
def q1hf (s:ByteArray):Option Bool :=
 ((q1gg s).bind fun r0 =>
 (brE ((!r0)==true)
 (brE ((s.toList==(ByteArray.toList ⟨#[]⟩))==false)
 (gdE ((decide ((0:Int)≤0))&&(decide ((Int.toNat 0)<s.size)))<|
 ((q1a6 (((UInt8.toNat (Array.getD s.data (Int.toNat 0) (0:UInt8))):Nat):Int)).bind fun r1 =>
 (brE ((!r1)==true)
 (gdE ((decide (0≤(IntKind.wrap .i64 ((s.size:Int) - 1))))&&(decide ((Int.toNat (IntKind.wrap .i64 ((s.size:Int) - 1)))<s.size)))<|
 (Option.bind (q1a6 (((UInt8.toNat (Array.getD s.data (Int.toNat (IntKind.wrap .i64 ((s.size:Int) - 1))) (0:UInt8))):Nat):Int)) fun r2 =>
 (some (!r2))))
 (some false))))
 (some true))
 (some false)))
theorem q1hd {s r} (h:q1hf s=some r):q1he s=some r :=
 q6x (es:=q1qs) (hs:=[]) [] Tryz.func87 rfl (by kernel_rfl) rfl (by kernel_rfl) (by kernel_rfl) trivial trivial (by kernel_rfl) h
def q1hc:=entS Tryz.prog lv X0 87 [] q1ha q1hb (fun x=>q1he x) (fun _ _ h=>q6w h)
def q1qw:=q1hc::q1qs
def q1gw:=(qah (vC cStr) (qaj (vC (cInt .i64))))
def q1h6:=sLS [0,5,6] (qah (vC cStr) (qah (vC (cInt .i64)) (qaj (vC (cInt .i64))))) qai [] [] (by decide) (fun _=>rfl)
def q1h4:=sLS [0,5,6,32] (qah (vC cStr) (qah (vC (cInt .i64)) (qah (vC (cInt .i64)) (qaj (vC cBool))))) qai [] [] (by decide) (fun _=>rfl)
def q1h5:SC ((ByteArray×Int×Int×Bool)×Unit):=sLS [0,5,6,12] (qah (vC cStr) (qah (vC (cInt .i64)) (qah (vC (cInt .i64)) (qaj (vC cBool))))) qai [] [] (by decide) (fun _=>rfl)
def q1h3:=oOrK 2 [0,5,6,12] q1h5 (oAt 2 q1h4) (fun x y=>.inr (st_ne 12 (by decide:(false:Bool)≠true)))
def q1h0 (s:ByteArray) (best:Int) (i:Int):Option (((ByteArray×Int×Int×Bool)×Unit)⊕((ByteArray×Int×Int×Bool)×Unit)):=lS Tryz.prog lv X0 88 35 (q8l (cdF Tryz.f88) 3) q1h6 q1h3 ((s,best,i),())
def q1h7 (s:ByteArray) (best:Int) (i:Int):Option (((ByteArray×Int×Int×Bool)×Unit)⊕((ByteArray×Int×Int×Bool)×Unit)) :=
 (brE (decide (i<(s.size:Int)))
 (gdE ((decide (0≤i))&&(decide ((Int.toNat i)<s.size)))<|
 ((q1a6 (((UInt8.toNat (Array.getD s.data (Int.toNat i) (0:UInt8))):Nat):Int)).bind fun r0 =>
 (brE ((!r0)==false)
 (gdE ((decide (0≤(IntKind.wrap .i64 (i - 1))))&&(decide ((Int.toNat (IntKind.wrap .i64 (i - 1)))<s.size)))<|
 (Option.bind (q1a6 (((UInt8.toNat (Array.getD s.data (Int.toNat (IntKind.wrap .i64 (i - 1))) (0:UInt8))):Nat):Int)) fun r1 =>
 (brE r1
 (q1h0 s best (IntKind.wrap .i64 (i+1)))
 (brE ((decide (best>0))==true)
 (brE (decide (i>78))
 (some (.inr ((s,(best,(i,true))),())))
 (q1h0 s i (IntKind.wrap .i64 (i+1))))
 (q1h0 s i (IntKind.wrap .i64 (i+1)))))))
 (q1h0 s best (IntKind.wrap .i64 (i+1))))))
 (some (.inl ((s,(best,(i,false))),()))))
theorem q1h2 {s best i r} (h:q1h7 s best i=some r):q1h0 s best i=some r :=
 qal (es:=q1qw) (hs:=[]) [] (by kernel_rfl) trivial trivial (by kernel_rfl) h
def q1h1:=qb9 Tryz.prog lv X0 3 (q8l (cdF Tryz.f88) 3) q1h6 q1h3 (fun x=>q1h0 x.1.1 x.1.2.1 x.1.2.2) (fun _ _ h=>qak h)
def q1gx:Cod (V×List B) Int:=(cFstU (cPair (vC (cInt .i64)) qai))
def q1h8 (s:ByteArray) (from_:Int):Option Int:=fS Tryz.prog lv X0 88 q1gw q1gx (s,from_)
def q1h9 (s:ByteArray) (from_:Int):Option Int :=
 ((q1h0 s 0 (ite (true=true) (ite (from_<1) 1 from_) (ite (1<from_) 1 from_))).bind fun r0 =>
 (Sum.elim (fun r1=>(some r1.1.2.1))
 (fun r1=>(some r1.1.2.1)) r0))
theorem q1gz {s from_ r} (h:q1h9 s from_=some r):q1h8 s from_=some r :=
 q6x (es:=q1qw) (hs:=[]) [q1h1] Tryz.func88 rfl (by kernel_rfl) rfl (by kernel_rfl) (by kernel_rfl) ⟨⟨_,rfl,rfl⟩,trivial⟩ trivial (by kernel_rfl) h
def q1gy:=entS Tryz.prog lv X0 88 [] q1gw q1gx (fun x=>q1h8 x.1 x.2) (fun _ _ h=>q6w h)
def q1qv:=q1gy::q1qw
def q5m:EC ByteArray where
 enc x:=[.str x]
 dec c:=qss (c.getD 0 .ne)
 is c:=isE [.str] 0 c
 enc_dec h:=q4x h
 dec_enc x:=by rfl
 is_enc x:=by simp [isE,isK]
theorem enc_9 (x:ByteArray):q5m.enc x=[.str x]:=rfl
theorem isE_9 (xs:List ByteArray) (n:Nat):isE [.str] 0 ((q5m.encL xs).getD n [])=decide (n<xs.length):=by
 by_cases h:n<xs.length
 ·simp only [EC.getD_lt _ _ h];simp [enc_9,isE,isK,h]
 ·simp only [EC.getD_ge _ _ (Nat.not_lt.1 h)];simp [isE,isK,h]
theorem q1ue (xs:List ByteArray) (n:Nat):qss (((q5m.encL xs).getD n []).getD 0 .ne)=(xs.getD n (q5m.dec [])):=by
 by_cases h:n<xs.length
 ·simp only [EC.getD_lt _ _ h];simp [enc_9,h,qss,List.getD_eq_getElem?_getD]
 ·simp only [EC.getD_ge _ _ (Nat.not_lt.1 h)];simp [Nat.not_lt.1 h,q5m,qss,List.getD_eq_getElem?_getD]
theorem lit_9 (a0:ByteArray):([.str a0]:List C)=q5m.enc a0:=rfl
theorem q1ud (xs:List ByteArray) (a0:ByteArray):q5m.encL xs++[[.str a0]]=q5m.encL (xs++[a0]):=by rw [lit_9];simp [EC.encL]
theorem len_9 (xs:List ByteArray) (n:Nat) (h:n<xs.length):((q5m.encL xs).getD n []).length=1:=by rw [EC.getD_lt _ _ h];rfl
theorem q1ub (xs:List ByteArray):(q5m.encL xs).all (fun (el:List C)=>el.length==1)=true:=by induction xs with|nil=>rfl|cons x xs ih=>first|(simp [EC.encL,enc_9];done)|simpa [EC.encL,enc_9] using ih
def q1fq:=(qah (vC cStr) (qaj (vC cStr)))
def q1g8:=sLS [5,6,7,8] (qah (vPtr 0 0) (qah (vC cStr) (qah (vC (cInt .i64)) (qaj (vRow 1))))) (qah (qd1 (bBox (qah (vC (cInt .i64)) (qaj (vC (cInt .i64)))))) (qaj (qd1 (bRow q5m)))) [false,false] [] (by decide) (fun _=>rfl)
def q1g6:=sLS [5,6,8,9,41] (qah (vPtr 0 0) (qah (vC cStr) (qah (vRow 1) (qah (vC (cInt .i64)) (qaj (vC cBool)))))) (qah (qd1 (bBox (qah (vC (cInt .i64)) (qaj (vC (cInt .i64)))))) (qaj (qd1 (bRow q5m)))) [false,false] [] (by decide) (fun _=>rfl)
def q1g7:SC ((Unit×ByteArray×Int×Nat×Bool)×((Int×Int)×(List ByteArray))):=sLS [5,6,7,8,36] (qah (vPtr 0 0) (qah (vC cStr) (qah (vC (cInt .i64)) (qah (vRow 1) (qaj (vC cBool)))))) (qah (qd1 (bBox (qah (vC (cInt .i64)) (qaj (vC (cInt .i64)))))) (qaj (qd1 (bRow q5m)))) [false,false] [] (by decide) (fun _=>rfl)
def q1g5:=oOrK 3 [5,6,7,8,36] q1g7 (oAt 3 q1g6) (fun x y=>.inr (st_ne 7 (by decide:(false:Bool)≠true)))
def q1g2 (rest:ByteArray) (from_:Int) (out:Nat) (b0:Int) (b0_1:Int) (b1:(List ByteArray)):Option (((Unit×ByteArray×Int×Nat×Bool)×((Int×Int)×(List ByteArray)))⊕((Unit×ByteArray×Nat×Int×Bool)×((Int×Int)×(List ByteArray)))):=lS Tryz.prog lv X0 63 70 (q8l (cdF Tryz.f63) 9) q1g8 q1g5 (((),rest,from_,out),((b0,b0_1),b1))
def q1g9 (rest:ByteArray) (from_:Int) (out:Nat) (b0:Int) (b0_1:Int) (b1:(List ByteArray)):Option (((Unit×ByteArray×Int×Nat×Bool)×((Int×Int)×(List ByteArray)))⊕((Unit×ByteArray×Nat×Int×Bool)×((Int×Int)×(List ByteArray)))) :=
 (brE (decide ((rest.size:Int)>78))
 ((q1h8 rest from_).bind fun r0 =>
 (brE (r0==0)
 (gdE (EC.isL q5m (EC.encL q5m b1))<|
 (some (.inr (((),(rest,(out,(r0,true)))),((b0,b0_1),(EC.decL q5m (EC.encL q5m b1)))))))
 (gdE ((decide (0≤r0))&&(decide (r0≤(rest.size:Int))))<|
 (gdE ((((List.all [[(C.str (ByteArray.extract rest 0 (Int.toNat r0)))]] (fun (el:(List C))=>((List.length el)==1)))&&(List.all (EC.encL q5m b1) (fun (el:(List C))=>((List.length el)==1))))&&(decide (((((out+(List.length [[(C.str (ByteArray.extract rest 0 (Int.toNat r0)))]]))+((out+(List.length [[(C.str (ByteArray.extract rest 0 (Int.toNat r0)))]])) / 4))+192)*16)≤281474976710656)))&&(decide ((out+(List.length [[(C.str (ByteArray.extract rest 0 (Int.toNat r0)))]]))≤9223372036854775807)))<|
 (gdE ((decide (0≤r0))&&(decide (r0≤(rest.size:Int))))<|
 (gdE (EC.isL q5m ((EC.encL q5m b1)++[[(C.str (ByteArray.extract rest 0 (Int.toNat r0)))]]))<|
 (q1g2 (ByteArray.extract rest (Int.toNat r0) rest.size) 0 (out+(List.length [[(C.str (ByteArray.extract rest 0 (Int.toNat r0)))]])) b0 b0_1 (EC.decL q5m ((EC.encL q5m b1)++[[(C.str (ByteArray.extract rest 0 (Int.toNat r0)))]])))))))))
 (gdE (EC.isL q5m (EC.encL q5m b1))<|
 (some (.inl (((),(rest,(from_,(out,false)))),((b0,b0_1),(EC.decL q5m (EC.encL q5m b1))))))))
theorem q1g4 {rest from_ out b0 b0_1 b1 r} (h:q1g9 rest from_ out b0 b0_1 b1=some r):q1g2 rest from_ out b0 b0_1 b1=some r :=
 qal (es:=q1qv) (hs:=[]) [] (by kernel_rfl) trivial trivial (by kernel_rfl) h
def q1g3:=qb9 Tryz.prog lv X0 9 (q8l (cdF Tryz.f63) 9) q1g8 q1g5 (fun x=>q1g2 x.1.2.1 x.1.2.2.1 x.1.2.2.2 x.2.1.1 x.2.1.2 x.2.2) (fun _ _ h=>qak h)
def q1g0:=sLS [5,8,55,56,57] (qah (vPtr 0 0) (qah (vRow 1) (qah (vRow 1) (qah (vC (cInt .i64)) (qaj (vC (cInt .i64))))))) (qah (qd1 (bBox (qah (vC (cInt .i64)) (qaj (vC (cInt .i64)))))) (qaj (qd1 (bRow q5m)))) [false,false] [] (by decide) (fun _=>rfl)
def q1fz:=sLS [5,8,55,56,57,58] (qah (vPtr 0 0) (qah (vRow 1) (qah (vRow 1) (qah (vC (cInt .i64)) (qah (vC (cInt .i64)) (qaj (vC cBool))))))) (qah (qd1 (bBox (qah (vC (cInt .i64)) (qaj (vC (cInt .i64)))))) (qaj (qd1 (bRow q5m)))) [false,false] [] (by decide) (fun _=>rfl)
def q1fy:=sLS [4,5] (qah (vRow 0) (qaj (vPtr 1 0))) (qah (qd1 (bRow q5m)) (qaj (qd1 (bBox (qah (vC (cInt .i64)) (qaj (vC (cInt .i64)))))))) [false,false] [] (by decide) (fun _=>rfl)
def q1fx:=oOr 1 q1fy (oAt 5 q1fz) (fun x=>(by decide:(5:Nat)≠1))
def q1fu (out:Nat) (t55:Nat) (t56:Int) (t57:Int) (b0:Int) (b0_1:Int) (b1:(List ByteArray)):Option (((Nat×Unit)×((List ByteArray)×(Int×Int)))⊕((Unit×Nat×Nat×Int×Int×Bool)×((Int×Int)×(List ByteArray)))):=lS Tryz.prog lv X0 63 70 (q8l (cdF Tryz.f63) 16) q1g0 q1fx (((),out,t55,t56,t57),((b0,b0_1),b1))
def q1g1 (out:Nat) (t55:Nat) (t56:Int) (t57:Int) (b0:Int) (b0_1:Int) (b1:(List ByteArray)):Option (((Nat×Unit)×((List ByteArray)×(Int×Int)))⊕((Unit×Nat×Nat×Int×Int×Bool)×((Int×Int)×(List ByteArray)))) :=
 (brE (decide (t57<t56))
 (gdE ((decide (0≤t57))&&(decide (t57<((t55:Nat):Int))))<|
 (gdE ((decide ((Int.toNat t57)<(List.length (EC.encL q5m b1))))&&((List.length (List.getD (EC.encL q5m b1) (Int.toNat t57) []))==1))<|
 (gdE (isP [K1.str] 0 (List.getD (EC.encL q5m b1) (Int.toNat t57) []))<|
 (brE (decide ((((ByteArray.size (qss (List.getD (List.getD (EC.encL q5m b1) (Int.toNat t57) []) 0 C.ne))):Nat):Int)>998))
 ((q32 1 t57).bind fun r0 =>
 (some (.inl ((0,()),((EC.decL q5m []),(r0.1,r0.2))))))
 (gdE (EC.isL q5m (EC.encL q5m b1))<|
 (q1fu out t55 t56 (IntKind.wrap .i64 (t57+1)) b0 b0_1 (EC.decL q5m (EC.encL q5m b1))))))))
 (gdE (EC.isL q5m (EC.encL q5m b1))<|
 (some (.inr (((),(out,(t55,(t56,(t57,false))))),((b0,b0_1),(EC.decL q5m (EC.encL q5m b1))))))))
theorem q1fw {out t55 t56 t57 b0 b0_1 b1 r} (h:q1g1 out t55 t56 t57 b0 b0_1 b1=some r):q1fu out t55 t56 t57 b0 b0_1 b1=some r :=
 qal (es:=q1qv) (hs:=[]) [] (by kernel_rfl) trivial trivial (by kernel_rfl) h
def q1fv:=qb9 Tryz.prog lv X0 16 (q8l (cdF Tryz.f63) 16) q1g0 q1fx (fun x=>q1fu x.1.2.1 x.1.2.2.1 x.1.2.2.2.1 x.1.2.2.2.2 x.2.1.1 x.2.1.2 x.2.2) (fun _ _ h=>qak h)
def q1fr:Cod (V×List B) ((Nat×(Int×Int))×(List ByteArray)):=(cPair (vTup (qah (vRow 0) (qaj (vAgg (qah (vC (cInt .i64)) (qaj (vC (cInt .i64)))))))) (qaj (bRow q5m)))
def q1ga (n:ByteArray) (v:ByteArray):Option ((Nat×(Int×Int))×(List ByteArray)):=fS Tryz.prog lv X0 63 q1fq q1fr (n,v)
def q1gb (n:ByteArray) (v:ByteArray):Option ((Nat×(Int×Int))×(List ByteArray)) :=
 ((q1gt n).bind fun r0 =>
 (brE (!r0)
 ((q32 10 (-1)).bind fun r1 =>
 (some ((0,(r1.1,r1.2)),(EC.decL q5m []))))
 (brE (decide ((v.size:Int)>4000))
 ((q32 1 (-1)).bind fun r1 =>
 (some ((0,(r1.1,r1.2)),(EC.decL q5m []))))
 ((q1he v).bind fun r1 =>
 (brE (!r1)
 ((q32 11 (-1)).bind fun r2 =>
 (some ((0,(r2.1,r2.2)),(EC.decL q5m []))))
 (brE (decide ((((n.size+(ByteArray.size (ByteArray.mk (List.toArray [(58:UInt8),(32:UInt8)])))):Nat):Int)>(Go.IntKind.max Go.IntKind.i64)))
 none
 (brE (decide (((((ByteArray.size (n++(ByteArray.mk (List.toArray [(58:UInt8),(32:UInt8)]))))+v.size):Nat):Int)>(Go.IntKind.max Go.IntKind.i64)))
 none
 ((q1g2 ((n++(ByteArray.mk (List.toArray [(58:UInt8),(32:UInt8)])))++v) (IntKind.wrap .i64 ((n.size:Int)+2)) 0 0 0 (EC.decL q5m [])).bind fun r2 =>
 (Sum.elim (fun r3=>(gdE ((((List.all [[(C.str r3.1.2.1)]] (fun (el:(List C))=>((List.length el)==1)))&&(List.all (EC.encL q5m r3.2.2) (fun (el:(List C))=>((List.length el)==1))))&&(decide (((((r3.1.2.2.2.1+(List.length [[(C.str r3.1.2.1)]]))+((r3.1.2.2.2.1+(List.length [[(C.str r3.1.2.1)]])) / 4))+192)*16)≤281474976710656)))&&(decide ((r3.1.2.2.2.1+(List.length [[(C.str r3.1.2.1)]]))≤9223372036854775807)))<|
 (gdE (EC.isL q5m ((EC.encL q5m r3.2.2)++[[(C.str r3.1.2.1)]]))<|
 ((q1fu (r3.1.2.2.2.1+(List.length [[(C.str r3.1.2.1)]])) (r3.1.2.2.2.1+(List.length [[(C.str r3.1.2.1)]])) (((r3.1.2.2.2.1+(List.length [[(C.str r3.1.2.1)]])):Nat):Int) 0 r3.2.1.1 r3.2.1.2 (EC.decL q5m ((EC.encL q5m r3.2.2)++[[(C.str r3.1.2.1)]]))).bind fun r4 =>
 (Sum.elim (fun r5=>(gdE (EC.isL q5m (EC.encL q5m r5.2.1))<|
 (some ((r5.1.1,(r5.2.2.1,r5.2.2.2)),(EC.decL q5m (EC.encL q5m r5.2.1))))))
 (fun r5=>(Option.bind q38 fun r6 =>
 (gdE (EC.isL q5m (EC.encL q5m r5.2.2))<|
 (some ((r5.1.2.1,(r6.1,r6.2)),(EC.decL q5m (EC.encL q5m r5.2.2))))))) r4)))))
 (fun r3=>(gdE ((((List.all [[(C.str r3.1.2.1)]] (fun (el:(List C))=>((List.length el)==1)))&&(List.all (EC.encL q5m r3.2.2) (fun (el:(List C))=>((List.length el)==1))))&&(decide (((((r3.1.2.2.1+(List.length [[(C.str r3.1.2.1)]]))+((r3.1.2.2.1+(List.length [[(C.str r3.1.2.1)]])) / 4))+192)*16)≤281474976710656)))&&(decide ((r3.1.2.2.1+(List.length [[(C.str r3.1.2.1)]]))≤9223372036854775807)))<|
 (gdE (EC.isL q5m ((EC.encL q5m r3.2.2)++[[(C.str r3.1.2.1)]]))<|
 ((q1fu (r3.1.2.2.1+(List.length [[(C.str r3.1.2.1)]])) (r3.1.2.2.1+(List.length [[(C.str r3.1.2.1)]])) (((r3.1.2.2.1+(List.length [[(C.str r3.1.2.1)]])):Nat):Int) 0 r3.2.1.1 r3.2.1.2 (EC.decL q5m ((EC.encL q5m r3.2.2)++[[(C.str r3.1.2.1)]]))).bind fun r4 =>
 (Sum.elim (fun r5=>(gdE (EC.isL q5m (EC.encL q5m r5.2.1))<|
 (some ((r5.1.1,(r5.2.2.1,r5.2.2.2)),(EC.decL q5m (EC.encL q5m r5.2.1))))))
 (fun r5=>(Option.bind q38 fun r6 =>
 (gdE (EC.isL q5m (EC.encL q5m r5.2.2))<|
 (some ((r5.1.2.1,(r6.1,r6.2)),(EC.decL q5m (EC.encL q5m r5.2.2))))))) r4))))) r2)))))))))
theorem q1ft {n v r} (h:q1gb n v=some r):q1ga n v=some r :=
 q6x (es:=q1qv) (hs:=[]) [q1g3,q1fv] Tryz.func63 rfl (by kernel_rfl) rfl (by kernel_rfl) (by kernel_rfl) ⟨⟨_,rfl,rfl⟩,⟨_,rfl,rfl⟩,trivial⟩ trivial (by kernel_rfl) h
def q1fs:=entS Tryz.prog lv X0 63 [] q1fq q1fr (fun x=>q1ga x.1 x.2) (fun _ _ h=>q6w h)
def q1qr:=q1fs::q1qv
structure S57 where
 Name:ByteArray
 Value:ByteArray
def q5k:EC S57 where
 enc x:=[.str x.Name,.str x.Value]
 dec c:=⟨qss (c.getD 0 .ne),qss (c.getD 1 .ne)⟩
 is c:=isE [.str,.str] 0 c
 enc_dec h:=q4x h
 dec_enc x:=by rfl
 is_enc x:=by simp [isE,isK]
theorem q5z (x:S57):q5k.enc x=[.str x.Name,.str x.Value]:=rfl
theorem qwf (xs:List S57) (n:Nat):isE [.str,.str] 0 ((q5k.encL xs).getD n [])=decide (n<xs.length):=by
 by_cases h:n<xs.length
 ·simp only [EC.getD_lt _ _ h];simp [q5z,isE,isK,h]
 ·simp only [EC.getD_ge _ _ (Nat.not_lt.1 h)];simp [isE,isK,h]
theorem q21 (xs:List S57) (n:Nat):qss (((q5k.encL xs).getD n []).getD 0 .ne)=(xs.getD n (q5k.dec [])).Name:=by
 by_cases h:n<xs.length
 ·simp only [EC.getD_lt _ _ h];simp [q5z,h,qss,List.getD_eq_getElem?_getD]
 ·simp only [EC.getD_ge _ _ (Nat.not_lt.1 h)];simp [Nat.not_lt.1 h,q5k,qss,List.getD_eq_getElem?_getD]
theorem q22 (xs:List S57) (n:Nat):qss (((q5k.encL xs).getD n []).getD 1 .ne)=(xs.getD n (q5k.dec [])).Value:=by
 by_cases h:n<xs.length
 ·simp only [EC.getD_lt _ _ h];simp [q5z,h,qss,List.getD_eq_getElem?_getD]
 ·simp only [EC.getD_ge _ _ (Nat.not_lt.1 h)];simp [Nat.not_lt.1 h,q5k,qss,List.getD_eq_getElem?_getD]
theorem all_57 (xs:List S57):(q5k.encL xs).all (fun (el:List C)=>el.length==2)=true:=by induction xs with|nil=>rfl|cons x xs ih=>first|(simp [EC.encL,q5z];done)|simpa [EC.encL,q5z] using ih
def q1ip:=(qaj (vC (cSl q5k)))
def q1iz:=sLS [2,11,12,13] (qah (vPtr 0 0) (qah (vC (cSl q5k)) (qah (vC (cInt .i64)) (qaj (vC (cInt .i64)))))) (qaj (qd1 (bBox (qah (vC (cInt .i64)) (qaj (vC (cInt .i64))))))) [false] [] (by decide) (fun _=>rfl)
def q1iy:=sLS [2,11,12,13,14] (qah (vPtr 0 0) (qah (vC (cSl q5k)) (qah (vC (cInt .i64)) (qah (vC (cInt .i64)) (qaj (vC cBool)))))) (qaj (qd1 (bBox (qah (vC (cInt .i64)) (qaj (vC (cInt .i64))))))) [false] [] (by decide) (fun _=>rfl)
def q1ix:=sLS [2] (qaj (vPtr 0 0)) (qaj (qd1 (bBox (qah (vC (cInt .i64)) (qaj (vC (cInt .i64))))))) [false] [] (by decide) (fun _=>rfl)
def q1iw:=oOr 1 q1ix (oAt 2 q1iy) (fun x=>(by decide:(2:Nat)≠1))
def q1it (t11:(List S57)) (t12:Int) (t13:Int) (b0:Int) (b0_1:Int):Option ((Unit×(Int×Int))⊕((Unit×(List S57)×Int×Int×Bool)×(Int×Int))):=lS Tryz.prog lv X0 38 34 (q8l (cdF Tryz.f38) 4) q1iz q1iw (((),t11,t12,t13),(b0,b0_1))
def q1j0 (t11:(List S57)) (t12:Int) (t13:Int) (b0:Int) (b0_1:Int):Option ((Unit×(Int×Int))⊕((Unit×(List S57)×Int×Int×Bool)×(Int×Int))) :=
 (brE (decide (t13<t12))
 (gdE (decide (0≤t13))<|
 (gdE ((decide ((Int.toNat t13)<(List.length (EC.encL q5k t11))))&&(isE [K1.str,K1.str] 0 (List.getD (EC.encL q5k t11) (Int.toNat t13) [])))<|
 ((q1ga (qss (List.getD (List.getD (EC.encL q5k t11) (Int.toNat t13) []) 0 C.ne)) (qss (List.getD (List.getD (EC.encL q5k t11) (Int.toNat t13) []) 1 C.ne))).bind fun r0 =>
 ((q2w r0.1.2.1 r0.1.2.2).bind fun r1 =>
 (brE r1
 ((q32 r0.1.2.1 t13).bind fun r2 =>
 (some (.inl ((),(r2.1,r2.2)))))
 (gdE (EC.isL q5k (EC.encL q5k t11))<|
 (q1it (EC.decL q5k (EC.encL q5k t11)) t12 (IntKind.wrap .i64 (t13+1)) b0 b0_1)))))))
 (gdE (EC.isL q5k (EC.encL q5k t11))<|
 (some (.inr (((),((EC.decL q5k (EC.encL q5k t11)),(t12,(t13,false)))),(b0,b0_1))))))
theorem q1iv {t11 t12 t13 b0 b0_1 r} (h:q1j0 t11 t12 t13 b0 b0_1=some r):q1it t11 t12 t13 b0 b0_1=some r :=
 qal (es:=q1qr) (hs:=[]) [] (by kernel_rfl) trivial trivial (by kernel_rfl) h
def q1iu:=qb9 Tryz.prog lv X0 4 (q8l (cdF Tryz.f38) 4) q1iz q1iw (fun x=>q1it x.1.2.1 x.1.2.2.1 x.1.2.2.2 x.2.1 x.2.2) (fun _ _ h=>qak h)
def q1iq:Cod (V×List B) (Int×Int):=(cFstU (cPair (vAgg (qah (vC (cInt .i64)) (qaj (vC (cInt .i64))))) qai))
def q1j1 (l:(List S57)):Option (Int×Int):=fS Tryz.prog lv X0 38 q1ip q1iq l
def q1j2 (l:(List S57)):Option (Int×Int) :=
 (brE (decide ((List.length (EC.encL q5k l):Int)>60))
 ((q32 2 (-1)).bind fun r0 =>
 (some (r0.1,r0.2)))
 (gdE (EC.isL q5k (EC.encL q5k l))<|
 ((q1it (EC.decL q5k (EC.encL q5k l)) (List.length (EC.encL q5k l):Int) 0 0 0).bind fun r0 =>
 (Sum.elim (fun r1=>(some (r1.2.1,r1.2.2)))
 (fun r1=>(Option.bind q38 fun r2 =>
 (some (r2.1,r2.2)))) r0))))
theorem q1is {l r} (h:q1j2 l=some r):q1j1 l=some r :=
 q6x (es:=q1qr) (hs:=[]) [q1iu] Tryz.func38 rfl (by kernel_rfl) rfl (by kernel_rfl) (by kernel_rfl) ⟨⟨_,rfl,rfl⟩,trivial⟩ trivial (by kernel_rfl) h
def q1ir:=entS Tryz.prog lv X0 38 [] q1ip q1iq (fun x=>q1j1 x) (fun _ _ h=>q6w h)
def q1qz:=q1ir::q1qr
def q1j3:=(qaj (vC cStr))
def q1j4:Cod (V×List B) Bool:=(cFstU (cPair (vC cBool) qai))
def q1j7 (s:ByteArray):Option Bool:=fS Tryz.prog lv X0 91 q1j3 q1j4 s
def q1j8 (s:ByteArray):Option Bool :=
 ((q1ga s ⟨#[]⟩).bind fun r0 =>
 ((q2w r0.1.2.1 r0.1.2.2).bind fun r1 =>
 (some (!r1))))
theorem q1j6 {s r} (h:q1j8 s=some r):q1j7 s=some r :=
 q6x (es:=q1qz) (hs:=[]) [] Tryz.func91 rfl (by kernel_rfl) rfl (by kernel_rfl) (by kernel_rfl) trivial trivial (by kernel_rfl) h
def q1j5:=entS Tryz.prog lv X0 91 [] q1j3 q1j4 (fun x=>q1j7 x) (fun _ _ h=>q6w h)
def q1r0:=q1j5::q1qz
def q1j9:=(qah (vC (cSl q5k)) (qaj (vC cStr)))
def q1ja:Cod (V×List B) (Int×Int):=(cFstU (cPair (vAgg (qah (vC (cInt .i64)) (qaj (vC (cInt .i64))))) qai))
def q1jd (l:(List S57)) (n:ByteArray):Option (Int×Int):=fS Tryz.prog lv X0 75 q1j9 q1ja (l,n)
def q1je (l:(List S57)) (n:ByteArray):Option (Int×Int) :=
 (gdE (EC.isL q5k (EC.encL q5k l))<|
 ((q1j1 (EC.decL q5k (EC.encL q5k l))).bind fun r0 =>
 ((q2w r0.1 r0.2).bind fun r1 =>
 (brE r1
 (some (r0.1,r0.2))
 ((q1j7 n).bind fun r2 =>
 (brE (!r2)
 ((q32 10 (-3)).bind fun r3 =>
 (some (r3.1,r3.2)))
 (Option.bind q38 fun r3 =>
 (some (r3.1,r3.2)))))))))
theorem q1jc {l n r} (h:q1je l n=some r):q1jd l n=some r :=
 q6x (es:=q1r0) (hs:=[]) [] Tryz.func75 rfl (by kernel_rfl) rfl (by kernel_rfl) (by kernel_rfl) trivial trivial (by kernel_rfl) h
def q1jb:=entS Tryz.prog lv X0 75 [] q1j9 q1ja (fun x=>q1jd x.1 x.2) (fun _ _ h=>q6w h)
def q1r1:=q1jb::q1r0
def q1ic:=(qah (vC (cSl q5k)) (qaj (vC cStr)))
def q1il:=sLS [1,5,7,16,17,18] (qah (vC cStr) (qah (vPtr 0 0) (qah (vRow 1) (qah (vC (cSl q5k)) (qah (vC (cInt .i64)) (qaj (vC (cInt .i64)))))))) (qah (qd1 (bBox (qah (vC (cInt .i64)) (qaj (vC (cInt .i64)))))) (qaj (qd1 (bRow q5m)))) [false,false] [] (by decide) (fun _=>rfl)
def q1ik:=sLS [1,5,7,16,17,18,19] (qah (vC cStr) (qah (vPtr 0 0) (qah (vRow 1) (qah (vC (cSl q5k)) (qah (vC (cInt .i64)) (qah (vC (cInt .i64)) (qaj (vC cBool)))))))) (qah (qd1 (bBox (qah (vC (cInt .i64)) (qaj (vC (cInt .i64)))))) (qaj (qd1 (bRow q5m)))) [false,false] [] (by decide) (fun _=>rfl)
def q1ij:=oAt 2 q1ik
def q1ig (n:ByteArray) (out:Nat) (t16:(List S57)) (t17:Int) (t18:Int) (b0:Int) (b0_1:Int) (b1:(List ByteArray)):Option ((ByteArray×Unit×Nat×(List S57)×Int×Int×Bool)×((Int×Int)×(List ByteArray))):=lS Tryz.prog lv X0 54 34 (q8l (cdF Tryz.f54) 6) q1il q1ij ((n,(),out,t16,t17,t18),((b0,b0_1),b1))
def q1im (n:ByteArray) (out:Nat) (t16:(List S57)) (t17:Int) (t18:Int) (b0:Int) (b0_1:Int) (b1:(List ByteArray)):Option ((ByteArray×Unit×Nat×(List S57)×Int×Int×Bool)×((Int×Int)×(List ByteArray))) :=
 (brE (decide (t18<t17))
 (gdE (decide (0≤t18))<|
 (gdE ((decide ((Int.toNat t18)<(List.length (EC.encL q5k t16))))&&(isE [K1.str,K1.str] 0 (List.getD (EC.encL q5k t16) (Int.toNat t18) [])))<|
 ((q1bl (qss (List.getD (List.getD (EC.encL q5k t16) (Int.toNat t18) []) 0 C.ne)) n).bind fun r0 =>
 (brE r0
 (gdE ((((List.all [[(C.str (qss (List.getD (List.getD (EC.encL q5k t16) (Int.toNat t18) []) 1 C.ne)))]] (fun (el:(List C))=>((List.length el)==1)))&&(List.all (EC.encL q5m b1) (fun (el:(List C))=>((List.length el)==1))))&&(decide (((((out+(List.length [[(C.str (qss (List.getD (List.getD (EC.encL q5k t16) (Int.toNat t18) []) 1 C.ne)))]]))+((out+(List.length [[(C.str (qss (List.getD (List.getD (EC.encL q5k t16) (Int.toNat t18) []) 1 C.ne)))]])) / 4))+192)*16)≤281474976710656)))&&(decide ((out+(List.length [[(C.str (qss (List.getD (List.getD (EC.encL q5k t16) (Int.toNat t18) []) 1 C.ne)))]]))≤9223372036854775807)))<|
 (gdE (EC.isL q5k (EC.encL q5k t16))<|
 (gdE (EC.isL q5m ((EC.encL q5m b1)++[[(C.str (qss (List.getD (List.getD (EC.encL q5k t16) (Int.toNat t18) []) 1 C.ne)))]]))<|
 (q1ig n (out+(List.length [[(C.str (qss (List.getD (List.getD (EC.encL q5k t16) (Int.toNat t18) []) 1 C.ne)))]])) (EC.decL q5k (EC.encL q5k t16)) t17 (IntKind.wrap .i64 (t18+1)) b0 b0_1 (EC.decL q5m ((EC.encL q5m b1)++[[(C.str (qss (List.getD (List.getD (EC.encL q5k t16) (Int.toNat t18) []) 1 C.ne)))]]))))))
 (gdE (EC.isL q5k (EC.encL q5k t16))<|
 (gdE (EC.isL q5m (EC.encL q5m b1))<|
 (q1ig n out (EC.decL q5k (EC.encL q5k t16)) t17 (IntKind.wrap .i64 (t18+1)) b0 b0_1 (EC.decL q5m (EC.encL q5m b1)))))))))
 (gdE (EC.isL q5k (EC.encL q5k t16))<|
 (gdE (EC.isL q5m (EC.encL q5m b1))<|
 (some ((n,((),(out,((EC.decL q5k (EC.encL q5k t16)),(t17,(t18,false)))))),((b0,b0_1),(EC.decL q5m (EC.encL q5m b1))))))))
theorem q1ii {n out t16 t17 t18 b0 b0_1 b1 r} (h:q1im n out t16 t17 t18 b0 b0_1 b1=some r):q1ig n out t16 t17 t18 b0 b0_1 b1=some r :=
 qal (es:=q1r1) (hs:=[]) [] (by kernel_rfl) trivial trivial (by kernel_rfl) h
def q1ih:=qb9 Tryz.prog lv X0 6 (q8l (cdF Tryz.f54) 6) q1il q1ij (fun x=>q1ig x.1.1 x.1.2.2.1 x.1.2.2.2.1 x.1.2.2.2.2.1 x.1.2.2.2.2.2 x.2.1.1 x.2.1.2 x.2.2) (fun _ _ h=>qak h)
def q1id:Cod (V×List B) ((Nat×(Int×Int))×(List ByteArray)):=(cPair (vTup (qah (vRow 0) (qaj (vAgg (qah (vC (cInt .i64)) (qaj (vC (cInt .i64)))))))) (qaj (bRow q5m)))
def q1in (l:(List S57)) (n:ByteArray):Option ((Nat×(Int×Int))×(List ByteArray)):=fS Tryz.prog lv X0 54 q1ic q1id (l,n)
def q1io (l:(List S57)) (n:ByteArray):Option ((Nat×(Int×Int))×(List ByteArray)) :=
 (gdE (EC.isL q5k (EC.encL q5k l))<|
 ((q1jd (EC.decL q5k (EC.encL q5k l)) n).bind fun r0 =>
 ((q2w r0.1 r0.2).bind fun r1 =>
 (brE r1
 (some ((0,(r0.1,r0.2)),(EC.decL q5m [])))
 (gdE (EC.isL q5k (EC.encL q5k l))<|
 ((q1ig n 0 (EC.decL q5k (EC.encL q5k l)) (List.length (EC.encL q5k l):Int) 0 0 0 (EC.decL q5m [])).bind fun r2 =>
 (Option.bind q38 fun r3 =>
 (gdE (EC.isL q5m (EC.encL q5m r2.2.2))<|
 (some ((r2.1.2.2.1,(r3.1,r3.2)),(EC.decL q5m (EC.encL q5m r2.2.2))))))))))))
theorem q1if {l n r} (h:q1io l n=some r):q1in l n=some r :=
 q6x (es:=q1r1) (hs:=[]) [q1ih] Tryz.func54 rfl (by kernel_rfl) rfl (by kernel_rfl) (by kernel_rfl) ⟨⟨_,rfl,rfl⟩,trivial⟩ trivial (by kernel_rfl) h
def q1ie:=entS Tryz.prog lv X0 54 [] q1ic q1id (fun x=>q1in x.1 x.2) (fun _ _ h=>q6w h)
def q1qy:=q1ie::q1r1
def q1lo:=(qaj (vAgg (qah (vC (cSl q5k)) (qaj (vC (cSl q5j))))))
def q1m4:=sLS [1,3,11,12,13,25,26,27] (qah (vPtr 0 0) (qah (vRow 1) (qah (vC (cSl q5k)) (qah (vC (cInt .i64)) (qah (vC (cInt .i64)) (qah (vRow 2) (qah (vC (cInt .i64)) (qaj (vC (cInt .i64)))))))))) (qah (qd1 (bBox (qah (vC (cSl q5k)) (qaj (vC (cSl q5j)))))) (qah (qd1 (bRow q5j)) (qaj (qd1 (bRow q5m))))) [false,false,false] [] (by decide) (fun _=>rfl)
def q1m3:=sLS [1,3,11,12,13,25,26,27,28] (qah (vPtr 0 0) (qah (vRow 1) (qah (vC (cSl q5k)) (qah (vC (cInt .i64)) (qah (vC (cInt .i64)) (qah (vRow 2) (qah (vC (cInt .i64)) (qah (vC (cInt .i64)) (qaj (vC cBool)))))))))) (qah (qd1 (bBox (qah (vC (cSl q5k)) (qaj (vC (cSl q5j)))))) (qah (qd1 (bRow q5j)) (qaj (qd1 (bRow q5m))))) [false,false,false] [] (by decide) (fun _=>rfl)
def q1m2:=oAt 4 q1m3
def q1lz (out:Nat) (t11:(List S57)) (t12:Int) (t13:Int) (t25:Nat) (t26:Int) (t27:Int) (b0:(List S57)) (b0_1:(List Int)) (b1:(List Int)) (b2:(List ByteArray)):Option ((Unit×Nat×(List S57)×Int×Int×Nat×Int×Int×Bool)×(((List S57)×(List Int))×(List Int)×(List ByteArray))):=lS Tryz.prog lv X0 39 44 (q8l (cdF Tryz.f39) 7) q1m4 q1m2 (((),out,t11,t12,t13,t25,t26,t27),((b0,b0_1),b1,b2))
def q1m5 (out:Nat) (t11:(List S57)) (t12:Int) (t13:Int) (t25:Nat) (t26:Int) (t27:Int) (b0:(List S57)) (b0_1:(List Int)) (b1:(List Int)) (b2:(List ByteArray)):Option ((Unit×Nat×(List S57)×Int×Int×Nat×Int×Int×Bool)×(((List S57)×(List Int))×(List Int)×(List ByteArray))) :=
 (brE (decide (t27<t26))
 (gdE ((decide (0≤t27))&&(decide (t27<((t25:Nat):Int))))<|
 (gdE ((decide ((Int.toNat t27)<(List.length (EC.encL q5m b2))))&&((List.length (List.getD (EC.encL q5m b2) (Int.toNat t27) []))==1))<|
 (gdE (isP [K1.str] 0 (List.getD (EC.encL q5m b2) (Int.toNat t27) []))<|
 (gdE ((((List.all (List.map (fun (b:UInt8)=>[(byteC b)]) (Array.toList (ByteArray.data (qss (List.getD (List.getD (EC.encL q5m b2) (Int.toNat t27) []) 0 C.ne))))) (fun (el:(List C))=>((List.length el)==1)))&&(List.all (EC.encL q5j b1) (fun (el:(List C))=>((List.length el)==1))))&&(decide (((((out+(List.length (List.map (fun (b:UInt8)=>[(byteC b)]) (Array.toList (ByteArray.data (qss (List.getD (List.getD (EC.encL q5m b2) (Int.toNat t27) []) 0 C.ne)))))))+((out+(List.length (List.map (fun (b:UInt8)=>[(byteC b)]) (Array.toList (ByteArray.data (qss (List.getD (List.getD (EC.encL q5m b2) (Int.toNat t27) []) 0 C.ne))))))) / 4))+192)*1)≤281474976710656)))&&(decide ((out+(List.length (List.map (fun (b:UInt8)=>[(byteC b)]) (Array.toList (ByteArray.data (qss (List.getD (List.getD (EC.encL q5m b2) (Int.toNat t27) []) 0 C.ne)))))))≤9223372036854775807)))<|
 (gdE ((((List.all [[(C.int Go.IntKind.u8 13)],[(C.int Go.IntKind.u8 10)]] (fun (el:(List C))=>((List.length el)==1)))&&(List.all ((EC.encL q5j b1)++(List.map (fun (b:UInt8)=>[(byteC b)]) (Array.toList (ByteArray.data (qss (List.getD (List.getD (EC.encL q5m b2) (Int.toNat t27) []) 0 C.ne)))))) (fun (el:(List C))=>((List.length el)==1))))&&(decide ((((((out+(List.length (List.map (fun (b:UInt8)=>[(byteC b)]) (Array.toList (ByteArray.data (qss (List.getD (List.getD (EC.encL q5m b2) (Int.toNat t27) []) 0 C.ne)))))))+(List.length [[(C.int Go.IntKind.u8 13)],[(C.int Go.IntKind.u8 10)]]))+(((out+(List.length (List.map (fun (b:UInt8)=>[(byteC b)]) (Array.toList (ByteArray.data (qss (List.getD (List.getD (EC.encL q5m b2) (Int.toNat t27) []) 0 C.ne)))))))+(List.length [[(C.int Go.IntKind.u8 13)],[(C.int Go.IntKind.u8 10)]])) / 4))+192)*1)≤281474976710656)))&&(decide (((out+(List.length (List.map (fun (b:UInt8)=>[(byteC b)]) (Array.toList (ByteArray.data (qss (List.getD (List.getD (EC.encL q5m b2) (Int.toNat t27) []) 0 C.ne)))))))+(List.length [[(C.int Go.IntKind.u8 13)],[(C.int Go.IntKind.u8 10)]]))≤9223372036854775807)))<|
 (gdE (EC.isL q5k (EC.encL q5k t11))<|
 (gdE (EC.isL q5k (EC.encL q5k b0))<|
 (gdE (EC.isL q5j (EC.encL q5j b0_1))<|
 (gdE (EC.isL q5j (((EC.encL q5j b1)++(List.map (fun (b:UInt8)=>[(byteC b)]) (Array.toList (ByteArray.data (qss (List.getD (List.getD (EC.encL q5m b2) (Int.toNat t27) []) 0 C.ne))))))++[[(C.int Go.IntKind.u8 13)],[(C.int Go.IntKind.u8 10)]]))<|
 (gdE (EC.isL q5m (EC.encL q5m b2))<|
 (q1lz ((out+(List.length (List.map (fun (b:UInt8)=>[(byteC b)]) (Array.toList (ByteArray.data (qss (List.getD (List.getD (EC.encL q5m b2) (Int.toNat t27) []) 0 C.ne)))))))+(List.length [[(C.int Go.IntKind.u8 13)],[(C.int Go.IntKind.u8 10)]])) (EC.decL q5k (EC.encL q5k t11)) t12 t13 t25 t26 (IntKind.wrap .i64 (t27+1)) (EC.decL q5k (EC.encL q5k b0)) (EC.decL q5j (EC.encL q5j b0_1)) (EC.decL q5j (((EC.encL q5j b1)++(List.map (fun (b:UInt8)=>[(byteC b)]) (Array.toList (ByteArray.data (qss (List.getD (List.getD (EC.encL q5m b2) (Int.toNat t27) []) 0 C.ne))))))++[[(C.int Go.IntKind.u8 13)],[(C.int Go.IntKind.u8 10)]])) (EC.decL q5m (EC.encL q5m b2)))))))))))))
 (gdE (EC.isL q5k (EC.encL q5k t11))<|
 (gdE (EC.isL q5k (EC.encL q5k b0))<|
 (gdE (EC.isL q5j (EC.encL q5j b0_1))<|
 (gdE (EC.isL q5j (EC.encL q5j b1))<|
 (gdE (EC.isL q5m (EC.encL q5m b2))<|
 (some (((),(out,((EC.decL q5k (EC.encL q5k t11)),(t12,(t13,(t25,(t26,(t27,false)))))))),(((EC.decL q5k (EC.encL q5k b0)),(EC.decL q5j (EC.encL q5j b0_1))),((EC.decL q5j (EC.encL q5j b1)),(EC.decL q5m (EC.encL q5m b2))))))))))))
theorem q1m1 {out t11 t12 t13 t25 t26 t27 b0 b0_1 b1 b2 r} (h:q1m5 out t11 t12 t13 t25 t26 t27 b0 b0_1 b1 b2=some r):q1lz out t11 t12 t13 t25 t26 t27 b0 b0_1 b1 b2=some r :=
 qal (es:=q1qy) (hs:=[]) [] (by kernel_rfl) trivial trivial (by kernel_rfl) h
def q1m0:=qb9 Tryz.prog lv X0 7 (q8l (cdF Tryz.f39) 7) q1m4 q1m2 (fun x=>q1lz x.1.2.1 x.1.2.2.1 x.1.2.2.2.1 x.1.2.2.2.2.1 x.1.2.2.2.2.2.1 x.1.2.2.2.2.2.2.1 x.1.2.2.2.2.2.2.2 x.2.1.1 x.2.1.2 x.2.2.1 x.2.2.2) (fun _ _ h=>qak h)
def q1lx:=sLS [1,3,11,12,13] (qah (vPtr 0 0) (qah (vRow 1) (qah (vC (cSl q5k)) (qah (vC (cInt .i64)) (qaj (vC (cInt .i64))))))) (qah (qd1 (bBox (qah (vC (cSl q5k)) (qaj (vC (cSl q5j)))))) (qaj (qd1 (bRow q5j)))) [false,false] [] (by decide) (fun _=>rfl)
def q1lw:=sLS [1,3,11,12,13,14] (qah (vPtr 0 0) (qah (vRow 1) (qah (vC (cSl q5k)) (qah (vC (cInt .i64)) (qah (vC (cInt .i64)) (qaj (vC cBool))))))) (qah (qd1 (bBox (qah (vC (cSl q5k)) (qaj (vC (cSl q5j)))))) (qaj (qd1 (bRow q5j)))) [false,false] [] (by decide) (fun _=>rfl)
def q1lv:=oAt 2 q1lw
def q1ls (out:Nat) (t11:(List S57)) (t12:Int) (t13:Int) (b0:(List S57)) (b0_1:(List Int)) (b1:(List Int)):Option ((Unit×Nat×(List S57)×Int×Int×Bool)×(((List S57)×(List Int))×(List Int))):=lS Tryz.prog lv X0 39 44 (q8l (cdF Tryz.f39) 3) q1lx q1lv (((),out,t11,t12,t13),((b0,b0_1),b1))
def q1ly (out:Nat) (t11:(List S57)) (t12:Int) (t13:Int) (b0:(List S57)) (b0_1:(List Int)) (b1:(List Int)):Option ((Unit×Nat×(List S57)×Int×Int×Bool)×(((List S57)×(List Int))×(List Int))) :=
 (brE (decide (t13<t12))
 (gdE (decide (0≤t13))<|
 (gdE ((decide ((Int.toNat t13)<(List.length (EC.encL q5k t11))))&&(isE [K1.str,K1.str] 0 (List.getD (EC.encL q5k t11) (Int.toNat t13) [])))<|
 ((q1ga (qss (List.getD (List.getD (EC.encL q5k t11) (Int.toNat t13) []) 0 C.ne)) (qss (List.getD (List.getD (EC.encL q5k t11) (Int.toNat t13) []) 1 C.ne))).bind fun r0 =>
 (gdE (EC.isL q5k (EC.encL q5k t11))<|
 (gdE (EC.isL q5k (EC.encL q5k b0))<|
 (gdE (EC.isL q5j (EC.encL q5j b0_1))<|
 (gdE (EC.isL q5j (EC.encL q5j b1))<|
 (gdE (EC.isL q5m (EC.encL q5m r0.2))<|
 ((q1lz out (EC.decL q5k (EC.encL q5k t11)) t12 t13 r0.1.1 ((r0.1.1:Nat):Int) 0 (EC.decL q5k (EC.encL q5k b0)) (EC.decL q5j (EC.encL q5j b0_1)) (EC.decL q5j (EC.encL q5j b1)) (EC.decL q5m (EC.encL q5m r0.2))).bind fun r1 =>
 (gdE (EC.isL q5k (EC.encL q5k r1.1.2.2.1))<|
 (gdE (EC.isL q5k (EC.encL q5k r1.2.1.1))<|
 (gdE (EC.isL q5j (EC.encL q5j r1.2.1.2))<|
 (gdE (EC.isL q5j (EC.encL q5j r1.2.2.1))<|
 (q1ls r1.1.2.1 (EC.decL q5k (EC.encL q5k r1.1.2.2.1)) r1.1.2.2.2.1 (IntKind.wrap .i64 (r1.1.2.2.2.2.1+1)) (EC.decL q5k (EC.encL q5k r1.2.1.1)) (EC.decL q5j (EC.encL q5j r1.2.1.2)) (EC.decL q5j (EC.encL q5j r1.2.2.1))))))))))))))))
 (gdE (EC.isL q5k (EC.encL q5k t11))<|
 (gdE (EC.isL q5k (EC.encL q5k b0))<|
 (gdE (EC.isL q5j (EC.encL q5j b0_1))<|
 (gdE (EC.isL q5j (EC.encL q5j b1))<|
 (some (((),(out,((EC.decL q5k (EC.encL q5k t11)),(t12,(t13,false))))),(((EC.decL q5k (EC.encL q5k b0)),(EC.decL q5j (EC.encL q5j b0_1))),(EC.decL q5j (EC.encL q5j b1))))))))))
theorem q1lu {out t11 t12 t13 b0 b0_1 b1 r} (h:q1ly out t11 t12 t13 b0 b0_1 b1=some r):q1ls out t11 t12 t13 b0 b0_1 b1=some r :=
 qal (es:=q1qy) (hs:=[]) [q1m0] (by kernel_rfl) ⟨⟨_,rfl,rfl⟩,trivial⟩ trivial (by kernel_rfl) h
def q1lt:=qb9 Tryz.prog lv X0 3 (q8l (cdF Tryz.f39) 3) q1lx q1lv (fun x=>q1ls x.1.2.1 x.1.2.2.1 x.1.2.2.2.1 x.1.2.2.2.2 x.2.1.1 x.2.1.2 x.2.2) (fun _ _ h=>qak h)
def q1lp:Cod (V×List B) (Nat×(List Int)):=(cPair (vRow 0) (qaj (bRow q5j)))
def q1m6 (m_Fields:(List S57)) (m_Body:(List Int)):Option (Nat×(List Int)):=fS Tryz.prog lv X0 39 q1lo q1lp (m_Fields,m_Body)
def q1m7 (m_Fields:(List S57)) (m_Body:(List Int)):Option (Nat×(List Int)) :=
 (gdE (EC.isL q5k (EC.encL q5k m_Fields))<|
 (gdE (EC.isL q5k (EC.encL q5k m_Fields))<|
 (gdE (EC.isL q5j (EC.encL q5j m_Body))<|
 ((q1ls 0 (EC.decL q5k (EC.encL q5k m_Fields)) (List.length (EC.encL q5k m_Fields):Int) 0 (EC.decL q5k (EC.encL q5k m_Fields)) (EC.decL q5j (EC.encL q5j m_Body)) (EC.decL q5j [])).bind fun r0 =>
 (gdE ((((List.all [[(C.int Go.IntKind.u8 13)],[(C.int Go.IntKind.u8 10)]] (fun (el:(List C))=>((List.length el)==1)))&&(List.all (EC.encL q5j r0.2.2) (fun (el:(List C))=>((List.length el)==1))))&&(decide (((((r0.1.2.1+(List.length [[(C.int Go.IntKind.u8 13)],[(C.int Go.IntKind.u8 10)]]))+((r0.1.2.1+(List.length [[(C.int Go.IntKind.u8 13)],[(C.int Go.IntKind.u8 10)]])) / 4))+192)*1)≤281474976710656)))&&(decide ((r0.1.2.1+(List.length [[(C.int Go.IntKind.u8 13)],[(C.int Go.IntKind.u8 10)]]))≤9223372036854775807)))<|
 (gdE ((((List.all (EC.encL q5j r0.2.1.2) (fun (el:(List C))=>((List.length el)==1)))&&(List.all ((EC.encL q5j r0.2.2)++[[(C.int Go.IntKind.u8 13)],[(C.int Go.IntKind.u8 10)]]) (fun (el:(List C))=>((List.length el)==1))))&&(decide ((((((r0.1.2.1+(List.length [[(C.int Go.IntKind.u8 13)],[(C.int Go.IntKind.u8 10)]]))+(List.length (EC.encL q5j r0.2.1.2)))+(((r0.1.2.1+(List.length [[(C.int Go.IntKind.u8 13)],[(C.int Go.IntKind.u8 10)]]))+(List.length (EC.encL q5j r0.2.1.2))) / 4))+192)*1)≤281474976710656)))&&(decide (((r0.1.2.1+(List.length [[(C.int Go.IntKind.u8 13)],[(C.int Go.IntKind.u8 10)]]))+(List.length (EC.encL q5j r0.2.1.2)))≤9223372036854775807)))<|
 (gdE (EC.isL q5j (((EC.encL q5j r0.2.2)++[[(C.int Go.IntKind.u8 13)],[(C.int Go.IntKind.u8 10)]])++(EC.encL q5j r0.2.1.2)))<|
 (some (((r0.1.2.1+(List.length [[(C.int Go.IntKind.u8 13)],[(C.int Go.IntKind.u8 10)]]))+(List.length (EC.encL q5j r0.2.1.2))),(EC.decL q5j (((EC.encL q5j r0.2.2)++[[(C.int Go.IntKind.u8 13)],[(C.int Go.IntKind.u8 10)]])++(EC.encL q5j r0.2.1.2))))))))))))
theorem q1lr {m_Fields m_Body r} (h:q1m7 m_Fields m_Body=some r):q1m6 m_Fields m_Body=some r :=
 q6x (es:=q1qy) (hs:=[]) [q1lt] Tryz.func39 rfl (by kernel_rfl) rfl (by kernel_rfl) (by kernel_rfl) ⟨⟨_,rfl,rfl⟩,trivial⟩ trivial (by kernel_rfl) h
def q1lq:=entS Tryz.prog lv X0 39 [] q1lo q1lp (fun x=>q1m6 x.1 x.2) (fun _ _ h=>q6w h)
def q1r5:=q1lq::q1qy
def q1li:=(qaj (vC (cSl q5j)))
def q1lj:Cod (V×List B) (Int×Int):=(cFstU (cPair (vAgg (qah (vC (cInt .i64)) (qaj (vC (cInt .i64))))) qai))
def q1lm (b:(List Int)):Option (Int×Int):=fS Tryz.prog lv X0 40 q1li q1lj b
def q1ln (b:(List Int)):Option (Int×Int) :=
 (gdE (EC.isL q5j (EC.encL q5j b))<|
 ((q1ak (EC.decL q5j (EC.encL q5j b))).bind fun r0 =>
 (brE (r0==11)
 ((q32 11 (-5)).bind fun r1 =>
 (some (r1.1,r1.2)))
 (brE (r0==1)
 ((q32 1 (-6)).bind fun r1 =>
 (some (r1.1,r1.2)))
 (Option.bind q38 fun r1 =>
 (some (r1.1,r1.2)))))))
theorem q1ll {b r} (h:q1ln b=some r):q1lm b=some r :=
 q6x (es:=q1r5) (hs:=[]) [] Tryz.func40 rfl (by kernel_rfl) rfl (by kernel_rfl) (by kernel_rfl) trivial trivial (by kernel_rfl) h
def q1lk:=entS Tryz.prog lv X0 40 [] q1li q1lj (fun x=>q1lm x) (fun _ _ h=>q6w h)
def q1r4:=q1lk::q1r5
def q1lc:=(qaj (vAgg (qah (vC (cSl q5k)) (qaj (vC (cSl q5j))))))
def q1ld:Cod (V×List B) (Int×Int):=(cFstU (cPair (vAgg (qah (vC (cInt .i64)) (qaj (vC (cInt .i64))))) qai))
def q1lg (m_Fields:(List S57)) (m_Body:(List Int)):Option (Int×Int):=fS Tryz.prog lv X0 10 q1lc q1ld (m_Fields,m_Body)
def q1lh (m_Fields:(List S57)) (m_Body:(List Int)):Option (Int×Int) :=
 (gdE (EC.isL q5k (EC.encL q5k m_Fields))<|
 ((q1j1 (EC.decL q5k (EC.encL q5k m_Fields))).bind fun r0 =>
 ((q2w r0.1 r0.2).bind fun r1 =>
 (brE r1
 (some (r0.1,r0.2))
 (gdE (EC.isL q5k (EC.encL q5k m_Fields))<|
 (gdE (EC.isL q5j (EC.encL q5j m_Body))<|
 ((q1m6 (EC.decL q5k (EC.encL q5k m_Fields)) (EC.decL q5j (EC.encL q5j m_Body))).bind fun r2 =>
 (brE (decide (((r2.1:Nat):Int)>12000))
 ((q32 1 (-4)).bind fun r3 =>
 (some (r3.1,r3.2)))
 (gdE (EC.isL q5j (EC.encL q5j m_Body))<|
 ((q1lm (EC.decL q5j (EC.encL q5j m_Body))).bind fun r3 =>
 (some (r3.1,r3.2))))))))))))
theorem q1lf {m_Fields m_Body r} (h:q1lh m_Fields m_Body=some r):q1lg m_Fields m_Body=some r :=
 q6x (es:=q1r4) (hs:=[]) [] Tryz.func10 rfl (by kernel_rfl) rfl (by kernel_rfl) (by kernel_rfl) trivial trivial (by kernel_rfl) h
def q1le:=entS Tryz.prog lv X0 10 [] q1lc q1ld (fun x=>q1lg x.1 x.2) (fun _ _ h=>q6w h)
def q1r3:=q1le::q1r4
def q1dw:=(qaj (vC (cInt .u8)))
def q1dx:Cod (V×List B) Bool:=(cFstU (cPair (vC cBool) qai))
def q1e0 (c:Int):Option Bool:=fS Tryz.prog lv X0 98 q1dw q1dx c
def q1e1 (c:Int):Option Bool :=
 (brE ((decide (c≥97))==true)
 (brE ((decide (c≤122))==false)
 (brE ((decide (c≥48))==true)
 (brE ((decide (c≤57))==false)
 (brE ((c==45)==false)
 (some (c==46))
 (some true))
 (some true))
 (brE ((c==45)==false)
 (some (c==46))
 (some true)))
 (some true))
 (brE ((decide (c≥48))==true)
 (brE ((decide (c≤57))==false)
 (brE ((c==45)==false)
 (some (c==46))
 (some true))
 (some true))
 (brE ((c==45)==false)
 (some (c==46))
 (some true))))
theorem q1dz {c r} (h:q1e1 c=some r):q1e0 c=some r :=
 q6x (es:=q1r3) (hs:=[]) [] Tryz.func98 rfl (by kernel_rfl) rfl (by kernel_rfl) (by kernel_rfl) trivial trivial (by kernel_rfl) h
def q1dy:=entS Tryz.prog lv X0 98 [] q1dw q1dx (fun x=>q1e0 x) (fun _ _ h=>q6w h)
def q1ql:=q1dy::q1r3
def q17l:Cod (List V) (ByteArray×Unit):=(qah (vC cStr) (qaj (vFn 98 qai)))
def q17v:=sLS [0,1,7,8] (qah (vC cStr) (qah (vFn 98 qai) (qah (vC (cInt .i64)) (qaj (vC (cInt .i64)))))) qai [] [] (by decide) (fun _=>rfl)
def q17u:=sLS [0,1,7,8,9] (qah (vC cStr) (qah (vFn 98 qai) (qah (vC (cInt .i64)) (qah (vC (cInt .i64)) (qaj (vC cBool)))))) qai [] [] (by decide) (fun _=>rfl)
def q17t:=sLS [4] (qaj (vC cBool)) qai [] [] (by decide) (fun _=>rfl)
def q17s:=oOr 1 q17t (oAt 2 q17u) (fun x=>(by decide:(2:Nat)≠1))
def q17p (s:ByteArray) (t7:Int) (t8:Int):Option ((Bool×Unit)⊕((ByteArray×Unit×Int×Int×Bool)×Unit)):=lS Tryz.prog lv X0 65 18 (q8l (cdF Tryz.f65) 2) q17v q17s ((s,(),t7,t8),())
def q17w (s:ByteArray) (t7:Int) (t8:Int):Option ((Bool×Unit)⊕((ByteArray×Unit×Int×Int×Bool)×Unit)) :=
 (brE (decide (t8<t7))
 (gdE ((decide (0≤t8))&&(decide ((Int.toNat t8)<s.size)))<|
 ((q1e0 (((UInt8.toNat (Array.getD s.data (Int.toNat t8) (0:UInt8))):Nat):Int)).bind fun r0 =>
 (brE (!r0)
 (some (.inl (false,())))
 (q17p s t7 (IntKind.wrap .i64 (t8+1))))))
 (some (.inr ((s,((),(t7,(t8,false)))),()))))
theorem q17r {s t7 t8 r} (h:q17w s t7 t8=some r):q17p s t7 t8=some r :=
 qal (es:=q1ql) (hs:=[]) [] (by kernel_rfl) trivial trivial (by kernel_rfl) h
def q17q:=qb9 Tryz.prog lv X0 2 (q8l (cdF Tryz.f65) 2) q17v q17s (fun x=>q17p x.1.1 x.1.2.2.1 x.1.2.2.2) (fun _ _ h=>qak h)
def q17m:Cod (V×List B) Bool:=(cFstU (cPair (vC cBool) qai))
def q17z (s:ByteArray):Option Bool:=fS Tryz.prog lv X0 65 q17l q17m (s,())
def q181 (s:ByteArray):Option Bool :=
 ((q17p s (s.size:Int) 0).bind fun r0 =>
 (Sum.elim (fun r1=>(some r1.1))
 (fun r1=>(some true)) r0))
theorem q17o {s r} (h:q181 s=some r):q17z s=some r :=
 q6x (es:=q1ql) (hs:=[]) [q17q] Tryz.func65 rfl (by kernel_rfl) rfl (by kernel_rfl) (by kernel_rfl) ⟨⟨_,rfl,rfl⟩,trivial⟩ trivial (by kernel_rfl) h
def q17n:=entS Tryz.prog lv X0 65 [98] q17l q17m (fun x=>q17z x.1) (fun _ _ h=>q6w h)
def q1q5:=q17n::q1ql
def q1e2:=(qaj (vC cStr))
def q1e3:Cod (V×List B) Bool:=(cFstU (cPair (vC cBool) qai))
def q1e6 (s:ByteArray):Option Bool:=fS Tryz.prog lv X0 85 q1e2 q1e3 s
def q1e7 (s:ByteArray):Option Bool :=
 (brE ((!(s.toList==(ByteArray.toList ⟨#[]⟩)))==true)
 (brE ((decide ((s.size:Int)≤60))==true)
 ((q17z s).bind fun r0 =>
 (brE (r0==true)
 ((q1p5 s (ByteArray.mk (List.toArray [(46:UInt8)]))).bind fun r1 =>
 (brE ((!r1)==true)
 ((q1pb s (ByteArray.mk (List.toArray [(46:UInt8)]))).bind fun r2 =>
 (brE ((!r2)==true)
 ((contP s (ByteArray.mk (List.toArray [(46:UInt8),(46:UInt8)]))).bind fun r3 =>
 (some (!r3)))
 (some false)))
 (some false)))
 (some false)))
 (some false))
 (some false))
theorem q1e5 {s r} (h:q1e7 s=some r):q1e6 s=some r :=
 q6x (es:=q1q5) (hs:=[]) [] Tryz.func85 rfl (by kernel_rfl) rfl (by kernel_rfl) (by kernel_rfl) trivial trivial (by kernel_rfl) h
def q1e4:=entS Tryz.prog lv X0 85 [] q1e2 q1e3 (fun x=>q1e6 x) (fun _ _ h=>q6w h)
def q1qk:=q1e4::q1q5
def q1es:=(qaj (vC (cInt .u8)))
def q1et:Cod (V×List B) Bool:=(cFstU (cPair (vC cBool) qai))
def q1ew (c:Int):Option Bool:=fS Tryz.prog lv X0 83 q1es q1et c
def q1ex (c:Int):Option Bool :=
 ((q1aq c).bind fun r0 =>
 (brE (r0==false)
 (some (decide ((Go.Lib.indexByte (Array.toList (List.toArray [(45:UInt8),(95:UInt8),(46:UInt8),(43:UInt8),(61:UInt8)])) (Nat.toUInt8 (Int.toNat c)))≥0)))
 (some true)))
theorem q1ev {c r} (h:q1ex c=some r):q1ew c=some r :=
 q6x (es:=q1qk) (hs:=[]) [] Tryz.func83 rfl (by kernel_rfl) rfl (by kernel_rfl) (by kernel_rfl) trivial trivial (by kernel_rfl) h
def q1eu:=entS Tryz.prog lv X0 83 [] q1es q1et (fun x=>q1ew x) (fun _ _ h=>q6w h)
def q1qp:=q1eu::q1qk
def q18k:Cod (List V) (ByteArray×Unit):=(qah (vC cStr) (qaj (vFn 83 qai)))
def q18u:=sLS [0,1,7,8] (qah (vC cStr) (qah (vFn 83 qai) (qah (vC (cInt .i64)) (qaj (vC (cInt .i64)))))) qai [] [] (by decide) (fun _=>rfl)
def q18t:=sLS [0,1,7,8,9] (qah (vC cStr) (qah (vFn 83 qai) (qah (vC (cInt .i64)) (qah (vC (cInt .i64)) (qaj (vC cBool)))))) qai [] [] (by decide) (fun _=>rfl)
def q18s:=sLS [4] (qaj (vC cBool)) qai [] [] (by decide) (fun _=>rfl)
def q18r:=oOr 1 q18s (oAt 2 q18t) (fun x=>(by decide:(2:Nat)≠1))
def q18o (s:ByteArray) (t7:Int) (t8:Int):Option ((Bool×Unit)⊕((ByteArray×Unit×Int×Int×Bool)×Unit)):=lS Tryz.prog lv X0 65 18 (q8l (cdF Tryz.f65) 2) q18u q18r ((s,(),t7,t8),())
def q18v (s:ByteArray) (t7:Int) (t8:Int):Option ((Bool×Unit)⊕((ByteArray×Unit×Int×Int×Bool)×Unit)) :=
 (brE (decide (t8<t7))
 (gdE ((decide (0≤t8))&&(decide ((Int.toNat t8)<s.size)))<|
 ((q1ew (((UInt8.toNat (Array.getD s.data (Int.toNat t8) (0:UInt8))):Nat):Int)).bind fun r0 =>
 (brE (!r0)
 (some (.inl (false,())))
 (q18o s t7 (IntKind.wrap .i64 (t8+1))))))
 (some (.inr ((s,((),(t7,(t8,false)))),()))))
theorem q18q {s t7 t8 r} (h:q18v s t7 t8=some r):q18o s t7 t8=some r :=
 qal (es:=q1qp) (hs:=[]) [] (by kernel_rfl) trivial trivial (by kernel_rfl) h
def q18p:=qb9 Tryz.prog lv X0 2 (q8l (cdF Tryz.f65) 2) q18u q18r (fun x=>q18o x.1.1 x.1.2.2.1 x.1.2.2.2) (fun _ _ h=>qak h)
def q18l:Cod (V×List B) Bool:=(cFstU (cPair (vC cBool) qai))
def q18y (s:ByteArray):Option Bool:=fS Tryz.prog lv X0 65 q18k q18l (s,())
def q190 (s:ByteArray):Option Bool :=
 ((q18o s (s.size:Int) 0).bind fun r0 =>
 (Sum.elim (fun r1=>(some r1.1))
 (fun r1=>(some true)) r0))
theorem q18n {s r} (h:q190 s=some r):q18y s=some r :=
 q6x (es:=q1qp) (hs:=[]) [q18p] Tryz.func65 rfl (by kernel_rfl) rfl (by kernel_rfl) (by kernel_rfl) ⟨⟨_,rfl,rfl⟩,trivial⟩ trivial (by kernel_rfl) h
def q18m:=entS Tryz.prog lv X0 65 [83] q18k q18l (fun x=>q18y x.1) (fun _ _ h=>q6w h)
def q1q7:=q18m::q1qp
def q1ey:=(qaj (vC cStr))
def q1ez:Cod (V×List B) (ByteArray×ByteArray×Bool):=(cFstU (cPair (vTup (qah (vC cStr) (qah (vC cStr) (qaj (vC cBool))))) qai))
def q1f2 (s:ByteArray):Option (ByteArray×ByteArray×Bool):=fS Tryz.prog lv X0 62 q1ey q1ez s
def q1f3 (s:ByteArray):Option (ByteArray×ByteArray×Bool) :=
 ((cutP s (ByteArray.mk (List.toArray [(64:UInt8)]))).bind fun r0 =>
 (brE (r0.2.2==true)
 (brE ((!(r0.1.toList==(ByteArray.toList ⟨#[]⟩)))==true)
 (brE ((decide (((r0.1.size:Nat):Int)≤60))==true)
 ((q18y r0.1).bind fun r1 =>
 (brE (r1==true)
 ((q1e6 r0.2.1).bind fun r2 =>
 (some (r0.1,(r0.2.1,r2))))
 (some (r0.1,(r0.2.1,false)))))
 (some (r0.1,(r0.2.1,false))))
 (some (r0.1,(r0.2.1,false))))
 (some (r0.1,(r0.2.1,false)))))
theorem q1f1 {s r} (h:q1f3 s=some r):q1f2 s=some r :=
 q6x (es:=q1q7) (hs:=[]) [] Tryz.func62 rfl (by kernel_rfl) rfl (by kernel_rfl) (by kernel_rfl) trivial trivial (by kernel_rfl) h
def q1f0:=entS Tryz.prog lv X0 62 [] q1ey q1ez (fun x=>q1f2 x) (fun _ _ h=>q6w h)
def q1qo:=q1f0::q1q7
def q1dq:=(qaj (vC cStr))
def q1dr:Cod (V×List B) Bool:=(cFstU (cPair (vC cBool) qai))
def q1du (s:ByteArray):Option Bool:=fS Tryz.prog lv X0 36 q1dq q1dr s
def q1dv (s:ByteArray):Option Bool :=
 ((q1f2 s).bind fun r0 =>
 (some r0.2.2))
theorem q1dt {s r} (h:q1dv s=some r):q1du s=some r :=
 q6x (es:=q1qo) (hs:=[]) [] Tryz.func36 rfl (by kernel_rfl) rfl (by kernel_rfl) (by kernel_rfl) trivial trivial (by kernel_rfl) h
def q1ds:=entS Tryz.prog lv X0 36 [] q1dq q1dr (fun x=>q1du x) (fun _ _ h=>q6w h)
def q1qj:=q1ds::q1qo
def q1e8:=(qaj (vC (cInt .i64)))
def q1e9:Cod (V×List B) Bool:=(cFstU (cPair (vC cBool) qai))
def q1ec (n:Int):Option Bool:=fS Tryz.prog lv X0 68 q1e8 q1e9 n
def q1ed (n:Int):Option Bool :=
 (brE ((decide (n≥0))==true)
 (some (decide (n≤7)))
 (some false))
theorem q1eb {n r} (h:q1ed n=some r):q1ec n=some r :=
 q6x (es:=q1qj) (hs:=[]) [] Tryz.func68 rfl (by kernel_rfl) rfl (by kernel_rfl) (by kernel_rfl) trivial trivial (by kernel_rfl) h
def q1ea:=entS Tryz.prog lv X0 68 [] q1e8 q1e9 (fun x=>q1ec x) (fun _ _ h=>q6w h)
def q1qm:=q1ea::q1qj
def q1nm:=(qah (vAgg (qah (vC cStr) (qaj (vC (cInt .i64))))) (qaj (vEptr (qah cStr (qaj (cInt .i64))) 0)))
def q1nn:Cod (V×List B) Bool:=(cFstU (cPair (vC cBool) qai))
def q1nq (x_Address:ByteArray) (x_Notify:Int) (c1_0:ByteArray) (c1_1:Int):Option Bool:=fS Tryz.prog lv X0 70 q1nm q1nn ((x_Address,x_Notify),(c1_0,c1_1))
def q1nr (x_Address:ByteArray) (x_Notify:Int) (c1_0:ByteArray) (c1_1:Int):Option Bool :=
 (some (x_Address.toList==c1_0.toList))
theorem q1np {x_Address x_Notify c1_0 c1_1 r} (h:q1nr x_Address x_Notify c1_0 c1_1=some r):q1nq x_Address x_Notify c1_0 c1_1=some r :=
 q6x (es:=q1qm) (hs:=[]) [] Tryz.func70 rfl (by kernel_rfl) rfl (by kernel_rfl) (by kernel_rfl) trivial trivial (by kernel_rfl) h
def q1no:=entS Tryz.prog lv X0 70 [] q1nm q1nn (fun x=>q1nq x.1.1 x.1.2 x.2.1 x.2.2) (fun _ _ h=>q6w h)
def q1r7:=q1no::q1qm
structure S81 where
 Address:ByteArray
 Notify:Int
def q1dk:EC S81 where
 enc x:=[.str x.Address,.int .i64 x.Notify]
 dec c:=⟨qss (c.getD 0 .ne),q9n (c.getD 1 .ne)⟩
 is c:=isE [.str,.int .i64] 0 c
 enc_dec h:=q4x h
 dec_enc x:=by rfl
 is_enc x:=by simp [isE,isK]
theorem enc_81 (x:S81):q1dk.enc x=[.str x.Address,.int .i64 x.Notify]:=rfl
theorem isE_81 (xs:List S81) (n:Nat):isE [.str,.int .i64] 0 ((q1dk.encL xs).getD n [])=decide (n<xs.length):=by
 by_cases h:n<xs.length
 ·simp only [EC.getD_lt _ _ h];simp [enc_81,isE,isK,h]
 ·simp only [EC.getD_ge _ _ (Nat.not_lt.1 h)];simp [isE,isK,h]
theorem q19v (xs:List S81) (n:Nat):qss (((q1dk.encL xs).getD n []).getD 0 .ne)=(xs.getD n (q1dk.dec [])).Address:=by
 by_cases h:n<xs.length
 ·simp only [EC.getD_lt _ _ h];simp [enc_81,h,qss,List.getD_eq_getElem?_getD]
 ·simp only [EC.getD_ge _ _ (Nat.not_lt.1 h)];simp [Nat.not_lt.1 h,q1dk,qss,q9n,List.getD_eq_getElem?_getD]
theorem q19w (xs:List S81) (n:Nat):q9n (((q1dk.encL xs).getD n []).getD 1 .ne)=(xs.getD n (q1dk.dec [])).Notify:=by
 by_cases h:n<xs.length
 ·simp only [EC.getD_lt _ _ h];simp [enc_81,h,q9n,List.getD_eq_getElem?_getD]
 ·simp only [EC.getD_ge _ _ (Nat.not_lt.1 h)];simp [Nat.not_lt.1 h,q1dk,qss,q9n,List.getD_eq_getElem?_getD]
theorem all_81 (xs:List S81):(q1dk.encL xs).all (fun (el:List C)=>el.length==2)=true:=by induction xs with|nil=>rfl|cons x xs ih=>first|(simp [EC.encL,enc_81];done)|simpa [EC.encL,enc_81] using ih
def q1jl:=(qah (vC (cSl q1dk)) (qaj (vFn 70 (qaj (vEptr (qah cStr (qaj (cInt .i64))) 0)))))
def q1jv:=sLS [0,1,7,8] (qah (vC (cSl q1dk)) (qah (vFn 70 (qaj (vEptr (qah cStr (qaj (cInt .i64))) 0))) (qah (vC (cInt .i64)) (qaj (vC (cInt .i64)))))) qai [] [] (by decide) (fun _=>rfl)
def q1ju:=sLS [0,1,7,8,9] (qah (vC (cSl q1dk)) (qah (vFn 70 (qaj (vEptr (qah cStr (qaj (cInt .i64))) 0))) (qah (vC (cInt .i64)) (qah (vC (cInt .i64)) (qaj (vC cBool)))))) qai [] [] (by decide) (fun _=>rfl)
def q1jt:=sLS [4] (qaj (vC (cInt .i64))) qai [] [] (by decide) (fun _=>rfl)
def q1js:=oOr 1 q1jt (oAt 2 q1ju) (fun x=>(by decide:(2:Nat)≠1))
def q1jp (s:(List S81)) (f:ByteArray) (f_1:Int) (t7:Int) (t8:Int):Option ((Int×Unit)⊕(((List S81)×(ByteArray×Int)×Int×Int×Bool)×Unit)):=lS Tryz.prog lv X0 89 19 (q8l (cdF Tryz.f89) 2) q1jv q1js ((s,(f,f_1),t7,t8),())
def q1jw (s:(List S81)) (f:ByteArray) (f_1:Int) (t7:Int) (t8:Int):Option ((Int×Unit)⊕(((List S81)×(ByteArray×Int)×Int×Int×Bool)×Unit)) :=
 (brE (decide (t8<t7))
 (gdE (decide (0≤t8))<|
 (gdE ((decide ((Int.toNat t8)<(List.length (EC.encL q1dk s))))&&(isE [K1.str,(K1.int Go.IntKind.i64)] 0 (List.getD (EC.encL q1dk s) (Int.toNat t8) [])))<|
 ((q1nq (qss (List.getD (List.getD (EC.encL q1dk s) (Int.toNat t8) []) 0 C.ne)) (q9n (List.getD (List.getD (EC.encL q1dk s) (Int.toNat t8) []) 1 C.ne)) f f_1).bind fun r0 =>
 (brE r0
 (some (.inl (t8,())))
 (gdE (EC.isL q1dk (EC.encL q1dk s))<|
 (q1jp (EC.decL q1dk (EC.encL q1dk s)) f f_1 t7 (IntKind.wrap .i64 (t8+1))))))))
 (gdE (EC.isL q1dk (EC.encL q1dk s))<|
 (some (.inr (((EC.decL q1dk (EC.encL q1dk s)),((f,f_1),(t7,(t8,false)))),())))))
theorem q1jr {s f f_1 t7 t8 r} (h:q1jw s f f_1 t7 t8=some r):q1jp s f f_1 t7 t8=some r :=
 qal (es:=q1r7) (hs:=[]) [] (by kernel_rfl) trivial trivial (by kernel_rfl) h
def q1jq:=qb9 Tryz.prog lv X0 2 (q8l (cdF Tryz.f89) 2) q1jv q1js (fun x=>q1jp x.1.1 x.1.2.1.1 x.1.2.1.2 x.1.2.2.1 x.1.2.2.2) (fun _ _ h=>qak h)
def q1jm:Cod (V×List B) Int:=(cFstU (cPair (vC (cInt .i64)) qai))
def q1jy (s:(List S81)) (f_0:ByteArray) (f_1:Int):Option Int:=fS Tryz.prog lv X0 89 q1jl q1jm (s,(f_0,f_1))
def q1jz (s:(List S81)) (f_0:ByteArray) (f_1:Int):Option Int :=
 (gdE (EC.isL q1dk (EC.encL q1dk s))<|
 ((q1jp (EC.decL q1dk (EC.encL q1dk s)) f_0 f_1 (List.length (EC.encL q1dk s):Int) 0).bind fun r0 =>
 (Sum.elim (fun r1=>(some r1.1))
 (fun r1=>(some (-1:Int))) r0)))
theorem q1jo {s f_0 f_1 r} (h:q1jz s f_0 f_1=some r):q1jy s f_0 f_1=some r :=
 q6x (es:=q1r7) (hs:=[]) [q1jq] Tryz.func89 rfl (by kernel_rfl) rfl (by kernel_rfl) (by kernel_rfl) ⟨⟨_,rfl,rfl⟩,trivial⟩ trivial (by kernel_rfl) h
def q1jn:=entS Tryz.prog lv X0 89 [70] q1jl q1jm (fun x=>q1jy x.1 x.2.1 x.2.2) (fun _ _ h=>q6w h)
def q1r2:=q1jn::q1r7
def q1i4:=(qah (vC (cSl q1dk)) (qaj (vFn 70 (qaj (vEptr (qah cStr (qaj (cInt .i64))) 0)))))
def q1i5:Cod (V×List B) Bool:=(cFstU (cPair (vC cBool) qai))
def q1i9 (s:(List S81)) (f_0:ByteArray) (f_1:Int):Option Bool:=fS Tryz.prog lv X0 69 q1i4 q1i5 (s,(f_0,f_1))
def q1ia (s:(List S81)) (f_0:ByteArray) (f_1:Int):Option Bool :=
 (gdE (EC.isL q1dk (EC.encL q1dk s))<|
 ((q1jy (EC.decL q1dk (EC.encL q1dk s)) f_0 f_1).bind fun r0 =>
 (some (decide (r0≥0)))))
theorem q1i7 {s f_0 f_1 r} (h:q1ia s f_0 f_1=some r):q1i9 s f_0 f_1=some r :=
 q6x (es:=q1r2) (hs:=[]) [] Tryz.func69 rfl (by kernel_rfl) rfl (by kernel_rfl) (by kernel_rfl) trivial trivial (by kernel_rfl) h
def q1i6:=entS Tryz.prog lv X0 69 [70] q1i4 q1i5 (fun x=>q1i9 x.1 x.2.1 x.2.2) (fun _ _ h=>q6w h)
def q1qx:=q1i6::q1r2
def q1ee:=(qaj (vC (cSl q1dk)))
def q1eo:=sLS [0,2,5,6,7] (qah (vC (cSl q1dk)) (qah (vPtr 0 0) (qah (vC (cSl q1dk)) (qah (vC (cInt .i64)) (qaj (vC (cInt .i64))))))) (qaj (qd1 (bBox (qah (vC (cInt .i64)) (qaj (vC (cInt .i64))))))) [false] [] (by decide) (fun _=>rfl)
def q1en:=sLS [0,2,5,6,7,8] (qah (vC (cSl q1dk)) (qah (vPtr 0 0) (qah (vC (cSl q1dk)) (qah (vC (cInt .i64)) (qah (vC (cInt .i64)) (qaj (vC cBool))))))) (qaj (qd1 (bBox (qah (vC (cInt .i64)) (qaj (vC (cInt .i64))))))) [false] [] (by decide) (fun _=>rfl)
def q1em:=sLS [2] (qaj (vPtr 0 0)) (qaj (qd1 (bBox (qah (vC (cInt .i64)) (qaj (vC (cInt .i64))))))) [false] [] (by decide) (fun _=>rfl)
def q1el:=oOr 1 q1em (oAt 2 q1en) (fun x=>(by decide:(2:Nat)≠1))
def q1ei (l:(List S81)) (t5:(List S81)) (t6:Int) (t7:Int) (b0:Int) (b0_1:Int):Option ((Unit×(Int×Int))⊕(((List S81)×Unit×(List S81)×Int×Int×Bool)×(Int×Int))):=lS Tryz.prog lv X0 42 36 (q8l (cdF Tryz.f42) 2) q1eo q1el ((l,(),t5,t6,t7),(b0,b0_1))
def q1ep (l:(List S81)) (t5:(List S81)) (t6:Int) (t7:Int) (b0:Int) (b0_1:Int):Option ((Unit×(Int×Int))⊕(((List S81)×Unit×(List S81)×Int×Int×Bool)×(Int×Int))) :=
 (brE (decide (t7<t6))
 (gdE (decide (0≤t7))<|
 (gdE ((decide ((Int.toNat t7)<(List.length (EC.encL q1dk t5))))&&(isE [K1.str,(K1.int Go.IntKind.i64)] 0 (List.getD (EC.encL q1dk t5) (Int.toNat t7) [])))<|
 ((q1du (qss (List.getD (List.getD (EC.encL q1dk t5) (Int.toNat t7) []) 0 C.ne))).bind fun r0 =>
 (brE (!r0)
 ((q32 10 t7).bind fun r1 =>
 (some (.inl ((),(r1.1,r1.2)))))
 ((q1ec (q9n (List.getD (List.getD (EC.encL q1dk t5) (Int.toNat t7) []) 1 C.ne))).bind fun r1 =>
 (brE (!r1)
 ((q32 3 t7).bind fun r2 =>
 (some (.inl ((),(r2.1,r2.2)))))
 (gdE ((decide (0≤t7))&&(decide (t7≤(List.length (EC.encL q1dk l):Int))))<|
 (gdE (List.all (EC.encL q1dk l) (fun (el:(List C))=>((List.length el)==2)))<|
 (gdE (EC.isL q1dk (List.take ((Int.toNat t7) - 0) (List.drop 0 (EC.encL q1dk l))))<|
 ((q1i9 (EC.decL q1dk (List.take ((Int.toNat t7) - 0) (List.drop 0 (EC.encL q1dk l)))) (qss (List.getD (List.getD (EC.encL q1dk t5) (Int.toNat t7) []) 0 C.ne)) (q9n (List.getD (List.getD (EC.encL q1dk t5) (Int.toNat t7) []) 1 C.ne))).bind fun r2 =>
 (brE r2
 ((q32 7 t7).bind fun r3 =>
 (some (.inl ((),(r3.1,r3.2)))))
 (gdE (EC.isL q1dk (EC.encL q1dk l))<|
 (gdE (EC.isL q1dk (EC.encL q1dk t5))<|
 (q1ei (EC.decL q1dk (EC.encL q1dk l)) (EC.decL q1dk (EC.encL q1dk t5)) t6 (IntKind.wrap .i64 (t7+1)) b0 b0_1))))))))))))))
 (gdE (EC.isL q1dk (EC.encL q1dk l))<|
 (gdE (EC.isL q1dk (EC.encL q1dk t5))<|
 (some (.inr (((EC.decL q1dk (EC.encL q1dk l)),((),((EC.decL q1dk (EC.encL q1dk t5)),(t6,(t7,false))))),(b0,b0_1)))))))
theorem q1ek {l t5 t6 t7 b0 b0_1 r} (h:q1ep l t5 t6 t7 b0 b0_1=some r):q1ei l t5 t6 t7 b0 b0_1=some r :=
 qal (es:=q1qx) (hs:=[]) [] (by kernel_rfl) trivial trivial (by kernel_rfl) h
def q1ej:=qb9 Tryz.prog lv X0 2 (q8l (cdF Tryz.f42) 2) q1eo q1el (fun x=>q1ei x.1.1 x.1.2.2.1 x.1.2.2.2.1 x.1.2.2.2.2 x.2.1 x.2.2) (fun _ _ h=>qak h)
def q1ef:Cod (V×List B) (Int×Int):=(cFstU (cPair (vAgg (qah (vC (cInt .i64)) (qaj (vC (cInt .i64))))) qai))
def q1eq (l:(List S81)):Option (Int×Int):=fS Tryz.prog lv X0 42 q1ee q1ef l
def q1er (l:(List S81)):Option (Int×Int) :=
 (gdE (EC.isL q1dk (EC.encL q1dk l))<|
 (gdE (EC.isL q1dk (EC.encL q1dk l))<|
 ((q1ei (EC.decL q1dk (EC.encL q1dk l)) (EC.decL q1dk (EC.encL q1dk l)) (List.length (EC.encL q1dk l):Int) 0 0 0).bind fun r0 =>
 (Sum.elim (fun r1=>(some (r1.2.1,r1.2.2)))
 (fun r1=>(Option.bind q38 fun r2 =>
 (some (r2.1,r2.2)))) r0))))
theorem q1eh {l r} (h:q1er l=some r):q1eq l=some r :=
 q6x (es:=q1qx) (hs:=[]) [q1ej] Tryz.func42 rfl (by kernel_rfl) rfl (by kernel_rfl) (by kernel_rfl) ⟨⟨_,rfl,rfl⟩,trivial⟩ trivial (by kernel_rfl) h
def q1eg:=entS Tryz.prog lv X0 42 [] q1ee q1ef (fun x=>q1eq x) (fun _ _ h=>q6w h)
def q1qn:=q1eg::q1qx
def q1f4:=(qaj (vAgg (qah (vC cStr) (qah (vC (cSl q1dk)) (qaj (vC cStr))))))
def q1f5:Cod (V×List B) (Int×Int):=(cFstU (cPair (vAgg (qah (vC (cInt .i64)) (qaj (vC (cInt .i64))))) qai))
def q1f8 (e_From:ByteArray) (e_To:(List S81)) (e_Id:ByteArray):Option (Int×Int):=fS Tryz.prog lv X0 12 q1f4 q1f5 (e_From,e_To,e_Id)
def q1f9 (e_From:ByteArray) (e_To:(List S81)) (e_Id:ByteArray):Option (Int×Int) :=
 (brE ((!(e_From.toList==(ByteArray.toList ⟨#[]⟩)))==true)
 ((q1du e_From).bind fun r0 =>
 (brE (!r0)
 ((q32 10 (-10)).bind fun r1 =>
 (some (r1.1,r1.2)))
 (brE ((decide ((List.length (EC.encL q1dk e_To):Int)<1))==false)
 (brE (decide ((List.length (EC.encL q1dk e_To):Int)>60))
 ((q32 2 (-11)).bind fun r1 =>
 (some (r1.1,r1.2)))
 (brE ((!(e_Id.toList==(ByteArray.toList ⟨#[]⟩)))==true)
 ((q1bf e_Id).bind fun r1 =>
 (brE (!r1)
 ((q32 10 (-12)).bind fun r2 =>
 (some (r2.1,r2.2)))
 (gdE (EC.isL q1dk (EC.encL q1dk e_To))<|
 ((q1eq (EC.decL q1dk (EC.encL q1dk e_To))).bind fun r2 =>
 (some (r2.1,r2.2))))))
 (gdE (EC.isL q1dk (EC.encL q1dk e_To))<|
 ((q1eq (EC.decL q1dk (EC.encL q1dk e_To))).bind fun r1 =>
 (some (r1.1,r1.2))))))
 ((q32 2 (-11)).bind fun r1 =>
 (some (r1.1,r1.2))))))
 (brE ((decide ((List.length (EC.encL q1dk e_To):Int)<1))==false)
 (brE (decide ((List.length (EC.encL q1dk e_To):Int)>60))
 ((q32 2 (-11)).bind fun r0 =>
 (some (r0.1,r0.2)))
 (brE ((!(e_Id.toList==(ByteArray.toList ⟨#[]⟩)))==true)
 ((q1bf e_Id).bind fun r0 =>
 (brE (!r0)
 ((q32 10 (-12)).bind fun r1 =>
 (some (r1.1,r1.2)))
 (gdE (EC.isL q1dk (EC.encL q1dk e_To))<|
 ((q1eq (EC.decL q1dk (EC.encL q1dk e_To))).bind fun r1 =>
 (some (r1.1,r1.2))))))
 (gdE (EC.isL q1dk (EC.encL q1dk e_To))<|
 ((q1eq (EC.decL q1dk (EC.encL q1dk e_To))).bind fun r0 =>
 (some (r0.1,r0.2))))))
 ((q32 2 (-11)).bind fun r0 =>
 (some (r0.1,r0.2)))))
theorem q1f7 {e_From e_To e_Id r} (h:q1f9 e_From e_To e_Id=some r):q1f8 e_From e_To e_Id=some r :=
 q6x (es:=q1qn) (hs:=[]) [] Tryz.func12 rfl (by kernel_rfl) rfl (by kernel_rfl) (by kernel_rfl) trivial trivial (by kernel_rfl) h
def q1f6:=entS Tryz.prog lv X0 12 [] q1f4 q1f5 (fun x=>q1f8 x.1 x.2.1 x.2.2) (fun _ _ h=>q6w h)
def q1qq:=q1f6::q1qn
end
end Go.Proofs.YtepmpilapglklaaGreat
