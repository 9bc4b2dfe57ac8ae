/- Functions of the program as plain functions: made by program from the machine. -/
import Derived.Test.YtjlkjiifkganoaaZ18
namespace Go.Proofs.Ytjlkjiifkganoaa
set_option linter.unusedSimpArgs false
open Go.RowKit
set_option maxRecDepth 100000
noncomputable section
def q47:=(qhl (vC (cInt .i64)) (qhn (vC (cInt .i64))))
def q48:Cod (V×List B) (Int×Int):=(cFstU (cPair (vAgg (qhl (vC (cInt .i64)) (qhn (vC (cInt .i64))))) qhm))
def q4b (code:Int) (at_:Int):Option (Int×Int):=fS Try.prog lv X0 7 q47 q48 (code,at_)
def q4c (code:Int) (at_:Int):Option (Int×Int) :=
 (some (code,at_))
theorem q4a {code at_ r} (h:q4c code at_=some r):q4b code at_=some r :=
 qbx (es:=tab0) (hs:=[]) [] Try.func7 rfl (by kernel_rfl) rfl (by kernel_rfl) (by kernel_rfl) trivial trivial (by kernel_rfl) h
def q49:=entS Try.prog lv X0 7 [] q47 q48 (fun x=>q4b x.1 x.2) (fun _ _ h=>qbw h)
def qu9:=q49::tab0
def q4v:Cod (List V) Unit:=qhm
def q4w:Cod (V×List B) (Int×Int):=(cFstU (cPair (vAgg (qhl (vC (cInt .i64)) (qhn (vC (cInt .i64))))) qhm))
def q4z :Option (Int×Int):=fS Try.prog lv X0 13 q4v q4w ()
def q50 :Option (Int×Int) :=
 (some (0,0))
theorem q4y {r} (h:q50 =some r):q4z =some r :=
 qbx (es:=qu9) (hs:=[]) [] Try.func13 rfl (by kernel_rfl) rfl (by kernel_rfl) (by kernel_rfl) trivial trivial (by kernel_rfl) h
def q4x:=entS Try.prog lv X0 13 [] q4v q4w (fun x=>q4z ) (fun _ _ h=>qbw h)
def qud:=q4x::qu9
def q41:=(qhn (vAgg (qhl (vC (cInt .i64)) (qhn (vC (cInt .i64))))))
def q42:Cod (V×List B) Bool:=(cFstU (cPair (vC cBool) qhm))
def q45 (f_Code:Int) (f_Index:Int):Option Bool:=fS Try.prog lv X0 9 q41 q42 (f_Code,f_Index)
def q46 (f_Code:Int) (f_Index:Int):Option Bool :=
 (some (f_Code != 0))
theorem q44 {f_Code f_Index r} (h:q46 f_Code f_Index=some r):q45 f_Code f_Index=some r :=
 qbx (es:=qud) (hs:=[]) [] Try.func9 rfl (by kernel_rfl) rfl (by kernel_rfl) (by kernel_rfl) trivial trivial (by kernel_rfl) h
def q43:=entS Try.prog lv X0 9 [] q41 q42 (fun x=>q45 x.1 x.2) (fun _ _ h=>qbw h)
def qu8:=q43::qud
def q51:=(qhn (vC (cInt .i64)))
def q52:Cod (V×List B) Bool:=(cFstU (cPair (vC cBool) qhm))
def q55 (t:Int):Option Bool:=fS Try.prog lv X0 17 q51 q52 t
def q56 (t:Int):Option Bool :=
 (brE ((decide (t≥(-68719476736)))==true)
 (some (decide (t≤68719476736)))
 (some false))
theorem q54 {t r} (h:q56 t=some r):q55 t=some r :=
 qbx (es:=qu8) (hs:=[]) [] Try.func17 rfl (by kernel_rfl) rfl (by kernel_rfl) (by kernel_rfl) trivial trivial (by kernel_rfl) h
def q53:=entS Try.prog lv X0 17 [] q51 q52 (fun x=>q55 x) (fun _ _ h=>qbw h)
def que:=q53::qu8
def q4d:=(qhn (vC (cInt .u8)))
def q4e:Cod (V×List B) Bool:=(cFstU (cPair (vC cBool) qhm))
def q4h (c:Int):Option Bool:=fS Try.prog lv X0 35 q4d q4e c
def q4i (c:Int):Option Bool :=
 (brE ((decide (c≥97))==true)
 (brE ((decide (c≤122))==false)
 (brE ((decide (c≥65))==true)
 (brE ((decide (c≤90))==false)
 (brE ((decide (c≥48))==true)
 (some (decide (c≤57)))
 (some false))
 (some true))
 (brE ((decide (c≥48))==true)
 (some (decide (c≤57)))
 (some false)))
 (some true))
 (brE ((decide (c≥65))==true)
 (brE ((decide (c≤90))==false)
 (brE ((decide (c≥48))==true)
 (some (decide (c≤57)))
 (some false))
 (some true))
 (brE ((decide (c≥48))==true)
 (some (decide (c≤57)))
 (some false))))
theorem q4g {c r} (h:q4i c=some r):q4h c=some r :=
 qbx (es:=que) (hs:=[]) [] Try.func35 rfl (by kernel_rfl) rfl (by kernel_rfl) (by kernel_rfl) trivial trivial (by kernel_rfl) h
def q4f:=entS Try.prog lv X0 35 [] q4d q4e (fun x=>q4h x) (fun _ _ h=>qbw h)
def qua:=q4f::que
def q4j:=(qhn (vC (cInt .u8)))
def q4k:Cod (V×List B) Bool:=(cFstU (cPair (vC cBool) qhm))
def q4n (c:Int):Option Bool:=fS Try.prog lv X0 34 q4j q4k c
def q4o (c:Int):Option Bool :=
 ((q4h c).bind fun r0 =>
 (brE (r0==false)
 (brE ((c==45)==false)
 (brE ((c==95)==false)
 (some (c==46))
 (some true))
 (some true))
 (some true)))
theorem q4m {c r} (h:q4o c=some r):q4n c=some r :=
 qbx (es:=qua) (hs:=[]) [] Try.func34 rfl (by kernel_rfl) rfl (by kernel_rfl) (by kernel_rfl) trivial trivial (by kernel_rfl) h
def q4l:=entS Try.prog lv X0 34 [] q4j q4k (fun x=>q4n x) (fun _ _ h=>qbw h)
def quc:=q4l::qua
def q14:Cod (List V) (ByteArray×Unit):=(qhl (vC cStr) (qhn (vFn 34 qhm)))
def q1e:=sLS [0,1,7,8] (qhl (vC cStr) (qhl (vFn 34 qhm) (qhl (vC (cInt .i64)) (qhn (vC (cInt .i64)))))) qhm [] [] (by decide) (fun _=>rfl)
def q1d:=sLS [0,1,7,8,9] (qhl (vC cStr) (qhl (vFn 34 qhm) (qhl (vC (cInt .i64)) (qhl (vC (cInt .i64)) (qhn (vC cBool)))))) qhm [] [] (by decide) (fun _=>rfl)
def q1c:=sLS [4] (qhn (vC cBool)) qhm [] [] (by decide) (fun _=>rfl)
def q1b:=oOr 1 q1c (oAt 2 q1d) (fun x=>(by decide:(2:Nat)≠1))
def q18 (s:ByteArray) (t7:Int) (t8:Int):Option ((Bool×Unit)⊕((ByteArray×Unit×Int×Int×Bool)×Unit)):=lS Try.prog lv X0 33 18 (qfp (cdF Try.f33) 2) q1e q1b ((s,(),t7,t8),())
def q1f (s:ByteArray) (t7:Int) (t8:Int):Option ((Bool×Unit)⊕((ByteArray×Unit×Int×Int×Bool)×Unit)) :=
 (brE (decide (t8<t7))
 (gdE ((decide (0≤t8))&&(decide ((Int.toNat t8)<s.size)))<|
 ((q4n (((UInt8.toNat (Array.getD s.data (Int.toNat t8) (0:UInt8))):Nat):Int)).bind fun r0 =>
 (brE (!r0)
 (some (.inl (false,())))
 (q18 s t7 (IntKind.wrap .i64 (t8+1))))))
 (some (.inr ((s,((),(t7,(t8,false)))),()))))
theorem q1a {s t7 t8 r} (h:q1f s t7 t8=some r):q18 s t7 t8=some r :=
 qhp (es:=quc) (hs:=[]) [] (by kernel_rfl) trivial trivial (by kernel_rfl) h
def q19:=qj2 Try.prog lv X0 2 (qfp (cdF Try.f33) 2) q1e q1b (fun x=>q18 x.1.1 x.1.2.2.1 x.1.2.2.2) (fun _ _ h=>qho h)
def q15:Cod (V×List B) Bool:=(cFstU (cPair (vC cBool) qhm))
def q1i (s:ByteArray):Option Bool:=fS Try.prog lv X0 33 q14 q15 (s,())
def q1j (s:ByteArray):Option Bool :=
 ((q18 s (s.size:Int) 0).bind fun r0 =>
 (Sum.elim (fun r1=>(some r1.1))
 (fun r1=>(some true)) r0))
theorem q17 {s r} (h:q1j s=some r):q1i s=some r :=
 qbx (es:=quc) (hs:=[]) [q19] Try.func33 rfl (by kernel_rfl) rfl (by kernel_rfl) (by kernel_rfl) ⟨⟨_,rfl,rfl⟩,trivial⟩ trivial (by kernel_rfl) h
def q16:=entS Try.prog lv X0 33 [34] q14 q15 (fun x=>q1i x.1) (fun _ _ h=>qbw h)
def qu3:=q16::quc
def q4p:=(qhn (vC cStr))
def q4q:Cod (V×List B) Bool:=(cFstU (cPair (vC cBool) qhm))
def q4t (s:ByteArray):Option Bool:=fS Try.prog lv X0 18 q4p q4q s
def q4u (s:ByteArray):Option Bool :=
 (brE ((!(s.toList==(ByteArray.toList ⟨#[]⟩)))==true)
 (brE ((decide ((s.size:Int)≤60))==true)
 ((q1i s).bind fun r0 =>
 (some r0))
 (some false))
 (some false))
theorem q4s {s r} (h:q4u s=some r):q4t s=some r :=
 qbx (es:=qu3) (hs:=[]) [] Try.func18 rfl (by kernel_rfl) rfl (by kernel_rfl) (by kernel_rfl) trivial trivial (by kernel_rfl) h
def q4r:=entS Try.prog lv X0 18 [] q4p q4q (fun x=>q4t x) (fun _ _ h=>qbw h)
def qub:=q4r::qu3
def q109:=(qhl (vC (cInt .i64)) (qhl (vC (cInt .i64)) (qhn (vC (cInt .i64)))))
def q10a:Cod (V×List B) Bool:=(cFstU (cPair (vC cBool) qhm))
def q10e (n:Int) (low:Int) (high:Int):Option Bool:=fS Try.prog lv X0 19 q109 q10a (n,low,high)
def q10f (n:Int) (low:Int) (high:Int):Option Bool :=
 (brE ((decide (n≥low))==true)
 (some (decide (n≤high)))
 (some false))
theorem q10c {n low high r} (h:q10f n low high=some r):q10e n low high=some r :=
 qbx (es:=qub) (hs:=[]) [] Try.func19 rfl (by kernel_rfl) rfl (by kernel_rfl) (by kernel_rfl) trivial trivial (by kernel_rfl) h
def q10b:=entS Try.prog lv X0 19 [] q109 q10a (fun x=>q10e x.1 x.2.1 x.2.2) (fun _ _ h=>qbw h)
def qvr:=q10b::qub
def qz1:=(qhn (vAgg (qhl (vC cStr) (qhl (vC (cInt .i64)) (qhl (vC (cInt .i64)) (qhl (vC (cInt .i64)) (qhl (vC (cInt .i64)) (qhl (vC (cInt .i64)) (qhl (vC (cInt .i64)) (qhl (vC (cInt .i64)) (qhl (vC (cInt .i64)) (qhl (vC (cInt .i64)) (qhn (vC (cInt .i64)))))))))))))))
def qz2:Cod (V×List B) Bool:=(cFstU (cPair (vC cBool) qhm))
def qz6 (z_Name:ByteArray) (z_Standard:Int) (z_Summer:Int) (z_Begin_Month:Int) (z_Begin_Week:Int) (z_Begin_Weekday:Int) (z_Begin_Minute:Int) (z_End_Month:Int) (z_End_Week:Int) (z_End_Weekday:Int) (z_End_Minute:Int):Option Bool:=fS Try.prog lv X0 20 qz1 qz2 (z_Name,z_Standard,z_Summer,z_Begin_Month,z_Begin_Week,z_Begin_Weekday,z_Begin_Minute,z_End_Month,z_End_Week,z_End_Weekday,z_End_Minute)
def qz7 (z_Name:ByteArray) (z_Standard:Int) (z_Summer:Int) (z_Begin_Month:Int) (z_Begin_Week:Int) (z_Begin_Weekday:Int) (z_Begin_Minute:Int) (z_End_Month:Int) (z_End_Week:Int) (z_End_Weekday:Int) (z_End_Minute:Int):Option Bool :=
 (some ((z_Begin_Month==0)&&((z_Begin_Week==0)&&((z_Begin_Weekday==0)&&((z_Begin_Minute==0)&&true)))))
theorem qz4 {z_Name z_Standard z_Summer z_Begin_Month z_Begin_Week z_Begin_Weekday z_Begin_Minute z_End_Month z_End_Week z_End_Weekday z_End_Minute r} (h:qz7 z_Name z_Standard z_Summer z_Begin_Month z_Begin_Week z_Begin_Weekday z_Begin_Minute z_End_Month z_End_Week z_End_Weekday z_End_Minute=some r):qz6 z_Name z_Standard z_Summer z_Begin_Month z_Begin_Week z_Begin_Weekday z_Begin_Minute z_End_Month z_End_Week z_End_Weekday z_End_Minute=some r :=
 qbx (es:=qvr) (hs:=[]) [] Try.func20 rfl (by kernel_rfl) rfl (by kernel_rfl) (by kernel_rfl) trivial trivial (by kernel_rfl) h
def qz3:=entS Try.prog lv X0 20 [] qz1 qz2 (fun x=>qz6 x.1 x.2.1 x.2.2.1 x.2.2.2.1 x.2.2.2.2.1 x.2.2.2.2.2.1 x.2.2.2.2.2.2.1 x.2.2.2.2.2.2.2.1 x.2.2.2.2.2.2.2.2.1 x.2.2.2.2.2.2.2.2.2.1 x.2.2.2.2.2.2.2.2.2.2) (fun _ _ h=>qbw h)
def qvm:=qz3::qvr
def qzw:=(qhn (vAgg (qhl (vC (cInt .i64)) (qhl (vC (cInt .i64)) (qhl (vC (cInt .i64)) (qhn (vC (cInt .i64))))))))
def qzx:Cod (V×List B) Bool:=(cFstU (cPair (vC cBool) qhm))
def q101 (t_Month:Int) (t_Week:Int) (t_Weekday:Int) (t_Minute:Int):Option Bool:=fS Try.prog lv X0 21 qzw qzx (t_Month,t_Week,t_Weekday,t_Minute)
def q102 (t_Month:Int) (t_Week:Int) (t_Weekday:Int) (t_Minute:Int):Option Bool :=
 ((q10e t_Month 1 12).bind fun r0 =>
 (brE (r0==true)
 ((q10e t_Week 1 5).bind fun r1 =>
 (brE (r1==true)
 ((q10e t_Weekday 0 6).bind fun r2 =>
 (brE (r2==true)
 ((q10e t_Minute 0 1439).bind fun r3 =>
 (some r3))
 (some false)))
 (some false)))
 (some false)))
theorem qzz {t_Month t_Week t_Weekday t_Minute r} (h:q102 t_Month t_Week t_Weekday t_Minute=some r):q101 t_Month t_Week t_Weekday t_Minute=some r :=
 qbx (es:=qvm) (hs:=[]) [] Try.func21 rfl (by kernel_rfl) rfl (by kernel_rfl) (by kernel_rfl) trivial trivial (by kernel_rfl) h
def qzy:=entS Try.prog lv X0 21 [] qzw qzx (fun x=>q101 x.1 x.2.1 x.2.2.1 x.2.2.2) (fun _ _ h=>qbw h)
def qvp:=qzy::qvm
def q105:=(qhn (vAgg (qhl (vC cStr) (qhl (vC (cInt .i64)) (qhl (vC (cInt .i64)) (qhl (vC (cInt .i64)) (qhl (vC (cInt .i64)) (qhl (vC (cInt .i64)) (qhl (vC (cInt .i64)) (qhl (vC (cInt .i64)) (qhl (vC (cInt .i64)) (qhl (vC (cInt .i64)) (qhn (vC (cInt .i64)))))))))))))))
def q106:Cod (V×List B) (Int×Int):=(cFstU (cPair (vAgg (qhl (vC (cInt .i64)) (qhn (vC (cInt .i64))))) qhm))
def zval_s (z_Name:ByteArray) (z_Standard:Int) (z_Summer:Int) (z_Begin_Month:Int) (z_Begin_Week:Int) (z_Begin_Weekday:Int) (z_Begin_Minute:Int) (z_End_Month:Int) (z_End_Week:Int) (z_End_Weekday:Int) (z_End_Minute:Int):Option (Int×Int):=fS Try.prog lv X0 10 q105 q106 (z_Name,z_Standard,z_Summer,z_Begin_Month,z_Begin_Week,z_Begin_Weekday,z_Begin_Minute,z_End_Month,z_End_Week,z_End_Weekday,z_End_Minute)
def zval_t (z_Name:ByteArray) (z_Standard:Int) (z_Summer:Int) (z_Begin_Month:Int) (z_Begin_Week:Int) (z_Begin_Weekday:Int) (z_Begin_Minute:Int) (z_End_Month:Int) (z_End_Week:Int) (z_End_Weekday:Int) (z_End_Minute:Int):Option (Int×Int) :=
 ((q4t z_Name).bind fun r0 =>
 (brE (!r0)
 ((q4b 10 (-3)).bind fun r1 =>
 (some (r1.1,r1.2)))
 ((q10e z_Standard (-900) 900).bind fun r1 =>
 (brE (!r1)
 ((q4b 3 (-4)).bind fun r2 =>
 (some (r2.1,r2.2)))
 ((qz6 z_Name z_Standard z_Summer z_Begin_Month z_Begin_Week z_Begin_Weekday z_Begin_Minute z_End_Month z_End_Week z_End_Weekday z_End_Minute).bind fun r2 =>
 (brE r2
 (brE ((z_Summer != 0)==false)
 (brE (!((z_End_Month==0)&&((z_End_Week==0)&&((z_End_Weekday==0)&&((z_End_Minute==0)&&true)))))
 ((q4b 5 (-5)).bind fun r3 =>
 (some (r3.1,r3.2)))
 (Option.bind q4z fun r3 =>
 (some (r3.1,r3.2))))
 ((q4b 5 (-5)).bind fun r3 =>
 (some (r3.1,r3.2))))
 ((q10e z_Summer (-900) 900).bind fun r3 =>
 (brE ((!r3)==false)
 ((q10e z_Summer (IntKind.wrap .i64 (z_Standard+1)) (IntKind.wrap .i64 (z_Standard+180))).bind fun r4 =>
 (brE (!r4)
 ((q4b 3 (-5)).bind fun r5 =>
 (some (r5.1,r5.2)))
 ((q101 z_Begin_Month z_Begin_Week z_Begin_Weekday z_Begin_Minute).bind fun r5 =>
 (brE (!r5)
 ((q4b 3 (-6)).bind fun r6 =>
 (some (r6.1,r6.2)))
 ((q101 z_End_Month z_End_Week z_End_Weekday z_End_Minute).bind fun r6 =>
 (brE (!r6)
 ((q4b 3 (-7)).bind fun r7 =>
 (some (r7.1,r7.2)))
 (brE (z_Begin_Month==z_End_Month)
 ((q4b 5 (-7)).bind fun r7 =>
 (some (r7.1,r7.2)))
 (Option.bind q4z fun r7 =>
 (some (r7.1,r7.2))))))))))
 ((q4b 3 (-5)).bind fun r4 =>
 (some (r4.1,r4.2)))))))))))
theorem q107 {z_Name z_Standard z_Summer z_Begin_Month z_Begin_Week z_Begin_Weekday z_Begin_Minute z_End_Month z_End_Week z_End_Weekday z_End_Minute r} (h:zval_t z_Name z_Standard z_Summer z_Begin_Month z_Begin_Week z_Begin_Weekday z_Begin_Minute z_End_Month z_End_Week z_End_Weekday z_End_Minute=some r):zval_s z_Name z_Standard z_Summer z_Begin_Month z_Begin_Week z_Begin_Weekday z_Begin_Minute z_End_Month z_End_Week z_End_Weekday z_End_Minute=some r :=
 qbx (es:=qvp) (hs:=[]) [] Try.func10 rfl (by kernel_rfl) rfl (by kernel_rfl) (by kernel_rfl) trivial trivial (by kernel_rfl) h
def zval_e:=entS Try.prog lv X0 10 [] q105 q106 (fun x=>zval_s x.1 x.2.1 x.2.2.1 x.2.2.2.1 x.2.2.2.2.1 x.2.2.2.2.2.1 x.2.2.2.2.2.2.1 x.2.2.2.2.2.2.2.1 x.2.2.2.2.2.2.2.2.1 x.2.2.2.2.2.2.2.2.2.1 x.2.2.2.2.2.2.2.2.2.2) (fun _ _ h=>qbw h)
def qvq:=zval_e::qvp
def qac:=(qhl (vC (cInt .i64)) (qhl (vC (cInt .i64)) (qhn (vC (cInt .i64)))))
def qad:Cod (V×List B) Bool:=(cFstU (cPair (vC cBool) qhm))
def qah (n:Int) (low:Int) (high:Int):Option Bool:=fS Try.prog lv X0 72 qac qad (n,low,high)
def qai (n:Int) (low:Int) (high:Int):Option Bool :=
 (brE ((decide (n≥low))==true)
 (some (decide (n≤high)))
 (some false))
theorem qaf {n low high r} (h:qai n low high=some r):qah n low high=some r :=
 qbx (es:=qvq) (hs:=[]) [] Try.func72 rfl (by kernel_rfl) rfl (by kernel_rfl) (by kernel_rfl) trivial trivial (by kernel_rfl) h
def qae:=entS Try.prog lv X0 72 [] qac qad (fun x=>qah x.1 x.2.1 x.2.2) (fun _ _ h=>qbw h)
def quq:=qae::qvq
def q8j:=(qhn (vC (cInt .i64)))
def q8k:Cod (V×List B) Bool:=(cFstU (cPair (vC cBool) qhm))
def q8n (y:Int):Option Bool:=fS Try.prog lv X0 97 q8j q8k y
def q8o (y:Int):Option Bool :=
 (brE (((Int.tmod y 4)==0)==true)
 (brE (((Int.tmod y 100) != 0)==false)
 (some ((Int.tmod y 400)==0))
 (some true))
 (some false))
theorem q8m {y r} (h:q8o y=some r):q8n y=some r :=
 qbx (es:=quq) (hs:=[]) [] Try.func97 rfl (by kernel_rfl) rfl (by kernel_rfl) (by kernel_rfl) trivial trivial (by kernel_rfl) h
def q8l:=entS Try.prog lv X0 97 [] q8j q8k (fun x=>q8n x) (fun _ _ h=>qbw h)
def qui:=q8l::quq
def q9u:=(qhl (vC (cInt .i64)) (qhn (vC (cInt .i64))))
def q9v:Cod (V×List B) Int:=(cFstU (cPair (vC (cInt .i64)) qhm))
def dlen_s (y:Int) (m_:Int):Option Int:=fS Try.prog lv X0 89 q9u q9v (y,m_)
def dlen_t (y:Int) (m_:Int):Option Int :=
 (gdE (((decide (0≤(IntKind.wrap .i64 (m_ - 1))))&&(decide ((IntKind.wrap .i64 (m_ - 1))<((12:Nat):Int))))&&(decide ((Int.toNat (IntKind.wrap .i64 (m_ - 1)))<(List.length [31,28,31,30,31,30,31,31,30,31,30,31]))))<|
 (brE ((m_==2)==true)
 ((q8n y).bind fun r0 =>
 (brE r0
 (some (IntKind.wrap .i64 ((List.getD [31,28,31,30,31,30,31,31,30,31,30,31] (Int.toNat (IntKind.wrap .i64 (m_ - 1))) 0)+1)))
 (some (List.getD [31,28,31,30,31,30,31,31,30,31,30,31] (Int.toNat (IntKind.wrap .i64 (m_ - 1))) 0))))
 (some (List.getD [31,28,31,30,31,30,31,31,30,31,30,31] (Int.toNat (IntKind.wrap .i64 (m_ - 1))) 0))))
theorem q9w {y m_ r} (h:dlen_t y m_=some r):dlen_s y m_=some r :=
 qbx (es:=qui) (hs:=[]) [] Try.func89 rfl (by kernel_rfl) rfl (by kernel_rfl) (by kernel_rfl) trivial trivial (by kernel_rfl) h
def dlen_e:=entS Try.prog lv X0 89 [] q9u q9v (fun x=>dlen_s x.1 x.2) (fun _ _ h=>qbw h)
def qum:=dlen_e::qui
def q8p:=(qhn (vC (cInt .i64)))
def q8q:Cod (V×List B) Int:=(cFstU (cPair (vC (cInt .i64)) qhm))
def q8u (y:Int):Option Int:=fS Try.prog lv X0 90 q8p q8q y
def q8v (y:Int):Option Int :=
 (some (IntKind.wrap .i64 ((IntKind.wrap .i64 ((IntKind.wrap .i64 ((IntKind.wrap .i64 (365*(IntKind.wrap .i64 (y - 1))))+(IntKind.wrap .i64 (Int.tdiv (IntKind.wrap .i64 (y - 1)) 4)))) - (IntKind.wrap .i64 (Int.tdiv (IntKind.wrap .i64 (y - 1)) 100))))+(IntKind.wrap .i64 (Int.tdiv (IntKind.wrap .i64 (y - 1)) 400)))))
theorem q8s {y r} (h:q8v y=some r):q8u y=some r :=
 qbx (es:=qum) (hs:=[]) [] Try.func90 rfl (by kernel_rfl) rfl (by kernel_rfl) (by kernel_rfl) trivial trivial (by kernel_rfl) h
def q8r:=entS Try.prog lv X0 90 [] q8p q8q (fun x=>q8u x) (fun _ _ h=>qbw h)
def quj:=q8r::qum
def q8x:=(qhl (vC (cInt .i64)) (qhl (vC (cInt .i64)) (qhn (vC (cInt .i64)))))
def q95:=sLS [0,1,7,8] (qhl (vC (cInt .i64)) (qhl (vC (cInt .i64)) (qhl (vC (cInt .i64)) (qhn (vC (cInt .i64)))))) qhm [] [] (by decide) (fun _=>rfl)
def q94:=sLS [0,1,7,8,18] (qhl (vC (cInt .i64)) (qhl (vC (cInt .i64)) (qhl (vC (cInt .i64)) (qhl (vC (cInt .i64)) (qhn (vC cBool)))))) qhm [] [] (by decide) (fun _=>rfl)
def q93:=oAt 2 q94
def q90 (y:Int) (m_:Int) (n:Int) (k:Int):Option ((Int×Int×Int×Int×Bool)×Unit):=lS Try.prog lv X0 70 27 (qfp (cdF Try.f70) 3) q95 q93 ((y,m_,n,k),())
def q96 (y:Int) (m_:Int) (n:Int) (k:Int):Option ((Int×Int×Int×Int×Bool)×Unit) :=
 (brE (decide (k<m_))
 ((dlen_s y k).bind fun r0 =>
 (q90 y m_ (IntKind.wrap .i64 (n+r0)) (IntKind.wrap .i64 (k+1))))
 (some ((y,(m_,(n,(k,false)))),())))
theorem q92 {y m_ n k r} (h:q96 y m_ n k=some r):q90 y m_ n k=some r :=
 qhp (es:=quj) (hs:=[]) [] (by kernel_rfl) trivial trivial (by kernel_rfl) h
def q91:=qj2 Try.prog lv X0 3 (qfp (cdF Try.f70) 3) q95 q93 (fun x=>q90 x.1.1 x.1.2.1 x.1.2.2.1 x.1.2.2.2) (fun _ _ h=>qho h)
def q8y:Cod (V×List B) Int:=(cFstU (cPair (vC (cInt .i64)) qhm))
def q99 (y:Int) (m_:Int) (d:Int):Option Int:=fS Try.prog lv X0 70 q8x q8y (y,m_,d)
def dday_t (y:Int) (m_:Int) (d:Int):Option Int :=
 ((q8u y).bind fun r0 =>
 ((q8u 1970).bind fun r1 =>
 (Option.bind (q90 y m_ (IntKind.wrap .i64 ((IntKind.wrap .i64 ((IntKind.wrap .i64 (r0 - r1))+d)) - 1)) 1) fun r2 =>
 (some r2.1.2.2.1))))
theorem q8z {y m_ d r} (h:dday_t y m_ d=some r):q99 y m_ d=some r :=
 qbx (es:=quj) (hs:=[]) [q91] Try.func70 rfl (by kernel_rfl) rfl (by kernel_rfl) (by kernel_rfl) ⟨⟨_,rfl,rfl⟩,trivial⟩ trivial (by kernel_rfl) h
def dday_e:=entS Try.prog lv X0 70 [] q8x q8y (fun x=>q99 x.1 x.2.1 x.2.2) (fun _ _ h=>qbw h)
def quk:=dday_e::quj
def qa8:=(qhn (vAgg (qhl (vC (cInt .i64)) (qhl (vC (cInt .i64)) (qhl (vC (cInt .i64)) (qhl (vC (cInt .i64)) (qhl (vC (cInt .i64)) (qhl (vC (cInt .i64)) (qhn (vC (cInt .i64)))))))))))
def qa9:Cod (V×List B) (Int×Int):=(cFstU (cPair (vAgg (qhl (vC (cInt .i64)) (qhn (vC (cInt .i64))))) qhm))
def dval_s (d_Year:Int) (d_Month:Int) (d_Day:Int) (d_Hour:Int) (d_Minute:Int) (d_Second:Int) (d_Zone:Int):Option (Int×Int):=fS Try.prog lv X0 69 qa8 qa9 (d_Year,d_Month,d_Day,d_Hour,d_Minute,d_Second,d_Zone)
def dval_t (d_Year:Int) (d_Month:Int) (d_Day:Int) (d_Hour:Int) (d_Minute:Int) (d_Second:Int) (d_Zone:Int):Option (Int×Int) :=
 ((qah d_Year 1 4000).bind fun r0 =>
 (brE (r0==true)
 ((qah d_Month 1 12).bind fun r1 =>
 (brE (r1==true)
 (Option.bind (dlen_s d_Year (ite (false=true) (ite ((ite (true=true) (ite (d_Month<1) 1 d_Month) (ite (1<d_Month) 1 d_Month))<12) 12 (ite (true=true) (ite (d_Month<1) 1 d_Month) (ite (1<d_Month) 1 d_Month))) (ite (12<(ite (true=true) (ite (d_Month<1) 1 d_Month) (ite (1<d_Month) 1 d_Month))) 12 (ite (true=true) (ite (d_Month<1) 1 d_Month) (ite (1<d_Month) 1 d_Month))))) fun r2 =>
 ((qah d_Day 1 r2).bind fun r3 =>
 (brE (r3==true)
 ((qah d_Hour 0 23).bind fun r4 =>
 (brE (r4==true)
 ((qah d_Minute 0 59).bind fun r5 =>
 (brE (r5==true)
 ((qah d_Second 0 59).bind fun r6 =>
 (brE (r6==true)
 ((qah d_Zone (-900) 900).bind fun r7 =>
 (brE (!r7)
 ((q4b 3 (-3)).bind fun r8 =>
 (some (r8.1,r8.2)))
 (Option.bind q4z fun r8 =>
 (some (r8.1,r8.2)))))
 ((q4b 3 (-3)).bind fun r7 =>
 (some (r7.1,r7.2)))))
 ((q4b 3 (-3)).bind fun r6 =>
 (some (r6.1,r6.2)))))
 ((q4b 3 (-3)).bind fun r5 =>
 (some (r5.1,r5.2)))))
 ((q4b 3 (-3)).bind fun r4 =>
 (some (r4.1,r4.2))))))
 ((q4b 3 (-3)).bind fun r2 =>
 (some (r2.1,r2.2)))))
 ((q4b 3 (-3)).bind fun r1 =>
 (some (r1.1,r1.2)))))
theorem qaa {d_Year d_Month d_Day d_Hour d_Minute d_Second d_Zone r} (h:dval_t d_Year d_Month d_Day d_Hour d_Minute d_Second d_Zone=some r):dval_s d_Year d_Month d_Day d_Hour d_Minute d_Second d_Zone=some r :=
 qbx (es:=quk) (hs:=[]) [] Try.func69 rfl (by kernel_rfl) rfl (by kernel_rfl) (by kernel_rfl) trivial trivial (by kernel_rfl) h
def dval_e:=entS Try.prog lv X0 69 [] qa8 qa9 (fun x=>dval_s x.1 x.2.1 x.2.2.1 x.2.2.2.1 x.2.2.2.2.1 x.2.2.2.2.2.1 x.2.2.2.2.2.2) (fun _ _ h=>qbw h)
def qup:=dval_e::quk
def q9m:=(qhn (vAgg (qhl (vC (cInt .i64)) (qhl (vC (cInt .i64)) (qhl (vC (cInt .i64)) (qhl (vC (cInt .i64)) (qhl (vC (cInt .i64)) (qhl (vC (cInt .i64)) (qhn (vC (cInt .i64)))))))))))
def q9n:Cod (V×List B) (Int×(Int×Int)):=(cFstU (cPair (vTup (qhl (vC (cInt .i64)) (qhn (vAgg (qhl (vC (cInt .i64)) (qhn (vC (cInt .i64)))))))) qhm))
def q9r (d_Year:Int) (d_Month:Int) (d_Day:Int) (d_Hour:Int) (d_Minute:Int) (d_Second:Int) (d_Zone:Int):Option (Int×(Int×Int)):=fS Try.prog lv X0 48 q9m q9n (d_Year,d_Month,d_Day,d_Hour,d_Minute,d_Second,d_Zone)
def q9s (d_Year:Int) (d_Month:Int) (d_Day:Int) (d_Hour:Int) (d_Minute:Int) (d_Second:Int) (d_Zone:Int):Option (Int×(Int×Int)) :=
 ((dval_s d_Year d_Month d_Day d_Hour d_Minute d_Second d_Zone).bind fun r0 =>
 ((q45 r0.1 r0.2).bind fun r1 =>
 (brE r1
 (some (0,(r0.1,r0.2)))
 ((q99 d_Year d_Month d_Day).bind fun r2 =>
 (Option.bind q4z fun r3 =>
 (some ((IntKind.wrap .i64 ((IntKind.wrap .i64 ((IntKind.wrap .i64 ((IntKind.wrap .i64 (r2*86400))+(IntKind.wrap .i64 (d_Hour*3600))))+(IntKind.wrap .i64 ((IntKind.wrap .i64 (d_Minute - d_Zone))*60))))+d_Second)),(r3.1,r3.2))))))))
theorem q9p {d_Year d_Month d_Day d_Hour d_Minute d_Second d_Zone r} (h:q9s d_Year d_Month d_Day d_Hour d_Minute d_Second d_Zone=some r):q9r d_Year d_Month d_Day d_Hour d_Minute d_Second d_Zone=some r :=
 qbx (es:=qup) (hs:=[]) [] Try.func48 rfl (by kernel_rfl) rfl (by kernel_rfl) (by kernel_rfl) trivial trivial (by kernel_rfl) h
def q9o:=entS Try.prog lv X0 48 [] q9m q9n (fun x=>q9r x.1 x.2.1 x.2.2.1 x.2.2.2.1 x.2.2.2.2.1 x.2.2.2.2.2.1 x.2.2.2.2.2.2) (fun _ _ h=>qbw h)
def qul:=q9o::qup
def qa1:=(qhl (vC (cInt .i64)) (qhn (vC (cInt .i64))))
def qa2:Cod (V×List B) (Int×Int):=(cFstU (cPair (vTup (qhl (vC (cInt .i64)) (qhn (vC (cInt .i64))))) qhm))
def qa6 (n:Int) (by_:Int):Option (Int×Int):=fS Try.prog lv X0 73 qa1 qa2 (n,by_)
def qa7 (n:Int) (by_:Int):Option (Int×Int) :=
 (brE (by_==0)
 none
 (brE (by_==0)
 none
 (brE (by_==0)
 none
 (some ((IntKind.wrap .i64 (Int.tdiv (IntKind.wrap .i64 (n - (Int.tmod (IntKind.wrap .i64 ((Int.tmod n by_)+by_)) by_))) by_)),(Int.tmod (IntKind.wrap .i64 ((Int.tmod n by_)+by_)) by_))))))
theorem qa4 {n by_ r} (h:qa7 n by_=some r):qa6 n by_=some r :=
 qbx (es:=qul) (hs:=[]) [] Try.func73 rfl (by kernel_rfl) rfl (by kernel_rfl) (by kernel_rfl) trivial trivial (by kernel_rfl) h
def qa3:=entS Try.prog lv X0 73 [] qa1 qa2 (fun x=>qa6 x.1 x.2) (fun _ _ h=>qbw h)
def qun:=qa3::qul
def q72:=(qhl (vC (cInt .i64)) (qhn (vC (cInt .i64))))
def q7b:=sLS [1,4,5,6,7,8,9] (qhl (vC (cInt .i64)) (qhl (vPtr 0 0) (qhl (vPtr 1 0) (qhl (vC (cInt .i64)) (qhl (vC (cInt .i64)) (qhl (vC (cInt .i64)) (qhn (vC (cInt .i64))))))))) (qhl (qkg (bBox (qhl (vC (cInt .i64)) (qhl (vC (cInt .i64)) (qhl (vC (cInt .i64)) (qhl (vC (cInt .i64)) (qhl (vC (cInt .i64)) (qhl (vC (cInt .i64)) (qhn (vC (cInt .i64))))))))))) (qhn (qkg (bBox (qhl (vC (cInt .i64)) (qhn (vC (cInt .i64)))))))) [false,false] [] (by decide) (fun _=>rfl)
def q7a:=sLS [1,4,5,6,7,8,9,40] (qhl (vC (cInt .i64)) (qhl (vPtr 0 0) (qhl (vPtr 1 0) (qhl (vC (cInt .i64)) (qhl (vC (cInt .i64)) (qhl (vC (cInt .i64)) (qhl (vC (cInt .i64)) (qhn (vC cBool))))))))) (qhl (qkg (bBox (qhl (vC (cInt .i64)) (qhl (vC (cInt .i64)) (qhl (vC (cInt .i64)) (qhl (vC (cInt .i64)) (qhl (vC (cInt .i64)) (qhl (vC (cInt .i64)) (qhn (vC (cInt .i64))))))))))) (qhn (qkg (bBox (qhl (vC (cInt .i64)) (qhn (vC (cInt .i64)))))))) [false,false] [] (by decide) (fun _=>rfl)
def q79:=oAt 2 q7a
def q76 (zone:Int) (days:Int) (s:Int) (y:Int) (step:Int) (b0:Int) (b0_1:Int) (b0_2:Int) (b0_3:Int) (b0_4:Int) (b0_5:Int) (b0_6:Int) (b1:Int) (b1_1:Int):Option ((Int×Unit×Unit×Int×Int×Int×Int×Bool)×((Int×Int×Int×Int×Int×Int×Int)×(Int×Int))):=lS Try.prog lv X0 53 83 (qfp (cdF Try.f53) 10) q7b q79 ((zone,(),(),days,s,y,step),((b0,b0_1,b0_2,b0_3,b0_4,b0_5,b0_6),(b1,b1_1)))
def q7c (zone:Int) (days:Int) (s:Int) (y:Int) (step:Int) (b0:Int) (b0_1:Int) (b0_2:Int) (b0_3:Int) (b0_4:Int) (b0_5:Int) (b0_6:Int) (b1:Int) (b1_1:Int):Option ((Int×Unit×Unit×Int×Int×Int×Int×Bool)×((Int×Int×Int×Int×Int×Int×Int)×(Int×Int))) :=
 (brE (decide (step>0))
 (brE ((decide ((IntKind.wrap .i64 (y+step))≤4000))==true)
 ((q99 (IntKind.wrap .i64 (y+step)) 1 1).bind fun r0 =>
 (brE (decide (r0≤days))
 (q76 zone days s (IntKind.wrap .i64 (y+step)) (IntKind.wrap .i64 (Int.tdiv step 2)) b0 b0_1 b0_2 b0_3 b0_4 b0_5 b0_6 b1 b1_1)
 (q76 zone days s y (IntKind.wrap .i64 (Int.tdiv step 2)) b0 b0_1 b0_2 b0_3 b0_4 b0_5 b0_6 b1 b1_1)))
 (q76 zone days s y (IntKind.wrap .i64 (Int.tdiv step 2)) b0 b0_1 b0_2 b0_3 b0_4 b0_5 b0_6 b1 b1_1))
 (some ((zone,((),((),(days,(s,(y,(step,false))))))),((b0,(b0_1,(b0_2,(b0_3,(b0_4,(b0_5,b0_6)))))),(b1,b1_1)))))
theorem q78 {zone days s y step b0 b0_1 b0_2 b0_3 b0_4 b0_5 b0_6 b1 b1_1 r} (h:q7c zone days s y step b0 b0_1 b0_2 b0_3 b0_4 b0_5 b0_6 b1 b1_1=some r):q76 zone days s y step b0 b0_1 b0_2 b0_3 b0_4 b0_5 b0_6 b1 b1_1=some r :=
 qhp (es:=qun) (hs:=[]) [] (by kernel_rfl) trivial trivial (by kernel_rfl) h
def q77:=qj2 Try.prog lv X0 10 (qfp (cdF Try.f53) 10) q7b q79 (fun x=>q76 x.1.1 x.1.2.2.2.1 x.1.2.2.2.2.1 x.1.2.2.2.2.2.1 x.1.2.2.2.2.2.2 x.2.1.1 x.2.1.2.1 x.2.1.2.2.1 x.2.1.2.2.2.1 x.2.1.2.2.2.2.1 x.2.1.2.2.2.2.2.1 x.2.1.2.2.2.2.2.2 x.2.2.1 x.2.2.2) (fun _ _ h=>qho h)
def q7i:=sLS [1,4,5,6,7,8,10] (qhl (vC (cInt .i64)) (qhl (vPtr 0 0) (qhl (vPtr 1 0) (qhl (vC (cInt .i64)) (qhl (vC (cInt .i64)) (qhl (vC (cInt .i64)) (qhn (vC (cInt .i64))))))))) (qhl (qkg (bBox (qhl (vC (cInt .i64)) (qhl (vC (cInt .i64)) (qhl (vC (cInt .i64)) (qhl (vC (cInt .i64)) (qhl (vC (cInt .i64)) (qhl (vC (cInt .i64)) (qhn (vC (cInt .i64))))))))))) (qhn (qkg (bBox (qhl (vC (cInt .i64)) (qhn (vC (cInt .i64)))))))) [false,false] [] (by decide) (fun _=>rfl)
def q7h:=sLS [1,4,5,6,7,8,10,62] (qhl (vC (cInt .i64)) (qhl (vPtr 0 0) (qhl (vPtr 1 0) (qhl (vC (cInt .i64)) (qhl (vC (cInt .i64)) (qhl (vC (cInt .i64)) (qhl (vC (cInt .i64)) (qhn (vC cBool))))))))) (qhl (qkg (bBox (qhl (vC (cInt .i64)) (qhl (vC (cInt .i64)) (qhl (vC (cInt .i64)) (qhl (vC (cInt .i64)) (qhl (vC (cInt .i64)) (qhl (vC (cInt .i64)) (qhn (vC (cInt .i64))))))))))) (qhn (qkg (bBox (qhl (vC (cInt .i64)) (qhn (vC (cInt .i64)))))))) [false,false] [] (by decide) (fun _=>rfl)
def q7g:=oAt 4 q7h
def q7d (zone:Int) (days:Int) (s:Int) (y:Int) (m_:Int) (b0:Int) (b0_1:Int) (b0_2:Int) (b0_3:Int) (b0_4:Int) (b0_5:Int) (b0_6:Int) (b1:Int) (b1_1:Int):Option ((Int×Unit×Unit×Int×Int×Int×Int×Bool)×((Int×Int×Int×Int×Int×Int×Int)×(Int×Int))):=lS Try.prog lv X0 53 83 (qfp (cdF Try.f53) 15) q7i q7g ((zone,(),(),days,s,y,m_),((b0,b0_1,b0_2,b0_3,b0_4,b0_5,b0_6),(b1,b1_1)))
def q7j (zone:Int) (days:Int) (s:Int) (y:Int) (m_:Int) (b0:Int) (b0_1:Int) (b0_2:Int) (b0_3:Int) (b0_4:Int) (b0_5:Int) (b0_6:Int) (b1:Int) (b1_1:Int):Option ((Int×Unit×Unit×Int×Int×Int×Int×Bool)×((Int×Int×Int×Int×Int×Int×Int)×(Int×Int))) :=
 ((q99 y m_ 1).bind fun r0 =>
 (brE (decide (r0>days))
 (q7d zone days s y (IntKind.wrap .i64 (m_ - 1)) b0 b0_1 b0_2 b0_3 b0_4 b0_5 b0_6 b1 b1_1)
 (some ((zone,((),((),(days,(s,(y,(m_,false))))))),((b0,(b0_1,(b0_2,(b0_3,(b0_4,(b0_5,b0_6)))))),(b1,b1_1))))))
theorem q7f {zone days s y m_ b0 b0_1 b0_2 b0_3 b0_4 b0_5 b0_6 b1 b1_1 r} (h:q7j zone days s y m_ b0 b0_1 b0_2 b0_3 b0_4 b0_5 b0_6 b1 b1_1=some r):q7d zone days s y m_ b0 b0_1 b0_2 b0_3 b0_4 b0_5 b0_6 b1 b1_1=some r :=
 qhp (es:=qun) (hs:=[]) [] (by kernel_rfl) trivial trivial (by kernel_rfl) h
def q7e:=qj2 Try.prog lv X0 15 (qfp (cdF Try.f53) 15) q7i q7g (fun x=>q7d x.1.1 x.1.2.2.2.1 x.1.2.2.2.2.1 x.1.2.2.2.2.2.1 x.1.2.2.2.2.2.2 x.2.1.1 x.2.1.2.1 x.2.1.2.2.1 x.2.1.2.2.2.1 x.2.1.2.2.2.2.1 x.2.1.2.2.2.2.2.1 x.2.1.2.2.2.2.2.2 x.2.2.1 x.2.2.2) (fun _ _ h=>qho h)
def q73:Cod (V×List B) ((Int×Int×Int×Int×Int×Int×Int)×(Int×Int)):=(cFstU (cPair (vTup (qhl (vAgg (qhl (vC (cInt .i64)) (qhl (vC (cInt .i64)) (qhl (vC (cInt .i64)) (qhl (vC (cInt .i64)) (qhl (vC (cInt .i64)) (qhl (vC (cInt .i64)) (qhn (vC (cInt .i64)))))))))) (qhn (vAgg (qhl (vC (cInt .i64)) (qhn (vC (cInt .i64)))))))) qhm))
def q7l (t:Int) (zone:Int):Option ((Int×Int×Int×Int×Int×Int×Int)×(Int×Int)):=fS Try.prog lv X0 53 q72 q73 (t,zone)
def q7m (t:Int) (zone:Int):Option ((Int×Int×Int×Int×Int×Int×Int)×(Int×Int)) :=
 ((q55 t).bind fun r0 =>
 (brE (!r0)
 ((q4b 3 (-2)).bind fun r1 =>
 (some ((0,(0,(0,(0,(0,(0,0)))))),(r1.1,r1.2))))
 ((qah zone (-900) 900).bind fun r1 =>
 (brE (!r1)
 ((q4b 3 (-4)).bind fun r2 =>
 (some ((0,(0,(0,(0,(0,(0,0)))))),(r2.1,r2.2))))
 ((qa6 (IntKind.wrap .i64 (t+(IntKind.wrap .i64 (60*zone)))) 86400).bind fun r2 =>
 ((q99 1 1 1).bind fun r3 =>
 (brE ((decide (r2.1<r3))==false)
 ((q99 4000 12 31).bind fun r4 =>
 (brE (decide (r2.1>r4))
 ((q4b 3 (-3)).bind fun r5 =>
 (some ((0,(0,(0,(0,(0,(0,0)))))),(r5.1,r5.2))))
 ((q76 zone r2.1 r2.2 1 2048 0 0 0 0 0 0 0 0 0).bind fun r5 =>
 ((q7d r5.1.1 r5.1.2.2.2.1 r5.1.2.2.2.2.1 r5.1.2.2.2.2.2.1 12 r5.2.1.1 r5.2.1.2.1 r5.2.1.2.2.1 r5.2.1.2.2.2.1 r5.2.1.2.2.2.2.1 r5.2.1.2.2.2.2.2.1 r5.2.1.2.2.2.2.2.2 r5.2.2.1 r5.2.2.2).bind fun r6 =>
 ((q99 r6.1.2.2.2.2.2.1 r6.1.2.2.2.2.2.2.1 1).bind fun r7 =>
 (Option.bind q4z fun r8 =>
 (some ((r6.1.2.2.2.2.2.1,(r6.1.2.2.2.2.2.2.1,((IntKind.wrap .i64 ((IntKind.wrap .i64 (r6.1.2.2.2.1 - r7))+1)),((IntKind.wrap .i64 (Int.tdiv r6.1.2.2.2.2.1 3600)),((Int.tmod (IntKind.wrap .i64 (Int.tdiv r6.1.2.2.2.2.1 60)) 60),((Int.tmod r6.1.2.2.2.2.1 60),r6.1.1)))))),(r8.1,r8.2)))))))))
 ((q4b 3 (-3)).bind fun r4 =>
 (some ((0,(0,(0,(0,(0,(0,0)))))),(r4.1,r4.2)))))))))))
theorem q75 {t zone r} (h:q7m t zone=some r):q7l t zone=some r :=
 qbx (es:=qun) (hs:=[]) [q77,q7e] Try.func53 rfl (by kernel_rfl) rfl (by kernel_rfl) (by kernel_rfl) ⟨⟨_,rfl,rfl⟩,⟨_,rfl,rfl⟩,trivial⟩ trivial (by kernel_rfl) h
def q74:=entS Try.prog lv X0 53 [] q72 q73 (fun x=>q7l x.1 x.2) (fun _ _ h=>qbw h)
def quf:=q74::qun
def qxt:=(qhn (vAgg (qhl (vC (cInt .i64)) (qhl (vC (cInt .i64)) (qhl (vC (cInt .i64)) (qhl (vC (cInt .i64)) (qhl (vC (cInt .i64)) (qhl (vC (cInt .i64)) (qhn (vC (cInt .i64)))))))))))
def qxu:Cod (V×List B) (Int×(Int×Int)):=(cFstU (cPair (vTup (qhl (vC (cInt .i64)) (qhn (vAgg (qhl (vC (cInt .i64)) (qhn (vC (cInt .i64)))))))) qhm))
def wday_s (d_Year:Int) (d_Month:Int) (d_Day:Int) (d_Hour:Int) (d_Minute:Int) (d_Second:Int) (d_Zone:Int):Option (Int×(Int×Int)):=fS Try.prog lv X0 74 qxt qxu (d_Year,d_Month,d_Day,d_Hour,d_Minute,d_Second,d_Zone)
def wday_t (d_Year:Int) (d_Month:Int) (d_Day:Int) (d_Hour:Int) (d_Minute:Int) (d_Second:Int) (d_Zone:Int):Option (Int×(Int×Int)) :=
 ((dval_s d_Year d_Month d_Day d_Hour d_Minute d_Second d_Zone).bind fun r0 =>
 ((q45 r0.1 r0.2).bind fun r1 =>
 (brE r1
 (some (0,(r0.1,r0.2)))
 ((q99 d_Year d_Month d_Day).bind fun r2 =>
 ((qa6 (IntKind.wrap .i64 (r2+4)) 7).bind fun r3 =>
 (Option.bind q4z fun r4 =>
 (some (r3.2,(r4.1,r4.2)))))))))
theorem qxv {d_Year d_Month d_Day d_Hour d_Minute d_Second d_Zone r} (h:wday_t d_Year d_Month d_Day d_Hour d_Minute d_Second d_Zone=some r):wday_s d_Year d_Month d_Day d_Hour d_Minute d_Second d_Zone=some r :=
 qbx (es:=quf) (hs:=[]) [] Try.func74 rfl (by kernel_rfl) rfl (by kernel_rfl) (by kernel_rfl) trivial trivial (by kernel_rfl) h
def wday_e:=entS Try.prog lv X0 74 [] qxt qxu (fun x=>wday_s x.1 x.2.1 x.2.2.1 x.2.2.2.1 x.2.2.2.2.1 x.2.2.2.2.2.1 x.2.2.2.2.2.2) (fun _ _ h=>qbw h)
def qvj:=wday_e::quf
def qz8:=(qhl (vAgg (qhl (vC (cInt .i64)) (qhl (vC (cInt .i64)) (qhl (vC (cInt .i64)) (qhn (vC (cInt .i64))))))) (qhl (vC (cInt .i64)) (qhn (vC (cInt .i64)))))
def qz9:Cod (V×List B) Int:=(cFstU (cPair (vC (cInt .i64)) qhm))
def qzd (t_Month:Int) (t_Week:Int) (t_Weekday:Int) (t_Minute:Int) (year:Int) (ahead:Int):Option Int:=fS Try.prog lv X0 91 qz8 qz9 ((t_Month,t_Week,t_Weekday,t_Minute),year,ahead)
def qze (t_Month:Int) (t_Week:Int) (t_Weekday:Int) (t_Minute:Int) (year:Int) (ahead:Int):Option Int :=
 ((wday_s year t_Month 1 0 0 0 0).bind fun r0 =>
 (brE ((t_Week==5)==true)
 (Option.bind (dval_s year t_Month (IntKind.wrap .i64 ((IntKind.wrap .i64 (1+(Int.tmod (IntKind.wrap .i64 ((IntKind.wrap .i64 (t_Weekday - r0.1))+7)) 7)))+(IntKind.wrap .i64 (7*(IntKind.wrap .i64 (t_Week - 1)))))) 0 0 0 0) fun r1 =>
 ((q45 r1.1 r1.2).bind fun r2 =>
 (brE r2
 (Option.bind (q9r year t_Month (IntKind.wrap .i64 ((IntKind.wrap .i64 ((IntKind.wrap .i64 (1+(Int.tmod (IntKind.wrap .i64 ((IntKind.wrap .i64 (t_Weekday - r0.1))+7)) 7)))+(IntKind.wrap .i64 (7*(IntKind.wrap .i64 (t_Week - 1)))))) - 7)) 0 0 0 0) fun r3 =>
 (some (IntKind.wrap .i64 (r3.1+(IntKind.wrap .i64 (60*(IntKind.wrap .i64 (t_Minute - ahead))))))))
 (Option.bind (q9r year t_Month (IntKind.wrap .i64 ((IntKind.wrap .i64 (1+(Int.tmod (IntKind.wrap .i64 ((IntKind.wrap .i64 (t_Weekday - r0.1))+7)) 7)))+(IntKind.wrap .i64 (7*(IntKind.wrap .i64 (t_Week - 1)))))) 0 0 0 0) fun r3 =>
 (some (IntKind.wrap .i64 (r3.1+(IntKind.wrap .i64 (60*(IntKind.wrap .i64 (t_Minute - ahead)))))))))))
 (Option.bind (q9r year t_Month (IntKind.wrap .i64 ((IntKind.wrap .i64 (1+(Int.tmod (IntKind.wrap .i64 ((IntKind.wrap .i64 (t_Weekday - r0.1))+7)) 7)))+(IntKind.wrap .i64 (7*(IntKind.wrap .i64 (t_Week - 1)))))) 0 0 0 0) fun r1 =>
 (some (IntKind.wrap .i64 (r1.1+(IntKind.wrap .i64 (60*(IntKind.wrap .i64 (t_Minute - ahead))))))))))
theorem qzb {t_Month t_Week t_Weekday t_Minute year ahead r} (h:qze t_Month t_Week t_Weekday t_Minute year ahead=some r):qzd t_Month t_Week t_Weekday t_Minute year ahead=some r :=
 qbx (es:=qvj) (hs:=[]) [] Try.func91 rfl (by kernel_rfl) rfl (by kernel_rfl) (by kernel_rfl) trivial trivial (by kernel_rfl) h
def qza:=entS Try.prog lv X0 91 [] qz8 qz9 (fun x=>qzd x.1.1 x.1.2.1 x.1.2.2.1 x.1.2.2.2 x.2.1 x.2.2) (fun _ _ h=>qbw h)
def qvn:=qza::qvj
def qzi:=(qhl (vAgg (qhl (vC cStr) (qhl (vC (cInt .i64)) (qhl (vC (cInt .i64)) (qhl (vC (cInt .i64)) (qhl (vC (cInt .i64)) (qhl (vC (cInt .i64)) (qhl (vC (cInt .i64)) (qhl (vC (cInt .i64)) (qhl (vC (cInt .i64)) (qhl (vC (cInt .i64)) (qhn (vC (cInt .i64)))))))))))))) (qhl (vC (cInt .i64)) (qhn (vC (cInt .i64)))))
def qzr:=sLS [1,2,3,7,8,9,10] (qhl (vC (cInt .i64)) (qhl (vC (cInt .i64)) (qhl (vPtr 0 0) (qhl (vC (cInt .i64)) (qhl (vC (cInt .i64)) (qhl (vC cBool) (qhn (vC (cInt .i64))))))))) (qhn (qkg (bBox (qhl (vC cStr) (qhl (vC (cInt .i64)) (qhl (vC (cInt .i64)) (qhl (vC (cInt .i64)) (qhl (vC (cInt .i64)) (qhl (vC (cInt .i64)) (qhl (vC (cInt .i64)) (qhl (vC (cInt .i64)) (qhl (vC (cInt .i64)) (qhl (vC (cInt .i64)) (qhn (vC (cInt .i64)))))))))))))))) [false] [] (by decide) (fun _=>rfl)
def qzq:=sLS [1,2,3,7,8,9,10,24] (qhl (vC (cInt .i64)) (qhl (vC (cInt .i64)) (qhl (vPtr 0 0) (qhl (vC (cInt .i64)) (qhl (vC (cInt .i64)) (qhl (vC cBool) (qhl (vC (cInt .i64)) (qhn (vC cBool))))))))) (qhn (qkg (bBox (qhl (vC cStr) (qhl (vC (cInt .i64)) (qhl (vC (cInt .i64)) (qhl (vC (cInt .i64)) (qhl (vC (cInt .i64)) (qhl (vC (cInt .i64)) (qhl (vC (cInt .i64)) (qhl (vC (cInt .i64)) (qhl (vC (cInt .i64)) (qhl (vC (cInt .i64)) (qhn (vC (cInt .i64)))))))))))))))) [false] [] (by decide) (fun _=>rfl)
def qzp:=oAt 2 qzq
def qzm (t:Int) (year:Int) (best:Int) (out:Int) (has:Bool) (y:Int) (b0:ByteArray) (b0_1:Int) (b0_2:Int) (b0_3:Int) (b0_4:Int) (b0_5:Int) (b0_6:Int) (b0_7:Int) (b0_8:Int) (b0_9:Int) (b0_10:Int):Option ((Int×Int×Unit×Int×Int×Bool×Int×Bool)×(ByteArray×Int×Int×Int×Int×Int×Int×Int×Int×Int×Int)):=lS Try.prog lv X0 71 70 (qfp (cdF Try.f71) 5) qzr qzp ((t,year,(),best,out,has,y),(b0,b0_1,b0_2,b0_3,b0_4,b0_5,b0_6,b0_7,b0_8,b0_9,b0_10))
def qzs (t:Int) (year:Int) (best:Int) (out:Int) (has:Bool) (y:Int) (b0:ByteArray) (b0_1:Int) (b0_2:Int) (b0_3:Int) (b0_4:Int) (b0_5:Int) (b0_6:Int) (b0_7:Int) (b0_8:Int) (b0_9:Int) (b0_10:Int):Option ((Int×Int×Unit×Int×Int×Bool×Int×Bool)×(ByteArray×Int×Int×Int×Int×Int×Int×Int×Int×Int×Int)) :=
 (brE (decide (y≤(IntKind.wrap .i64 (year+1))))
 ((qzd b0_3 b0_4 b0_5 b0_6 y b0_1).bind fun r0 =>
 (brE ((decide (r0≤t))==true)
 (brE ((!has)==false)
 (brE (decide (r0>best))
 ((qzd b0_7 b0_8 b0_9 b0_10 y b0_2).bind fun r1 =>
 (brE ((decide (r1≤t))==true)
 (brE (decide (r1≥r0))
 (qzm t year r1 b0_1 true (IntKind.wrap .i64 (y+1)) b0 b0_1 b0_2 b0_3 b0_4 b0_5 b0_6 b0_7 b0_8 b0_9 b0_10)
 (qzm t year r0 b0_2 true (IntKind.wrap .i64 (y+1)) b0 b0_1 b0_2 b0_3 b0_4 b0_5 b0_6 b0_7 b0_8 b0_9 b0_10))
 (qzm t year r0 b0_2 true (IntKind.wrap .i64 (y+1)) b0 b0_1 b0_2 b0_3 b0_4 b0_5 b0_6 b0_7 b0_8 b0_9 b0_10)))
 ((qzd b0_7 b0_8 b0_9 b0_10 y b0_2).bind fun r1 =>
 (brE ((decide (r1≤t))==true)
 (brE ((!has)==false)
 (brE (decide (r1≥best))
 (qzm t year r1 b0_1 true (IntKind.wrap .i64 (y+1)) b0 b0_1 b0_2 b0_3 b0_4 b0_5 b0_6 b0_7 b0_8 b0_9 b0_10)
 (qzm t year best out has (IntKind.wrap .i64 (y+1)) b0 b0_1 b0_2 b0_3 b0_4 b0_5 b0_6 b0_7 b0_8 b0_9 b0_10))
 (qzm t year r1 b0_1 true (IntKind.wrap .i64 (y+1)) b0 b0_1 b0_2 b0_3 b0_4 b0_5 b0_6 b0_7 b0_8 b0_9 b0_10))
 (qzm t year best out has (IntKind.wrap .i64 (y+1)) b0 b0_1 b0_2 b0_3 b0_4 b0_5 b0_6 b0_7 b0_8 b0_9 b0_10))))
 ((qzd b0_7 b0_8 b0_9 b0_10 y b0_2).bind fun r1 =>
 (brE ((decide (r1≤t))==true)
 (brE (decide (r1≥r0))
 (qzm t year r1 b0_1 true (IntKind.wrap .i64 (y+1)) b0 b0_1 b0_2 b0_3 b0_4 b0_5 b0_6 b0_7 b0_8 b0_9 b0_10)
 (qzm t year r0 b0_2 true (IntKind.wrap .i64 (y+1)) b0 b0_1 b0_2 b0_3 b0_4 b0_5 b0_6 b0_7 b0_8 b0_9 b0_10))
 (qzm t year r0 b0_2 true (IntKind.wrap .i64 (y+1)) b0 b0_1 b0_2 b0_3 b0_4 b0_5 b0_6 b0_7 b0_8 b0_9 b0_10))))
 ((qzd b0_7 b0_8 b0_9 b0_10 y b0_2).bind fun r1 =>
 (brE ((decide (r1≤t))==true)
 (brE ((!has)==false)
 (brE (decide (r1≥best))
 (qzm t year r1 b0_1 true (IntKind.wrap .i64 (y+1)) b0 b0_1 b0_2 b0_3 b0_4 b0_5 b0_6 b0_7 b0_8 b0_9 b0_10)
 (qzm t year best out has (IntKind.wrap .i64 (y+1)) b0 b0_1 b0_2 b0_3 b0_4 b0_5 b0_6 b0_7 b0_8 b0_9 b0_10))
 (qzm t year r1 b0_1 true (IntKind.wrap .i64 (y+1)) b0 b0_1 b0_2 b0_3 b0_4 b0_5 b0_6 b0_7 b0_8 b0_9 b0_10))
 (qzm t year best out has (IntKind.wrap .i64 (y+1)) b0 b0_1 b0_2 b0_3 b0_4 b0_5 b0_6 b0_7 b0_8 b0_9 b0_10)))))
 (some ((t,(year,((),(best,(out,(has,(y,false))))))),(b0,(b0_1,(b0_2,(b0_3,(b0_4,(b0_5,(b0_6,(b0_7,(b0_8,(b0_9,b0_10)))))))))))))
theorem qzo {t year best out has y b0 b0_1 b0_2 b0_3 b0_4 b0_5 b0_6 b0_7 b0_8 b0_9 b0_10 r} (h:qzs t year best out has y b0 b0_1 b0_2 b0_3 b0_4 b0_5 b0_6 b0_7 b0_8 b0_9 b0_10=some r):qzm t year best out has y b0 b0_1 b0_2 b0_3 b0_4 b0_5 b0_6 b0_7 b0_8 b0_9 b0_10=some r :=
 qhp (es:=qvn) (hs:=[]) [] (by kernel_rfl) trivial trivial (by kernel_rfl) h
def qzn:=qj2 Try.prog lv X0 5 (qfp (cdF Try.f71) 5) qzr qzp (fun x=>qzm x.1.1 x.1.2.1 x.1.2.2.2.1 x.1.2.2.2.2.1 x.1.2.2.2.2.2.1 x.1.2.2.2.2.2.2 x.2.1 x.2.2.1 x.2.2.2.1 x.2.2.2.2.1 x.2.2.2.2.2.1 x.2.2.2.2.2.2.1 x.2.2.2.2.2.2.2.1 x.2.2.2.2.2.2.2.2.1 x.2.2.2.2.2.2.2.2.2.1 x.2.2.2.2.2.2.2.2.2.2.1 x.2.2.2.2.2.2.2.2.2.2.2) (fun _ _ h=>qho h)
def qzj:Cod (V×List B) Int:=(cFstU (cPair (vC (cInt .i64)) qhm))
def qzu (z_Name:ByteArray) (z_Standard:Int) (z_Summer:Int) (z_Begin_Month:Int) (z_Begin_Week:Int) (z_Begin_Weekday:Int) (z_Begin_Minute:Int) (z_End_Month:Int) (z_End_Week:Int) (z_End_Weekday:Int) (z_End_Minute:Int) (t:Int) (year:Int):Option Int:=fS Try.prog lv X0 71 qzi qzj ((z_Name,z_Standard,z_Summer,z_Begin_Month,z_Begin_Week,z_Begin_Weekday,z_Begin_Minute,z_End_Month,z_End_Week,z_End_Weekday,z_End_Minute),t,year)
def qzv (z_Name:ByteArray) (z_Standard:Int) (z_Summer:Int) (z_Begin_Month:Int) (z_Begin_Week:Int) (z_Begin_Weekday:Int) (z_Begin_Minute:Int) (z_End_Month:Int) (z_End_Week:Int) (z_End_Weekday:Int) (z_End_Minute:Int) (t:Int) (year:Int):Option Int :=
 ((qz6 z_Name z_Standard z_Summer z_Begin_Month z_Begin_Week z_Begin_Weekday z_Begin_Minute z_End_Month z_End_Week z_End_Weekday z_End_Minute).bind fun r0 =>
 (brE r0
 (some z_Standard)
 ((qzm t year 0 z_Standard false (IntKind.wrap .i64 (year - 1)) z_Name z_Standard z_Summer z_Begin_Month z_Begin_Week z_Begin_Weekday z_Begin_Minute z_End_Month z_End_Week z_End_Weekday z_End_Minute).bind fun r1 =>
 (some r1.1.2.2.2.2.1))))
theorem qzl {z_Name z_Standard z_Summer z_Begin_Month z_Begin_Week z_Begin_Weekday z_Begin_Minute z_End_Month z_End_Week z_End_Weekday z_End_Minute t year r} (h:qzv z_Name z_Standard z_Summer z_Begin_Month z_Begin_Week z_Begin_Weekday z_Begin_Minute z_End_Month z_End_Week z_End_Weekday z_End_Minute t year=some r):qzu z_Name z_Standard z_Summer z_Begin_Month z_Begin_Week z_Begin_Weekday z_Begin_Minute z_End_Month z_End_Week z_End_Weekday z_End_Minute t year=some r :=
 qbx (es:=qvn) (hs:=[]) [qzn] Try.func71 rfl (by kernel_rfl) rfl (by kernel_rfl) (by kernel_rfl) ⟨⟨_,rfl,rfl⟩,trivial⟩ trivial (by kernel_rfl) h
def qzk:=entS Try.prog lv X0 71 [] qzi qzj (fun x=>qzu x.1.1 x.1.2.1 x.1.2.2.1 x.1.2.2.2.1 x.1.2.2.2.2.1 x.1.2.2.2.2.2.1 x.1.2.2.2.2.2.2.1 x.1.2.2.2.2.2.2.2.1 x.1.2.2.2.2.2.2.2.2.1 x.1.2.2.2.2.2.2.2.2.2.1 x.1.2.2.2.2.2.2.2.2.2.2 x.2.1 x.2.2) (fun _ _ h=>qbw h)
def qvo:=qzk::qvn
def qyp:=(qhl (vAgg (qhl (vC cStr) (qhl (vC (cInt .i64)) (qhl (vC (cInt .i64)) (qhl (vC (cInt .i64)) (qhl (vC (cInt .i64)) (qhl (vC (cInt .i64)) (qhl (vC (cInt .i64)) (qhl (vC (cInt .i64)) (qhl (vC (cInt .i64)) (qhl (vC (cInt .i64)) (qhn (vC (cInt .i64)))))))))))))) (qhn (vC (cInt .i64))))
def qyq:Cod (V×List B) (Int×(Int×Int)):=(cFstU (cPair (vTup (qhl (vC (cInt .i64)) (qhn (vAgg (qhl (vC (cInt .i64)) (qhn (vC (cInt .i64)))))))) qhm))
def qyu (z_Name:ByteArray) (z_Standard:Int) (z_Summer:Int) (z_Begin_Month:Int) (z_Begin_Week:Int) (z_Begin_Weekday:Int) (z_Begin_Minute:Int) (z_End_Month:Int) (z_End_Week:Int) (z_End_Weekday:Int) (z_End_Minute:Int) (t:Int):Option (Int×(Int×Int)):=fS Try.prog lv X0 49 qyp qyq ((z_Name,z_Standard,z_Summer,z_Begin_Month,z_Begin_Week,z_Begin_Weekday,z_Begin_Minute,z_End_Month,z_End_Week,z_End_Weekday,z_End_Minute),t)
def qyv (z_Name:ByteArray) (z_Standard:Int) (z_Summer:Int) (z_Begin_Month:Int) (z_Begin_Week:Int) (z_Begin_Weekday:Int) (z_Begin_Minute:Int) (z_End_Month:Int) (z_End_Week:Int) (z_End_Weekday:Int) (z_End_Minute:Int) (t:Int):Option (Int×(Int×Int)) :=
 ((zval_s z_Name z_Standard z_Summer z_Begin_Month z_Begin_Week z_Begin_Weekday z_Begin_Minute z_End_Month z_End_Week z_End_Weekday z_End_Minute).bind fun r0 =>
 ((q45 r0.1 r0.2).bind fun r1 =>
 (brE r1
 (some (0,(r0.1,r0.2)))
 ((q55 t).bind fun r2 =>
 (brE (!r2)
 ((q4b 3 (-2)).bind fun r3 =>
 (some (0,(r3.1,r3.2))))
 ((q7l t z_Standard).bind fun r3 =>
 ((q45 r3.2.1 r3.2.2).bind fun r4 =>
 (brE (r4==false)
 ((q10e r3.1.1 2 3999).bind fun r5 =>
 (brE (!r5)
 ((q4b 3 (-8)).bind fun r6 =>
 (some (0,(r6.1,r6.2))))
 ((qzu z_Name z_Standard z_Summer z_Begin_Month z_Begin_Week z_Begin_Weekday z_Begin_Minute z_End_Month z_End_Week z_End_Weekday z_End_Minute t r3.1.1).bind fun r6 =>
 (Option.bind q4z fun r7 =>
 (some (r6,(r7.1,r7.2)))))))
 ((q4b 3 (-8)).bind fun r5 =>
 (some (0,(r5.1,r5.2))))))))))))
theorem qys {z_Name z_Standard z_Summer z_Begin_Month z_Begin_Week z_Begin_Weekday z_Begin_Minute z_End_Month z_End_Week z_End_Weekday z_End_Minute t r} (h:qyv z_Name z_Standard z_Summer z_Begin_Month z_Begin_Week z_Begin_Weekday z_Begin_Minute z_End_Month z_End_Week z_End_Weekday z_End_Minute t=some r):qyu z_Name z_Standard z_Summer z_Begin_Month z_Begin_Week z_Begin_Weekday z_Begin_Minute z_End_Month z_End_Week z_End_Weekday z_End_Minute t=some r :=
 qbx (es:=qvo) (hs:=[]) [] Try.func49 rfl (by kernel_rfl) rfl (by kernel_rfl) (by kernel_rfl) trivial trivial (by kernel_rfl) h
def qyr:=entS Try.prog lv X0 49 [] qyp qyq (fun x=>qyu x.1.1 x.1.2.1 x.1.2.2.1 x.1.2.2.2.1 x.1.2.2.2.2.1 x.1.2.2.2.2.2.1 x.1.2.2.2.2.2.2.1 x.1.2.2.2.2.2.2.2.1 x.1.2.2.2.2.2.2.2.2.1 x.1.2.2.2.2.2.2.2.2.2.1 x.1.2.2.2.2.2.2.2.2.2.2 x.2) (fun _ _ h=>qbw h)
def qvl:=qyr::qvo
def qak:EC Int where
 enc x:=[.int .i64 x]
 dec c:=qgm (c.getD 0 .ne)
 is c:=isE [.int .i64] 0 c
 enc_dec h:=q9c h
 dec_enc x:=by rfl
 is_enc x:=by simp [isE,isK]
theorem enc_3 (x:Int):qak.enc x=[.int .i64 x]:=rfl
theorem qgv (xs:List Int) (n:Nat):isE [.int .i64] 0 ((qak.encL xs).getD n [])=decide (n<xs.length):=by
 by_cases h:n<xs.length
 ·simp only [EC.getD_lt _ _ h];simp [enc_3,isE,isK,h]
 ·simp only [EC.getD_ge _ _ (Nat.not_lt.1 h)];simp [isE,isK,h]
theorem q2i (xs:List Int) (n:Nat):qgm (((qak.encL xs).getD n []).getD 0 .ne)=(xs.getD n (qak.dec [])):=by
 by_cases h:n<xs.length
 ·simp only [EC.getD_lt _ _ h];simp [enc_3,h,qtz,qgm,q5l,slOf,List.getD_eq_getElem?_getD]
 ·simp only [EC.getD_ge _ _ (Nat.not_lt.1 h)];simp [Nat.not_lt.1 h,qak,qtz,qgm,q5l,slOf,List.getD_eq_getElem?_getD,EC.decL,EC.encL]
theorem lit_3 (a0:Int):([.int .i64 a0]:List C)=qak.enc a0:=rfl
theorem q1x (xs:List Int) (a0:Int):qak.encL xs++[[.int .i64 a0]]=qak.encL (xs++[a0]):=by rw [lit_3];simp [EC.encL]
theorem qj1 (xs:List Int) (n:Nat) (h:n<xs.length):((qak.encL xs).getD n []).length=1:=by rw [EC.getD_lt _ _ h];rfl
theorem q1l (xs:List Int):(qak.encL xs).all (fun (el:List C)=>el.length==1)=true:=by induction xs with|nil=>rfl|cons x xs ih=>first|(simp [EC.encL,enc_3];done)|simpa [EC.encL,enc_3] using ih
theorem qr7 (xs:List Int) (n:Nat) (a0:Int):(qak.encL xs).set n (splice ((qak.encL xs).getD n []) 0 [.int .i64 a0])=qak.encL (xs.set n (a0)):=by
 by_cases h:n<xs.length
 ·rw [EC.getD_lt _ _ h];simp [EC.encL,List.map_set,enc_3,splice,List.getD_eq_getElem?_getD,h]
 ·simp [EC.encL,List.set_eq_of_length_le,Nat.not_lt.1 h]
def qyb:=(qhl (vAgg (qhl (vC cStr) (qhl (vC (cInt .i64)) (qhl (vC (cInt .i64)) (qhl (vC (cInt .i64)) (qhl (vC (cInt .i64)) (qhl (vC (cInt .i64)) (qhl (vC (cInt .i64)) (qhl (vC (cInt .i64)) (qhl (vC (cInt .i64)) (qhl (vC (cInt .i64)) (qhn (vC (cInt .i64)))))))))))))) (qhn (vAgg (qhl (vC (cInt .i64)) (qhl (vC (cInt .i64)) (qhl (vC (cInt .i64)) (qhl (vC (cInt .i64)) (qhl (vC (cInt .i64)) (qhl (vC (cInt .i64)) (qhn (vC (cInt .i64))))))))))))
def qyk:=sLS [2,5,7,10,49,50,51] (qhl (vPtr 0 0) (qhl (vPtr 1 0) (qhl (vC (cInt .i64)) (qhl (vRow 2) (qhl (vRow 3) (qhl (vC (cInt .i64)) (qhn (vC (cInt .i64))))))))) (qhl (qkg (bBox (qhl (vC cStr) (qhl (vC (cInt .i64)) (qhl (vC (cInt .i64)) (qhl (vC (cInt .i64)) (qhl (vC (cInt .i64)) (qhl (vC (cInt .i64)) (qhl (vC (cInt .i64)) (qhl (vC (cInt .i64)) (qhl (vC (cInt .i64)) (qhl (vC (cInt .i64)) (qhn (vC (cInt .i64))))))))))))))) (qhl (qkg (bBox (qhl (vC (cInt .i64)) (qhn (vC (cInt .i64)))))) (qhl (qkg (bRow qak)) (qhn (qkg (bRow qak)))))) [false,false,false,false] [] (by decide) (fun _=>rfl)
def qyj:=sLS [2,5,7,10,49,50,51,52] (qhl (vPtr 0 0) (qhl (vPtr 1 0) (qhl (vC (cInt .i64)) (qhl (vRow 2) (qhl (vRow 3) (qhl (vC (cInt .i64)) (qhl (vC (cInt .i64)) (qhn (vC cBool))))))))) (qhl (qkg (bBox (qhl (vC cStr) (qhl (vC (cInt .i64)) (qhl (vC (cInt .i64)) (qhl (vC (cInt .i64)) (qhl (vC (cInt .i64)) (qhl (vC (cInt .i64)) (qhl (vC (cInt .i64)) (qhl (vC (cInt .i64)) (qhl (vC (cInt .i64)) (qhl (vC (cInt .i64)) (qhn (vC (cInt .i64))))))))))))))) (qhl (qkg (bBox (qhl (vC (cInt .i64)) (qhn (vC (cInt .i64)))))) (qhl (qkg (bRow qak)) (qhn (qkg (bRow qak)))))) [false,false,false,false] [] (by decide) (fun _=>rfl)
def qyi:=oAt 2 qyj
def qyf (n:Int) (out:Nat) (t49:Nat) (t50:Int) (t51:Int) (b0:ByteArray) (b0_1:Int) (b0_2:Int) (b0_3:Int) (b0_4:Int) (b0_5:Int) (b0_6:Int) (b0_7:Int) (b0_8:Int) (b0_9:Int) (b0_10:Int) (b1:Int) (b1_1:Int) (b2:(List Int)) (b3:(List Int)):Option ((Unit×Unit×Int×Nat×Nat×Int×Int×Bool)×((ByteArray×Int×Int×Int×Int×Int×Int×Int×Int×Int×Int)×(Int×Int)×(List Int)×(List Int))):=lS Try.prog lv X0 36 82 (qfp (cdF Try.f36) 16) qyk qyi (((),(),n,out,t49,t50,t51),((b0,b0_1,b0_2,b0_3,b0_4,b0_5,b0_6,b0_7,b0_8,b0_9,b0_10),(b1,b1_1),b2,b3))
def qyl (n:Int) (out:Nat) (t49:Nat) (t50:Int) (t51:Int) (b0:ByteArray) (b0_1:Int) (b0_2:Int) (b0_3:Int) (b0_4:Int) (b0_5:Int) (b0_6:Int) (b0_7:Int) (b0_8:Int) (b0_9:Int) (b0_10:Int) (b1:Int) (b1_1:Int) (b2:(List Int)) (b3:(List Int)):Option ((Unit×Unit×Int×Nat×Nat×Int×Int×Bool)×((ByteArray×Int×Int×Int×Int×Int×Int×Int×Int×Int×Int)×(Int×Int)×(List Int)×(List Int))) :=
 (brE (decide (t51<t50))
 (gdE ((decide (0≤t51))&&(decide (t51<((t49:Nat):Int))))<|
 (gdE ((decide ((Int.toNat t51)<(List.length (EC.encL qak b3))))&&((List.length (List.getD (EC.encL qak b3) (Int.toNat t51) []))==1))<|
 (gdE (isP [(K1.int Go.IntKind.i64)] 0 (List.getD (EC.encL qak b3) (Int.toNat t51) []))<|
 (Option.bind (qyu b0 b0_1 b0_2 b0_3 b0_4 b0_5 b0_6 b0_7 b0_8 b0_9 b0_10 (IntKind.wrap .i64 (n - (IntKind.wrap .i64 (60*(qgm (List.getD (List.getD (EC.encL qak b3) (Int.toNat t51) []) 0 C.ne))))))) fun r0 =>
 ((q45 r0.2.1 r0.2.2).bind fun r1 =>
 (brE ((!r1)==true)
 (brE (r0.1==(qgm (List.getD (List.getD (EC.encL qak b3) (Int.toNat t51) []) 0 C.ne)))
 (gdE ((((List.all [[(C.int Go.IntKind.i64 (IntKind.wrap .i64 (n - (IntKind.wrap .i64 (60*(qgm (List.getD (List.getD (EC.encL qak b3) (Int.toNat t51) []) 0 C.ne)))))))]] (fun (el:(List C))=>((List.length el)==1)))&&(List.all (EC.encL qak b2) (fun (el:(List C))=>((List.length el)==1))))&&(decide (((((out+(List.length [[(C.int Go.IntKind.i64 (IntKind.wrap .i64 (n - (IntKind.wrap .i64 (60*(qgm (List.getD (List.getD (EC.encL qak b3) (Int.toNat t51) []) 0 C.ne)))))))]]))+((out+(List.length [[(C.int Go.IntKind.i64 (IntKind.wrap .i64 (n - (IntKind.wrap .i64 (60*(qgm (List.getD (List.getD (EC.encL qak b3) (Int.toNat t51) []) 0 C.ne)))))))]])) / 4))+192)*8)≤281474976710656)))&&(decide ((out+(List.length [[(C.int Go.IntKind.i64 (IntKind.wrap .i64 (n - (IntKind.wrap .i64 (60*(qgm (List.getD (List.getD (EC.encL qak b3) (Int.toNat t51) []) 0 C.ne)))))))]]))≤9223372036854775807)))<|
 (gdE (EC.isL qak ((EC.encL qak b2)++[[(C.int Go.IntKind.i64 (IntKind.wrap .i64 (n - (IntKind.wrap .i64 (60*(qgm (List.getD (List.getD (EC.encL qak b3) (Int.toNat t51) []) 0 C.ne)))))))]]))<|
 (gdE (EC.isL qak (EC.encL qak b3))<|
 (qyf n (out+(List.length [[(C.int Go.IntKind.i64 (IntKind.wrap .i64 (n - (IntKind.wrap .i64 (60*(qgm (List.getD (List.getD (EC.encL qak b3) (Int.toNat t51) []) 0 C.ne)))))))]])) t49 t50 (IntKind.wrap .i64 (t51+1)) b0 b0_1 b0_2 b0_3 b0_4 b0_5 b0_6 b0_7 b0_8 b0_9 b0_10 b1 b1_1 (EC.decL qak ((EC.encL qak b2)++[[(C.int Go.IntKind.i64 (IntKind.wrap .i64 (n - (IntKind.wrap .i64 (60*(qgm (List.getD (List.getD (EC.encL qak b3) (Int.toNat t51) []) 0 C.ne)))))))]])) (EC.decL qak (EC.encL qak b3))))))
 (gdE (EC.isL qak (EC.encL qak b2))<|
 (gdE (EC.isL qak (EC.encL qak b3))<|
 (qyf n out t49 t50 (IntKind.wrap .i64 (t51+1)) b0 b0_1 b0_2 b0_3 b0_4 b0_5 b0_6 b0_7 b0_8 b0_9 b0_10 b1 b1_1 (EC.decL qak (EC.encL qak b2)) (EC.decL qak (EC.encL qak b3))))))
 (gdE (EC.isL qak (EC.encL qak b2))<|
 (gdE (EC.isL qak (EC.encL qak b3))<|
 (qyf n out t49 t50 (IntKind.wrap .i64 (t51+1)) b0 b0_1 b0_2 b0_3 b0_4 b0_5 b0_6 b0_7 b0_8 b0_9 b0_10 b1 b1_1 (EC.decL qak (EC.encL qak b2)) (EC.decL qak (EC.encL qak b3)))))))))))
 (gdE (EC.isL qak (EC.encL qak b2))<|
 (gdE (EC.isL qak (EC.encL qak b3))<|
 (some (((),((),(n,(out,(t49,(t50,(t51,false))))))),((b0,(b0_1,(b0_2,(b0_3,(b0_4,(b0_5,(b0_6,(b0_7,(b0_8,(b0_9,b0_10)))))))))),((b1,b1_1),((EC.decL qak (EC.encL qak b2)),(EC.decL qak (EC.encL qak b3))))))))))
theorem qyh {n out t49 t50 t51 b0 b0_1 b0_2 b0_3 b0_4 b0_5 b0_6 b0_7 b0_8 b0_9 b0_10 b1 b1_1 b2 b3 r} (h:qyl n out t49 t50 t51 b0 b0_1 b0_2 b0_3 b0_4 b0_5 b0_6 b0_7 b0_8 b0_9 b0_10 b1 b1_1 b2 b3=some r):qyf n out t49 t50 t51 b0 b0_1 b0_2 b0_3 b0_4 b0_5 b0_6 b0_7 b0_8 b0_9 b0_10 b1 b1_1 b2 b3=some r :=
 qhp (es:=qvl) (hs:=[]) [] (by kernel_rfl) trivial trivial (by kernel_rfl) h
def qyg:=qj2 Try.prog lv X0 16 (qfp (cdF Try.f36) 16) qyk qyi (fun x=>qyf x.1.2.2.1 x.1.2.2.2.1 x.1.2.2.2.2.1 x.1.2.2.2.2.2.1 x.1.2.2.2.2.2.2 x.2.1.1 x.2.1.2.1 x.2.1.2.2.1 x.2.1.2.2.2.1 x.2.1.2.2.2.2.1 x.2.1.2.2.2.2.2.1 x.2.1.2.2.2.2.2.2.1 x.2.1.2.2.2.2.2.2.2.1 x.2.1.2.2.2.2.2.2.2.2.1 x.2.1.2.2.2.2.2.2.2.2.2.1 x.2.1.2.2.2.2.2.2.2.2.2.2 x.2.2.1.1 x.2.2.1.2 x.2.2.2.1 x.2.2.2.2) (fun _ _ h=>qho h)
def qyc:Cod (V×List B) ((Nat×(Int×Int))×(List Int)):=(cPair (vTup (qhl (vRow 0) (qhn (vAgg (qhl (vC (cInt .i64)) (qhn (vC (cInt .i64)))))))) (qhn (bRow qak)))
def qyn (z_Name:ByteArray) (z_Standard:Int) (z_Summer:Int) (z_Begin_Month:Int) (z_Begin_Week:Int) (z_Begin_Weekday:Int) (z_Begin_Minute:Int) (z_End_Month:Int) (z_End_Week:Int) (z_End_Weekday:Int) (z_End_Minute:Int) (d_Year:Int) (d_Month:Int) (d_Day:Int) (d_Hour:Int) (d_Minute:Int) (d_Second:Int) (d_Zone:Int):Option ((Nat×(Int×Int))×(List Int)):=fS Try.prog lv X0 36 qyb qyc ((z_Name,z_Standard,z_Summer,z_Begin_Month,z_Begin_Week,z_Begin_Weekday,z_Begin_Minute,z_End_Month,z_End_Week,z_End_Weekday,z_End_Minute),(d_Year,d_Month,d_Day,d_Hour,d_Minute,d_Second,d_Zone))
def qyo (z_Name:ByteArray) (z_Standard:Int) (z_Summer:Int) (z_Begin_Month:Int) (z_Begin_Week:Int) (z_Begin_Weekday:Int) (z_Begin_Minute:Int) (z_End_Month:Int) (z_End_Week:Int) (z_End_Weekday:Int) (z_End_Minute:Int) (d_Year:Int) (d_Month:Int) (d_Day:Int) (d_Hour:Int) (d_Minute:Int) (d_Second:Int) (d_Zone:Int):Option ((Nat×(Int×Int))×(List Int)) :=
 ((zval_s z_Name z_Standard z_Summer z_Begin_Month z_Begin_Week z_Begin_Weekday z_Begin_Minute z_End_Month z_End_Week z_End_Weekday z_End_Minute).bind fun r0 =>
 ((q45 r0.1 r0.2).bind fun r1 =>
 (brE r1
 (some ((0,(r0.1,r0.2)),(EC.decL qak [])))
 ((q9r d_Year d_Month d_Day d_Hour d_Minute d_Second d_Zone).bind fun r2 =>
 ((q45 r2.2.1 r2.2.2).bind fun r3 =>
 (brE r3
 (some ((0,(r2.2.1,r2.2.2)),(EC.decL qak [])))
 (brE (d_Zone != 0)
 ((q4b 5 (-9)).bind fun r4 =>
 (some ((0,(r4.1,r4.2)),(EC.decL qak []))))
 ((q10e d_Year 3 3998).bind fun r4 =>
 (brE (!r4)
 ((q4b 3 (-9)).bind fun r5 =>
 (some ((0,(r5.1,r5.2)),(EC.decL qak []))))
 ((qz6 z_Name z_Standard z_Summer z_Begin_Month z_Begin_Week z_Begin_Weekday z_Begin_Minute z_End_Month z_End_Week z_End_Weekday z_End_Minute).bind fun r5 =>
 (brE (!r5)
 ((qyf r2.1 0 (1+(List.length [[(C.int Go.IntKind.i64 z_Summer)]])) (((1+(List.length [[(C.int Go.IntKind.i64 z_Summer)]])):Nat):Int) 0 z_Name z_Standard z_Summer z_Begin_Month z_Begin_Week z_Begin_Weekday z_Begin_Minute z_End_Month z_End_Week z_End_Weekday z_End_Minute 0 0 (EC.decL qak []) (EC.decL qak ([[(C.int Go.IntKind.i64 z_Standard)]]++[[(C.int Go.IntKind.i64 z_Summer)]]))).bind fun r6 =>
 (gdE ((List.all (EC.encL qak r6.2.2.2.1) intB)&&(decide ((List.length (EC.encL qak r6.2.2.2.1))≤1000000)))<|
 (Option.bind q4z fun r7 =>
 (gdE (EC.isL qak (srtL (EC.encL qak r6.2.2.2.1)))<|
 (some ((r6.1.2.2.2.1,(r7.1,r7.2)),(EC.decL qak (srtL (EC.encL qak r6.2.2.2.1)))))))))
 ((qyf r2.1 0 1 ((1:Nat):Int) 0 z_Name z_Standard z_Summer z_Begin_Month z_Begin_Week z_Begin_Weekday z_Begin_Minute z_End_Month z_End_Week z_End_Weekday z_End_Minute 0 0 (EC.decL qak []) (EC.decL qak [[(C.int Go.IntKind.i64 z_Standard)]])).bind fun r6 =>
 (gdE ((List.all (EC.encL qak r6.2.2.2.1) intB)&&(decide ((List.length (EC.encL qak r6.2.2.2.1))≤1000000)))<|
 (Option.bind q4z fun r7 =>
 (gdE (EC.isL qak (srtL (EC.encL qak r6.2.2.2.1)))<|
 (some ((r6.1.2.2.2.1,(r7.1,r7.2)),(EC.decL qak (srtL (EC.encL qak r6.2.2.2.1))))))))))))))))))))
theorem qye {z_Name z_Standard z_Summer z_Begin_Month z_Begin_Week z_Begin_Weekday z_Begin_Minute z_End_Month z_End_Week z_End_Weekday z_End_Minute d_Year d_Month d_Day d_Hour d_Minute d_Second d_Zone r} (h:qyo z_Name z_Standard z_Summer z_Begin_Month z_Begin_Week z_Begin_Weekday z_Begin_Minute z_End_Month z_End_Week z_End_Weekday z_End_Minute d_Year d_Month d_Day d_Hour d_Minute d_Second d_Zone=some r):qyn z_Name z_Standard z_Summer z_Begin_Month z_Begin_Week z_Begin_Weekday z_Begin_Minute z_End_Month z_End_Week z_End_Weekday z_End_Minute d_Year d_Month d_Day d_Hour d_Minute d_Second d_Zone=some r :=
 qbx (es:=qvl) (hs:=[]) [qyg] Try.func36 rfl (by kernel_rfl) rfl (by kernel_rfl) (by kernel_rfl) ⟨⟨_,rfl,rfl⟩,trivial⟩ trivial (by kernel_rfl) h
def qyd:=entS Try.prog lv X0 36 [] qyb qyc (fun x=>qyn x.1.1 x.1.2.1 x.1.2.2.1 x.1.2.2.2.1 x.1.2.2.2.2.1 x.1.2.2.2.2.2.1 x.1.2.2.2.2.2.2.1 x.1.2.2.2.2.2.2.2.1 x.1.2.2.2.2.2.2.2.2.1 x.1.2.2.2.2.2.2.2.2.2.1 x.1.2.2.2.2.2.2.2.2.2.2 x.2.1 x.2.2.1 x.2.2.2.1 x.2.2.2.2.1 x.2.2.2.2.2.1 x.2.2.2.2.2.2.1 x.2.2.2.2.2.2.2) (fun _ _ h=>qbw h)
def qvk:=qyd::qvl
def qoq:=(qhl (vC (cSl qak)) (qhn (vC (cInt .i64))))
def qp0:=sLS [0,1,4,12,13,14] (qhl (vC (cSl qak)) (qhl (vC (cInt .i64)) (qhl (vPtr 0 0) (qhl (vC (cSl qak)) (qhl (vC (cInt .i64)) (qhn (vC (cInt .i64)))))))) (qhn (qkg (bBox (qhl (vC (cInt .i64)) (qhn (vC (cInt .i64))))))) [false] [] (by decide) (fun _=>rfl)
def qoz:=sLS [0,1,4,12,13,14,15] (qhl (vC (cSl qak)) (qhl (vC (cInt .i64)) (qhl (vPtr 0 0) (qhl (vC (cSl qak)) (qhl (vC (cInt .i64)) (qhl (vC (cInt .i64)) (qhn (vC cBool)))))))) (qhn (qkg (bBox (qhl (vC (cInt .i64)) (qhn (vC (cInt .i64))))))) [false] [] (by decide) (fun _=>rfl)
def qoy:=sLS [4] (qhn (vPtr 0 0)) (qhn (qkg (bBox (qhl (vC (cInt .i64)) (qhn (vC (cInt .i64))))))) [false] [] (by decide) (fun _=>rfl)
def qox:=oOr 1 qoy (oAt 2 qoz) (fun x=>(by decide:(2:Nat)≠1))
def qou (l:(List Int)) (at_:Int) (t12:(List Int)) (t13:Int) (t14:Int) (b0:Int) (b0_1:Int):Option ((Unit×(Int×Int))⊕(((List Int)×Int×Unit×(List Int)×Int×Int×Bool)×(Int×Int))):=lS Try.prog lv X0 51 39 (qfp (cdF Try.f51) 4) qp0 qox ((l,at_,(),t12,t13,t14),(b0,b0_1))
def qp1 (l:(List Int)) (at_:Int) (t12:(List Int)) (t13:Int) (t14:Int) (b0:Int) (b0_1:Int):Option ((Unit×(Int×Int))⊕(((List Int)×Int×Unit×(List Int)×Int×Int×Bool)×(Int×Int))) :=
 (brE (decide (t14<t13))
 (gdE (decide (0≤t14))<|
 (gdE ((decide ((Int.toNat t14)<(List.length (EC.encL qak t12))))&&(isE [(K1.int Go.IntKind.i64)] 0 (List.getD (EC.encL qak t12) (Int.toNat t14) [])))<|
 ((q55 (qgm (List.getD (List.getD (EC.encL qak t12) (Int.toNat t14) []) 0 C.ne))).bind fun r0 =>
 (brE (!r0)
 ((q4b 3 at_).bind fun r1 =>
 (some (.inl ((),(r1.1,r1.2)))))
 (brE ((decide (t14>0))==true)
 (gdE (decide (0≤(IntKind.wrap .i64 (t14 - 1))))<|
 (gdE ((decide ((Int.toNat (IntKind.wrap .i64 (t14 - 1)))<(List.length (EC.encL qak l))))&&(isE [(K1.int Go.IntKind.i64)] 0 (List.getD (EC.encL qak l) (Int.toNat (IntKind.wrap .i64 (t14 - 1))) [])))<|
 (brE (decide ((qgm (List.getD (List.getD (EC.encL qak t12) (Int.toNat t14) []) 0 C.ne))≤(qgm (List.getD (List.getD (EC.encL qak l) (Int.toNat (IntKind.wrap .i64 (t14 - 1))) []) 0 C.ne))))
 ((q4b 19 at_).bind fun r1 =>
 (some (.inl ((),(r1.1,r1.2)))))
 (gdE (EC.isL qak (EC.encL qak l))<|
 (gdE (EC.isL qak (EC.encL qak t12))<|
 (qou (EC.decL qak (EC.encL qak l)) at_ (EC.decL qak (EC.encL qak t12)) t13 (IntKind.wrap .i64 (t14+1)) b0 b0_1))))))
 (gdE (EC.isL qak (EC.encL qak l))<|
 (gdE (EC.isL qak (EC.encL qak t12))<|
 (qou (EC.decL qak (EC.encL qak l)) at_ (EC.decL qak (EC.encL qak t12)) t13 (IntKind.wrap .i64 (t14+1)) b0 b0_1))))))))
 (gdE (EC.isL qak (EC.encL qak l))<|
 (gdE (EC.isL qak (EC.encL qak t12))<|
 (some (.inr (((EC.decL qak (EC.encL qak l)),(at_,((),((EC.decL qak (EC.encL qak t12)),(t13,(t14,false)))))),(b0,b0_1)))))))
theorem qow {l at_ t12 t13 t14 b0 b0_1 r} (h:qp1 l at_ t12 t13 t14 b0 b0_1=some r):qou l at_ t12 t13 t14 b0 b0_1=some r :=
 qhp (es:=qvk) (hs:=[]) [] (by kernel_rfl) trivial trivial (by kernel_rfl) h
def qov:=qj2 Try.prog lv X0 4 (qfp (cdF Try.f51) 4) qp0 qox (fun x=>qou x.1.1 x.1.2.1 x.1.2.2.2.1 x.1.2.2.2.2.1 x.1.2.2.2.2.2 x.2.1 x.2.2) (fun _ _ h=>qho h)
def qor:Cod (V×List B) (Int×Int):=(cFstU (cPair (vAgg (qhl (vC (cInt .i64)) (qhn (vC (cInt .i64))))) qhm))
def qp3 (l:(List Int)) (at_:Int):Option (Int×Int):=fS Try.prog lv X0 51 qoq qor (l,at_)
def qp4 (l:(List Int)) (at_:Int):Option (Int×Int) :=
 (brE (decide ((List.length (EC.encL qak l):Int)>300))
 ((q4b 2 at_).bind fun r0 =>
 (some (r0.1,r0.2)))
 (gdE (EC.isL qak (EC.encL qak l))<|
 (gdE (EC.isL qak (EC.encL qak l))<|
 ((qou (EC.decL qak (EC.encL qak l)) at_ (EC.decL qak (EC.encL qak l)) (List.length (EC.encL qak l):Int) 0 0 0).bind fun r0 =>
 (Sum.elim (fun r1=>(some (r1.2.1,r1.2.2)))
 (fun r1=>(Option.bind q4z fun r2 =>
 (some (r2.1,r2.2)))) r0)))))
theorem qot {l at_ r} (h:qp4 l at_=some r):qp3 l at_=some r :=
 qbx (es:=qvk) (hs:=[]) [qov] Try.func51 rfl (by kernel_rfl) rfl (by kernel_rfl) (by kernel_rfl) ⟨⟨_,rfl,rfl⟩,trivial⟩ trivial (by kernel_rfl) h
def qos:=entS Try.prog lv X0 51 [] qoq qor (fun x=>qp3 x.1 x.2) (fun _ _ h=>qbw h)
def qva:=qos::qvk
def qq5:=(qhn (vAgg (qhl (vC (cInt .i64)) (qhl (vC (cInt .i64)) (qhl (vC (cInt .i64)) (qhl (vC (cInt .i64)) (qhl (vC cBool) (qhl (vC (cSl qak)) (qhl (vC (cSl qak)) (qhn (vC (cSl qak))))))))))))
def qqf:=sLS [1,2,16,17,18] (qhl (vPtr 0 0) (qhl (vPtr 1 0) (qhl (vC (cSl qak)) (qhl (vC (cInt .i64)) (qhn (vC (cInt .i64))))))) (qhl (qkg (bBox (qhl (vC (cInt .i64)) (qhl (vC (cInt .i64)) (qhl (vC (cInt .i64)) (qhl (vC (cInt .i64)) (qhl (vC cBool) (qhl (vC (cSl qak)) (qhl (vC (cSl qak)) (qhn (vC (cSl qak)))))))))))) (qhn (qkg (bBox (qhl (vC (cInt .i64)) (qhn (vC (cInt .i64)))))))) [false,false] [] (by decide) (fun _=>rfl)
def qqe:=sLS [1,2,16,17,18,19] (qhl (vPtr 0 0) (qhl (vPtr 1 0) (qhl (vC (cSl qak)) (qhl (vC (cInt .i64)) (qhl (vC (cInt .i64)) (qhn (vC cBool))))))) (qhl (qkg (bBox (qhl (vC (cInt .i64)) (qhl (vC (cInt .i64)) (qhl (vC (cInt .i64)) (qhl (vC (cInt .i64)) (qhl (vC cBool) (qhl (vC (cSl qak)) (qhl (vC (cSl qak)) (qhn (vC (cSl qak)))))))))))) (qhn (qkg (bBox (qhl (vC (cInt .i64)) (qhn (vC (cInt .i64)))))))) [false,false] [] (by decide) (fun _=>rfl)
def qqd:=sLS [2] (qhn (vPtr 0 0)) (qhn (qkg (bBox (qhl (vC (cInt .i64)) (qhn (vC (cInt .i64))))))) [false] [] (by decide) (fun _=>rfl)
def qqc:=oOr 1 qqd (oAt 2 qqe) (fun x=>(by decide:(2:Nat)≠1))
def qq9 (t16:(List Int)) (t17:Int) (t18:Int) (b0:Int) (b0_1:Int) (b0_2:Int) (b0_3:Int) (b0_4:Bool) (b0_5:(List Int)) (b0_6:(List Int)) (b0_7:(List Int)) (b1:Int) (b1_1:Int):Option ((Unit×(Int×Int))⊕((Unit×Unit×(List Int)×Int×Int×Bool)×((Int×Int×Int×Int×Bool×(List Int)×(List Int)×(List Int))×(Int×Int)))):=lS Try.prog lv X0 50 45 (qfp (cdF Try.f50) 4) qqf qqc (((),(),t16,t17,t18),((b0,b0_1,b0_2,b0_3,b0_4,b0_5,b0_6,b0_7),(b1,b1_1)))
def qqg (t16:(List Int)) (t17:Int) (t18:Int) (b0:Int) (b0_1:Int) (b0_2:Int) (b0_3:Int) (b0_4:Bool) (b0_5:(List Int)) (b0_6:(List Int)) (b0_7:(List Int)) (b1:Int) (b1_1:Int):Option ((Unit×(Int×Int))⊕((Unit×Unit×(List Int)×Int×Int×Bool)×((Int×Int×Int×Int×Bool×(List Int)×(List Int)×(List Int))×(Int×Int)))) :=
 (brE (decide (t18<t17))
 (gdE (decide (0≤t18))<|
 (gdE ((decide ((Int.toNat t18)<(List.length (EC.encL qak t16))))&&(isE [(K1.int Go.IntKind.i64)] 0 (List.getD (EC.encL qak t16) (Int.toNat t18) [])))<|
 (brE ((decide ((qgm (List.getD (List.getD (EC.encL qak t16) (Int.toNat t18) []) 0 C.ne))<0))==false)
 (brE (decide ((qgm (List.getD (List.getD (EC.encL qak t16) (Int.toNat t18) []) 0 C.ne))>6))
 ((q4b 3 (-7)).bind fun r0 =>
 (some (.inl ((),(r0.1,r0.2)))))
 (brE ((decide (t18>0))==true)
 (gdE (decide (0≤(IntKind.wrap .i64 (t18 - 1))))<|
 (gdE ((decide ((Int.toNat (IntKind.wrap .i64 (t18 - 1)))<(List.length (EC.encL qak b0_5))))&&(isE [(K1.int Go.IntKind.i64)] 0 (List.getD (EC.encL qak b0_5) (Int.toNat (IntKind.wrap .i64 (t18 - 1))) [])))<|
 (brE (decide ((qgm (List.getD (List.getD (EC.encL qak t16) (Int.toNat t18) []) 0 C.ne))≤(qgm (List.getD (List.getD (EC.encL qak b0_5) (Int.toNat (IntKind.wrap .i64 (t18 - 1))) []) 0 C.ne))))
 ((q4b 19 (-7)).bind fun r0 =>
 (some (.inl ((),(r0.1,r0.2)))))
 (gdE (EC.isL qak (EC.encL qak t16))<|
 (gdE (EC.isL qak (EC.encL qak b0_5))<|
 (gdE (EC.isL qak (EC.encL qak b0_6))<|
 (gdE (EC.isL qak (EC.encL qak b0_7))<|
 (qq9 (EC.decL qak (EC.encL qak t16)) t17 (IntKind.wrap .i64 (t18+1)) b0 b0_1 b0_2 b0_3 b0_4 (EC.decL qak (EC.encL qak b0_5)) (EC.decL qak (EC.encL qak b0_6)) (EC.decL qak (EC.encL qak b0_7)) b1 b1_1))))))))
 (gdE (EC.isL qak (EC.encL qak t16))<|
 (gdE (EC.isL qak (EC.encL qak b0_5))<|
 (gdE (EC.isL qak (EC.encL qak b0_6))<|
 (gdE (EC.isL qak (EC.encL qak b0_7))<|
 (qq9 (EC.decL qak (EC.encL qak t16)) t17 (IntKind.wrap .i64 (t18+1)) b0 b0_1 b0_2 b0_3 b0_4 (EC.decL qak (EC.encL qak b0_5)) (EC.decL qak (EC.encL qak b0_6)) (EC.decL qak (EC.encL qak b0_7)) b1 b1_1)))))))
 ((q4b 3 (-7)).bind fun r0 =>
 (some (.inl ((),(r0.1,r0.2))))))))
 (gdE (EC.isL qak (EC.encL qak t16))<|
 (gdE (EC.isL qak (EC.encL qak b0_5))<|
 (gdE (EC.isL qak (EC.encL qak b0_6))<|
 (gdE (EC.isL qak (EC.encL qak b0_7))<|
 (some (.inr (((),((),((EC.decL qak (EC.encL qak t16)),(t17,(t18,false))))),((b0,(b0_1,(b0_2,(b0_3,(b0_4,((EC.decL qak (EC.encL qak b0_5)),((EC.decL qak (EC.encL qak b0_6)),(EC.decL qak (EC.encL qak b0_7))))))))),(b1,b1_1))))))))))
theorem qqb {t16 t17 t18 b0 b0_1 b0_2 b0_3 b0_4 b0_5 b0_6 b0_7 b1 b1_1 r} (h:qqg t16 t17 t18 b0 b0_1 b0_2 b0_3 b0_4 b0_5 b0_6 b0_7 b1 b1_1=some r):qq9 t16 t17 t18 b0 b0_1 b0_2 b0_3 b0_4 b0_5 b0_6 b0_7 b1 b1_1=some r :=
 qhp (es:=qva) (hs:=[]) [] (by kernel_rfl) trivial trivial (by kernel_rfl) h
def qqa:=qj2 Try.prog lv X0 4 (qfp (cdF Try.f50) 4) qqf qqc (fun x=>qq9 x.1.2.2.1 x.1.2.2.2.1 x.1.2.2.2.2 x.2.1.1 x.2.1.2.1 x.2.1.2.2.1 x.2.1.2.2.2.1 x.2.1.2.2.2.2.1 x.2.1.2.2.2.2.2.1 x.2.1.2.2.2.2.2.2.1 x.2.1.2.2.2.2.2.2.2 x.2.2.1 x.2.2.2) (fun _ _ h=>qho h)
def qq6:Cod (V×List B) (Int×Int):=(cFstU (cPair (vAgg (qhl (vC (cInt .i64)) (qhn (vC (cInt .i64))))) qhm))
def qqi (r_Frequency:Int) (r_Every:Int) (r_Count:Int) (r_Until:Int) (r_HasUntil:Bool) (r_Weekdays:(List Int)) (r_Except:(List Int)) (r_Add:(List Int)):Option (Int×Int):=fS Try.prog lv X0 50 qq5 qq6 (r_Frequency,r_Every,r_Count,r_Until,r_HasUntil,r_Weekdays,r_Except,r_Add)
def qqj (r_Frequency:Int) (r_Every:Int) (r_Count:Int) (r_Until:Int) (r_HasUntil:Bool) (r_Weekdays:(List Int)) (r_Except:(List Int)) (r_Add:(List Int)):Option (Int×Int) :=
 (brE ((decide ((List.length (EC.encL qak r_Weekdays):Int)>0))==true)
 (brE (r_Frequency != 2)
 ((q4b 5 (-7)).bind fun r0 =>
 (some (r0.1,r0.2)))
 (gdE (EC.isL qak (EC.encL qak r_Weekdays))<|
 (gdE (EC.isL qak (EC.encL qak r_Weekdays))<|
 (gdE (EC.isL qak (EC.encL qak r_Except))<|
 (gdE (EC.isL qak (EC.encL qak r_Add))<|
 ((qq9 (EC.decL qak (EC.encL qak r_Weekdays)) (List.length (EC.encL qak r_Weekdays):Int) 0 r_Frequency r_Every r_Count r_Until r_HasUntil (EC.decL qak (EC.encL qak r_Weekdays)) (EC.decL qak (EC.encL qak r_Except)) (EC.decL qak (EC.encL qak r_Add)) 0 0).bind fun r0 =>
 (Sum.elim (fun r1=>(some (r1.2.1,r1.2.2)))
 (fun r1=>(Option.bind q4z fun r2 =>
 (some (r2.1,r2.2)))) r0)))))))
 (gdE (EC.isL qak (EC.encL qak r_Weekdays))<|
 (gdE (EC.isL qak (EC.encL qak r_Weekdays))<|
 (gdE (EC.isL qak (EC.encL qak r_Except))<|
 (gdE (EC.isL qak (EC.encL qak r_Add))<|
 ((qq9 (EC.decL qak (EC.encL qak r_Weekdays)) (List.length (EC.encL qak r_Weekdays):Int) 0 r_Frequency r_Every r_Count r_Until r_HasUntil (EC.decL qak (EC.encL qak r_Weekdays)) (EC.decL qak (EC.encL qak r_Except)) (EC.decL qak (EC.encL qak r_Add)) 0 0).bind fun r0 =>
 (Sum.elim (fun r1=>(some (r1.2.1,r1.2.2)))
 (fun r1=>(Option.bind q4z fun r2 =>
 (some (r2.1,r2.2)))) r0)))))))
theorem qq8 {r_Frequency r_Every r_Count r_Until r_HasUntil r_Weekdays r_Except r_Add r} (h:qqj r_Frequency r_Every r_Count r_Until r_HasUntil r_Weekdays r_Except r_Add=some r):qqi r_Frequency r_Every r_Count r_Until r_HasUntil r_Weekdays r_Except r_Add=some r :=
 qbx (es:=qva) (hs:=[]) [qqa] Try.func50 rfl (by kernel_rfl) rfl (by kernel_rfl) (by kernel_rfl) ⟨⟨_,rfl,rfl⟩,trivial⟩ trivial (by kernel_rfl) h
def qq7:=entS Try.prog lv X0 50 [] qq5 qq6 (fun x=>qqi x.1 x.2.1 x.2.2.1 x.2.2.2.1 x.2.2.2.2.1 x.2.2.2.2.2.1 x.2.2.2.2.2.2.1 x.2.2.2.2.2.2.2) (fun _ _ h=>qbw h)
def qvc:=qq7::qva
def qq0:=(qhn (vAgg (qhl (vC (cInt .i64)) (qhl (vC (cInt .i64)) (qhl (vC (cInt .i64)) (qhl (vC (cInt .i64)) (qhl (vC cBool) (qhl (vC (cSl qak)) (qhl (vC (cSl qak)) (qhn (vC (cSl qak))))))))))))
def qq1:Cod (V×List B) (Int×Int):=(cFstU (cPair (vAgg (qhl (vC (cInt .i64)) (qhn (vC (cInt .i64))))) qhm))
def rval_s (r_Frequency:Int) (r_Every:Int) (r_Count:Int) (r_Until:Int) (r_HasUntil:Bool) (r_Weekdays:(List Int)) (r_Except:(List Int)) (r_Add:(List Int)):Option (Int×Int):=fS Try.prog lv X0 37 qq0 qq1 (r_Frequency,r_Every,r_Count,r_Until,r_HasUntil,r_Weekdays,r_Except,r_Add)
def rval_t (r_Frequency:Int) (r_Every:Int) (r_Count:Int) (r_Until:Int) (r_HasUntil:Bool) (r_Weekdays:(List Int)) (r_Except:(List Int)) (r_Add:(List Int)):Option (Int×Int) :=
 (brE ((decide (r_Frequency<0))==false)
 (brE (decide (r_Frequency>4))
 ((q4b 4 (-3)).bind fun r0 =>
 (some (r0.1,r0.2)))
 (brE ((decide (r_Every<1))==false)
 (brE (decide (r_Every>100))
 ((q4b 3 (-4)).bind fun r0 =>
 (some (r0.1,r0.2)))
 (brE ((decide (r_Count<0))==false)
 (brE (decide (r_Count>1500))
 ((q4b 3 (-5)).bind fun r0 =>
 (some (r0.1,r0.2)))
 (brE (r_HasUntil==true)
 ((q55 r_Until).bind fun r0 =>
 (brE (!r0)
 ((q4b 3 (-6)).bind fun r1 =>
 (some (r1.1,r1.2)))
 (brE ((!r_HasUntil)==true)
 (brE (r_Until != 0)
 ((q4b 5 (-6)).bind fun r1 =>
 (some (r1.1,r1.2)))
 (gdE (EC.isL qak (EC.encL qak r_Weekdays))<|
 (gdE (EC.isL qak (EC.encL qak r_Except))<|
 (gdE (EC.isL qak (EC.encL qak r_Add))<|
 ((qqi r_Frequency r_Every r_Count r_Until r_HasUntil (EC.decL qak (EC.encL qak r_Weekdays)) (EC.decL qak (EC.encL qak r_Except)) (EC.decL qak (EC.encL qak r_Add))).bind fun r1 =>
 ((q45 r1.1 r1.2).bind fun r2 =>
 (brE r2
 (some (r1.1,r1.2))
 (gdE (EC.isL qak (EC.encL qak r_Except))<|
 ((qp3 (EC.decL qak (EC.encL qak r_Except)) (-8)).bind fun r3 =>
 ((q45 r3.1 r3.2).bind fun r4 =>
 (brE r4
 (some (r3.1,r3.2))
 (gdE (EC.isL qak (EC.encL qak r_Add))<|
 ((qp3 (EC.decL qak (EC.encL qak r_Add)) (-9)).bind fun r5 =>
 (some (r5.1,r5.2)))))))))))))))
 (gdE (EC.isL qak (EC.encL qak r_Weekdays))<|
 (gdE (EC.isL qak (EC.encL qak r_Except))<|
 (gdE (EC.isL qak (EC.encL qak r_Add))<|
 ((qqi r_Frequency r_Every r_Count r_Until r_HasUntil (EC.decL qak (EC.encL qak r_Weekdays)) (EC.decL qak (EC.encL qak r_Except)) (EC.decL qak (EC.encL qak r_Add))).bind fun r1 =>
 ((q45 r1.1 r1.2).bind fun r2 =>
 (brE r2
 (some (r1.1,r1.2))
 (gdE (EC.isL qak (EC.encL qak r_Except))<|
 ((qp3 (EC.decL qak (EC.encL qak r_Except)) (-8)).bind fun r3 =>
 ((q45 r3.1 r3.2).bind fun r4 =>
 (brE r4
 (some (r3.1,r3.2))
 (gdE (EC.isL qak (EC.encL qak r_Add))<|
 ((qp3 (EC.decL qak (EC.encL qak r_Add)) (-9)).bind fun r5 =>
 (some (r5.1,r5.2)))))))))))))))))
 (brE ((!r_HasUntil)==true)
 (brE (r_Until != 0)
 ((q4b 5 (-6)).bind fun r0 =>
 (some (r0.1,r0.2)))
 (gdE (EC.isL qak (EC.encL qak r_Weekdays))<|
 (gdE (EC.isL qak (EC.encL qak r_Except))<|
 (gdE (EC.isL qak (EC.encL qak r_Add))<|
 ((qqi r_Frequency r_Every r_Count r_Until r_HasUntil (EC.decL qak (EC.encL qak r_Weekdays)) (EC.decL qak (EC.encL qak r_Except)) (EC.decL qak (EC.encL qak r_Add))).bind fun r0 =>
 ((q45 r0.1 r0.2).bind fun r1 =>
 (brE r1
 (some (r0.1,r0.2))
 (gdE (EC.isL qak (EC.encL qak r_Except))<|
 ((qp3 (EC.decL qak (EC.encL qak r_Except)) (-8)).bind fun r2 =>
 ((q45 r2.1 r2.2).bind fun r3 =>
 (brE r3
 (some (r2.1,r2.2))
 (gdE (EC.isL qak (EC.encL qak r_Add))<|
 ((qp3 (EC.decL qak (EC.encL qak r_Add)) (-9)).bind fun r4 =>
 (some (r4.1,r4.2)))))))))))))))
 (gdE (EC.isL qak (EC.encL qak r_Weekdays))<|
 (gdE (EC.isL qak (EC.encL qak r_Except))<|
 (gdE (EC.isL qak (EC.encL qak r_Add))<|
 ((qqi r_Frequency r_Every r_Count r_Until r_HasUntil (EC.decL qak (EC.encL qak r_Weekdays)) (EC.decL qak (EC.encL qak r_Except)) (EC.decL qak (EC.encL qak r_Add))).bind fun r0 =>
 ((q45 r0.1 r0.2).bind fun r1 =>
 (brE r1
 (some (r0.1,r0.2))
 (gdE (EC.isL qak (EC.encL qak r_Except))<|
 ((qp3 (EC.decL qak (EC.encL qak r_Except)) (-8)).bind fun r2 =>
 ((q45 r2.1 r2.2).bind fun r3 =>
 (brE r3
 (some (r2.1,r2.2))
 (gdE (EC.isL qak (EC.encL qak r_Add))<|
 ((qp3 (EC.decL qak (EC.encL qak r_Add)) (-9)).bind fun r4 =>
 (some (r4.1,r4.2)))))))))))))))))
 ((q4b 3 (-5)).bind fun r0 =>
 (some (r0.1,r0.2)))))
 ((q4b 3 (-4)).bind fun r0 =>
 (some (r0.1,r0.2)))))
 ((q4b 4 (-3)).bind fun r0 =>
 (some (r0.1,r0.2))))
theorem qq2 {r_Frequency r_Every r_Count r_Until r_HasUntil r_Weekdays r_Except r_Add r} (h:rval_t r_Frequency r_Every r_Count r_Until r_HasUntil r_Weekdays r_Except r_Add=some r):rval_s r_Frequency r_Every r_Count r_Until r_HasUntil r_Weekdays r_Except r_Add=some r :=
 qbx (es:=qvc) (hs:=[]) [] Try.func37 rfl (by kernel_rfl) rfl (by kernel_rfl) (by kernel_rfl) trivial trivial (by kernel_rfl) h
def rval_e:=entS Try.prog lv X0 37 [] qq0 qq1 (fun x=>rval_s x.1 x.2.1 x.2.2.1 x.2.2.2.1 x.2.2.2.2.1 x.2.2.2.2.2.1 x.2.2.2.2.2.2.1 x.2.2.2.2.2.2.2) (fun _ _ h=>qbw h)
def qvb:=rval_e::qvc
def qsl:=(qhl (vC (cSl qak)) (qhn (vC (cInt .i64))))
def qsv:=sLS [0,1,7,8] (qhl (vC (cSl qak)) (qhl (vC (cInt .i64)) (qhl (vC (cInt .i64)) (qhn (vC (cInt .i64)))))) qhm [] [] (by decide) (fun _=>rfl)
def qsu:=sLS [0,1,7,8,9] (qhl (vC (cSl qak)) (qhl (vC (cInt .i64)) (qhl (vC (cInt .i64)) (qhl (vC (cInt .i64)) (qhn (vC cBool)))))) qhm [] [] (by decide) (fun _=>rfl)
def qst:=sLS [4] (qhn (vC (cInt .i64))) qhm [] [] (by decide) (fun _=>rfl)
def qss:=oOr 1 qst (oAt 2 qsu) (fun x=>(by decide:(2:Nat)≠1))
def qsp (s:(List Int)) (v:Int) (t7:Int) (t8:Int):Option ((Int×Unit)⊕(((List Int)×Int×Int×Int×Bool)×Unit)):=lS Try.prog lv X0 92 19 (qfp (cdF Try.f92) 2) qsv qss ((s,v,t7,t8),())
def qsw (s:(List Int)) (v:Int) (t7:Int) (t8:Int):Option ((Int×Unit)⊕(((List Int)×Int×Int×Int×Bool)×Unit)) :=
 (brE (decide (t8<t7))
 (gdE (decide (0≤t8))<|
 (gdE ((decide ((Int.toNat t8)<(List.length (EC.encL qak s))))&&(isE [(K1.int Go.IntKind.i64)] 0 (List.getD (EC.encL qak s) (Int.toNat t8) [])))<|
 (brE (v==(qgm (List.getD (List.getD (EC.encL qak s) (Int.toNat t8) []) 0 C.ne)))
 (some (.inl (t8,())))
 (gdE (EC.isL qak (EC.encL qak s))<|
 (qsp (EC.decL qak (EC.encL qak s)) v t7 (IntKind.wrap .i64 (t8+1)))))))
 (gdE (EC.isL qak (EC.encL qak s))<|
 (some (.inr (((EC.decL qak (EC.encL qak s)),(v,(t7,(t8,false)))),())))))
theorem qsr {s v t7 t8 r} (h:qsw s v t7 t8=some r):qsp s v t7 t8=some r :=
 qhp (es:=qvb) (hs:=[]) [] (by kernel_rfl) trivial trivial (by kernel_rfl) h
def qsq:=qj2 Try.prog lv X0 2 (qfp (cdF Try.f92) 2) qsv qss (fun x=>qsp x.1.1 x.1.2.1 x.1.2.2.1 x.1.2.2.2) (fun _ _ h=>qho h)
def qsm:Cod (V×List B) Int:=(cFstU (cPair (vC (cInt .i64)) qhm))
def qsx (s:(List Int)) (v:Int):Option Int:=fS Try.prog lv X0 92 qsl qsm (s,v)
def qsy (s:(List Int)) (v:Int):Option Int :=
 (gdE (EC.isL qak (EC.encL qak s))<|
 ((qsp (EC.decL qak (EC.encL qak s)) v (List.length (EC.encL qak s):Int) 0).bind fun r0 =>
 (Sum.elim (fun r1=>(some r1.1))
 (fun r1=>(some (-1:Int))) r0)))
theorem qso {s v r} (h:qsy s v=some r):qsx s v=some r :=
 qbx (es:=qvb) (hs:=[]) [qsq] Try.func92 rfl (by kernel_rfl) rfl (by kernel_rfl) (by kernel_rfl) ⟨⟨_,rfl,rfl⟩,trivial⟩ trivial (by kernel_rfl) h
def qsn:=entS Try.prog lv X0 92 [] qsl qsm (fun x=>qsx x.1 x.2) (fun _ _ h=>qbw h)
def qvf:=qsn::qvb
def qsf:=(qhl (vC (cSl qak)) (qhn (vC (cInt .i64))))
def qsg:Cod (V×List B) Bool:=(cFstU (cPair (vC cBool) qhm))
def qsj (s:(List Int)) (v:Int):Option Bool:=fS Try.prog lv X0 75 qsf qsg (s,v)
def qsk (s:(List Int)) (v:Int):Option Bool :=
 (gdE (EC.isL qak (EC.encL qak s))<|
 ((qsx (EC.decL qak (EC.encL qak s)) v).bind fun r0 =>
 (some (decide (r0≥0)))))
theorem qsi {s v r} (h:qsk s v=some r):qsj s v=some r :=
 qbx (es:=qvf) (hs:=[]) [] Try.func75 rfl (by kernel_rfl) rfl (by kernel_rfl) (by kernel_rfl) trivial trivial (by kernel_rfl) h
def qsh:=entS Try.prog lv X0 75 [] qsf qsg (fun x=>qsj x.1 x.2) (fun _ _ h=>qbw h)
def qve:=qsh::qvf
def qct:=(qhl (vAgg (qhl (vC (cInt .i64)) (qhl (vC (cInt .i64)) (qhl (vC (cInt .i64)) (qhl (vC (cInt .i64)) (qhl (vC cBool) (qhl (vC (cSl qak)) (qhl (vC (cSl qak)) (qhn (vC (cSl qak))))))))))) (qhl (vAgg (qhl (vC (cInt .i64)) (qhl (vC (cInt .i64)) (qhl (vC (cInt .i64)) (qhl (vC (cInt .i64)) (qhl (vC (cInt .i64)) (qhl (vC (cInt .i64)) (qhn (vC (cInt .i64)))))))))) (qhl (vAgg (qhl (vC (cInt .i64)) (qhl (vC (cInt .i64)) (qhl (vC (cInt .i64)) (qhl (vC (cInt .i64)) (qhl (vC (cInt .i64)) (qhl (vC (cInt .i64)) (qhn (vC (cInt .i64)))))))))) (qhn (vC (cInt .i64))))))
def qcu:Cod (V×List B) Bool:=(cFstU (cPair (vC cBool) qhm))
def fits_s (r_Frequency:Int) (r_Every:Int) (r_Count:Int) (r_Until:Int) (r_HasUntil:Bool) (r_Weekdays:(List Int)) (r_Except:(List Int)) (r_Add:(List Int)) (start_Year:Int) (start_Month:Int) (start_Day:Int) (start_Hour:Int) (start_Minute:Int) (start_Second:Int) (start_Zone:Int) (d_Year:Int) (d_Month:Int) (d_Day:Int) (d_Hour:Int) (d_Minute:Int) (d_Second:Int) (d_Zone:Int) (after:Int):Option Bool:=fS Try.prog lv X0 54 qct qcu ((r_Frequency,r_Every,r_Count,r_Until,r_HasUntil,r_Weekdays,r_Except,r_Add),(start_Year,start_Month,start_Day,start_Hour,start_Minute,start_Second,start_Zone),(d_Year,d_Month,d_Day,d_Hour,d_Minute,d_Second,d_Zone),after)
def fits_t (r_Frequency:Int) (r_Every:Int) (r_Count:Int) (r_Until:Int) (r_HasUntil:Bool) (r_Weekdays:(List Int)) (r_Except:(List Int)) (r_Add:(List Int)) (start_Year:Int) (start_Month:Int) (start_Day:Int) (start_Hour:Int) (start_Minute:Int) (start_Second:Int) (start_Zone:Int) (d_Year:Int) (d_Month:Int) (d_Day:Int) (d_Hour:Int) (d_Minute:Int) (d_Second:Int) (d_Zone:Int) (after:Int):Option Bool :=
 ((wday_s d_Year d_Month d_Day d_Hour d_Minute d_Second d_Zone).bind fun r0 =>
 ((wday_s start_Year start_Month start_Day start_Hour start_Minute start_Second start_Zone).bind fun r1 =>
 (brE (r_Frequency==1)
 (brE (r_Every==0)
 none
 (some ((Int.tmod after r_Every)==0)))
 (brE (r_Frequency==2)
 (brE (decide ((List.length (EC.encL qak r_Weekdays):Int)>0))
 (gdE (EC.isL qak (EC.encL qak r_Weekdays))<|
 ((qsj (EC.decL qak (EC.encL qak r_Weekdays)) r0.1).bind fun r2 =>
 (brE (r2==true)
 (brE (r_Every==0)
 none
 (some ((Int.tmod (IntKind.wrap .i64 (Int.tdiv (IntKind.wrap .i64 (after+r1.1)) 7)) r_Every)==0)))
 (some false))))
 (brE ((r0.1==r1.1)==true)
 (brE (r_Every==0)
 none
 (some ((Int.tmod (IntKind.wrap .i64 (Int.tdiv (IntKind.wrap .i64 (after+r1.1)) 7)) r_Every)==0)))
 (some false)))
 (brE (r_Frequency==3)
 (brE ((d_Day==start_Day)==true)
 (brE (r_Every==0)
 none
 (some ((Int.tmod (IntKind.wrap .i64 ((IntKind.wrap .i64 ((IntKind.wrap .i64 (12*(IntKind.wrap .i64 (d_Year - start_Year))))+d_Month)) - start_Month)) r_Every)==0)))
 (some false))
 (brE (r_Frequency==4)
 (brE ((d_Day==start_Day)==true)
 (brE ((d_Month==start_Month)==true)
 (brE (r_Every==0)
 none
 (some ((Int.tmod (IntKind.wrap .i64 (d_Year - start_Year)) r_Every)==0)))
 (some false))
 (some false))
 (some (after==0))))))))
theorem qcv {r_Frequency r_Every r_Count r_Until r_HasUntil r_Weekdays r_Except r_Add start_Year start_Month start_Day start_Hour start_Minute start_Second start_Zone d_Year d_Month d_Day d_Hour d_Minute d_Second d_Zone after r} (h:fits_t r_Frequency r_Every r_Count r_Until r_HasUntil r_Weekdays r_Except r_Add start_Year start_Month start_Day start_Hour start_Minute start_Second start_Zone d_Year d_Month d_Day d_Hour d_Minute d_Second d_Zone after=some r):fits_s r_Frequency r_Every r_Count r_Until r_HasUntil r_Weekdays r_Except r_Add start_Year start_Month start_Day start_Hour start_Minute start_Second start_Zone d_Year d_Month d_Day d_Hour d_Minute d_Second d_Zone after=some r :=
 qbx (es:=qve) (hs:=[]) [] Try.func54 rfl (by kernel_rfl) rfl (by kernel_rfl) (by kernel_rfl) trivial trivial (by kernel_rfl) h
def fits_e:=entS Try.prog lv X0 54 [] qct qcu (fun x=>fits_s x.1.1 x.1.2.1 x.1.2.2.1 x.1.2.2.2.1 x.1.2.2.2.2.1 x.1.2.2.2.2.2.1 x.1.2.2.2.2.2.2.1 x.1.2.2.2.2.2.2.2 x.2.1.1 x.2.1.2.1 x.2.1.2.2.1 x.2.1.2.2.2.1 x.2.1.2.2.2.2.1 x.2.1.2.2.2.2.2.1 x.2.1.2.2.2.2.2.2 x.2.2.1.1 x.2.2.1.2.1 x.2.2.1.2.2.1 x.2.2.1.2.2.2.1 x.2.2.1.2.2.2.2.1 x.2.2.1.2.2.2.2.2.1 x.2.2.1.2.2.2.2.2.2 x.2.2.2) (fun _ _ h=>qbw h)
def quu:=fits_e::qve
def qvz:=(qhn (vAgg (qhl (vC (cInt .i64)) (qhn (vC (cInt .i64))))))
def qw0:Cod (V×List B) Bool:=(cFstU (cPair (vC cBool) qhm))
def ubad_s (p_From:Int) (p_To:Int):Option Bool:=fS Try.prog lv X0 27 qvz qw0 (p_From,p_To)
def ubad_t (p_From:Int) (p_To:Int):Option Bool :=
 (some (decide (p_From≥p_To)))
theorem qw1 {p_From p_To r} (h:ubad_t p_From p_To=some r):ubad_s p_From p_To=some r :=
 qbx (es:=quu) (hs:=[]) [] Try.func27 rfl (by kernel_rfl) rfl (by kernel_rfl) (by kernel_rfl) trivial trivial (by kernel_rfl) h
def ubad_e:=entS Try.prog lv X0 27 [] qvz qw0 (fun x=>ubad_s x.1 x.2) (fun _ _ h=>qbw h)
def qvg:=ubad_e::quu
structure S40 where
 From:Int
 To:Int
def q11q:EC S40 where
 enc x:=[.int .i64 x.From,.int .i64 x.To]
 dec c:=⟨qgm (c.getD 0 .ne),qgm (c.getD 1 .ne)⟩
 is c:=isE [.int .i64,.int .i64] 0 c
 enc_dec h:=q9c h
 dec_enc x:=by rfl
 is_enc x:=by simp [isE,isK]
theorem enc_40 (x:S40):q11q.enc x=[.int .i64 x.From,.int .i64 x.To]:=rfl
theorem q11y (xs:List S40) (n:Nat):isE [.int .i64,.int .i64] 0 ((q11q.encL xs).getD n [])=decide (n<xs.length):=by
 by_cases h:n<xs.length
 ·simp only [EC.getD_lt _ _ h];simp [enc_40,isE,isK,h]
 ·simp only [EC.getD_ge _ _ (Nat.not_lt.1 h)];simp [isE,isK,h]
theorem q11d (xs:List S40) (n:Nat):qgm (((q11q.encL xs).getD n []).getD 0 .ne)=(xs.getD n (q11q.dec [])).From:=by
 by_cases h:n<xs.length
 ·simp only [EC.getD_lt _ _ h];simp [enc_40,h,qtz,qgm,q5l,slOf,List.getD_eq_getElem?_getD]
 ·simp only [EC.getD_ge _ _ (Nat.not_lt.1 h)];simp [Nat.not_lt.1 h,q11q,qtz,qgm,q5l,slOf,List.getD_eq_getElem?_getD,EC.decL,EC.encL]
theorem q11e (xs:List S40) (n:Nat):qgm (((q11q.encL xs).getD n []).getD 1 .ne)=(xs.getD n (q11q.dec [])).To:=by
 by_cases h:n<xs.length
 ·simp only [EC.getD_lt _ _ h];simp [enc_40,h,qtz,qgm,q5l,slOf,List.getD_eq_getElem?_getD]
 ·simp only [EC.getD_ge _ _ (Nat.not_lt.1 h)];simp [Nat.not_lt.1 h,q11q,qtz,qgm,q5l,slOf,List.getD_eq_getElem?_getD,EC.decL,EC.encL]
theorem lit_40 (a0:Int) (a1:Int):([.int .i64 a0,.int .i64 a1]:List C)=q11q.enc (⟨a0,a1⟩:S40):=rfl
theorem q10m (xs:List S40) (a0:Int) (a1:Int):q11q.encL xs++[[.int .i64 a0,.int .i64 a1]]=q11q.encL (xs++[(⟨a0,a1⟩:S40)]):=by rw [lit_40];simp [EC.encL]
theorem len_40 (xs:List S40) (n:Nat) (h:n<xs.length):((q11q.encL xs).getD n []).length=2:=by rw [EC.getD_lt _ _ h];rfl
theorem q10j (xs:List S40):(q11q.encL xs).all (fun (el:List C)=>el.length==2)=true:=by induction xs with|nil=>rfl|cons x xs ih=>first|(simp [EC.encL,enc_40];done)|simpa [EC.encL,enc_40] using ih
theorem q13m (xs:List S40) (n:Nat) (a0:Int) (a1:Int):(q11q.encL xs).set n (splice ((q11q.encL xs).getD n []) 0 [.int .i64 a0,.int .i64 a1])=q11q.encL (xs.set n ({ xs.getD n (q11q.dec []) with From:=a0,To:=a1 })):=by
 by_cases h:n<xs.length
 ·rw [EC.getD_lt _ _ h];simp [EC.encL,List.map_set,enc_40,splice,List.getD_eq_getElem?_getD,h]
 ·simp [EC.encL,List.set_eq_of_length_le,Nat.not_lt.1 h]
theorem q13l (xs:List S40) (n:Nat) (a0:Int):(q11q.encL xs).set n (splice ((q11q.encL xs).getD n []) 0 [.int .i64 a0])=q11q.encL (xs.set n ({ xs.getD n (q11q.dec []) with From:=a0 })):=by
 by_cases h:n<xs.length
 ·rw [EC.getD_lt _ _ h];simp [EC.encL,List.map_set,enc_40,splice,List.getD_eq_getElem?_getD,h]
 ·simp [EC.encL,List.set_eq_of_length_le,Nat.not_lt.1 h]
theorem q13n (xs:List S40) (n:Nat) (a1:Int):(q11q.encL xs).set n (splice ((q11q.encL xs).getD n []) 1 [.int .i64 a1])=q11q.encL (xs.set n ({ xs.getD n (q11q.dec []) with To:=a1 })):=by
 by_cases h:n<xs.length
 ·rw [EC.getD_lt _ _ h];simp [EC.encL,List.map_set,enc_40,splice,List.getD_eq_getElem?_getD,h]
 ·simp [EC.encL,List.set_eq_of_length_le,Nat.not_lt.1 h]
def qwj:Cod (List V) ((List S40)×Unit):=(qhl (vC (cSl q11q)) (qhn (vFn 27 qhm)))
def qws:=sLS [0,1,7,8] (qhl (vC (cSl q11q)) (qhl (vFn 27 qhm) (qhl (vC (cInt .i64)) (qhn (vC (cInt .i64)))))) qhm [] [] (by decide) (fun _=>rfl)
def qwr:=sLS [0,1,7,8,9] (qhl (vC (cSl q11q)) (qhl (vFn 27 qhm) (qhl (vC (cInt .i64)) (qhl (vC (cInt .i64)) (qhn (vC cBool)))))) qhm [] [] (by decide) (fun _=>rfl)
def qwq:=sLS [4] (qhn (vC (cInt .i64))) qhm [] [] (by decide) (fun _=>rfl)
def qwp:=oOr 1 qwq (oAt 2 qwr) (fun x=>(by decide:(2:Nat)≠1))
def qwm (s:(List S40)) (t7:Int) (t8:Int):Option ((Int×Unit)⊕(((List S40)×Unit×Int×Int×Bool)×Unit)):=lS Try.prog lv X0 44 19 (qfp (cdF Try.f44) 2) qws qwp ((s,(),t7,t8),())
def qwt (s:(List S40)) (t7:Int) (t8:Int):Option ((Int×Unit)⊕(((List S40)×Unit×Int×Int×Bool)×Unit)) :=
 (brE (decide (t8<t7))
 (gdE (decide (0≤t8))<|
 (gdE ((decide ((Int.toNat t8)<(List.length (EC.encL q11q s))))&&(isE [(K1.int Go.IntKind.i64),(K1.int Go.IntKind.i64)] 0 (List.getD (EC.encL q11q s) (Int.toNat t8) [])))<|
 ((ubad_s (qgm (List.getD (List.getD (EC.encL q11q s) (Int.toNat t8) []) 0 C.ne)) (qgm (List.getD (List.getD (EC.encL q11q s) (Int.toNat t8) []) 1 C.ne))).bind fun r0 =>
 (brE r0
 (some (.inl (t8,())))
 (gdE (EC.isL q11q (EC.encL q11q s))<|
 (qwm (EC.decL q11q (EC.encL q11q s)) t7 (IntKind.wrap .i64 (t8+1))))))))
 (gdE (EC.isL q11q (EC.encL q11q s))<|
 (some (.inr (((EC.decL q11q (EC.encL q11q s)),((),(t7,(t8,false)))),())))))
theorem qwo {s t7 t8 r} (h:qwt s t7 t8=some r):qwm s t7 t8=some r :=
 qhp (es:=qvg) (hs:=[]) [] (by kernel_rfl) trivial trivial (by kernel_rfl) h
def qwn:=qj2 Try.prog lv X0 2 (qfp (cdF Try.f44) 2) qws qwp (fun x=>qwm x.1.1 x.1.2.2.1 x.1.2.2.2) (fun _ _ h=>qho h)
def qwk:Cod (V×List B) Int:=(cFstU (cPair (vC (cInt .i64)) qhm))
def uidx_s (s:(List S40)):Option Int:=fS Try.prog lv X0 44 qwj qwk (s,())
def uidx_t (s:(List S40)):Option Int :=
 (gdE (EC.isL q11q (EC.encL q11q s))<|
 ((qwm (EC.decL q11q (EC.encL q11q s)) (List.length (EC.encL q11q s):Int) 0).bind fun r0 =>
 (Sum.elim (fun r1=>(some r1.1))
 (fun r1=>(some (-1:Int))) r0)))
theorem qwl {s r} (h:uidx_t s=some r):uidx_s s=some r :=
 qbx (es:=qvg) (hs:=[]) [qwn] Try.func44 rfl (by kernel_rfl) rfl (by kernel_rfl) (by kernel_rfl) ⟨⟨_,rfl,rfl⟩,trivial⟩ trivial (by kernel_rfl) h
def uidx_e:=entS Try.prog lv X0 44 [27] qwj qwk (fun x=>uidx_s x.1) (fun _ _ h=>qbw h)
def qvi:=uidx_e::qvg
def qw3:=(qhn (vC (cSl q11q)))
def qw4:Cod (V×List B) (Nat×(List S40)):=(cPair (vRow 0) (qhn (bRow q11q)))
def qw8 (s:(List S40)):Option (Nat×(List S40)):=fS Try.prog lv X0 26 qw3 qw4 s
def qwa (s:(List S40)):Option (Nat×(List S40)) :=
 (gdE (!(List.isEmpty (EC.encL q11q s)))<|
 (gdE (((List.all (EC.encL q11q s) (fun (el:(List C))=>((List.length el)==2)))&&(decide (((((List.length (EC.encL q11q s))+((List.length (EC.encL q11q s)) / 4))+192)*16)≤281474976710656)))&&(decide ((List.length (EC.encL q11q s))≤9223372036854775807)))<|
 (gdE (EC.isL q11q (EC.encL q11q s))<|
 (some ((List.length (EC.encL q11q s)),(EC.decL q11q (EC.encL q11q s)))))))
theorem qw6 {s r} (h:qwa s=some r):qw8 s=some r:=by
 cases s with
 |nil=>exact nomatch (show (none:Option (Nat×(List S40)))=some r from h)
 |cons x xs=>exact qbx (es:=qvi) (hs:=[]) [] Try.func26 rfl (by kernel_rfl) rfl (by kernel_rfl) (by kernel_rfl) trivial trivial (by kernel_rfl) h
theorem qw7:qw8 []=some (0,[]):=fS_of (r:=(0,[])) (by unfold Call callD;rfl)
def qw5:=entS Try.prog lv X0 26 [] qw3 qw4 (fun x=>qw8 x) (fun _ _ h=>qbw h)
def qvh:=qw5::qvi
def qwg:=sLS [0,1,5,6] (qhl (vRow 0) (qhl (vFn 27 qhm) (qhl (vC (cInt .i64)) (qhn (vC (cInt .i64)))))) (qhn (qkg (bRow q11q))) [false] [] (by decide) (fun _=>rfl)
def qwf:=sLS [0,1,5,6,19] (qhl (vRow 0) (qhl (vFn 27 qhm) (qhl (vC (cInt .i64)) (qhl (vC (cInt .i64)) (qhn (vC cBool)))))) (qhn (qkg (bRow q11q))) [false] [] (by decide) (fun _=>rfl)
def qwe:=oAt 2 qwf
def qwc (s:Nat) (i:Int) (j:Int) (b0:(List S40)):Option ((Nat×Unit×Int×Int×Bool)×(List S40)):=lS Try.prog lv X0 25 42 (qfp (cdF Try.f25) 5) qwg qwe ((s,(),i,j),b0)
def qwh (s:Nat) (i:Int) (j:Int) (b0:(List S40)):Option ((Nat×Unit×Int×Int×Bool)×(List S40)) :=
 (brE (decide (j<((s:Nat):Int)))
 (gdE ((decide (0≤j))&&(decide (j<((s:Nat):Int))))<|
 (gdE ((decide ((Int.toNat j)<(List.length (EC.encL q11q b0))))&&((List.length (List.getD (EC.encL q11q b0) (Int.toNat j) []))==2))<|
 (gdE (isP [(K1.int Go.IntKind.i64),(K1.int Go.IntKind.i64)] 0 (List.getD (EC.encL q11q b0) (Int.toNat j) []))<|
 ((ubad_s (qgm (List.getD (List.getD (EC.encL q11q b0) (Int.toNat j) []) 0 C.ne)) (qgm (List.getD (List.getD (EC.encL q11q b0) (Int.toNat j) []) 1 C.ne))).bind fun r0 =>
 (brE (!r0)
 (gdE ((decide (0≤i))&&(decide (i<((s:Nat):Int))))<|
 (gdE ((decide ((Int.toNat i)<(List.length (EC.encL q11q b0))))&&((List.length (List.getD (EC.encL q11q b0) (Int.toNat i) []))==2))<|
 (gdE (EC.isL q11q (List.set (EC.encL q11q b0) (Int.toNat i) (splice (List.getD (EC.encL q11q b0) (Int.toNat i) []) 0 [(C.int Go.IntKind.i64 (qgm (List.getD (List.getD (EC.encL q11q b0) (Int.toNat j) []) 0 C.ne))),(C.int Go.IntKind.i64 (qgm (List.getD (List.getD (EC.encL q11q b0) (Int.toNat j) []) 1 C.ne)))])))<|
 (qwc s (IntKind.wrap .i64 (i+1)) (IntKind.wrap .i64 (j+1)) (EC.decL q11q (List.set (EC.encL q11q b0) (Int.toNat i) (splice (List.getD (EC.encL q11q b0) (Int.toNat i) []) 0 [(C.int Go.IntKind.i64 (qgm (List.getD (List.getD (EC.encL q11q b0) (Int.toNat j) []) 0 C.ne))),(C.int Go.IntKind.i64 (qgm (List.getD (List.getD (EC.encL q11q b0) (Int.toNat j) []) 1 C.ne)))])))))))
 (gdE (EC.isL q11q (EC.encL q11q b0))<|
 (qwc s i (IntKind.wrap .i64 (j+1)) (EC.decL q11q (EC.encL q11q b0)))))))))
 (gdE (EC.isL q11q (EC.encL q11q b0))<|
 (some ((s,((),(i,(j,false)))),(EC.decL q11q (EC.encL q11q b0))))))
theorem qwd {s i j b0 r} (h:qwh s i j b0=some r):qwc s i j b0=some r :=
 qhp (es:=qvh) (hs:=[]) [] (by kernel_rfl) trivial trivial (by kernel_rfl) h
def qx9:=sLS [3,12,13,14] (qhl (vRow 0) (qhl (vC (cSl q11q)) (qhl (vC (cInt .i64)) (qhn (vC (cInt .i64)))))) (qhn (qkg (bRow q11q))) [false] [] (by decide) (fun _=>rfl)
def qx8:=sLS [3,12,13,14,15] (qhl (vRow 0) (qhl (vC (cSl q11q)) (qhl (vC (cInt .i64)) (qhl (vC (cInt .i64)) (qhn (vC cBool)))))) (qhn (qkg (bRow q11q))) [false] [] (by decide) (fun _=>rfl)
def qx7:=oAt 2 qx8
def qx5 (out:Nat) (t12:(List S40)) (t13:Int) (t14:Int) (b0:(List S40)):Option ((Nat×(List S40)×Int×Int×Bool)×(List S40)):=lS Try.prog lv X0 12 51 (qfp (cdF Try.f12) 5) qx9 qx7 ((out,t12,t13,t14),b0)
def qxa (out:Nat) (t12:(List S40)) (t13:Int) (t14:Int) (b0:(List S40)):Option ((Nat×(List S40)×Int×Int×Bool)×(List S40)) :=
 (brE (decide (t14<t13))
 (gdE (decide (0≤t14))<|
 (gdE ((decide ((Int.toNat t14)<(List.length (EC.encL q11q t12))))&&(isE [(K1.int Go.IntKind.i64),(K1.int Go.IntKind.i64)] 0 (List.getD (EC.encL q11q t12) (Int.toNat t14) [])))<|
 (brE ((decide ((IntKind.wrap .i64 (((out:Nat):Int) - 1))≥0))==true)
 (gdE ((decide (0≤(IntKind.wrap .i64 (((out:Nat):Int) - 1))))&&(decide ((IntKind.wrap .i64 (((out:Nat):Int) - 1))<((out:Nat):Int))))<|
 (gdE ((decide ((Int.toNat (IntKind.wrap .i64 (((out:Nat):Int) - 1)))<(List.length (EC.encL q11q b0))))&&((List.length (List.getD (EC.encL q11q b0) (Int.toNat (IntKind.wrap .i64 (((out:Nat):Int) - 1))) []))==2))<|
 (gdE (isP [(K1.int Go.IntKind.i64)] 1 (List.getD (EC.encL q11q b0) (Int.toNat (IntKind.wrap .i64 (((out:Nat):Int) - 1))) []))<|
 (brE (decide ((qgm (List.getD (List.getD (EC.encL q11q t12) (Int.toNat t14) []) 0 C.ne))≤(qgm (List.getD (List.getD (EC.encL q11q b0) (Int.toNat (IntKind.wrap .i64 (((out:Nat):Int) - 1))) []) 1 C.ne))))
 (gdE ((decide (0≤(IntKind.wrap .i64 (((out:Nat):Int) - 1))))&&(decide ((IntKind.wrap .i64 (((out:Nat):Int) - 1))<((out:Nat):Int))))<|
 (gdE ((decide ((Int.toNat (IntKind.wrap .i64 (((out:Nat):Int) - 1)))<(List.length (EC.encL q11q b0))))&&((List.length (List.getD (EC.encL q11q b0) (Int.toNat (IntKind.wrap .i64 (((out:Nat):Int) - 1))) []))==2))<|
 (gdE (isP [(K1.int Go.IntKind.i64)] 1 (List.getD (EC.encL q11q b0) (Int.toNat (IntKind.wrap .i64 (((out:Nat):Int) - 1))) []))<|
 (gdE ((decide (0≤(IntKind.wrap .i64 (((out:Nat):Int) - 1))))&&(decide ((IntKind.wrap .i64 (((out:Nat):Int) - 1))<((out:Nat):Int))))<|
 (gdE ((decide ((Int.toNat (IntKind.wrap .i64 (((out:Nat):Int) - 1)))<(List.length (EC.encL q11q b0))))&&((List.length (List.getD (EC.encL q11q b0) (Int.toNat (IntKind.wrap .i64 (((out:Nat):Int) - 1))) []))==2))<|
 (gdE (EC.isL q11q (EC.encL q11q t12))<|
 (gdE (EC.isL q11q (List.set (EC.encL q11q b0) (Int.toNat (IntKind.wrap .i64 (((out:Nat):Int) - 1))) (splice (List.getD (EC.encL q11q b0) (Int.toNat (IntKind.wrap .i64 (((out:Nat):Int) - 1))) []) 1 [(C.int Go.IntKind.i64 (ite (true=true) (ite ((qgm (List.getD (List.getD (EC.encL q11q b0) (Int.toNat (IntKind.wrap .i64 (((out:Nat):Int) - 1))) []) 1 C.ne))<(qgm (List.getD (List.getD (EC.encL q11q t12) (Int.toNat t14) []) 1 C.ne))) (qgm (List.getD (List.getD (EC.encL q11q t12) (Int.toNat t14) []) 1 C.ne)) (qgm (List.getD (List.getD (EC.encL q11q b0) (Int.toNat (IntKind.wrap .i64 (((out:Nat):Int) - 1))) []) 1 C.ne))) (ite ((qgm (List.getD (List.getD (EC.encL q11q t12) (Int.toNat t14) []) 1 C.ne))<(qgm (List.getD (List.getD (EC.encL q11q b0) (Int.toNat (IntKind.wrap .i64 (((out:Nat):Int) - 1))) []) 1 C.ne))) (qgm (List.getD (List.getD (EC.encL q11q t12) (Int.toNat t14) []) 1 C.ne)) (qgm (List.getD (List.getD (EC.encL q11q b0) (Int.toNat (IntKind.wrap .i64 (((out:Nat):Int) - 1))) []) 1 C.ne)))))])))<|
 (qx5 out (EC.decL q11q (EC.encL q11q t12)) t13 (IntKind.wrap .i64 (t14+1)) (EC.decL q11q (List.set (EC.encL q11q b0) (Int.toNat (IntKind.wrap .i64 (((out:Nat):Int) - 1))) (splice (List.getD (EC.encL q11q b0) (Int.toNat (IntKind.wrap .i64 (((out:Nat):Int) - 1))) []) 1 [(C.int Go.IntKind.i64 (ite (true=true) (ite ((qgm (List.getD (List.getD (EC.encL q11q b0) (Int.toNat (IntKind.wrap .i64 (((out:Nat):Int) - 1))) []) 1 C.ne))<(qgm (List.getD (List.getD (EC.encL q11q t12) (Int.toNat t14) []) 1 C.ne))) (qgm (List.getD (List.getD (EC.encL q11q t12) (Int.toNat t14) []) 1 C.ne)) (qgm (List.getD (List.getD (EC.encL q11q b0) (Int.toNat (IntKind.wrap .i64 (((out:Nat):Int) - 1))) []) 1 C.ne))) (ite ((qgm (List.getD (List.getD (EC.encL q11q t12) (Int.toNat t14) []) 1 C.ne))<(qgm (List.getD (List.getD (EC.encL q11q b0) (Int.toNat (IntKind.wrap .i64 (((out:Nat):Int) - 1))) []) 1 C.ne))) (qgm (List.getD (List.getD (EC.encL q11q t12) (Int.toNat t14) []) 1 C.ne)) (qgm (List.getD (List.getD (EC.encL q11q b0) (Int.toNat (IntKind.wrap .i64 (((out:Nat):Int) - 1))) []) 1 C.ne)))))])))))))))))
 (gdE ((((List.all [[(C.int Go.IntKind.i64 (qgm (List.getD (List.getD (EC.encL q11q t12) (Int.toNat t14) []) 0 C.ne))),(C.int Go.IntKind.i64 (qgm (List.getD (List.getD (EC.encL q11q t12) (Int.toNat t14) []) 1 C.ne)))]] (fun (el:(List C))=>((List.length el)==2)))&&(List.all (EC.encL q11q b0) (fun (el:(List C))=>((List.length el)==2))))&&(decide (((((out+(List.length [[(C.int Go.IntKind.i64 (qgm (List.getD (List.getD (EC.encL q11q t12) (Int.toNat t14) []) 0 C.ne))),(C.int Go.IntKind.i64 (qgm (List.getD (List.getD (EC.encL q11q t12) (Int.toNat t14) []) 1 C.ne)))]]))+((out+(List.length [[(C.int Go.IntKind.i64 (qgm (List.getD (List.getD (EC.encL q11q t12) (Int.toNat t14) []) 0 C.ne))),(C.int Go.IntKind.i64 (qgm (List.getD (List.getD (EC.encL q11q t12) (Int.toNat t14) []) 1 C.ne)))]])) / 4))+192)*16)≤281474976710656)))&&(decide ((out+(List.length [[(C.int Go.IntKind.i64 (qgm (List.getD (List.getD (EC.encL q11q t12) (Int.toNat t14) []) 0 C.ne))),(C.int Go.IntKind.i64 (qgm (List.getD (List.getD (EC.encL q11q t12) (Int.toNat t14) []) 1 C.ne)))]]))≤9223372036854775807)))<|
 (gdE (EC.isL q11q (EC.encL q11q t12))<|
 (gdE (EC.isL q11q ((EC.encL q11q b0)++[[(C.int Go.IntKind.i64 (qgm (List.getD (List.getD (EC.encL q11q t12) (Int.toNat t14) []) 0 C.ne))),(C.int Go.IntKind.i64 (qgm (List.getD (List.getD (EC.encL q11q t12) (Int.toNat t14) []) 1 C.ne)))]]))<|
 (qx5 (out+(List.length [[(C.int Go.IntKind.i64 (qgm (List.getD (List.getD (EC.encL q11q t12) (Int.toNat t14) []) 0 C.ne))),(C.int Go.IntKind.i64 (qgm (List.getD (List.getD (EC.encL q11q t12) (Int.toNat t14) []) 1 C.ne)))]])) (EC.decL q11q (EC.encL q11q t12)) t13 (IntKind.wrap .i64 (t14+1)) (EC.decL q11q ((EC.encL q11q b0)++[[(C.int Go.IntKind.i64 (qgm (List.getD (List.getD (EC.encL q11q t12) (Int.toNat t14) []) 0 C.ne))),(C.int Go.IntKind.i64 (qgm (List.getD (List.getD (EC.encL q11q t12) (Int.toNat t14) []) 1 C.ne)))]]))))))))))
 (gdE ((((List.all [[(C.int Go.IntKind.i64 (qgm (List.getD (List.getD (EC.encL q11q t12) (Int.toNat t14) []) 0 C.ne))),(C.int Go.IntKind.i64 (qgm (List.getD (List.getD (EC.encL q11q t12) (Int.toNat t14) []) 1 C.ne)))]] (fun (el:(List C))=>((List.length el)==2)))&&(List.all (EC.encL q11q b0) (fun (el:(List C))=>((List.length el)==2))))&&(decide (((((out+(List.length [[(C.int Go.IntKind.i64 (qgm (List.getD (List.getD (EC.encL q11q t12) (Int.toNat t14) []) 0 C.ne))),(C.int Go.IntKind.i64 (qgm (List.getD (List.getD (EC.encL q11q t12) (Int.toNat t14) []) 1 C.ne)))]]))+((out+(List.length [[(C.int Go.IntKind.i64 (qgm (List.getD (List.getD (EC.encL q11q t12) (Int.toNat t14) []) 0 C.ne))),(C.int Go.IntKind.i64 (qgm (List.getD (List.getD (EC.encL q11q t12) (Int.toNat t14) []) 1 C.ne)))]])) / 4))+192)*16)≤281474976710656)))&&(decide ((out+(List.length [[(C.int Go.IntKind.i64 (qgm (List.getD (List.getD (EC.encL q11q t12) (Int.toNat t14) []) 0 C.ne))),(C.int Go.IntKind.i64 (qgm (List.getD (List.getD (EC.encL q11q t12) (Int.toNat t14) []) 1 C.ne)))]]))≤9223372036854775807)))<|
 (gdE (EC.isL q11q (EC.encL q11q t12))<|
 (gdE (EC.isL q11q ((EC.encL q11q b0)++[[(C.int Go.IntKind.i64 (qgm (List.getD (List.getD (EC.encL q11q t12) (Int.toNat t14) []) 0 C.ne))),(C.int Go.IntKind.i64 (qgm (List.getD (List.getD (EC.encL q11q t12) (Int.toNat t14) []) 1 C.ne)))]]))<|
 (qx5 (out+(List.length [[(C.int Go.IntKind.i64 (qgm (List.getD (List.getD (EC.encL q11q t12) (Int.toNat t14) []) 0 C.ne))),(C.int Go.IntKind.i64 (qgm (List.getD (List.getD (EC.encL q11q t12) (Int.toNat t14) []) 1 C.ne)))]])) (EC.decL q11q (EC.encL q11q t12)) t13 (IntKind.wrap .i64 (t14+1)) (EC.decL q11q ((EC.encL q11q b0)++[[(C.int Go.IntKind.i64 (qgm (List.getD (List.getD (EC.encL q11q t12) (Int.toNat t14) []) 0 C.ne))),(C.int Go.IntKind.i64 (qgm (List.getD (List.getD (EC.encL q11q t12) (Int.toNat t14) []) 1 C.ne)))]])))))))))
 (gdE (EC.isL q11q (EC.encL q11q t12))<|
 (gdE (EC.isL q11q (EC.encL q11q b0))<|
 (some ((out,((EC.decL q11q (EC.encL q11q t12)),(t13,(t14,false)))),(EC.decL q11q (EC.encL q11q b0)))))))
theorem qx6 {out t12 t13 t14 b0 r} (h:qxa out t12 t13 t14 b0=some r):qx5 out t12 t13 t14 b0=some r :=
 qhp (es:=qvh) (hs:=[]) [] (by kernel_rfl) trivial trivial (by kernel_rfl) h
def q81:=(qhn (vC (cInt .i64)))
def q82:Cod (V×List B) Bool:=(cFstU (cPair (vC cBool) qhm))
def q85 (x:Int):Option Bool:=fS Try.prog lv X0 47 q81 q82 x
def q86 (x:Int):Option Bool :=
 (some (x != x))
theorem q84 {x r} (h:q86 x=some r):q85 x=some r :=
 qbx (es:=qvh) (hs:=[]) [] Try.func47 rfl (by kernel_rfl) rfl (by kernel_rfl) (by kernel_rfl) trivial trivial (by kernel_rfl) h
def q83:=entS Try.prog lv X0 47 [] q81 q82 (fun x=>q85 x) (fun _ _ h=>qbw h)
def quh:=q83::qvh
def qs6:=(qhn (vC (cInt .i64)))
def qs7:Cod (V×List B) Bool:=(cFstU (cPair (vC cBool) qhm))
def qsb (x:Int):Option Bool:=fS Try.prog lv X0 56 qs6 qs7 x
def qsc (x:Int):Option Bool :=
 (some (x != x))
theorem qs9 {x r} (h:qsc x=some r):qsb x=some r :=
 qbx (es:=quh) (hs:=[]) [] Try.func56 rfl (by kernel_rfl) rfl (by kernel_rfl) (by kernel_rfl) trivial trivial (by kernel_rfl) h
def qs8:=entS Try.prog lv X0 56 [] qs6 qs7 (fun x=>qsb x) (fun _ _ h=>qbw h)
def qvd:=qs8::quh
def q7u:=(qhl (vC (cInt .i64)) (qhn (vC (cInt .i64))))
def q7v:Cod (V×List B) Bool:=(cFstU (cPair (vC cBool) qhm))
def q7z (x:Int) (y:Int):Option Bool:=fS Try.prog lv X0 55 q7u q7v (x,y)
def q80 (x:Int) (y:Int):Option Bool :=
 ((q85 x).bind fun r0 =>
 (brE (r0==true)
 ((q85 y).bind fun r1 =>
 (brE ((!r1)==false)
 (some (decide (x<y)))
 (some true)))
 (some (decide (x<y)))))
theorem q7x {x y r} (h:q80 x y=some r):q7z x y=some r :=
 qbx (es:=qvd) (hs:=[]) [] Try.func55 rfl (by kernel_rfl) rfl (by kernel_rfl) (by kernel_rfl) trivial trivial (by kernel_rfl) h
def q7w:=entS Try.prog lv X0 55 [] q7u q7v (fun x=>q7z x.1 x.2) (fun _ _ h=>qbw h)
def qug:=q7w::qvd
def bsI_ca:=(qhl (vC (cSl qak)) (qhn (vC (cInt .i64))))
def q5u:=sLS [0,1,6,7,8] (qhl (vC (cSl qak)) (qhl (vC (cInt .i64)) (qhl (vC (cInt .i64)) (qhl (vC (cInt .i64)) (qhn (vC (cInt .i64))))))) qhm [] [] (by decide) (fun _=>rfl)
def q5t:=sLS [0,1,6,7,8,15] (qhl (vC (cSl qak)) (qhl (vC (cInt .i64)) (qhl (vC (cInt .i64)) (qhl (vC (cInt .i64)) (qhl (vC (cInt .i64)) (qhn (vC cBool))))))) qhm [] [] (by decide) (fun _=>rfl)
def q5s:=oAt 2 q5t
def bsI_l3 (x:(List Int)) (target:Int) (n:Int) (i:Int) (j:Int):Option (((List Int)×Int×Int×Int×Int×Bool)×Unit):=lS Try.prog lv X0 39 54 (qfp (cdF Try.f39) 3) q5u q5s ((x,target,n,i,j),())
def q5v (x:(List Int)) (target:Int) (n:Int) (i:Int) (j:Int):Option (((List Int)×Int×Int×Int×Int×Bool)×Unit) :=
 (brE (decide (i<j))
 (gdE (decide (0≤(IntKind.wrap .i64 (Int.fdiv (IntKind.wrap .u64 (IntKind.wrap .i64 (i+j))) (2 ^ (Min.min (Int.toNat 1) (Go.IntKind.bits Go.IntKind.u64)))))))<|
 (gdE ((decide ((Int.toNat (IntKind.wrap .i64 (Int.fdiv (IntKind.wrap .u64 (IntKind.wrap .i64 (i+j))) (2 ^ (Min.min (Int.toNat 1) (Go.IntKind.bits Go.IntKind.u64))))))<(List.length (EC.encL qak x))))&&(isE [(K1.int Go.IntKind.i64)] 0 (List.getD (EC.encL qak x) (Int.toNat (IntKind.wrap .i64 (Int.fdiv (IntKind.wrap .u64 (IntKind.wrap .i64 (i+j))) (2 ^ (Min.min (Int.toNat 1) (Go.IntKind.bits Go.IntKind.u64)))))) [])))<|
 (Option.bind (q7z (qgm (List.getD (List.getD (EC.encL qak x) (Int.toNat (IntKind.wrap .i64 (Int.fdiv (IntKind.wrap .u64 (IntKind.wrap .i64 (i+j))) (2 ^ (Min.min (Int.toNat 1) (Go.IntKind.bits Go.IntKind.u64)))))) []) 0 C.ne)) target) fun r0 =>
 (brE r0
 (gdE (EC.isL qak (EC.encL qak x))<|
 (bsI_l3 (EC.decL qak (EC.encL qak x)) target n (IntKind.wrap .i64 ((IntKind.wrap .i64 (Int.fdiv (IntKind.wrap .u64 (IntKind.wrap .i64 (i+j))) (2 ^ (Min.min (Int.toNat 1) (Go.IntKind.bits Go.IntKind.u64)))))+1)) j))
 (gdE (EC.isL qak (EC.encL qak x))<|
 (bsI_l3 (EC.decL qak (EC.encL qak x)) target n i (IntKind.wrap .i64 (Int.fdiv (IntKind.wrap .u64 (IntKind.wrap .i64 (i+j))) (2 ^ (Min.min (Int.toNat 1) (Go.IntKind.bits Go.IntKind.u64)))))))))))
 (gdE (EC.isL qak (EC.encL qak x))<|
 (some (((EC.decL qak (EC.encL qak x)),(target,(n,(i,(j,false))))),()))))
theorem q5r {x target n i j r} (h:q5v x target n i j=some r):bsI_l3 x target n i j=some r :=
 qhp (es:=qug) (hs:=[]) [] (by kernel_rfl) trivial trivial (by kernel_rfl) h
def q5q:=qj2 Try.prog lv X0 3 (qfp (cdF Try.f39) 3) q5u q5s (fun x=>bsI_l3 x.1.1 x.1.2.1 x.1.2.2.1 x.1.2.2.2.1 x.1.2.2.2.2) (fun _ _ h=>qho h)
def bsI_cr:Cod (V×List B) (Int×Bool):=(cFstU (cPair (vTup (qhl (vC (cInt .i64)) (qhn (vC cBool)))) qhm))
def bsI_s (x:(List Int)) (target:Int):Option (Int×Bool):=fS Try.prog lv X0 39 bsI_ca bsI_cr (x,target)
def bsI_t (x:(List Int)) (target:Int):Option (Int×Bool) :=
 (gdE (EC.isL qak (EC.encL qak x))<|
 ((bsI_l3 (EC.decL qak (EC.encL qak x)) target (List.length (EC.encL qak x):Int) 0 (List.length (EC.encL qak x):Int)).bind fun r0 =>
 (brE ((decide (r0.1.2.2.2.1<r0.1.2.2.1))==true)
 (gdE (decide (0≤r0.1.2.2.2.1))<|
 (gdE ((decide ((Int.toNat r0.1.2.2.2.1)<(List.length (EC.encL qak r0.1.1))))&&(isE [(K1.int Go.IntKind.i64)] 0 (List.getD (EC.encL qak r0.1.1) (Int.toNat r0.1.2.2.2.1) [])))<|
 (brE (((qgm (List.getD (List.getD (EC.encL qak r0.1.1) (Int.toNat r0.1.2.2.2.1) []) 0 C.ne))==r0.1.2.1)==false)
 (gdE (decide (0≤r0.1.2.2.2.1))<|
 (gdE ((decide ((Int.toNat r0.1.2.2.2.1)<(List.length (EC.encL qak r0.1.1))))&&(isE [(K1.int Go.IntKind.i64)] 0 (List.getD (EC.encL qak r0.1.1) (Int.toNat r0.1.2.2.2.1) [])))<|
 ((qsb (qgm (List.getD (List.getD (EC.encL qak r0.1.1) (Int.toNat r0.1.2.2.2.1) []) 0 C.ne))).bind fun r1 =>
 (brE (r1==true)
 ((qsb r0.1.2.1).bind fun r2 =>
 (some (r0.1.2.2.2.1,r2)))
 (some (r0.1.2.2.2.1,false))))))
 (some (r0.1.2.2.2.1,true)))))
 (some (r0.1.2.2.2.1,false)))))
theorem bsI_eq {x target r} (h:bsI_t x target=some r):bsI_s x target=some r :=
 qbx (es:=qug) (hs:=[]) [q5q] Try.func39 rfl (by kernel_rfl) rfl (by kernel_rfl) (by kernel_rfl) ⟨⟨_,rfl,rfl⟩,trivial⟩ trivial (by kernel_rfl) h
end
end Go.Proofs.Ytjlkjiifkganoaa
