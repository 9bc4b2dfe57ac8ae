/- Functions of the program as plain functions: made by program from the machine. -/
import Derived.Test.YtfakibajjibjjaaGreatDoorGB
namespace Go.Proofs.YtfakibajjibjjaaGreatDoor
set_option linter.unusedSimpArgs false
open Go.RowKit
set_option maxRecDepth 100000
noncomputable section
structure S24 where
 From:Int
 To:Int
def qde:EC S24 where
 enc x:=[.int .i64 x.From,.int .i64 x.To]
 dec c:=⟨qm6 (c.getD 0 .ne),qm6 (c.getD 1 .ne)⟩
 is c:=isE [.int .i64,.int .i64] 0 c
 enc_dec h:=qc1 h
 dec_enc x:=by rfl
 is_enc x:=by simp [isE,isK]
theorem qdp (x:S24):qde.enc x=[.int .i64 x.From,.int .i64 x.To]:=rfl
theorem qmg (xs:List S24) (n:Nat):isE [.int .i64,.int .i64] 0 ((qde.encL xs).getD n [])=decide (n<xs.length):=by
 by_cases h:n<xs.length
 ·simp only [EC.getD_lt _ _ h];simp [qdp,isE,isK,h]
 ·simp only [EC.getD_ge _ _ (Nat.not_lt.1 h)];simp [isE,isK,h]
theorem q3a (xs:List S24) (n:Nat):qm6 (((qde.encL xs).getD n []).getD 0 .ne)=(xs.getD n (qde.dec [])).From:=by
 by_cases h:n<xs.length
 ·simp only [EC.getD_lt _ _ h];simp [qdp,h,q10v,qm6,q76,slOf,List.getD_eq_getElem?_getD]
 ·simp only [EC.getD_ge _ _ (Nat.not_lt.1 h)];simp [Nat.not_lt.1 h,qde,q10v,qm6,q76,slOf,List.getD_eq_getElem?_getD,EC.decL,EC.encL]
theorem q3b (xs:List S24) (n:Nat):qm6 (((qde.encL xs).getD n []).getD 1 .ne)=(xs.getD n (qde.dec [])).To:=by
 by_cases h:n<xs.length
 ·simp only [EC.getD_lt _ _ h];simp [qdp,h,q10v,qm6,q76,slOf,List.getD_eq_getElem?_getD]
 ·simp only [EC.getD_ge _ _ (Nat.not_lt.1 h)];simp [Nat.not_lt.1 h,qde,q10v,qm6,q76,slOf,List.getD_eq_getElem?_getD,EC.decL,EC.encL]
theorem lit_24 (a0:Int) (a1:Int):([.int .i64 a0,.int .i64 a1]:List C)=qde.enc (⟨a0,a1⟩:S24):=rfl
theorem q2w (xs:List S24) (a0:Int) (a1:Int):qde.encL xs++[[.int .i64 a0,.int .i64 a1]]=qde.encL (xs++[(⟨a0,a1⟩:S24)]):=by rw [lit_24];simp [EC.encL]
theorem len_24 (xs:List S24) (n:Nat) (h:n<xs.length):((qde.encL xs).getD n []).length=2:=by rw [EC.getD_lt _ _ h];rfl
theorem q29 (xs:List S24):(qde.encL xs).all (fun (el:List C)=>el.length==2)=true:=by induction xs with|nil=>rfl|cons x xs ih=>first|(simp [EC.encL,qdp];done)|simpa [EC.encL,qdp] using ih
theorem qxe (xs:List S24) (n:Nat) (a0:Int) (a1:Int):(qde.encL xs).set n (splice ((qde.encL xs).getD n []) 0 [.int .i64 a0,.int .i64 a1])=qde.encL (xs.set n ({ xs.getD n (qde.dec []) with From:=a0,To:=a1 })):=by
 by_cases h:n<xs.length
 ·rw [EC.getD_lt _ _ h];simp [EC.encL,List.map_set,qdp,splice,List.getD_eq_getElem?_getD,h]
 ·simp [EC.encL,List.set_eq_of_length_le,Nat.not_lt.1 h]
theorem qxd (xs:List S24) (n:Nat) (a0:Int):(qde.encL xs).set n (splice ((qde.encL xs).getD n []) 0 [.int .i64 a0])=qde.encL (xs.set n ({ xs.getD n (qde.dec []) with From:=a0 })):=by
 by_cases h:n<xs.length
 ·rw [EC.getD_lt _ _ h];simp [EC.encL,List.map_set,qdp,splice,List.getD_eq_getElem?_getD,h]
 ·simp [EC.encL,List.set_eq_of_length_le,Nat.not_lt.1 h]
theorem qxf (xs:List S24) (n:Nat) (a1:Int):(qde.encL xs).set n (splice ((qde.encL xs).getD n []) 1 [.int .i64 a1])=qde.encL (xs.set n ({ xs.getD n (qde.dec []) with To:=a1 })):=by
 by_cases h:n<xs.length
 ·rw [EC.getD_lt _ _ h];simp [EC.encL,List.map_set,qdp,splice,List.getD_eq_getElem?_getD,h]
 ·simp [EC.encL,List.set_eq_of_length_le,Nat.not_lt.1 h]
def qdg:EC (List S24) where
 enc x:=[.sl (qde.encL x)]
 dec c:=qde.decL (slOf (c.getD 0 .ne))
 is c:=isE [.sl] 0 c&&qde.isL (slOf (c.getD 0 .ne))
 enc_dec h:=by
  simp only [Bool.and_eq_true] at h
  have h0:=qc1 h.1
  simp only [decE,decC] at h0
  simp only [EC.encL_decL _ h.2]
  exact h0
 dec_enc x:=by simp [q10v,qm6,q76,slOf]
 is_enc x:=by simp [isE,isK,slOf]
theorem enc_31 (x:(List S24)):qdg.enc x=[.sl (qde.encL x)]:=rfl
theorem qmi (xs:List (List S24)) (n:Nat):isE [.sl] 0 ((qdg.encL xs).getD n [])=decide (n<xs.length):=by
 by_cases h:n<xs.length
 ·simp only [EC.getD_lt _ _ h];simp [enc_31,isE,isK,h]
 ·simp only [EC.getD_ge _ _ (Nat.not_lt.1 h)];simp [isE,isK,h]
theorem q3c (xs:List (List S24)) (n:Nat):slOf (((qdg.encL xs).getD n []).getD 0 .ne)=qde.encL (xs.getD n (qdg.dec [])):=by
 by_cases h:n<xs.length
 ·simp only [EC.getD_lt _ _ h];simp [enc_31,h,q10v,qm6,q76,slOf,List.getD_eq_getElem?_getD]
 ·simp only [EC.getD_ge _ _ (Nat.not_lt.1 h)];simp [Nat.not_lt.1 h,qdg,q10v,qm6,q76,slOf,List.getD_eq_getElem?_getD,EC.decL,EC.encL]
theorem lit_31 (a0:(List S24)):([.sl (qde.encL a0)]:List C)=qdg.enc a0:=rfl
theorem q2y (xs:List (List S24)) (a0:(List S24)):qdg.encL xs++[[.sl (qde.encL a0)]]=qdg.encL (xs++[a0]):=by rw [lit_31];simp [EC.encL]
theorem q2b (xs:List (List S24)):(qdg.encL xs).all (fun (el:List C)=>el.length==1)=true:=by induction xs with|nil=>rfl|cons x xs ih=>first|(simp [EC.encL,enc_31];done)|simpa [EC.encL,enc_31] using ih
theorem qxg (xs:List (List S24)) (n:Nat) (a0:(List S24)):(qdg.encL xs).set n (splice ((qdg.encL xs).getD n []) 0 [.sl (qde.encL a0)])=qdg.encL (xs.set n (a0)):=by
 by_cases h:n<xs.length
 ·rw [EC.getD_lt _ _ h];simp [EC.encL,List.map_set,enc_31,splice,List.getD_eq_getElem?_getD,h]
 ·simp [EC.encL,List.set_eq_of_length_le,Nat.not_lt.1 h]
def q5h:=(qni (vC (cInt .i64)) (qnk (vC (cInt .i64))))
def q5i:Cod (V×List B) (Int×Int):=(cFstU (cPair (vAgg (qni (vC (cInt .i64)) (qnk (vC (cInt .i64))))) qnj))
def q5l (code:Int) (at_:Int):Option (Int×Int):=fS Tryz.prog lv X0 13 q5h q5i (code,at_)
def q5m (code:Int) (at_:Int):Option (Int×Int) :=
 (some (code,at_))
theorem q5k {code at_ r} (h:q5m code at_=some r):q5l code at_=some r :=
 qf4 (es:=tab0) (hs:=[]) [] Tryz.func13 rfl (by kernel_rfl) rfl (by kernel_rfl) (by kernel_rfl) trivial trivial (by kernel_rfl) h
def q5j:=entS Tryz.prog lv X0 13 [] q5h q5i (fun x=>q5l x.1 x.2) (fun _ _ h=>qf3 h)
def q119:=q5j::tab0
def q65:Cod (List V) Unit:=qnj
def q66:Cod (V×List B) (Int×Int):=(cFstU (cPair (vAgg (qni (vC (cInt .i64)) (qnk (vC (cInt .i64))))) qnj))
def q69 :Option (Int×Int):=fS Tryz.prog lv X0 19 q65 q66 ()
def q6a :Option (Int×Int) :=
 (some (0,0))
theorem q68 {r} (h:q6a =some r):q69 =some r :=
 qf4 (es:=q119) (hs:=[]) [] Tryz.func19 rfl (by kernel_rfl) rfl (by kernel_rfl) (by kernel_rfl) trivial trivial (by kernel_rfl) h
def q67:=entS Tryz.prog lv X0 19 [] q65 q66 (fun x=>q69 ) (fun _ _ h=>qf3 h)
def q11d:=q67::q119
def q5b:=(qnk (vAgg (qni (vC (cInt .i64)) (qnk (vC (cInt .i64))))))
def q5c:Cod (V×List B) Bool:=(cFstU (cPair (vC cBool) qnj))
def q5f (f_Code:Int) (f_Index:Int):Option Bool:=fS Tryz.prog lv X0 15 q5b q5c (f_Code,f_Index)
def q5g (f_Code:Int) (f_Index:Int):Option Bool :=
 (some (f_Code != 0))
theorem q5e {f_Code f_Index r} (h:q5g f_Code f_Index=some r):q5f f_Code f_Index=some r :=
 qf4 (es:=q11d) (hs:=[]) [] Tryz.func15 rfl (by kernel_rfl) rfl (by kernel_rfl) (by kernel_rfl) trivial trivial (by kernel_rfl) h
def q5d:=entS Tryz.prog lv X0 15 [] q5b q5c (fun x=>q5f x.1 x.2) (fun _ _ h=>qf3 h)
def q118:=q5d::q11d
def q6b:=(qnk (vC (cInt .i64)))
def q6c:Cod (V×List B) Bool:=(cFstU (cPair (vC cBool) qnj))
def q6f (t:Int):Option Bool:=fS Tryz.prog lv X0 42 q6b q6c t
def q6g (t:Int):Option Bool :=
 (brE ((decide (t≥(-68719476736)))==true)
 (some (decide (t≤68719476736)))
 (some false))
theorem q6e {t r} (h:q6g t=some r):q6f t=some r :=
 qf4 (es:=q118) (hs:=[]) [] Tryz.func42 rfl (by kernel_rfl) rfl (by kernel_rfl) (by kernel_rfl) trivial trivial (by kernel_rfl) h
def q6d:=entS Tryz.prog lv X0 42 [] q6b q6c (fun x=>q6f x) (fun _ _ h=>qf3 h)
def q11e:=q6d::q118
def q5n:=(qnk (vC (cInt .u8)))
def q5o:Cod (V×List B) Bool:=(cFstU (cPair (vC cBool) qnj))
def q5r (c:Int):Option Bool:=fS Tryz.prog lv X0 86 q5n q5o c
def q5s (c:Int):Option Bool :=
 (brE ((decide (c≥97))==true)
 (brE ((decide (c≤122))==false)
 (brE ((decide (c≥65))==true)
 (brE ((decide (c≤90))==false)
 (brE ((decide (c≥48))==true)
 (some (decide (c≤57)))
 (some false))
 (some true))
 (brE ((decide (c≥48))==true)
 (some (decide (c≤57)))
 (some false)))
 (some true))
 (brE ((decide (c≥65))==true)
 (brE ((decide (c≤90))==false)
 (brE ((decide (c≥48))==true)
 (some (decide (c≤57)))
 (some false))
 (some true))
 (brE ((decide (c≥48))==true)
 (some (decide (c≤57)))
 (some false))))
theorem q5q {c r} (h:q5s c=some r):q5r c=some r :=
 qf4 (es:=q11e) (hs:=[]) [] Tryz.func86 rfl (by kernel_rfl) rfl (by kernel_rfl) (by kernel_rfl) trivial trivial (by kernel_rfl) h
def q5p:=entS Tryz.prog lv X0 86 [] q5n q5o (fun x=>q5r x) (fun _ _ h=>qf3 h)
def q11a:=q5p::q11e
def q5t:=(qnk (vC (cInt .u8)))
def q5u:Cod (V×List B) Bool:=(cFstU (cPair (vC cBool) qnj))
def q5x (c:Int):Option Bool:=fS Tryz.prog lv X0 85 q5t q5u c
def q5y (c:Int):Option Bool :=
 ((q5r c).bind fun r0 =>
 (brE (r0==false)
 (brE ((c==45)==false)
 (brE ((c==95)==false)
 (some (c==46))
 (some true))
 (some true))
 (some true)))
theorem q5w {c r} (h:q5y c=some r):q5x c=some r :=
 qf4 (es:=q11a) (hs:=[]) [] Tryz.func85 rfl (by kernel_rfl) rfl (by kernel_rfl) (by kernel_rfl) trivial trivial (by kernel_rfl) h
def q5v:=entS Tryz.prog lv X0 85 [] q5t q5u (fun x=>q5x x) (fun _ _ h=>qf3 h)
def q11c:=q5v::q11a
def q1t:Cod (List V) (ByteArray×Unit):=(qni (vC cStr) (qnk (vFn 85 qnj)))
def q23:=sLS [0,1,7,8] (qni (vC cStr) (qni (vFn 85 qnj) (qni (vC (cInt .i64)) (qnk (vC (cInt .i64)))))) qnj [] [] (by decide) (fun _=>rfl)
def q22:=sLS [0,1,7,8,9] (qni (vC cStr) (qni (vFn 85 qnj) (qni (vC (cInt .i64)) (qni (vC (cInt .i64)) (qnk (vC cBool)))))) qnj [] [] (by decide) (fun _=>rfl)
def q21:=sLS [4] (qnk (vC cBool)) qnj [] [] (by decide) (fun _=>rfl)
def q20:=oOr 1 q21 (oAt 2 q22) (fun x=>(by decide:(2:Nat)≠1))
def q1x (s:ByteArray) (t7:Int) (t8:Int):Option ((Bool×Unit)⊕((ByteArray×Unit×Int×Int×Bool)×Unit)):=lS Tryz.prog lv X0 84 18 (qix (cdF Tryz.f84) 2) q23 q20 ((s,(),t7,t8),())
def q24 (s:ByteArray) (t7:Int) (t8:Int):Option ((Bool×Unit)⊕((ByteArray×Unit×Int×Int×Bool)×Unit)) :=
 (brE (decide (t8<t7))
 (gdE ((decide (0≤t8))&&(decide ((Int.toNat t8)<s.size)))<|
 ((q5x (((UInt8.toNat (Array.getD s.data (Int.toNat t8) (0:UInt8))):Nat):Int)).bind fun r0 =>
 (brE (!r0)
 (some (.inl (false,())))
 (q1x s t7 (IntKind.wrap .i64 (t8+1))))))
 (some (.inr ((s,((),(t7,(t8,false)))),()))))
theorem q1z {s t7 t8 r} (h:q24 s t7 t8=some r):q1x s t7 t8=some r :=
 qnm (es:=q11c) (hs:=[]) [] (by kernel_rfl) trivial trivial (by kernel_rfl) h
def q1y:=qp9 Tryz.prog lv X0 2 (qix (cdF Tryz.f84) 2) q23 q20 (fun x=>q1x x.1.1 x.1.2.2.1 x.1.2.2.2) (fun _ _ h=>qnl h)
def q1u:Cod (V×List B) Bool:=(cFstU (cPair (vC cBool) qnj))
def q27 (s:ByteArray):Option Bool:=fS Tryz.prog lv X0 84 q1t q1u (s,())
def q28 (s:ByteArray):Option Bool :=
 ((q1x s (s.size:Int) 0).bind fun r0 =>
 (Sum.elim (fun r1=>(some r1.1))
 (fun r1=>(some true)) r0))
theorem q1w {s r} (h:q28 s=some r):q27 s=some r :=
 qf4 (es:=q11c) (hs:=[]) [q1y] Tryz.func84 rfl (by kernel_rfl) rfl (by kernel_rfl) (by kernel_rfl) ⟨⟨_,rfl,rfl⟩,trivial⟩ trivial (by kernel_rfl) h
def q1v:=entS Tryz.prog lv X0 84 [85] q1t q1u (fun x=>q27 x.1) (fun _ _ h=>qf3 h)
def q112:=q1v::q11c
def q5z:=(qnk (vC cStr))
def q60:Cod (V×List B) Bool:=(cFstU (cPair (vC cBool) qnj))
def q63 (s:ByteArray):Option Bool:=fS Tryz.prog lv X0 43 q5z q60 s
def q64 (s:ByteArray):Option Bool :=
 (brE ((!(s.toList==(ByteArray.toList ⟨#[]⟩)))==true)
 (brE ((decide ((s.size:Int)≤60))==true)
 ((q27 s).bind fun r0 =>
 (some r0))
 (some false))
 (some false))
theorem q62 {s r} (h:q64 s=some r):q63 s=some r :=
 qf4 (es:=q112) (hs:=[]) [] Tryz.func43 rfl (by kernel_rfl) rfl (by kernel_rfl) (by kernel_rfl) trivial trivial (by kernel_rfl) h
def q61:=entS Tryz.prog lv X0 43 [] q5z q60 (fun x=>q63 x) (fun _ _ h=>qf3 h)
def q11b:=q61::q112
def q17j:=(qni (vC (cInt .i64)) (qni (vC (cInt .i64)) (qnk (vC (cInt .i64)))))
def q17k:Cod (V×List B) Bool:=(cFstU (cPair (vC cBool) qnj))
def q17o (n:Int) (low:Int) (high:Int):Option Bool:=fS Tryz.prog lv X0 44 q17j q17k (n,low,high)
def q17p (n:Int) (low:Int) (high:Int):Option Bool :=
 (brE ((decide (n≥low))==true)
 (some (decide (n≤high)))
 (some false))
theorem q17m {n low high r} (h:q17p n low high=some r):q17o n low high=some r :=
 qf4 (es:=q11b) (hs:=[]) [] Tryz.func44 rfl (by kernel_rfl) rfl (by kernel_rfl) (by kernel_rfl) trivial trivial (by kernel_rfl) h
def q17l:=entS Tryz.prog lv X0 44 [] q17j q17k (fun x=>q17o x.1 x.2.1 x.2.2) (fun _ _ h=>qf3 h)
def q12w:=q17l::q11b
def q16b:=(qnk (vAgg (qni (vC cStr) (qni (vC (cInt .i64)) (qni (vC (cInt .i64)) (qni (vC (cInt .i64)) (qni (vC (cInt .i64)) (qni (vC (cInt .i64)) (qni (vC (cInt .i64)) (qni (vC (cInt .i64)) (qni (vC (cInt .i64)) (qni (vC (cInt .i64)) (qnk (vC (cInt .i64)))))))))))))))
def q16c:Cod (V×List B) Bool:=(cFstU (cPair (vC cBool) qnj))
def q16g (z_Name:ByteArray) (z_Standard:Int) (z_Summer:Int) (z_Begin_Month:Int) (z_Begin_Week:Int) (z_Begin_Weekday:Int) (z_Begin_Minute:Int) (z_End_Month:Int) (z_End_Week:Int) (z_End_Weekday:Int) (z_End_Minute:Int):Option Bool:=fS Tryz.prog lv X0 45 q16b q16c (z_Name,z_Standard,z_Summer,z_Begin_Month,z_Begin_Week,z_Begin_Weekday,z_Begin_Minute,z_End_Month,z_End_Week,z_End_Weekday,z_End_Minute)
def q16h (z_Name:ByteArray) (z_Standard:Int) (z_Summer:Int) (z_Begin_Month:Int) (z_Begin_Week:Int) (z_Begin_Weekday:Int) (z_Begin_Minute:Int) (z_End_Month:Int) (z_End_Week:Int) (z_End_Weekday:Int) (z_End_Minute:Int):Option Bool :=
 (some ((z_Begin_Month==0)&&((z_Begin_Week==0)&&((z_Begin_Weekday==0)&&((z_Begin_Minute==0)&&true)))))
theorem q16e {z_Name z_Standard z_Summer z_Begin_Month z_Begin_Week z_Begin_Weekday z_Begin_Minute z_End_Month z_End_Week z_End_Weekday z_End_Minute r} (h:q16h z_Name z_Standard z_Summer z_Begin_Month z_Begin_Week z_Begin_Weekday z_Begin_Minute z_End_Month z_End_Week z_End_Weekday z_End_Minute=some r):q16g z_Name z_Standard z_Summer z_Begin_Month z_Begin_Week z_Begin_Weekday z_Begin_Minute z_End_Month z_End_Week z_End_Weekday z_End_Minute=some r :=
 qf4 (es:=q12w) (hs:=[]) [] Tryz.func45 rfl (by kernel_rfl) rfl (by kernel_rfl) (by kernel_rfl) trivial trivial (by kernel_rfl) h
def q16d:=entS Tryz.prog lv X0 45 [] q16b q16c (fun x=>q16g x.1 x.2.1 x.2.2.1 x.2.2.2.1 x.2.2.2.2.1 x.2.2.2.2.2.1 x.2.2.2.2.2.2.1 x.2.2.2.2.2.2.2.1 x.2.2.2.2.2.2.2.2.1 x.2.2.2.2.2.2.2.2.2.1 x.2.2.2.2.2.2.2.2.2.2) (fun _ _ h=>qf3 h)
def q12r:=q16d::q12w
def q176:=(qnk (vAgg (qni (vC (cInt .i64)) (qni (vC (cInt .i64)) (qni (vC (cInt .i64)) (qnk (vC (cInt .i64))))))))
def q177:Cod (V×List B) Bool:=(cFstU (cPair (vC cBool) qnj))
def q17b (t_Month:Int) (t_Week:Int) (t_Weekday:Int) (t_Minute:Int):Option Bool:=fS Tryz.prog lv X0 46 q176 q177 (t_Month,t_Week,t_Weekday,t_Minute)
def q17c (t_Month:Int) (t_Week:Int) (t_Weekday:Int) (t_Minute:Int):Option Bool :=
 ((q17o t_Month 1 12).bind fun r0 =>
 (brE (r0==true)
 ((q17o t_Week 1 5).bind fun r1 =>
 (brE (r1==true)
 ((q17o t_Weekday 0 6).bind fun r2 =>
 (brE (r2==true)
 ((q17o t_Minute 0 1439).bind fun r3 =>
 (some r3))
 (some false)))
 (some false)))
 (some false)))
theorem q179 {t_Month t_Week t_Weekday t_Minute r} (h:q17c t_Month t_Week t_Weekday t_Minute=some r):q17b t_Month t_Week t_Weekday t_Minute=some r :=
 qf4 (es:=q12r) (hs:=[]) [] Tryz.func46 rfl (by kernel_rfl) rfl (by kernel_rfl) (by kernel_rfl) trivial trivial (by kernel_rfl) h
def q178:=entS Tryz.prog lv X0 46 [] q176 q177 (fun x=>q17b x.1 x.2.1 x.2.2.1 x.2.2.2) (fun _ _ h=>qf3 h)
def q12u:=q178::q12r
def q17f:=(qnk (vAgg (qni (vC cStr) (qni (vC (cInt .i64)) (qni (vC (cInt .i64)) (qni (vC (cInt .i64)) (qni (vC (cInt .i64)) (qni (vC (cInt .i64)) (qni (vC (cInt .i64)) (qni (vC (cInt .i64)) (qni (vC (cInt .i64)) (qni (vC (cInt .i64)) (qnk (vC (cInt .i64)))))))))))))))
def q17g:Cod (V×List B) (Int×Int):=(cFstU (cPair (vAgg (qni (vC (cInt .i64)) (qnk (vC (cInt .i64))))) qnj))
def zval_s (z_Name:ByteArray) (z_Standard:Int) (z_Summer:Int) (z_Begin_Month:Int) (z_Begin_Week:Int) (z_Begin_Weekday:Int) (z_Begin_Minute:Int) (z_End_Month:Int) (z_End_Week:Int) (z_End_Weekday:Int) (z_End_Minute:Int):Option (Int×Int):=fS Tryz.prog lv X0 16 q17f q17g (z_Name,z_Standard,z_Summer,z_Begin_Month,z_Begin_Week,z_Begin_Weekday,z_Begin_Minute,z_End_Month,z_End_Week,z_End_Weekday,z_End_Minute)
def zval_t (z_Name:ByteArray) (z_Standard:Int) (z_Summer:Int) (z_Begin_Month:Int) (z_Begin_Week:Int) (z_Begin_Weekday:Int) (z_Begin_Minute:Int) (z_End_Month:Int) (z_End_Week:Int) (z_End_Weekday:Int) (z_End_Minute:Int):Option (Int×Int) :=
 ((q63 z_Name).bind fun r0 =>
 (brE (!r0)
 ((q5l 10 (-3)).bind fun r1 =>
 (some (r1.1,r1.2)))
 ((q17o z_Standard (-900) 900).bind fun r1 =>
 (brE (!r1)
 ((q5l 3 (-4)).bind fun r2 =>
 (some (r2.1,r2.2)))
 ((q16g z_Name z_Standard z_Summer z_Begin_Month z_Begin_Week z_Begin_Weekday z_Begin_Minute z_End_Month z_End_Week z_End_Weekday z_End_Minute).bind fun r2 =>
 (brE r2
 (brE ((z_Summer != 0)==false)
 (brE (!((z_End_Month==0)&&((z_End_Week==0)&&((z_End_Weekday==0)&&((z_End_Minute==0)&&true)))))
 ((q5l 5 (-5)).bind fun r3 =>
 (some (r3.1,r3.2)))
 (Option.bind q69 fun r3 =>
 (some (r3.1,r3.2))))
 ((q5l 5 (-5)).bind fun r3 =>
 (some (r3.1,r3.2))))
 ((q17o z_Summer (-900) 900).bind fun r3 =>
 (brE ((!r3)==false)
 ((q17o z_Summer (IntKind.wrap .i64 (z_Standard+1)) (IntKind.wrap .i64 (z_Standard+180))).bind fun r4 =>
 (brE (!r4)
 ((q5l 3 (-5)).bind fun r5 =>
 (some (r5.1,r5.2)))
 ((q17b z_Begin_Month z_Begin_Week z_Begin_Weekday z_Begin_Minute).bind fun r5 =>
 (brE (!r5)
 ((q5l 3 (-6)).bind fun r6 =>
 (some (r6.1,r6.2)))
 ((q17b z_End_Month z_End_Week z_End_Weekday z_End_Minute).bind fun r6 =>
 (brE (!r6)
 ((q5l 3 (-7)).bind fun r7 =>
 (some (r7.1,r7.2)))
 (brE (z_Begin_Month==z_End_Month)
 ((q5l 5 (-7)).bind fun r7 =>
 (some (r7.1,r7.2)))
 (Option.bind q69 fun r7 =>
 (some (r7.1,r7.2))))))))))
 ((q5l 3 (-5)).bind fun r4 =>
 (some (r4.1,r4.2)))))))))))
theorem q17h {z_Name z_Standard z_Summer z_Begin_Month z_Begin_Week z_Begin_Weekday z_Begin_Minute z_End_Month z_End_Week z_End_Weekday z_End_Minute r} (h:zval_t z_Name z_Standard z_Summer z_Begin_Month z_Begin_Week z_Begin_Weekday z_Begin_Minute z_End_Month z_End_Week z_End_Weekday z_End_Minute=some r):zval_s z_Name z_Standard z_Summer z_Begin_Month z_Begin_Week z_Begin_Weekday z_Begin_Minute z_End_Month z_End_Week z_End_Weekday z_End_Minute=some r :=
 qf4 (es:=q12u) (hs:=[]) [] Tryz.func16 rfl (by kernel_rfl) rfl (by kernel_rfl) (by kernel_rfl) trivial trivial (by kernel_rfl) h
def zval_e:=entS Tryz.prog lv X0 16 [] q17f q17g (fun x=>zval_s x.1 x.2.1 x.2.2.1 x.2.2.2.1 x.2.2.2.2.1 x.2.2.2.2.2.1 x.2.2.2.2.2.2.1 x.2.2.2.2.2.2.2.1 x.2.2.2.2.2.2.2.2.1 x.2.2.2.2.2.2.2.2.2.1 x.2.2.2.2.2.2.2.2.2.2) (fun _ _ h=>qf3 h)
def q12v:=zval_e::q12u
def qd7:=(qni (vC (cInt .i64)) (qni (vC (cInt .i64)) (qnk (vC (cInt .i64)))))
def qd8:Cod (V×List B) Bool:=(cFstU (cPair (vC cBool) qnj))
def qdc (n:Int) (low:Int) (high:Int):Option Bool:=fS Tryz.prog lv X0 174 qd7 qd8 (n,low,high)
def qdd (n:Int) (low:Int) (high:Int):Option Bool :=
 (brE ((decide (n≥low))==true)
 (some (decide (n≤high)))
 (some false))
theorem qda {n low high r} (h:qdd n low high=some r):qdc n low high=some r :=
 qf4 (es:=q12v) (hs:=[]) [] Tryz.func174 rfl (by kernel_rfl) rfl (by kernel_rfl) (by kernel_rfl) trivial trivial (by kernel_rfl) h
def qd9:=entS Tryz.prog lv X0 174 [] qd7 qd8 (fun x=>qdc x.1 x.2.1 x.2.2) (fun _ _ h=>qf3 h)
def q11q:=qd9::q12v
def qb8:=(qnk (vC (cInt .i64)))
def qb9:Cod (V×List B) Bool:=(cFstU (cPair (vC cBool) qnj))
def qbc (y:Int):Option Bool:=fS Tryz.prog lv X0 238 qb8 qb9 y
def qbd (y:Int):Option Bool :=
 (brE (((Int.tmod y 4)==0)==true)
 (brE (((Int.tmod y 100) != 0)==false)
 (some ((Int.tmod y 400)==0))
 (some true))
 (some false))
theorem qbb {y r} (h:qbd y=some r):qbc y=some r :=
 qf4 (es:=q11q) (hs:=[]) [] Tryz.func238 rfl (by kernel_rfl) rfl (by kernel_rfl) (by kernel_rfl) trivial trivial (by kernel_rfl) h
def qba:=entS Tryz.prog lv X0 238 [] qb8 qb9 (fun x=>qbc x) (fun _ _ h=>qf3 h)
def q11j:=qba::q11q
def qcp:=(qni (vC (cInt .i64)) (qnk (vC (cInt .i64))))
def qcq:Cod (V×List B) Int:=(cFstU (cPair (vC (cInt .i64)) qnj))
def dlen_s (y:Int) (m_:Int):Option Int:=fS Tryz.prog lv X0 213 qcp qcq (y,m_)
def dlen_t (y:Int) (m_:Int):Option Int :=
 (gdE (((decide (0≤(IntKind.wrap .i64 (m_ - 1))))&&(decide ((IntKind.wrap .i64 (m_ - 1))<((12:Nat):Int))))&&(decide ((Int.toNat (IntKind.wrap .i64 (m_ - 1)))<(List.length [31,28,31,30,31,30,31,31,30,31,30,31]))))<|
 (brE ((m_==2)==true)
 ((qbc y).bind fun r0 =>
 (brE r0
 (some (IntKind.wrap .i64 ((List.getD [31,28,31,30,31,30,31,31,30,31,30,31] (Int.toNat (IntKind.wrap .i64 (m_ - 1))) 0)+1)))
 (some (List.getD [31,28,31,30,31,30,31,31,30,31,30,31] (Int.toNat (IntKind.wrap .i64 (m_ - 1))) 0))))
 (some (List.getD [31,28,31,30,31,30,31,31,30,31,30,31] (Int.toNat (IntKind.wrap .i64 (m_ - 1))) 0))))
theorem qcr {y m_ r} (h:dlen_t y m_=some r):dlen_s y m_=some r :=
 qf4 (es:=q11j) (hs:=[]) [] Tryz.func213 rfl (by kernel_rfl) rfl (by kernel_rfl) (by kernel_rfl) trivial trivial (by kernel_rfl) h
def dlen_e:=entS Tryz.prog lv X0 213 [] qcp qcq (fun x=>dlen_s x.1 x.2) (fun _ _ h=>qf3 h)
def q11n:=dlen_e::q11j
def qbe:=(qnk (vC (cInt .i64)))
def qbf:Cod (V×List B) Int:=(cFstU (cPair (vC (cInt .i64)) qnj))
def qbj (y:Int):Option Int:=fS Tryz.prog lv X0 214 qbe qbf y
def qbk (y:Int):Option Int :=
 (some (IntKind.wrap .i64 ((IntKind.wrap .i64 ((IntKind.wrap .i64 ((IntKind.wrap .i64 (365*(IntKind.wrap .i64 (y - 1))))+(IntKind.wrap .i64 (Int.tdiv (IntKind.wrap .i64 (y - 1)) 4)))) - (IntKind.wrap .i64 (Int.tdiv (IntKind.wrap .i64 (y - 1)) 100))))+(IntKind.wrap .i64 (Int.tdiv (IntKind.wrap .i64 (y - 1)) 400)))))
theorem qbh {y r} (h:qbk y=some r):qbj y=some r :=
 qf4 (es:=q11n) (hs:=[]) [] Tryz.func214 rfl (by kernel_rfl) rfl (by kernel_rfl) (by kernel_rfl) trivial trivial (by kernel_rfl) h
def qbg:=entS Tryz.prog lv X0 214 [] qbe qbf (fun x=>qbj x) (fun _ _ h=>qf3 h)
def q11k:=qbg::q11n
def qbm:=(qni (vC (cInt .i64)) (qni (vC (cInt .i64)) (qnk (vC (cInt .i64)))))
def qbu:=sLS [0,1,7,8] (qni (vC (cInt .i64)) (qni (vC (cInt .i64)) (qni (vC (cInt .i64)) (qnk (vC (cInt .i64)))))) qnj [] [] (by decide) (fun _=>rfl)
def qbt:=sLS [0,1,7,8,18] (qni (vC (cInt .i64)) (qni (vC (cInt .i64)) (qni (vC (cInt .i64)) (qni (vC (cInt .i64)) (qnk (vC cBool)))))) qnj [] [] (by decide) (fun _=>rfl)
def qbs:=oAt 2 qbt
def qbp (y:Int) (m_:Int) (n:Int) (k:Int):Option ((Int×Int×Int×Int×Bool)×Unit):=lS Tryz.prog lv X0 172 27 (qix (cdF Tryz.f172) 3) qbu qbs ((y,m_,n,k),())
def qbv (y:Int) (m_:Int) (n:Int) (k:Int):Option ((Int×Int×Int×Int×Bool)×Unit) :=
 (brE (decide (k<m_))
 ((dlen_s y k).bind fun r0 =>
 (qbp y m_ (IntKind.wrap .i64 (n+r0)) (IntKind.wrap .i64 (k+1))))
 (some ((y,(m_,(n,(k,false)))),())))
theorem qbr {y m_ n k r} (h:qbv y m_ n k=some r):qbp y m_ n k=some r :=
 qnm (es:=q11k) (hs:=[]) [] (by kernel_rfl) trivial trivial (by kernel_rfl) h
def qbq:=qp9 Tryz.prog lv X0 3 (qix (cdF Tryz.f172) 3) qbu qbs (fun x=>qbp x.1.1 x.1.2.1 x.1.2.2.1 x.1.2.2.2) (fun _ _ h=>qnl h)
def qbn:Cod (V×List B) Int:=(cFstU (cPair (vC (cInt .i64)) qnj))
def qby (y:Int) (m_:Int) (d:Int):Option Int:=fS Tryz.prog lv X0 172 qbm qbn (y,m_,d)
def dday_t (y:Int) (m_:Int) (d:Int):Option Int :=
 ((qbj y).bind fun r0 =>
 ((qbj 1970).bind fun r1 =>
 (Option.bind (qbp y m_ (IntKind.wrap .i64 ((IntKind.wrap .i64 ((IntKind.wrap .i64 (r0 - r1))+d)) - 1)) 1) fun r2 =>
 (some r2.1.2.2.1))))
theorem qbo {y m_ d r} (h:dday_t y m_ d=some r):qby y m_ d=some r :=
 qf4 (es:=q11k) (hs:=[]) [qbq] Tryz.func172 rfl (by kernel_rfl) rfl (by kernel_rfl) (by kernel_rfl) ⟨⟨_,rfl,rfl⟩,trivial⟩ trivial (by kernel_rfl) h
def dday_e:=entS Tryz.prog lv X0 172 [] qbm qbn (fun x=>qby x.1 x.2.1 x.2.2) (fun _ _ h=>qf3 h)
def q11l:=dday_e::q11k
def qd3:=(qnk (vAgg (qni (vC (cInt .i64)) (qni (vC (cInt .i64)) (qni (vC (cInt .i64)) (qni (vC (cInt .i64)) (qni (vC (cInt .i64)) (qni (vC (cInt .i64)) (qnk (vC (cInt .i64)))))))))))
def qd4:Cod (V×List B) (Int×Int):=(cFstU (cPair (vAgg (qni (vC (cInt .i64)) (qnk (vC (cInt .i64))))) qnj))
def dval_s (d_Year:Int) (d_Month:Int) (d_Day:Int) (d_Hour:Int) (d_Minute:Int) (d_Second:Int) (d_Zone:Int):Option (Int×Int):=fS Tryz.prog lv X0 171 qd3 qd4 (d_Year,d_Month,d_Day,d_Hour,d_Minute,d_Second,d_Zone)
def dval_t (d_Year:Int) (d_Month:Int) (d_Day:Int) (d_Hour:Int) (d_Minute:Int) (d_Second:Int) (d_Zone:Int):Option (Int×Int) :=
 ((qdc d_Year 1 4000).bind fun r0 =>
 (brE (r0==true)
 ((qdc d_Month 1 12).bind fun r1 =>
 (brE (r1==true)
 (Option.bind (dlen_s d_Year (ite (false=true) (ite ((ite (true=true) (ite (d_Month<1) 1 d_Month) (ite (1<d_Month) 1 d_Month))<12) 12 (ite (true=true) (ite (d_Month<1) 1 d_Month) (ite (1<d_Month) 1 d_Month))) (ite (12<(ite (true=true) (ite (d_Month<1) 1 d_Month) (ite (1<d_Month) 1 d_Month))) 12 (ite (true=true) (ite (d_Month<1) 1 d_Month) (ite (1<d_Month) 1 d_Month))))) fun r2 =>
 ((qdc d_Day 1 r2).bind fun r3 =>
 (brE (r3==true)
 ((qdc d_Hour 0 23).bind fun r4 =>
 (brE (r4==true)
 ((qdc d_Minute 0 59).bind fun r5 =>
 (brE (r5==true)
 ((qdc d_Second 0 59).bind fun r6 =>
 (brE (r6==true)
 ((qdc d_Zone (-900) 900).bind fun r7 =>
 (brE (!r7)
 ((q5l 3 (-3)).bind fun r8 =>
 (some (r8.1,r8.2)))
 (Option.bind q69 fun r8 =>
 (some (r8.1,r8.2)))))
 ((q5l 3 (-3)).bind fun r7 =>
 (some (r7.1,r7.2)))))
 ((q5l 3 (-3)).bind fun r6 =>
 (some (r6.1,r6.2)))))
 ((q5l 3 (-3)).bind fun r5 =>
 (some (r5.1,r5.2)))))
 ((q5l 3 (-3)).bind fun r4 =>
 (some (r4.1,r4.2))))))
 ((q5l 3 (-3)).bind fun r2 =>
 (some (r2.1,r2.2)))))
 ((q5l 3 (-3)).bind fun r1 =>
 (some (r1.1,r1.2)))))
theorem qd5 {d_Year d_Month d_Day d_Hour d_Minute d_Second d_Zone r} (h:dval_t d_Year d_Month d_Day d_Hour d_Minute d_Second d_Zone=some r):dval_s d_Year d_Month d_Day d_Hour d_Minute d_Second d_Zone=some r :=
 qf4 (es:=q11l) (hs:=[]) [] Tryz.func171 rfl (by kernel_rfl) rfl (by kernel_rfl) (by kernel_rfl) trivial trivial (by kernel_rfl) h
def dval_e:=entS Tryz.prog lv X0 171 [] qd3 qd4 (fun x=>dval_s x.1 x.2.1 x.2.2.1 x.2.2.2.1 x.2.2.2.2.1 x.2.2.2.2.2.1 x.2.2.2.2.2.2) (fun _ _ h=>qf3 h)
def q11p:=dval_e::q11l
def qch:=(qnk (vAgg (qni (vC (cInt .i64)) (qni (vC (cInt .i64)) (qni (vC (cInt .i64)) (qni (vC (cInt .i64)) (qni (vC (cInt .i64)) (qni (vC (cInt .i64)) (qnk (vC (cInt .i64)))))))))))
def qci:Cod (V×List B) (Int×(Int×Int)):=(cFstU (cPair (vTup (qni (vC (cInt .i64)) (qnk (vAgg (qni (vC (cInt .i64)) (qnk (vC (cInt .i64)))))))) qnj))
def qcm (d_Year:Int) (d_Month:Int) (d_Day:Int) (d_Hour:Int) (d_Minute:Int) (d_Second:Int) (d_Zone:Int):Option (Int×(Int×Int)):=fS Tryz.prog lv X0 123 qch qci (d_Year,d_Month,d_Day,d_Hour,d_Minute,d_Second,d_Zone)
def qcn (d_Year:Int) (d_Month:Int) (d_Day:Int) (d_Hour:Int) (d_Minute:Int) (d_Second:Int) (d_Zone:Int):Option (Int×(Int×Int)) :=
 ((dval_s d_Year d_Month d_Day d_Hour d_Minute d_Second d_Zone).bind fun r0 =>
 ((q5f r0.1 r0.2).bind fun r1 =>
 (brE r1
 (some (0,(r0.1,r0.2)))
 ((qby d_Year d_Month d_Day).bind fun r2 =>
 (Option.bind q69 fun r3 =>
 (some ((IntKind.wrap .i64 ((IntKind.wrap .i64 ((IntKind.wrap .i64 ((IntKind.wrap .i64 (r2*86400))+(IntKind.wrap .i64 (d_Hour*3600))))+(IntKind.wrap .i64 ((IntKind.wrap .i64 (d_Minute - d_Zone))*60))))+d_Second)),(r3.1,r3.2))))))))
theorem qck {d_Year d_Month d_Day d_Hour d_Minute d_Second d_Zone r} (h:qcn d_Year d_Month d_Day d_Hour d_Minute d_Second d_Zone=some r):qcm d_Year d_Month d_Day d_Hour d_Minute d_Second d_Zone=some r :=
 qf4 (es:=q11p) (hs:=[]) [] Tryz.func123 rfl (by kernel_rfl) rfl (by kernel_rfl) (by kernel_rfl) trivial trivial (by kernel_rfl) h
def qcj:=entS Tryz.prog lv X0 123 [] qch qci (fun x=>qcm x.1 x.2.1 x.2.2.1 x.2.2.2.1 x.2.2.2.2.1 x.2.2.2.2.2.1 x.2.2.2.2.2.2) (fun _ _ h=>qf3 h)
def q11m:=qcj::q11p
def qcw:=(qni (vC (cInt .i64)) (qnk (vC (cInt .i64))))
def qcx:Cod (V×List B) (Int×Int):=(cFstU (cPair (vTup (qni (vC (cInt .i64)) (qnk (vC (cInt .i64))))) qnj))
def qd1 (n:Int) (by_:Int):Option (Int×Int):=fS Tryz.prog lv X0 175 qcw qcx (n,by_)
def qd2 (n:Int) (by_:Int):Option (Int×Int) :=
 (brE (by_==0)
 none
 (brE (by_==0)
 none
 (brE (by_==0)
 none
 (some ((IntKind.wrap .i64 (Int.tdiv (IntKind.wrap .i64 (n - (Int.tmod (IntKind.wrap .i64 ((Int.tmod n by_)+by_)) by_))) by_)),(Int.tmod (IntKind.wrap .i64 ((Int.tmod n by_)+by_)) by_))))))
theorem qcz {n by_ r} (h:qd2 n by_=some r):qd1 n by_=some r :=
 qf4 (es:=q11m) (hs:=[]) [] Tryz.func175 rfl (by kernel_rfl) rfl (by kernel_rfl) (by kernel_rfl) trivial trivial (by kernel_rfl) h
def qcy:=entS Tryz.prog lv X0 175 [] qcw qcx (fun x=>qd1 x.1 x.2) (fun _ _ h=>qf3 h)
def q11o:=qcy::q11m
def q92:=(qni (vC (cInt .i64)) (qnk (vC (cInt .i64))))
def q9b:=sLS [1,4,5,6,7,8,9] (qni (vC (cInt .i64)) (qni (vPtr 0 0) (qni (vPtr 1 0) (qni (vC (cInt .i64)) (qni (vC (cInt .i64)) (qni (vC (cInt .i64)) (qnk (vC (cInt .i64))))))))) (qni (qt8 (bBox (qni (vC (cInt .i64)) (qni (vC (cInt .i64)) (qni (vC (cInt .i64)) (qni (vC (cInt .i64)) (qni (vC (cInt .i64)) (qni (vC (cInt .i64)) (qnk (vC (cInt .i64))))))))))) (qnk (qt8 (bBox (qni (vC (cInt .i64)) (qnk (vC (cInt .i64)))))))) [false,false] [] (by decide) (fun _=>rfl)
def q9a:=sLS [1,4,5,6,7,8,9,40] (qni (vC (cInt .i64)) (qni (vPtr 0 0) (qni (vPtr 1 0) (qni (vC (cInt .i64)) (qni (vC (cInt .i64)) (qni (vC (cInt .i64)) (qni (vC (cInt .i64)) (qnk (vC cBool))))))))) (qni (qt8 (bBox (qni (vC (cInt .i64)) (qni (vC (cInt .i64)) (qni (vC (cInt .i64)) (qni (vC (cInt .i64)) (qni (vC (cInt .i64)) (qni (vC (cInt .i64)) (qnk (vC (cInt .i64))))))))))) (qnk (qt8 (bBox (qni (vC (cInt .i64)) (qnk (vC (cInt .i64)))))))) [false,false] [] (by decide) (fun _=>rfl)
def q99:=oAt 2 q9a
def q96 (zone:Int) (days:Int) (s:Int) (y:Int) (step:Int) (b0:Int) (b0_1:Int) (b0_2:Int) (b0_3:Int) (b0_4:Int) (b0_5:Int) (b0_6:Int) (b1:Int) (b1_1:Int):Option ((Int×Unit×Unit×Int×Int×Int×Int×Bool)×((Int×Int×Int×Int×Int×Int×Int)×(Int×Int))):=lS Tryz.prog lv X0 128 83 (qix (cdF Tryz.f128) 10) q9b q99 ((zone,(),(),days,s,y,step),((b0,b0_1,b0_2,b0_3,b0_4,b0_5,b0_6),(b1,b1_1)))
def q9c (zone:Int) (days:Int) (s:Int) (y:Int) (step:Int) (b0:Int) (b0_1:Int) (b0_2:Int) (b0_3:Int) (b0_4:Int) (b0_5:Int) (b0_6:Int) (b1:Int) (b1_1:Int):Option ((Int×Unit×Unit×Int×Int×Int×Int×Bool)×((Int×Int×Int×Int×Int×Int×Int)×(Int×Int))) :=
 (brE (decide (step>0))
 (brE ((decide ((IntKind.wrap .i64 (y+step))≤4000))==true)
 ((qby (IntKind.wrap .i64 (y+step)) 1 1).bind fun r0 =>
 (brE (decide (r0≤days))
 (q96 zone days s (IntKind.wrap .i64 (y+step)) (IntKind.wrap .i64 (Int.tdiv step 2)) b0 b0_1 b0_2 b0_3 b0_4 b0_5 b0_6 b1 b1_1)
 (q96 zone days s y (IntKind.wrap .i64 (Int.tdiv step 2)) b0 b0_1 b0_2 b0_3 b0_4 b0_5 b0_6 b1 b1_1)))
 (q96 zone days s y (IntKind.wrap .i64 (Int.tdiv step 2)) b0 b0_1 b0_2 b0_3 b0_4 b0_5 b0_6 b1 b1_1))
 (some ((zone,((),((),(days,(s,(y,(step,false))))))),((b0,(b0_1,(b0_2,(b0_3,(b0_4,(b0_5,b0_6)))))),(b1,b1_1)))))
theorem q98 {zone days s y step b0 b0_1 b0_2 b0_3 b0_4 b0_5 b0_6 b1 b1_1 r} (h:q9c zone days s y step b0 b0_1 b0_2 b0_3 b0_4 b0_5 b0_6 b1 b1_1=some r):q96 zone days s y step b0 b0_1 b0_2 b0_3 b0_4 b0_5 b0_6 b1 b1_1=some r :=
 qnm (es:=q11o) (hs:=[]) [] (by kernel_rfl) trivial trivial (by kernel_rfl) h
def q97:=qp9 Tryz.prog lv X0 10 (qix (cdF Tryz.f128) 10) q9b q99 (fun x=>q96 x.1.1 x.1.2.2.2.1 x.1.2.2.2.2.1 x.1.2.2.2.2.2.1 x.1.2.2.2.2.2.2 x.2.1.1 x.2.1.2.1 x.2.1.2.2.1 x.2.1.2.2.2.1 x.2.1.2.2.2.2.1 x.2.1.2.2.2.2.2.1 x.2.1.2.2.2.2.2.2 x.2.2.1 x.2.2.2) (fun _ _ h=>qnl h)
def q9i:=sLS [1,4,5,6,7,8,10] (qni (vC (cInt .i64)) (qni (vPtr 0 0) (qni (vPtr 1 0) (qni (vC (cInt .i64)) (qni (vC (cInt .i64)) (qni (vC (cInt .i64)) (qnk (vC (cInt .i64))))))))) (qni (qt8 (bBox (qni (vC (cInt .i64)) (qni (vC (cInt .i64)) (qni (vC (cInt .i64)) (qni (vC (cInt .i64)) (qni (vC (cInt .i64)) (qni (vC (cInt .i64)) (qnk (vC (cInt .i64))))))))))) (qnk (qt8 (bBox (qni (vC (cInt .i64)) (qnk (vC (cInt .i64)))))))) [false,false] [] (by decide) (fun _=>rfl)
def q9h:=sLS [1,4,5,6,7,8,10,62] (qni (vC (cInt .i64)) (qni (vPtr 0 0) (qni (vPtr 1 0) (qni (vC (cInt .i64)) (qni (vC (cInt .i64)) (qni (vC (cInt .i64)) (qni (vC (cInt .i64)) (qnk (vC cBool))))))))) (qni (qt8 (bBox (qni (vC (cInt .i64)) (qni (vC (cInt .i64)) (qni (vC (cInt .i64)) (qni (vC (cInt .i64)) (qni (vC (cInt .i64)) (qni (vC (cInt .i64)) (qnk (vC (cInt .i64))))))))))) (qnk (qt8 (bBox (qni (vC (cInt .i64)) (qnk (vC (cInt .i64)))))))) [false,false] [] (by decide) (fun _=>rfl)
def q9g:=oAt 4 q9h
def q9d (zone:Int) (days:Int) (s:Int) (y:Int) (m_:Int) (b0:Int) (b0_1:Int) (b0_2:Int) (b0_3:Int) (b0_4:Int) (b0_5:Int) (b0_6:Int) (b1:Int) (b1_1:Int):Option ((Int×Unit×Unit×Int×Int×Int×Int×Bool)×((Int×Int×Int×Int×Int×Int×Int)×(Int×Int))):=lS Tryz.prog lv X0 128 83 (qix (cdF Tryz.f128) 15) q9i q9g ((zone,(),(),days,s,y,m_),((b0,b0_1,b0_2,b0_3,b0_4,b0_5,b0_6),(b1,b1_1)))
def q9j (zone:Int) (days:Int) (s:Int) (y:Int) (m_:Int) (b0:Int) (b0_1:Int) (b0_2:Int) (b0_3:Int) (b0_4:Int) (b0_5:Int) (b0_6:Int) (b1:Int) (b1_1:Int):Option ((Int×Unit×Unit×Int×Int×Int×Int×Bool)×((Int×Int×Int×Int×Int×Int×Int)×(Int×Int))) :=
 ((qby y m_ 1).bind fun r0 =>
 (brE (decide (r0>days))
 (q9d zone days s y (IntKind.wrap .i64 (m_ - 1)) b0 b0_1 b0_2 b0_3 b0_4 b0_5 b0_6 b1 b1_1)
 (some ((zone,((),((),(days,(s,(y,(m_,false))))))),((b0,(b0_1,(b0_2,(b0_3,(b0_4,(b0_5,b0_6)))))),(b1,b1_1))))))
theorem q9f {zone days s y m_ b0 b0_1 b0_2 b0_3 b0_4 b0_5 b0_6 b1 b1_1 r} (h:q9j zone days s y m_ b0 b0_1 b0_2 b0_3 b0_4 b0_5 b0_6 b1 b1_1=some r):q9d zone days s y m_ b0 b0_1 b0_2 b0_3 b0_4 b0_5 b0_6 b1 b1_1=some r :=
 qnm (es:=q11o) (hs:=[]) [] (by kernel_rfl) trivial trivial (by kernel_rfl) h
def q9e:=qp9 Tryz.prog lv X0 15 (qix (cdF Tryz.f128) 15) q9i q9g (fun x=>q9d x.1.1 x.1.2.2.2.1 x.1.2.2.2.2.1 x.1.2.2.2.2.2.1 x.1.2.2.2.2.2.2 x.2.1.1 x.2.1.2.1 x.2.1.2.2.1 x.2.1.2.2.2.1 x.2.1.2.2.2.2.1 x.2.1.2.2.2.2.2.1 x.2.1.2.2.2.2.2.2 x.2.2.1 x.2.2.2) (fun _ _ h=>qnl h)
def q93:Cod (V×List B) ((Int×Int×Int×Int×Int×Int×Int)×(Int×Int)):=(cFstU (cPair (vTup (qni (vAgg (qni (vC (cInt .i64)) (qni (vC (cInt .i64)) (qni (vC (cInt .i64)) (qni (vC (cInt .i64)) (qni (vC (cInt .i64)) (qni (vC (cInt .i64)) (qnk (vC (cInt .i64)))))))))) (qnk (vAgg (qni (vC (cInt .i64)) (qnk (vC (cInt .i64)))))))) qnj))
def q9l (t:Int) (zone:Int):Option ((Int×Int×Int×Int×Int×Int×Int)×(Int×Int)):=fS Tryz.prog lv X0 128 q92 q93 (t,zone)
def q9m (t:Int) (zone:Int):Option ((Int×Int×Int×Int×Int×Int×Int)×(Int×Int)) :=
 ((q6f t).bind fun r0 =>
 (brE (!r0)
 ((q5l 3 (-2)).bind fun r1 =>
 (some ((0,(0,(0,(0,(0,(0,0)))))),(r1.1,r1.2))))
 ((qdc zone (-900) 900).bind fun r1 =>
 (brE (!r1)
 ((q5l 3 (-4)).bind fun r2 =>
 (some ((0,(0,(0,(0,(0,(0,0)))))),(r2.1,r2.2))))
 ((qd1 (IntKind.wrap .i64 (t+(IntKind.wrap .i64 (60*zone)))) 86400).bind fun r2 =>
 ((qby 1 1 1).bind fun r3 =>
 (brE ((decide (r2.1<r3))==false)
 ((qby 4000 12 31).bind fun r4 =>
 (brE (decide (r2.1>r4))
 ((q5l 3 (-3)).bind fun r5 =>
 (some ((0,(0,(0,(0,(0,(0,0)))))),(r5.1,r5.2))))
 ((q96 zone r2.1 r2.2 1 2048 0 0 0 0 0 0 0 0 0).bind fun r5 =>
 ((q9d r5.1.1 r5.1.2.2.2.1 r5.1.2.2.2.2.1 r5.1.2.2.2.2.2.1 12 r5.2.1.1 r5.2.1.2.1 r5.2.1.2.2.1 r5.2.1.2.2.2.1 r5.2.1.2.2.2.2.1 r5.2.1.2.2.2.2.2.1 r5.2.1.2.2.2.2.2.2 r5.2.2.1 r5.2.2.2).bind fun r6 =>
 ((qby r6.1.2.2.2.2.2.1 r6.1.2.2.2.2.2.2.1 1).bind fun r7 =>
 (Option.bind q69 fun r8 =>
 (some ((r6.1.2.2.2.2.2.1,(r6.1.2.2.2.2.2.2.1,((IntKind.wrap .i64 ((IntKind.wrap .i64 (r6.1.2.2.2.1 - r7))+1)),((IntKind.wrap .i64 (Int.tdiv r6.1.2.2.2.2.1 3600)),((Int.tmod (IntKind.wrap .i64 (Int.tdiv r6.1.2.2.2.2.1 60)) 60),((Int.tmod r6.1.2.2.2.2.1 60),r6.1.1)))))),(r8.1,r8.2)))))))))
 ((q5l 3 (-3)).bind fun r4 =>
 (some ((0,(0,(0,(0,(0,(0,0)))))),(r4.1,r4.2)))))))))))
theorem q95 {t zone r} (h:q9m t zone=some r):q9l t zone=some r :=
 qf4 (es:=q11o) (hs:=[]) [q97,q9e] Tryz.func128 rfl (by kernel_rfl) rfl (by kernel_rfl) (by kernel_rfl) ⟨⟨_,rfl,rfl⟩,⟨_,rfl,rfl⟩,trivial⟩ trivial (by kernel_rfl) h
def q94:=entS Tryz.prog lv X0 128 [] q92 q93 (fun x=>q9l x.1 x.2) (fun _ _ h=>qf3 h)
def q11f:=q94::q11o
def q155:=(qnk (vAgg (qni (vC (cInt .i64)) (qni (vC (cInt .i64)) (qni (vC (cInt .i64)) (qni (vC (cInt .i64)) (qni (vC (cInt .i64)) (qni (vC (cInt .i64)) (qnk (vC (cInt .i64)))))))))))
def q156:Cod (V×List B) (Int×(Int×Int)):=(cFstU (cPair (vTup (qni (vC (cInt .i64)) (qnk (vAgg (qni (vC (cInt .i64)) (qnk (vC (cInt .i64)))))))) qnj))
def wday_s (d_Year:Int) (d_Month:Int) (d_Day:Int) (d_Hour:Int) (d_Minute:Int) (d_Second:Int) (d_Zone:Int):Option (Int×(Int×Int)):=fS Tryz.prog lv X0 176 q155 q156 (d_Year,d_Month,d_Day,d_Hour,d_Minute,d_Second,d_Zone)
def wday_t (d_Year:Int) (d_Month:Int) (d_Day:Int) (d_Hour:Int) (d_Minute:Int) (d_Second:Int) (d_Zone:Int):Option (Int×(Int×Int)) :=
 ((dval_s d_Year d_Month d_Day d_Hour d_Minute d_Second d_Zone).bind fun r0 =>
 ((q5f r0.1 r0.2).bind fun r1 =>
 (brE r1
 (some (0,(r0.1,r0.2)))
 ((qby d_Year d_Month d_Day).bind fun r2 =>
 ((qd1 (IntKind.wrap .i64 (r2+4)) 7).bind fun r3 =>
 (Option.bind q69 fun r4 =>
 (some (r3.2,(r4.1,r4.2)))))))))
theorem q157 {d_Year d_Month d_Day d_Hour d_Minute d_Second d_Zone r} (h:wday_t d_Year d_Month d_Day d_Hour d_Minute d_Second d_Zone=some r):wday_s d_Year d_Month d_Day d_Hour d_Minute d_Second d_Zone=some r :=
 qf4 (es:=q11f) (hs:=[]) [] Tryz.func176 rfl (by kernel_rfl) rfl (by kernel_rfl) (by kernel_rfl) trivial trivial (by kernel_rfl) h
def wday_e:=entS Tryz.prog lv X0 176 [] q155 q156 (fun x=>wday_s x.1 x.2.1 x.2.2.1 x.2.2.2.1 x.2.2.2.2.1 x.2.2.2.2.2.1 x.2.2.2.2.2.2) (fun _ _ h=>qf3 h)
def q12o:=wday_e::q11f
def q16i:=(qni (vAgg (qni (vC (cInt .i64)) (qni (vC (cInt .i64)) (qni (vC (cInt .i64)) (qnk (vC (cInt .i64))))))) (qni (vC (cInt .i64)) (qnk (vC (cInt .i64)))))
def q16j:Cod (V×List B) Int:=(cFstU (cPair (vC (cInt .i64)) qnj))
def q16n (t_Month:Int) (t_Week:Int) (t_Weekday:Int) (t_Minute:Int) (year:Int) (ahead:Int):Option Int:=fS Tryz.prog lv X0 215 q16i q16j ((t_Month,t_Week,t_Weekday,t_Minute),year,ahead)
def q16o (t_Month:Int) (t_Week:Int) (t_Weekday:Int) (t_Minute:Int) (year:Int) (ahead:Int):Option Int :=
 ((wday_s year t_Month 1 0 0 0 0).bind fun r0 =>
 (brE ((t_Week==5)==true)
 (Option.bind (dval_s year t_Month (IntKind.wrap .i64 ((IntKind.wrap .i64 (1+(Int.tmod (IntKind.wrap .i64 ((IntKind.wrap .i64 (t_Weekday - r0.1))+7)) 7)))+(IntKind.wrap .i64 (7*(IntKind.wrap .i64 (t_Week - 1)))))) 0 0 0 0) fun r1 =>
 ((q5f r1.1 r1.2).bind fun r2 =>
 (brE r2
 (Option.bind (qcm year t_Month (IntKind.wrap .i64 ((IntKind.wrap .i64 ((IntKind.wrap .i64 (1+(Int.tmod (IntKind.wrap .i64 ((IntKind.wrap .i64 (t_Weekday - r0.1))+7)) 7)))+(IntKind.wrap .i64 (7*(IntKind.wrap .i64 (t_Week - 1)))))) - 7)) 0 0 0 0) fun r3 =>
 (some (IntKind.wrap .i64 (r3.1+(IntKind.wrap .i64 (60*(IntKind.wrap .i64 (t_Minute - ahead))))))))
 (Option.bind (qcm year t_Month (IntKind.wrap .i64 ((IntKind.wrap .i64 (1+(Int.tmod (IntKind.wrap .i64 ((IntKind.wrap .i64 (t_Weekday - r0.1))+7)) 7)))+(IntKind.wrap .i64 (7*(IntKind.wrap .i64 (t_Week - 1)))))) 0 0 0 0) fun r3 =>
 (some (IntKind.wrap .i64 (r3.1+(IntKind.wrap .i64 (60*(IntKind.wrap .i64 (t_Minute - ahead)))))))))))
 (Option.bind (qcm year t_Month (IntKind.wrap .i64 ((IntKind.wrap .i64 (1+(Int.tmod (IntKind.wrap .i64 ((IntKind.wrap .i64 (t_Weekday - r0.1))+7)) 7)))+(IntKind.wrap .i64 (7*(IntKind.wrap .i64 (t_Week - 1)))))) 0 0 0 0) fun r1 =>
 (some (IntKind.wrap .i64 (r1.1+(IntKind.wrap .i64 (60*(IntKind.wrap .i64 (t_Minute - ahead))))))))))
theorem q16l {t_Month t_Week t_Weekday t_Minute year ahead r} (h:q16o t_Month t_Week t_Weekday t_Minute year ahead=some r):q16n t_Month t_Week t_Weekday t_Minute year ahead=some r :=
 qf4 (es:=q12o) (hs:=[]) [] Tryz.func215 rfl (by kernel_rfl) rfl (by kernel_rfl) (by kernel_rfl) trivial trivial (by kernel_rfl) h
def q16k:=entS Tryz.prog lv X0 215 [] q16i q16j (fun x=>q16n x.1.1 x.1.2.1 x.1.2.2.1 x.1.2.2.2 x.2.1 x.2.2) (fun _ _ h=>qf3 h)
def q12s:=q16k::q12o
def q16s:=(qni (vAgg (qni (vC cStr) (qni (vC (cInt .i64)) (qni (vC (cInt .i64)) (qni (vC (cInt .i64)) (qni (vC (cInt .i64)) (qni (vC (cInt .i64)) (qni (vC (cInt .i64)) (qni (vC (cInt .i64)) (qni (vC (cInt .i64)) (qni (vC (cInt .i64)) (qnk (vC (cInt .i64)))))))))))))) (qni (vC (cInt .i64)) (qnk (vC (cInt .i64)))))
def q171:=sLS [1,2,3,7,8,9,10] (qni (vC (cInt .i64)) (qni (vC (cInt .i64)) (qni (vPtr 0 0) (qni (vC (cInt .i64)) (qni (vC (cInt .i64)) (qni (vC cBool) (qnk (vC (cInt .i64))))))))) (qnk (qt8 (bBox (qni (vC cStr) (qni (vC (cInt .i64)) (qni (vC (cInt .i64)) (qni (vC (cInt .i64)) (qni (vC (cInt .i64)) (qni (vC (cInt .i64)) (qni (vC (cInt .i64)) (qni (vC (cInt .i64)) (qni (vC (cInt .i64)) (qni (vC (cInt .i64)) (qnk (vC (cInt .i64)))))))))))))))) [false] [] (by decide) (fun _=>rfl)
def q170:=sLS [1,2,3,7,8,9,10,24] (qni (vC (cInt .i64)) (qni (vC (cInt .i64)) (qni (vPtr 0 0) (qni (vC (cInt .i64)) (qni (vC (cInt .i64)) (qni (vC cBool) (qni (vC (cInt .i64)) (qnk (vC cBool))))))))) (qnk (qt8 (bBox (qni (vC cStr) (qni (vC (cInt .i64)) (qni (vC (cInt .i64)) (qni (vC (cInt .i64)) (qni (vC (cInt .i64)) (qni (vC (cInt .i64)) (qni (vC (cInt .i64)) (qni (vC (cInt .i64)) (qni (vC (cInt .i64)) (qni (vC (cInt .i64)) (qnk (vC (cInt .i64)))))))))))))))) [false] [] (by decide) (fun _=>rfl)
def q16z:=oAt 2 q170
def q16w (t:Int) (year:Int) (best:Int) (out:Int) (has:Bool) (y:Int) (b0:ByteArray) (b0_1:Int) (b0_2:Int) (b0_3:Int) (b0_4:Int) (b0_5:Int) (b0_6:Int) (b0_7:Int) (b0_8:Int) (b0_9:Int) (b0_10:Int):Option ((Int×Int×Unit×Int×Int×Bool×Int×Bool)×(ByteArray×Int×Int×Int×Int×Int×Int×Int×Int×Int×Int)):=lS Tryz.prog lv X0 173 70 (qix (cdF Tryz.f173) 5) q171 q16z ((t,year,(),best,out,has,y),(b0,b0_1,b0_2,b0_3,b0_4,b0_5,b0_6,b0_7,b0_8,b0_9,b0_10))
def q172 (t:Int) (year:Int) (best:Int) (out:Int) (has:Bool) (y:Int) (b0:ByteArray) (b0_1:Int) (b0_2:Int) (b0_3:Int) (b0_4:Int) (b0_5:Int) (b0_6:Int) (b0_7:Int) (b0_8:Int) (b0_9:Int) (b0_10:Int):Option ((Int×Int×Unit×Int×Int×Bool×Int×Bool)×(ByteArray×Int×Int×Int×Int×Int×Int×Int×Int×Int×Int)) :=
 (brE (decide (y≤(IntKind.wrap .i64 (year+1))))
 ((q16n b0_3 b0_4 b0_5 b0_6 y b0_1).bind fun r0 =>
 (brE ((decide (r0≤t))==true)
 (brE ((!has)==false)
 (brE (decide (r0>best))
 ((q16n b0_7 b0_8 b0_9 b0_10 y b0_2).bind fun r1 =>
 (brE ((decide (r1≤t))==true)
 (brE (decide (r1≥r0))
 (q16w t year r1 b0_1 true (IntKind.wrap .i64 (y+1)) b0 b0_1 b0_2 b0_3 b0_4 b0_5 b0_6 b0_7 b0_8 b0_9 b0_10)
 (q16w t year r0 b0_2 true (IntKind.wrap .i64 (y+1)) b0 b0_1 b0_2 b0_3 b0_4 b0_5 b0_6 b0_7 b0_8 b0_9 b0_10))
 (q16w t year r0 b0_2 true (IntKind.wrap .i64 (y+1)) b0 b0_1 b0_2 b0_3 b0_4 b0_5 b0_6 b0_7 b0_8 b0_9 b0_10)))
 ((q16n b0_7 b0_8 b0_9 b0_10 y b0_2).bind fun r1 =>
 (brE ((decide (r1≤t))==true)
 (brE ((!has)==false)
 (brE (decide (r1≥best))
 (q16w t year r1 b0_1 true (IntKind.wrap .i64 (y+1)) b0 b0_1 b0_2 b0_3 b0_4 b0_5 b0_6 b0_7 b0_8 b0_9 b0_10)
 (q16w t year best out has (IntKind.wrap .i64 (y+1)) b0 b0_1 b0_2 b0_3 b0_4 b0_5 b0_6 b0_7 b0_8 b0_9 b0_10))
 (q16w t year r1 b0_1 true (IntKind.wrap .i64 (y+1)) b0 b0_1 b0_2 b0_3 b0_4 b0_5 b0_6 b0_7 b0_8 b0_9 b0_10))
 (q16w t year best out has (IntKind.wrap .i64 (y+1)) b0 b0_1 b0_2 b0_3 b0_4 b0_5 b0_6 b0_7 b0_8 b0_9 b0_10))))
 ((q16n b0_7 b0_8 b0_9 b0_10 y b0_2).bind fun r1 =>
 (brE ((decide (r1≤t))==true)
 (brE (decide (r1≥r0))
 (q16w t year r1 b0_1 true (IntKind.wrap .i64 (y+1)) b0 b0_1 b0_2 b0_3 b0_4 b0_5 b0_6 b0_7 b0_8 b0_9 b0_10)
 (q16w t year r0 b0_2 true (IntKind.wrap .i64 (y+1)) b0 b0_1 b0_2 b0_3 b0_4 b0_5 b0_6 b0_7 b0_8 b0_9 b0_10))
 (q16w t year r0 b0_2 true (IntKind.wrap .i64 (y+1)) b0 b0_1 b0_2 b0_3 b0_4 b0_5 b0_6 b0_7 b0_8 b0_9 b0_10))))
 ((q16n b0_7 b0_8 b0_9 b0_10 y b0_2).bind fun r1 =>
 (brE ((decide (r1≤t))==true)
 (brE ((!has)==false)
 (brE (decide (r1≥best))
 (q16w t year r1 b0_1 true (IntKind.wrap .i64 (y+1)) b0 b0_1 b0_2 b0_3 b0_4 b0_5 b0_6 b0_7 b0_8 b0_9 b0_10)
 (q16w t year best out has (IntKind.wrap .i64 (y+1)) b0 b0_1 b0_2 b0_3 b0_4 b0_5 b0_6 b0_7 b0_8 b0_9 b0_10))
 (q16w t year r1 b0_1 true (IntKind.wrap .i64 (y+1)) b0 b0_1 b0_2 b0_3 b0_4 b0_5 b0_6 b0_7 b0_8 b0_9 b0_10))
 (q16w t year best out has (IntKind.wrap .i64 (y+1)) b0 b0_1 b0_2 b0_3 b0_4 b0_5 b0_6 b0_7 b0_8 b0_9 b0_10)))))
 (some ((t,(year,((),(best,(out,(has,(y,false))))))),(b0,(b0_1,(b0_2,(b0_3,(b0_4,(b0_5,(b0_6,(b0_7,(b0_8,(b0_9,b0_10)))))))))))))
theorem q16y {t year best out has y b0 b0_1 b0_2 b0_3 b0_4 b0_5 b0_6 b0_7 b0_8 b0_9 b0_10 r} (h:q172 t year best out has y b0 b0_1 b0_2 b0_3 b0_4 b0_5 b0_6 b0_7 b0_8 b0_9 b0_10=some r):q16w t year best out has y b0 b0_1 b0_2 b0_3 b0_4 b0_5 b0_6 b0_7 b0_8 b0_9 b0_10=some r :=
 qnm (es:=q12s) (hs:=[]) [] (by kernel_rfl) trivial trivial (by kernel_rfl) h
def q16x:=qp9 Tryz.prog lv X0 5 (qix (cdF Tryz.f173) 5) q171 q16z (fun x=>q16w x.1.1 x.1.2.1 x.1.2.2.2.1 x.1.2.2.2.2.1 x.1.2.2.2.2.2.1 x.1.2.2.2.2.2.2 x.2.1 x.2.2.1 x.2.2.2.1 x.2.2.2.2.1 x.2.2.2.2.2.1 x.2.2.2.2.2.2.1 x.2.2.2.2.2.2.2.1 x.2.2.2.2.2.2.2.2.1 x.2.2.2.2.2.2.2.2.2.1 x.2.2.2.2.2.2.2.2.2.2.1 x.2.2.2.2.2.2.2.2.2.2.2) (fun _ _ h=>qnl h)
def q16t:Cod (V×List B) Int:=(cFstU (cPair (vC (cInt .i64)) qnj))
def q174 (z_Name:ByteArray) (z_Standard:Int) (z_Summer:Int) (z_Begin_Month:Int) (z_Begin_Week:Int) (z_Begin_Weekday:Int) (z_Begin_Minute:Int) (z_End_Month:Int) (z_End_Week:Int) (z_End_Weekday:Int) (z_End_Minute:Int) (t:Int) (year:Int):Option Int:=fS Tryz.prog lv X0 173 q16s q16t ((z_Name,z_Standard,z_Summer,z_Begin_Month,z_Begin_Week,z_Begin_Weekday,z_Begin_Minute,z_End_Month,z_End_Week,z_End_Weekday,z_End_Minute),t,year)
def q175 (z_Name:ByteArray) (z_Standard:Int) (z_Summer:Int) (z_Begin_Month:Int) (z_Begin_Week:Int) (z_Begin_Weekday:Int) (z_Begin_Minute:Int) (z_End_Month:Int) (z_End_Week:Int) (z_End_Weekday:Int) (z_End_Minute:Int) (t:Int) (year:Int):Option Int :=
 ((q16g z_Name z_Standard z_Summer z_Begin_Month z_Begin_Week z_Begin_Weekday z_Begin_Minute z_End_Month z_End_Week z_End_Weekday z_End_Minute).bind fun r0 =>
 (brE r0
 (some z_Standard)
 ((q16w t year 0 z_Standard false (IntKind.wrap .i64 (year - 1)) z_Name z_Standard z_Summer z_Begin_Month z_Begin_Week z_Begin_Weekday z_Begin_Minute z_End_Month z_End_Week z_End_Weekday z_End_Minute).bind fun r1 =>
 (some r1.1.2.2.2.2.1))))
theorem q16v {z_Name z_Standard z_Summer z_Begin_Month z_Begin_Week z_Begin_Weekday z_Begin_Minute z_End_Month z_End_Week z_End_Weekday z_End_Minute t year r} (h:q175 z_Name z_Standard z_Summer z_Begin_Month z_Begin_Week z_Begin_Weekday z_Begin_Minute z_End_Month z_End_Week z_End_Weekday z_End_Minute t year=some r):q174 z_Name z_Standard z_Summer z_Begin_Month z_Begin_Week z_Begin_Weekday z_Begin_Minute z_End_Month z_End_Week z_End_Weekday z_End_Minute t year=some r :=
 qf4 (es:=q12s) (hs:=[]) [q16x] Tryz.func173 rfl (by kernel_rfl) rfl (by kernel_rfl) (by kernel_rfl) ⟨⟨_,rfl,rfl⟩,trivial⟩ trivial (by kernel_rfl) h
def q16u:=entS Tryz.prog lv X0 173 [] q16s q16t (fun x=>q174 x.1.1 x.1.2.1 x.1.2.2.1 x.1.2.2.2.1 x.1.2.2.2.2.1 x.1.2.2.2.2.2.1 x.1.2.2.2.2.2.2.1 x.1.2.2.2.2.2.2.2.1 x.1.2.2.2.2.2.2.2.2.1 x.1.2.2.2.2.2.2.2.2.2.1 x.1.2.2.2.2.2.2.2.2.2.2 x.2.1 x.2.2) (fun _ _ h=>qf3 h)
def q12t:=q16u::q12s
def q15z:=(qni (vAgg (qni (vC cStr) (qni (vC (cInt .i64)) (qni (vC (cInt .i64)) (qni (vC (cInt .i64)) (qni (vC (cInt .i64)) (qni (vC (cInt .i64)) (qni (vC (cInt .i64)) (qni (vC (cInt .i64)) (qni (vC (cInt .i64)) (qni (vC (cInt .i64)) (qnk (vC (cInt .i64)))))))))))))) (qnk (vC (cInt .i64))))
def q160:Cod (V×List B) (Int×(Int×Int)):=(cFstU (cPair (vTup (qni (vC (cInt .i64)) (qnk (vAgg (qni (vC (cInt .i64)) (qnk (vC (cInt .i64)))))))) qnj))
def q164 (z_Name:ByteArray) (z_Standard:Int) (z_Summer:Int) (z_Begin_Month:Int) (z_Begin_Week:Int) (z_Begin_Weekday:Int) (z_Begin_Minute:Int) (z_End_Month:Int) (z_End_Week:Int) (z_End_Weekday:Int) (z_End_Minute:Int) (t:Int):Option (Int×(Int×Int)):=fS Tryz.prog lv X0 124 q15z q160 ((z_Name,z_Standard,z_Summer,z_Begin_Month,z_Begin_Week,z_Begin_Weekday,z_Begin_Minute,z_End_Month,z_End_Week,z_End_Weekday,z_End_Minute),t)
def q165 (z_Name:ByteArray) (z_Standard:Int) (z_Summer:Int) (z_Begin_Month:Int) (z_Begin_Week:Int) (z_Begin_Weekday:Int) (z_Begin_Minute:Int) (z_End_Month:Int) (z_End_Week:Int) (z_End_Weekday:Int) (z_End_Minute:Int) (t:Int):Option (Int×(Int×Int)) :=
 ((zval_s z_Name z_Standard z_Summer z_Begin_Month z_Begin_Week z_Begin_Weekday z_Begin_Minute z_End_Month z_End_Week z_End_Weekday z_End_Minute).bind fun r0 =>
 ((q5f r0.1 r0.2).bind fun r1 =>
 (brE r1
 (some (0,(r0.1,r0.2)))
 ((q6f t).bind fun r2 =>
 (brE (!r2)
 ((q5l 3 (-2)).bind fun r3 =>
 (some (0,(r3.1,r3.2))))
 ((q9l t z_Standard).bind fun r3 =>
 ((q5f r3.2.1 r3.2.2).bind fun r4 =>
 (brE (r4==false)
 ((q17o r3.1.1 2 3999).bind fun r5 =>
 (brE (!r5)
 ((q5l 3 (-8)).bind fun r6 =>
 (some (0,(r6.1,r6.2))))
 ((q174 z_Name z_Standard z_Summer z_Begin_Month z_Begin_Week z_Begin_Weekday z_Begin_Minute z_End_Month z_End_Week z_End_Weekday z_End_Minute t r3.1.1).bind fun r6 =>
 (Option.bind q69 fun r7 =>
 (some (r6,(r7.1,r7.2)))))))
 ((q5l 3 (-8)).bind fun r5 =>
 (some (0,(r5.1,r5.2))))))))))))
theorem q162 {z_Name z_Standard z_Summer z_Begin_Month z_Begin_Week z_Begin_Weekday z_Begin_Minute z_End_Month z_End_Week z_End_Weekday z_End_Minute t r} (h:q165 z_Name z_Standard z_Summer z_Begin_Month z_Begin_Week z_Begin_Weekday z_Begin_Minute z_End_Month z_End_Week z_End_Weekday z_End_Minute t=some r):q164 z_Name z_Standard z_Summer z_Begin_Month z_Begin_Week z_Begin_Weekday z_Begin_Minute z_End_Month z_End_Week z_End_Weekday z_End_Minute t=some r :=
 qf4 (es:=q12t) (hs:=[]) [] Tryz.func124 rfl (by kernel_rfl) rfl (by kernel_rfl) (by kernel_rfl) trivial trivial (by kernel_rfl) h
def q161:=entS Tryz.prog lv X0 124 [] q15z q160 (fun x=>q164 x.1.1 x.1.2.1 x.1.2.2.1 x.1.2.2.2.1 x.1.2.2.2.2.1 x.1.2.2.2.2.2.1 x.1.2.2.2.2.2.2.1 x.1.2.2.2.2.2.2.2.1 x.1.2.2.2.2.2.2.2.2.1 x.1.2.2.2.2.2.2.2.2.2.1 x.1.2.2.2.2.2.2.2.2.2.2 x.2) (fun _ _ h=>qf3 h)
def q12q:=q161::q12t
def qdf:EC Int where
 enc x:=[.int .i64 x]
 dec c:=qm6 (c.getD 0 .ne)
 is c:=isE [.int .i64] 0 c
 enc_dec h:=qc1 h
 dec_enc x:=by rfl
 is_enc x:=by simp [isE,isK]
theorem enc_3 (x:Int):qdf.enc x=[.int .i64 x]:=rfl
theorem qmh (xs:List Int) (n:Nat):isE [.int .i64] 0 ((qdf.encL xs).getD n [])=decide (n<xs.length):=by
 by_cases h:n<xs.length
 ·simp only [EC.getD_lt _ _ h];simp [enc_3,isE,isK,h]
 ·simp only [EC.getD_ge _ _ (Nat.not_lt.1 h)];simp [isE,isK,h]
theorem q3g (xs:List Int) (n:Nat):qm6 (((qdf.encL xs).getD n []).getD 0 .ne)=(xs.getD n (qdf.dec [])):=by
 by_cases h:n<xs.length
 ·simp only [EC.getD_lt _ _ h];simp [enc_3,h,q10v,qm6,q76,slOf,List.getD_eq_getElem?_getD]
 ·simp only [EC.getD_ge _ _ (Nat.not_lt.1 h)];simp [Nat.not_lt.1 h,qdf,q10v,qm6,q76,slOf,List.getD_eq_getElem?_getD,EC.decL,EC.encL]
theorem lit_3 (a0:Int):([.int .i64 a0]:List C)=qdf.enc a0:=rfl
theorem q2x (xs:List Int) (a0:Int):qdf.encL xs++[[.int .i64 a0]]=qdf.encL (xs++[a0]):=by rw [lit_3];simp [EC.encL]
theorem len_3 (xs:List Int) (n:Nat) (h:n<xs.length):((qdf.encL xs).getD n []).length=1:=by rw [EC.getD_lt _ _ h];rfl
theorem q2a (xs:List Int):(qdf.encL xs).all (fun (el:List C)=>el.length==1)=true:=by induction xs with|nil=>rfl|cons x xs ih=>first|(simp [EC.encL,enc_3];done)|simpa [EC.encL,enc_3] using ih
theorem qxl (xs:List Int) (n:Nat) (a0:Int):(qdf.encL xs).set n (splice ((qdf.encL xs).getD n []) 0 [.int .i64 a0])=qdf.encL (xs.set n (a0)):=by
 by_cases h:n<xs.length
 ·rw [EC.getD_lt _ _ h];simp [EC.encL,List.map_set,enc_3,splice,List.getD_eq_getElem?_getD,h]
 ·simp [EC.encL,List.set_eq_of_length_le,Nat.not_lt.1 h]
def q15l:=(qni (vAgg (qni (vC cStr) (qni (vC (cInt .i64)) (qni (vC (cInt .i64)) (qni (vC (cInt .i64)) (qni (vC (cInt .i64)) (qni (vC (cInt .i64)) (qni (vC (cInt .i64)) (qni (vC (cInt .i64)) (qni (vC (cInt .i64)) (qni (vC (cInt .i64)) (qnk (vC (cInt .i64)))))))))))))) (qnk (vAgg (qni (vC (cInt .i64)) (qni (vC (cInt .i64)) (qni (vC (cInt .i64)) (qni (vC (cInt .i64)) (qni (vC (cInt .i64)) (qni (vC (cInt .i64)) (qnk (vC (cInt .i64))))))))))))
def q15u:=sLS [2,5,7,10,49,50,51] (qni (vPtr 0 0) (qni (vPtr 1 0) (qni (vC (cInt .i64)) (qni (vRow 2) (qni (vRow 3) (qni (vC (cInt .i64)) (qnk (vC (cInt .i64))))))))) (qni (qt8 (bBox (qni (vC cStr) (qni (vC (cInt .i64)) (qni (vC (cInt .i64)) (qni (vC (cInt .i64)) (qni (vC (cInt .i64)) (qni (vC (cInt .i64)) (qni (vC (cInt .i64)) (qni (vC (cInt .i64)) (qni (vC (cInt .i64)) (qni (vC (cInt .i64)) (qnk (vC (cInt .i64))))))))))))))) (qni (qt8 (bBox (qni (vC (cInt .i64)) (qnk (vC (cInt .i64)))))) (qni (qt8 (bRow qdf)) (qnk (qt8 (bRow qdf)))))) [false,false,false,false] [] (by decide) (fun _=>rfl)
def q15t:=sLS [2,5,7,10,49,50,51,52] (qni (vPtr 0 0) (qni (vPtr 1 0) (qni (vC (cInt .i64)) (qni (vRow 2) (qni (vRow 3) (qni (vC (cInt .i64)) (qni (vC (cInt .i64)) (qnk (vC cBool))))))))) (qni (qt8 (bBox (qni (vC cStr) (qni (vC (cInt .i64)) (qni (vC (cInt .i64)) (qni (vC (cInt .i64)) (qni (vC (cInt .i64)) (qni (vC (cInt .i64)) (qni (vC (cInt .i64)) (qni (vC (cInt .i64)) (qni (vC (cInt .i64)) (qni (vC (cInt .i64)) (qnk (vC (cInt .i64))))))))))))))) (qni (qt8 (bBox (qni (vC (cInt .i64)) (qnk (vC (cInt .i64)))))) (qni (qt8 (bRow qdf)) (qnk (qt8 (bRow qdf)))))) [false,false,false,false] [] (by decide) (fun _=>rfl)
def q15s:=oAt 2 q15t
def q15p (n:Int) (out:Nat) (t49:Nat) (t50:Int) (t51:Int) (b0:ByteArray) (b0_1:Int) (b0_2:Int) (b0_3:Int) (b0_4:Int) (b0_5:Int) (b0_6:Int) (b0_7:Int) (b0_8:Int) (b0_9:Int) (b0_10:Int) (b1:Int) (b1_1:Int) (b2:(List Int)) (b3:(List Int)):Option ((Unit×Unit×Int×Nat×Nat×Int×Int×Bool)×((ByteArray×Int×Int×Int×Int×Int×Int×Int×Int×Int×Int)×(Int×Int)×(List Int)×(List Int))):=lS Tryz.prog lv X0 87 82 (qix (cdF Tryz.f87) 16) q15u q15s (((),(),n,out,t49,t50,t51),((b0,b0_1,b0_2,b0_3,b0_4,b0_5,b0_6,b0_7,b0_8,b0_9,b0_10),(b1,b1_1),b2,b3))
def q15v (n:Int) (out:Nat) (t49:Nat) (t50:Int) (t51:Int) (b0:ByteArray) (b0_1:Int) (b0_2:Int) (b0_3:Int) (b0_4:Int) (b0_5:Int) (b0_6:Int) (b0_7:Int) (b0_8:Int) (b0_9:Int) (b0_10:Int) (b1:Int) (b1_1:Int) (b2:(List Int)) (b3:(List Int)):Option ((Unit×Unit×Int×Nat×Nat×Int×Int×Bool)×((ByteArray×Int×Int×Int×Int×Int×Int×Int×Int×Int×Int)×(Int×Int)×(List Int)×(List Int))) :=
 (brE (decide (t51<t50))
 (gdE ((decide (0≤t51))&&(decide (t51<((t49:Nat):Int))))<|
 (gdE ((decide ((Int.toNat t51)<(List.length (EC.encL qdf b3))))&&((List.length (List.getD (EC.encL qdf b3) (Int.toNat t51) []))==1))<|
 (gdE (isP [(K1.int Go.IntKind.i64)] 0 (List.getD (EC.encL qdf b3) (Int.toNat t51) []))<|
 (Option.bind (q164 b0 b0_1 b0_2 b0_3 b0_4 b0_5 b0_6 b0_7 b0_8 b0_9 b0_10 (IntKind.wrap .i64 (n - (IntKind.wrap .i64 (60*(qm6 (List.getD (List.getD (EC.encL qdf b3) (Int.toNat t51) []) 0 C.ne))))))) fun r0 =>
 ((q5f r0.2.1 r0.2.2).bind fun r1 =>
 (brE ((!r1)==true)
 (brE (r0.1==(qm6 (List.getD (List.getD (EC.encL qdf b3) (Int.toNat t51) []) 0 C.ne)))
 (gdE ((((List.all [[(C.int Go.IntKind.i64 (IntKind.wrap .i64 (n - (IntKind.wrap .i64 (60*(qm6 (List.getD (List.getD (EC.encL qdf b3) (Int.toNat t51) []) 0 C.ne)))))))]] (fun (el:(List C))=>((List.length el)==1)))&&(List.all (EC.encL qdf b2) (fun (el:(List C))=>((List.length el)==1))))&&(decide (((((out+(List.length [[(C.int Go.IntKind.i64 (IntKind.wrap .i64 (n - (IntKind.wrap .i64 (60*(qm6 (List.getD (List.getD (EC.encL qdf b3) (Int.toNat t51) []) 0 C.ne)))))))]]))+((out+(List.length [[(C.int Go.IntKind.i64 (IntKind.wrap .i64 (n - (IntKind.wrap .i64 (60*(qm6 (List.getD (List.getD (EC.encL qdf b3) (Int.toNat t51) []) 0 C.ne)))))))]])) / 4))+192)*8)≤281474976710656)))&&(decide ((out+(List.length [[(C.int Go.IntKind.i64 (IntKind.wrap .i64 (n - (IntKind.wrap .i64 (60*(qm6 (List.getD (List.getD (EC.encL qdf b3) (Int.toNat t51) []) 0 C.ne)))))))]]))≤9223372036854775807)))<|
 (gdE (EC.isL qdf ((EC.encL qdf b2)++[[(C.int Go.IntKind.i64 (IntKind.wrap .i64 (n - (IntKind.wrap .i64 (60*(qm6 (List.getD (List.getD (EC.encL qdf b3) (Int.toNat t51) []) 0 C.ne)))))))]]))<|
 (gdE (EC.isL qdf (EC.encL qdf b3))<|
 (q15p n (out+(List.length [[(C.int Go.IntKind.i64 (IntKind.wrap .i64 (n - (IntKind.wrap .i64 (60*(qm6 (List.getD (List.getD (EC.encL qdf b3) (Int.toNat t51) []) 0 C.ne)))))))]])) t49 t50 (IntKind.wrap .i64 (t51+1)) b0 b0_1 b0_2 b0_3 b0_4 b0_5 b0_6 b0_7 b0_8 b0_9 b0_10 b1 b1_1 (EC.decL qdf ((EC.encL qdf b2)++[[(C.int Go.IntKind.i64 (IntKind.wrap .i64 (n - (IntKind.wrap .i64 (60*(qm6 (List.getD (List.getD (EC.encL qdf b3) (Int.toNat t51) []) 0 C.ne)))))))]])) (EC.decL qdf (EC.encL qdf b3))))))
 (gdE (EC.isL qdf (EC.encL qdf b2))<|
 (gdE (EC.isL qdf (EC.encL qdf b3))<|
 (q15p n out t49 t50 (IntKind.wrap .i64 (t51+1)) b0 b0_1 b0_2 b0_3 b0_4 b0_5 b0_6 b0_7 b0_8 b0_9 b0_10 b1 b1_1 (EC.decL qdf (EC.encL qdf b2)) (EC.decL qdf (EC.encL qdf b3))))))
 (gdE (EC.isL qdf (EC.encL qdf b2))<|
 (gdE (EC.isL qdf (EC.encL qdf b3))<|
 (q15p n out t49 t50 (IntKind.wrap .i64 (t51+1)) b0 b0_1 b0_2 b0_3 b0_4 b0_5 b0_6 b0_7 b0_8 b0_9 b0_10 b1 b1_1 (EC.decL qdf (EC.encL qdf b2)) (EC.decL qdf (EC.encL qdf b3)))))))))))
 (gdE (EC.isL qdf (EC.encL qdf b2))<|
 (gdE (EC.isL qdf (EC.encL qdf b3))<|
 (some (((),((),(n,(out,(t49,(t50,(t51,false))))))),((b0,(b0_1,(b0_2,(b0_3,(b0_4,(b0_5,(b0_6,(b0_7,(b0_8,(b0_9,b0_10)))))))))),((b1,b1_1),((EC.decL qdf (EC.encL qdf b2)),(EC.decL qdf (EC.encL qdf b3))))))))))
theorem q15r {n out t49 t50 t51 b0 b0_1 b0_2 b0_3 b0_4 b0_5 b0_6 b0_7 b0_8 b0_9 b0_10 b1 b1_1 b2 b3 r} (h:q15v n out t49 t50 t51 b0 b0_1 b0_2 b0_3 b0_4 b0_5 b0_6 b0_7 b0_8 b0_9 b0_10 b1 b1_1 b2 b3=some r):q15p n out t49 t50 t51 b0 b0_1 b0_2 b0_3 b0_4 b0_5 b0_6 b0_7 b0_8 b0_9 b0_10 b1 b1_1 b2 b3=some r :=
 qnm (es:=q12q) (hs:=[]) [] (by kernel_rfl) trivial trivial (by kernel_rfl) h
def q15q:=qp9 Tryz.prog lv X0 16 (qix (cdF Tryz.f87) 16) q15u q15s (fun x=>q15p x.1.2.2.1 x.1.2.2.2.1 x.1.2.2.2.2.1 x.1.2.2.2.2.2.1 x.1.2.2.2.2.2.2 x.2.1.1 x.2.1.2.1 x.2.1.2.2.1 x.2.1.2.2.2.1 x.2.1.2.2.2.2.1 x.2.1.2.2.2.2.2.1 x.2.1.2.2.2.2.2.2.1 x.2.1.2.2.2.2.2.2.2.1 x.2.1.2.2.2.2.2.2.2.2.1 x.2.1.2.2.2.2.2.2.2.2.2.1 x.2.1.2.2.2.2.2.2.2.2.2.2 x.2.2.1.1 x.2.2.1.2 x.2.2.2.1 x.2.2.2.2) (fun _ _ h=>qnl h)
def q15m:Cod (V×List B) ((Nat×(Int×Int))×(List Int)):=(cPair (vTup (qni (vRow 0) (qnk (vAgg (qni (vC (cInt .i64)) (qnk (vC (cInt .i64)))))))) (qnk (bRow qdf)))
def q15x (z_Name:ByteArray) (z_Standard:Int) (z_Summer:Int) (z_Begin_Month:Int) (z_Begin_Week:Int) (z_Begin_Weekday:Int) (z_Begin_Minute:Int) (z_End_Month:Int) (z_End_Week:Int) (z_End_Weekday:Int) (z_End_Minute:Int) (d_Year:Int) (d_Month:Int) (d_Day:Int) (d_Hour:Int) (d_Minute:Int) (d_Second:Int) (d_Zone:Int):Option ((Nat×(Int×Int))×(List Int)):=fS Tryz.prog lv X0 87 q15l q15m ((z_Name,z_Standard,z_Summer,z_Begin_Month,z_Begin_Week,z_Begin_Weekday,z_Begin_Minute,z_End_Month,z_End_Week,z_End_Weekday,z_End_Minute),(d_Year,d_Month,d_Day,d_Hour,d_Minute,d_Second,d_Zone))
def q15y (z_Name:ByteArray) (z_Standard:Int) (z_Summer:Int) (z_Begin_Month:Int) (z_Begin_Week:Int) (z_Begin_Weekday:Int) (z_Begin_Minute:Int) (z_End_Month:Int) (z_End_Week:Int) (z_End_Weekday:Int) (z_End_Minute:Int) (d_Year:Int) (d_Month:Int) (d_Day:Int) (d_Hour:Int) (d_Minute:Int) (d_Second:Int) (d_Zone:Int):Option ((Nat×(Int×Int))×(List Int)) :=
 ((zval_s z_Name z_Standard z_Summer z_Begin_Month z_Begin_Week z_Begin_Weekday z_Begin_Minute z_End_Month z_End_Week z_End_Weekday z_End_Minute).bind fun r0 =>
 ((q5f r0.1 r0.2).bind fun r1 =>
 (brE r1
 (some ((0,(r0.1,r0.2)),(EC.decL qdf [])))
 ((qcm d_Year d_Month d_Day d_Hour d_Minute d_Second d_Zone).bind fun r2 =>
 ((q5f r2.2.1 r2.2.2).bind fun r3 =>
 (brE r3
 (some ((0,(r2.2.1,r2.2.2)),(EC.decL qdf [])))
 (brE (d_Zone != 0)
 ((q5l 5 (-9)).bind fun r4 =>
 (some ((0,(r4.1,r4.2)),(EC.decL qdf []))))
 ((q17o d_Year 3 3998).bind fun r4 =>
 (brE (!r4)
 ((q5l 3 (-9)).bind fun r5 =>
 (some ((0,(r5.1,r5.2)),(EC.decL qdf []))))
 ((q16g z_Name z_Standard z_Summer z_Begin_Month z_Begin_Week z_Begin_Weekday z_Begin_Minute z_End_Month z_End_Week z_End_Weekday z_End_Minute).bind fun r5 =>
 (brE (!r5)
 ((q15p r2.1 0 (1+(List.length [[(C.int Go.IntKind.i64 z_Summer)]])) (((1+(List.length [[(C.int Go.IntKind.i64 z_Summer)]])):Nat):Int) 0 z_Name z_Standard z_Summer z_Begin_Month z_Begin_Week z_Begin_Weekday z_Begin_Minute z_End_Month z_End_Week z_End_Weekday z_End_Minute 0 0 (EC.decL qdf []) (EC.decL qdf ([[(C.int Go.IntKind.i64 z_Standard)]]++[[(C.int Go.IntKind.i64 z_Summer)]]))).bind fun r6 =>
 (gdE ((List.all (EC.encL qdf r6.2.2.2.1) intB)&&(decide ((List.length (EC.encL qdf r6.2.2.2.1))≤1000000)))<|
 (Option.bind q69 fun r7 =>
 (gdE (EC.isL qdf (srtL (EC.encL qdf r6.2.2.2.1)))<|
 (some ((r6.1.2.2.2.1,(r7.1,r7.2)),(EC.decL qdf (srtL (EC.encL qdf r6.2.2.2.1)))))))))
 ((q15p r2.1 0 1 ((1:Nat):Int) 0 z_Name z_Standard z_Summer z_Begin_Month z_Begin_Week z_Begin_Weekday z_Begin_Minute z_End_Month z_End_Week z_End_Weekday z_End_Minute 0 0 (EC.decL qdf []) (EC.decL qdf [[(C.int Go.IntKind.i64 z_Standard)]])).bind fun r6 =>
 (gdE ((List.all (EC.encL qdf r6.2.2.2.1) intB)&&(decide ((List.length (EC.encL qdf r6.2.2.2.1))≤1000000)))<|
 (Option.bind q69 fun r7 =>
 (gdE (EC.isL qdf (srtL (EC.encL qdf r6.2.2.2.1)))<|
 (some ((r6.1.2.2.2.1,(r7.1,r7.2)),(EC.decL qdf (srtL (EC.encL qdf r6.2.2.2.1))))))))))))))))))))
theorem q15o {z_Name z_Standard z_Summer z_Begin_Month z_Begin_Week z_Begin_Weekday z_Begin_Minute z_End_Month z_End_Week z_End_Weekday z_End_Minute d_Year d_Month d_Day d_Hour d_Minute d_Second d_Zone r} (h:q15y z_Name z_Standard z_Summer z_Begin_Month z_Begin_Week z_Begin_Weekday z_Begin_Minute z_End_Month z_End_Week z_End_Weekday z_End_Minute d_Year d_Month d_Day d_Hour d_Minute d_Second d_Zone=some r):q15x z_Name z_Standard z_Summer z_Begin_Month z_Begin_Week z_Begin_Weekday z_Begin_Minute z_End_Month z_End_Week z_End_Weekday z_End_Minute d_Year d_Month d_Day d_Hour d_Minute d_Second d_Zone=some r :=
 qf4 (es:=q12q) (hs:=[]) [q15q] Tryz.func87 rfl (by kernel_rfl) rfl (by kernel_rfl) (by kernel_rfl) ⟨⟨_,rfl,rfl⟩,trivial⟩ trivial (by kernel_rfl) h
def q15n:=entS Tryz.prog lv X0 87 [] q15l q15m (fun x=>q15x x.1.1 x.1.2.1 x.1.2.2.1 x.1.2.2.2.1 x.1.2.2.2.2.1 x.1.2.2.2.2.2.1 x.1.2.2.2.2.2.2.1 x.1.2.2.2.2.2.2.2.1 x.1.2.2.2.2.2.2.2.2.1 x.1.2.2.2.2.2.2.2.2.2.1 x.1.2.2.2.2.2.2.2.2.2.2 x.2.1 x.2.2.1 x.2.2.2.1 x.2.2.2.2.1 x.2.2.2.2.2.1 x.2.2.2.2.2.2.1 x.2.2.2.2.2.2.2) (fun _ _ h=>qf3 h)
def q12p:=q15n::q12q
def qva:=(qni (vC (cSl qdf)) (qnk (vC (cInt .i64))))
def qvk:=sLS [0,1,4,12,13,14] (qni (vC (cSl qdf)) (qni (vC (cInt .i64)) (qni (vPtr 0 0) (qni (vC (cSl qdf)) (qni (vC (cInt .i64)) (qnk (vC (cInt .i64)))))))) (qnk (qt8 (bBox (qni (vC (cInt .i64)) (qnk (vC (cInt .i64))))))) [false] [] (by decide) (fun _=>rfl)
def qvj:=sLS [0,1,4,12,13,14,15] (qni (vC (cSl qdf)) (qni (vC (cInt .i64)) (qni (vPtr 0 0) (qni (vC (cSl qdf)) (qni (vC (cInt .i64)) (qni (vC (cInt .i64)) (qnk (vC cBool)))))))) (qnk (qt8 (bBox (qni (vC (cInt .i64)) (qnk (vC (cInt .i64))))))) [false] [] (by decide) (fun _=>rfl)
def qvi:=sLS [4] (qnk (vPtr 0 0)) (qnk (qt8 (bBox (qni (vC (cInt .i64)) (qnk (vC (cInt .i64))))))) [false] [] (by decide) (fun _=>rfl)
def qvh:=oOr 1 qvi (oAt 2 qvj) (fun x=>(by decide:(2:Nat)≠1))
def qve (l:(List Int)) (at_:Int) (t12:(List Int)) (t13:Int) (t14:Int) (b0:Int) (b0_1:Int):Option ((Unit×(Int×Int))⊕(((List Int)×Int×Unit×(List Int)×Int×Int×Bool)×(Int×Int))):=lS Tryz.prog lv X0 126 39 (qix (cdF Tryz.f126) 4) qvk qvh ((l,at_,(),t12,t13,t14),(b0,b0_1))
def qvl (l:(List Int)) (at_:Int) (t12:(List Int)) (t13:Int) (t14:Int) (b0:Int) (b0_1:Int):Option ((Unit×(Int×Int))⊕(((List Int)×Int×Unit×(List Int)×Int×Int×Bool)×(Int×Int))) :=
 (brE (decide (t14<t13))
 (gdE (decide (0≤t14))<|
 (gdE ((decide ((Int.toNat t14)<(List.length (EC.encL qdf t12))))&&(isE [(K1.int Go.IntKind.i64)] 0 (List.getD (EC.encL qdf t12) (Int.toNat t14) [])))<|
 ((q6f (qm6 (List.getD (List.getD (EC.encL qdf t12) (Int.toNat t14) []) 0 C.ne))).bind fun r0 =>
 (brE (!r0)
 ((q5l 3 at_).bind fun r1 =>
 (some (.inl ((),(r1.1,r1.2)))))
 (brE ((decide (t14>0))==true)
 (gdE (decide (0≤(IntKind.wrap .i64 (t14 - 1))))<|
 (gdE ((decide ((Int.toNat (IntKind.wrap .i64 (t14 - 1)))<(List.length (EC.encL qdf l))))&&(isE [(K1.int Go.IntKind.i64)] 0 (List.getD (EC.encL qdf l) (Int.toNat (IntKind.wrap .i64 (t14 - 1))) [])))<|
 (brE (decide ((qm6 (List.getD (List.getD (EC.encL qdf t12) (Int.toNat t14) []) 0 C.ne))≤(qm6 (List.getD (List.getD (EC.encL qdf l) (Int.toNat (IntKind.wrap .i64 (t14 - 1))) []) 0 C.ne))))
 ((q5l 19 at_).bind fun r1 =>
 (some (.inl ((),(r1.1,r1.2)))))
 (gdE (EC.isL qdf (EC.encL qdf l))<|
 (gdE (EC.isL qdf (EC.encL qdf t12))<|
 (qve (EC.decL qdf (EC.encL qdf l)) at_ (EC.decL qdf (EC.encL qdf t12)) t13 (IntKind.wrap .i64 (t14+1)) b0 b0_1))))))
 (gdE (EC.isL qdf (EC.encL qdf l))<|
 (gdE (EC.isL qdf (EC.encL qdf t12))<|
 (qve (EC.decL qdf (EC.encL qdf l)) at_ (EC.decL qdf (EC.encL qdf t12)) t13 (IntKind.wrap .i64 (t14+1)) b0 b0_1))))))))
 (gdE (EC.isL qdf (EC.encL qdf l))<|
 (gdE (EC.isL qdf (EC.encL qdf t12))<|
 (some (.inr (((EC.decL qdf (EC.encL qdf l)),(at_,((),((EC.decL qdf (EC.encL qdf t12)),(t13,(t14,false)))))),(b0,b0_1)))))))
theorem qvg {l at_ t12 t13 t14 b0 b0_1 r} (h:qvl l at_ t12 t13 t14 b0 b0_1=some r):qve l at_ t12 t13 t14 b0 b0_1=some r :=
 qnm (es:=q12p) (hs:=[]) [] (by kernel_rfl) trivial trivial (by kernel_rfl) h
def qvf:=qp9 Tryz.prog lv X0 4 (qix (cdF Tryz.f126) 4) qvk qvh (fun x=>qve x.1.1 x.1.2.1 x.1.2.2.2.1 x.1.2.2.2.2.1 x.1.2.2.2.2.2 x.2.1 x.2.2) (fun _ _ h=>qnl h)
def qvb:Cod (V×List B) (Int×Int):=(cFstU (cPair (vAgg (qni (vC (cInt .i64)) (qnk (vC (cInt .i64))))) qnj))
def qvn (l:(List Int)) (at_:Int):Option (Int×Int):=fS Tryz.prog lv X0 126 qva qvb (l,at_)
def qvo (l:(List Int)) (at_:Int):Option (Int×Int) :=
 (brE (decide ((List.length (EC.encL qdf l):Int)>300))
 ((q5l 2 at_).bind fun r0 =>
 (some (r0.1,r0.2)))
 (gdE (EC.isL qdf (EC.encL qdf l))<|
 (gdE (EC.isL qdf (EC.encL qdf l))<|
 ((qve (EC.decL qdf (EC.encL qdf l)) at_ (EC.decL qdf (EC.encL qdf l)) (List.length (EC.encL qdf l):Int) 0 0 0).bind fun r0 =>
 (Sum.elim (fun r1=>(some (r1.2.1,r1.2.2)))
 (fun r1=>(Option.bind q69 fun r2 =>
 (some (r2.1,r2.2)))) r0)))))
theorem qvd {l at_ r} (h:qvo l at_=some r):qvn l at_=some r :=
 qf4 (es:=q12p) (hs:=[]) [qvf] Tryz.func126 rfl (by kernel_rfl) rfl (by kernel_rfl) (by kernel_rfl) ⟨⟨_,rfl,rfl⟩,trivial⟩ trivial (by kernel_rfl) h
def qvc:=entS Tryz.prog lv X0 126 [] qva qvb (fun x=>qvn x.1 x.2) (fun _ _ h=>qf3 h)
def q12f:=qvc::q12p
def qws:=(qnk (vAgg (qni (vC (cInt .i64)) (qni (vC (cInt .i64)) (qni (vC (cInt .i64)) (qni (vC (cInt .i64)) (qni (vC cBool) (qni (vC (cSl qdf)) (qni (vC (cSl qdf)) (qnk (vC (cSl qdf))))))))))))
def qx2:=sLS [1,2,16,17,18] (qni (vPtr 0 0) (qni (vPtr 1 0) (qni (vC (cSl qdf)) (qni (vC (cInt .i64)) (qnk (vC (cInt .i64))))))) (qni (qt8 (bBox (qni (vC (cInt .i64)) (qni (vC (cInt .i64)) (qni (vC (cInt .i64)) (qni (vC (cInt .i64)) (qni (vC cBool) (qni (vC (cSl qdf)) (qni (vC (cSl qdf)) (qnk (vC (cSl qdf)))))))))))) (qnk (qt8 (bBox (qni (vC (cInt .i64)) (qnk (vC (cInt .i64)))))))) [false,false] [] (by decide) (fun _=>rfl)
def qx1:=sLS [1,2,16,17,18,19] (qni (vPtr 0 0) (qni (vPtr 1 0) (qni (vC (cSl qdf)) (qni (vC (cInt .i64)) (qni (vC (cInt .i64)) (qnk (vC cBool))))))) (qni (qt8 (bBox (qni (vC (cInt .i64)) (qni (vC (cInt .i64)) (qni (vC (cInt .i64)) (qni (vC (cInt .i64)) (qni (vC cBool) (qni (vC (cSl qdf)) (qni (vC (cSl qdf)) (qnk (vC (cSl qdf)))))))))))) (qnk (qt8 (bBox (qni (vC (cInt .i64)) (qnk (vC (cInt .i64)))))))) [false,false] [] (by decide) (fun _=>rfl)
def qx0:=sLS [2] (qnk (vPtr 0 0)) (qnk (qt8 (bBox (qni (vC (cInt .i64)) (qnk (vC (cInt .i64))))))) [false] [] (by decide) (fun _=>rfl)
def qwz:=oOr 1 qx0 (oAt 2 qx1) (fun x=>(by decide:(2:Nat)≠1))
def qww (t16:(List Int)) (t17:Int) (t18:Int) (b0:Int) (b0_1:Int) (b0_2:Int) (b0_3:Int) (b0_4:Bool) (b0_5:(List Int)) (b0_6:(List Int)) (b0_7:(List Int)) (b1:Int) (b1_1:Int):Option ((Unit×(Int×Int))⊕((Unit×Unit×(List Int)×Int×Int×Bool)×((Int×Int×Int×Int×Bool×(List Int)×(List Int)×(List Int))×(Int×Int)))):=lS Tryz.prog lv X0 125 45 (qix (cdF Tryz.f125) 4) qx2 qwz (((),(),t16,t17,t18),((b0,b0_1,b0_2,b0_3,b0_4,b0_5,b0_6,b0_7),(b1,b1_1)))
def qx3 (t16:(List Int)) (t17:Int) (t18:Int) (b0:Int) (b0_1:Int) (b0_2:Int) (b0_3:Int) (b0_4:Bool) (b0_5:(List Int)) (b0_6:(List Int)) (b0_7:(List Int)) (b1:Int) (b1_1:Int):Option ((Unit×(Int×Int))⊕((Unit×Unit×(List Int)×Int×Int×Bool)×((Int×Int×Int×Int×Bool×(List Int)×(List Int)×(List Int))×(Int×Int)))) :=
 (brE (decide (t18<t17))
 (gdE (decide (0≤t18))<|
 (gdE ((decide ((Int.toNat t18)<(List.length (EC.encL qdf t16))))&&(isE [(K1.int Go.IntKind.i64)] 0 (List.getD (EC.encL qdf t16) (Int.toNat t18) [])))<|
 (brE ((decide ((qm6 (List.getD (List.getD (EC.encL qdf t16) (Int.toNat t18) []) 0 C.ne))<0))==false)
 (brE (decide ((qm6 (List.getD (List.getD (EC.encL qdf t16) (Int.toNat t18) []) 0 C.ne))>6))
 ((q5l 3 (-7)).bind fun r0 =>
 (some (.inl ((),(r0.1,r0.2)))))
 (brE ((decide (t18>0))==true)
 (gdE (decide (0≤(IntKind.wrap .i64 (t18 - 1))))<|
 (gdE ((decide ((Int.toNat (IntKind.wrap .i64 (t18 - 1)))<(List.length (EC.encL qdf b0_5))))&&(isE [(K1.int Go.IntKind.i64)] 0 (List.getD (EC.encL qdf b0_5) (Int.toNat (IntKind.wrap .i64 (t18 - 1))) [])))<|
 (brE (decide ((qm6 (List.getD (List.getD (EC.encL qdf t16) (Int.toNat t18) []) 0 C.ne))≤(qm6 (List.getD (List.getD (EC.encL qdf b0_5) (Int.toNat (IntKind.wrap .i64 (t18 - 1))) []) 0 C.ne))))
 ((q5l 19 (-7)).bind fun r0 =>
 (some (.inl ((),(r0.1,r0.2)))))
 (gdE (EC.isL qdf (EC.encL qdf t16))<|
 (gdE (EC.isL qdf (EC.encL qdf b0_5))<|
 (gdE (EC.isL qdf (EC.encL qdf b0_6))<|
 (gdE (EC.isL qdf (EC.encL qdf b0_7))<|
 (qww (EC.decL qdf (EC.encL qdf t16)) t17 (IntKind.wrap .i64 (t18+1)) b0 b0_1 b0_2 b0_3 b0_4 (EC.decL qdf (EC.encL qdf b0_5)) (EC.decL qdf (EC.encL qdf b0_6)) (EC.decL qdf (EC.encL qdf b0_7)) b1 b1_1))))))))
 (gdE (EC.isL qdf (EC.encL qdf t16))<|
 (gdE (EC.isL qdf (EC.encL qdf b0_5))<|
 (gdE (EC.isL qdf (EC.encL qdf b0_6))<|
 (gdE (EC.isL qdf (EC.encL qdf b0_7))<|
 (qww (EC.decL qdf (EC.encL qdf t16)) t17 (IntKind.wrap .i64 (t18+1)) b0 b0_1 b0_2 b0_3 b0_4 (EC.decL qdf (EC.encL qdf b0_5)) (EC.decL qdf (EC.encL qdf b0_6)) (EC.decL qdf (EC.encL qdf b0_7)) b1 b1_1)))))))
 ((q5l 3 (-7)).bind fun r0 =>
 (some (.inl ((),(r0.1,r0.2))))))))
 (gdE (EC.isL qdf (EC.encL qdf t16))<|
 (gdE (EC.isL qdf (EC.encL qdf b0_5))<|
 (gdE (EC.isL qdf (EC.encL qdf b0_6))<|
 (gdE (EC.isL qdf (EC.encL qdf b0_7))<|
 (some (.inr (((),((),((EC.decL qdf (EC.encL qdf t16)),(t17,(t18,false))))),((b0,(b0_1,(b0_2,(b0_3,(b0_4,((EC.decL qdf (EC.encL qdf b0_5)),((EC.decL qdf (EC.encL qdf b0_6)),(EC.decL qdf (EC.encL qdf b0_7))))))))),(b1,b1_1))))))))))
theorem qwy {t16 t17 t18 b0 b0_1 b0_2 b0_3 b0_4 b0_5 b0_6 b0_7 b1 b1_1 r} (h:qx3 t16 t17 t18 b0 b0_1 b0_2 b0_3 b0_4 b0_5 b0_6 b0_7 b1 b1_1=some r):qww t16 t17 t18 b0 b0_1 b0_2 b0_3 b0_4 b0_5 b0_6 b0_7 b1 b1_1=some r :=
 qnm (es:=q12f) (hs:=[]) [] (by kernel_rfl) trivial trivial (by kernel_rfl) h
def qwx:=qp9 Tryz.prog lv X0 4 (qix (cdF Tryz.f125) 4) qx2 qwz (fun x=>qww x.1.2.2.1 x.1.2.2.2.1 x.1.2.2.2.2 x.2.1.1 x.2.1.2.1 x.2.1.2.2.1 x.2.1.2.2.2.1 x.2.1.2.2.2.2.1 x.2.1.2.2.2.2.2.1 x.2.1.2.2.2.2.2.2.1 x.2.1.2.2.2.2.2.2.2 x.2.2.1 x.2.2.2) (fun _ _ h=>qnl h)
def qwt:Cod (V×List B) (Int×Int):=(cFstU (cPair (vAgg (qni (vC (cInt .i64)) (qnk (vC (cInt .i64))))) qnj))
def qx5 (r_Frequency:Int) (r_Every:Int) (r_Count:Int) (r_Until:Int) (r_HasUntil:Bool) (r_Weekdays:(List Int)) (r_Except:(List Int)) (r_Add:(List Int)):Option (Int×Int):=fS Tryz.prog lv X0 125 qws qwt (r_Frequency,r_Every,r_Count,r_Until,r_HasUntil,r_Weekdays,r_Except,r_Add)
def qx6 (r_Frequency:Int) (r_Every:Int) (r_Count:Int) (r_Until:Int) (r_HasUntil:Bool) (r_Weekdays:(List Int)) (r_Except:(List Int)) (r_Add:(List Int)):Option (Int×Int) :=
 (brE ((decide ((List.length (EC.encL qdf r_Weekdays):Int)>0))==true)
 (brE (r_Frequency != 2)
 ((q5l 5 (-7)).bind fun r0 =>
 (some (r0.1,r0.2)))
 (gdE (EC.isL qdf (EC.encL qdf r_Weekdays))<|
 (gdE (EC.isL qdf (EC.encL qdf r_Weekdays))<|
 (gdE (EC.isL qdf (EC.encL qdf r_Except))<|
 (gdE (EC.isL qdf (EC.encL qdf r_Add))<|
 ((qww (EC.decL qdf (EC.encL qdf r_Weekdays)) (List.length (EC.encL qdf r_Weekdays):Int) 0 r_Frequency r_Every r_Count r_Until r_HasUntil (EC.decL qdf (EC.encL qdf r_Weekdays)) (EC.decL qdf (EC.encL qdf r_Except)) (EC.decL qdf (EC.encL qdf r_Add)) 0 0).bind fun r0 =>
 (Sum.elim (fun r1=>(some (r1.2.1,r1.2.2)))
 (fun r1=>(Option.bind q69 fun r2 =>
 (some (r2.1,r2.2)))) r0)))))))
 (gdE (EC.isL qdf (EC.encL qdf r_Weekdays))<|
 (gdE (EC.isL qdf (EC.encL qdf r_Weekdays))<|
 (gdE (EC.isL qdf (EC.encL qdf r_Except))<|
 (gdE (EC.isL qdf (EC.encL qdf r_Add))<|
 ((qww (EC.decL qdf (EC.encL qdf r_Weekdays)) (List.length (EC.encL qdf r_Weekdays):Int) 0 r_Frequency r_Every r_Count r_Until r_HasUntil (EC.decL qdf (EC.encL qdf r_Weekdays)) (EC.decL qdf (EC.encL qdf r_Except)) (EC.decL qdf (EC.encL qdf r_Add)) 0 0).bind fun r0 =>
 (Sum.elim (fun r1=>(some (r1.2.1,r1.2.2)))
 (fun r1=>(Option.bind q69 fun r2 =>
 (some (r2.1,r2.2)))) r0)))))))
theorem qwv {r_Frequency r_Every r_Count r_Until r_HasUntil r_Weekdays r_Except r_Add r} (h:qx6 r_Frequency r_Every r_Count r_Until r_HasUntil r_Weekdays r_Except r_Add=some r):qx5 r_Frequency r_Every r_Count r_Until r_HasUntil r_Weekdays r_Except r_Add=some r :=
 qf4 (es:=q12f) (hs:=[]) [qwx] Tryz.func125 rfl (by kernel_rfl) rfl (by kernel_rfl) (by kernel_rfl) ⟨⟨_,rfl,rfl⟩,trivial⟩ trivial (by kernel_rfl) h
def qwu:=entS Tryz.prog lv X0 125 [] qws qwt (fun x=>qx5 x.1 x.2.1 x.2.2.1 x.2.2.2.1 x.2.2.2.2.1 x.2.2.2.2.2.1 x.2.2.2.2.2.2.1 x.2.2.2.2.2.2.2) (fun _ _ h=>qf3 h)
def q12h:=qwu::q12f
def qwn:=(qnk (vAgg (qni (vC (cInt .i64)) (qni (vC (cInt .i64)) (qni (vC (cInt .i64)) (qni (vC (cInt .i64)) (qni (vC cBool) (qni (vC (cSl qdf)) (qni (vC (cSl qdf)) (qnk (vC (cSl qdf))))))))))))
def qwo:Cod (V×List B) (Int×Int):=(cFstU (cPair (vAgg (qni (vC (cInt .i64)) (qnk (vC (cInt .i64))))) qnj))
def rval_s (r_Frequency:Int) (r_Every:Int) (r_Count:Int) (r_Until:Int) (r_HasUntil:Bool) (r_Weekdays:(List Int)) (r_Except:(List Int)) (r_Add:(List Int)):Option (Int×Int):=fS Tryz.prog lv X0 88 qwn qwo (r_Frequency,r_Every,r_Count,r_Until,r_HasUntil,r_Weekdays,r_Except,r_Add)
def rval_t (r_Frequency:Int) (r_Every:Int) (r_Count:Int) (r_Until:Int) (r_HasUntil:Bool) (r_Weekdays:(List Int)) (r_Except:(List Int)) (r_Add:(List Int)):Option (Int×Int) :=
 (brE ((decide (r_Frequency<0))==false)
 (brE (decide (r_Frequency>4))
 ((q5l 4 (-3)).bind fun r0 =>
 (some (r0.1,r0.2)))
 (brE ((decide (r_Every<1))==false)
 (brE (decide (r_Every>100))
 ((q5l 3 (-4)).bind fun r0 =>
 (some (r0.1,r0.2)))
 (brE ((decide (r_Count<0))==false)
 (brE (decide (r_Count>1500))
 ((q5l 3 (-5)).bind fun r0 =>
 (some (r0.1,r0.2)))
 (brE (r_HasUntil==true)
 ((q6f r_Until).bind fun r0 =>
 (brE (!r0)
 ((q5l 3 (-6)).bind fun r1 =>
 (some (r1.1,r1.2)))
 (brE ((!r_HasUntil)==true)
 (brE (r_Until != 0)
 ((q5l 5 (-6)).bind fun r1 =>
 (some (r1.1,r1.2)))
 (gdE (EC.isL qdf (EC.encL qdf r_Weekdays))<|
 (gdE (EC.isL qdf (EC.encL qdf r_Except))<|
 (gdE (EC.isL qdf (EC.encL qdf r_Add))<|
 ((qx5 r_Frequency r_Every r_Count r_Until r_HasUntil (EC.decL qdf (EC.encL qdf r_Weekdays)) (EC.decL qdf (EC.encL qdf r_Except)) (EC.decL qdf (EC.encL qdf r_Add))).bind fun r1 =>
 ((q5f r1.1 r1.2).bind fun r2 =>
 (brE r2
 (some (r1.1,r1.2))
 (gdE (EC.isL qdf (EC.encL qdf r_Except))<|
 ((qvn (EC.decL qdf (EC.encL qdf r_Except)) (-8)).bind fun r3 =>
 ((q5f r3.1 r3.2).bind fun r4 =>
 (brE r4
 (some (r3.1,r3.2))
 (gdE (EC.isL qdf (EC.encL qdf r_Add))<|
 ((qvn (EC.decL qdf (EC.encL qdf r_Add)) (-9)).bind fun r5 =>
 (some (r5.1,r5.2)))))))))))))))
 (gdE (EC.isL qdf (EC.encL qdf r_Weekdays))<|
 (gdE (EC.isL qdf (EC.encL qdf r_Except))<|
 (gdE (EC.isL qdf (EC.encL qdf r_Add))<|
 ((qx5 r_Frequency r_Every r_Count r_Until r_HasUntil (EC.decL qdf (EC.encL qdf r_Weekdays)) (EC.decL qdf (EC.encL qdf r_Except)) (EC.decL qdf (EC.encL qdf r_Add))).bind fun r1 =>
 ((q5f r1.1 r1.2).bind fun r2 =>
 (brE r2
 (some (r1.1,r1.2))
 (gdE (EC.isL qdf (EC.encL qdf r_Except))<|
 ((qvn (EC.decL qdf (EC.encL qdf r_Except)) (-8)).bind fun r3 =>
 ((q5f r3.1 r3.2).bind fun r4 =>
 (brE r4
 (some (r3.1,r3.2))
 (gdE (EC.isL qdf (EC.encL qdf r_Add))<|
 ((qvn (EC.decL qdf (EC.encL qdf r_Add)) (-9)).bind fun r5 =>
 (some (r5.1,r5.2)))))))))))))))))
 (brE ((!r_HasUntil)==true)
 (brE (r_Until != 0)
 ((q5l 5 (-6)).bind fun r0 =>
 (some (r0.1,r0.2)))
 (gdE (EC.isL qdf (EC.encL qdf r_Weekdays))<|
 (gdE (EC.isL qdf (EC.encL qdf r_Except))<|
 (gdE (EC.isL qdf (EC.encL qdf r_Add))<|
 ((qx5 r_Frequency r_Every r_Count r_Until r_HasUntil (EC.decL qdf (EC.encL qdf r_Weekdays)) (EC.decL qdf (EC.encL qdf r_Except)) (EC.decL qdf (EC.encL qdf r_Add))).bind fun r0 =>
 ((q5f r0.1 r0.2).bind fun r1 =>
 (brE r1
 (some (r0.1,r0.2))
 (gdE (EC.isL qdf (EC.encL qdf r_Except))<|
 ((qvn (EC.decL qdf (EC.encL qdf r_Except)) (-8)).bind fun r2 =>
 ((q5f r2.1 r2.2).bind fun r3 =>
 (brE r3
 (some (r2.1,r2.2))
 (gdE (EC.isL qdf (EC.encL qdf r_Add))<|
 ((qvn (EC.decL qdf (EC.encL qdf r_Add)) (-9)).bind fun r4 =>
 (some (r4.1,r4.2)))))))))))))))
 (gdE (EC.isL qdf (EC.encL qdf r_Weekdays))<|
 (gdE (EC.isL qdf (EC.encL qdf r_Except))<|
 (gdE (EC.isL qdf (EC.encL qdf r_Add))<|
 ((qx5 r_Frequency r_Every r_Count r_Until r_HasUntil (EC.decL qdf (EC.encL qdf r_Weekdays)) (EC.decL qdf (EC.encL qdf r_Except)) (EC.decL qdf (EC.encL qdf r_Add))).bind fun r0 =>
 ((q5f r0.1 r0.2).bind fun r1 =>
 (brE r1
 (some (r0.1,r0.2))
 (gdE (EC.isL qdf (EC.encL qdf r_Except))<|
 ((qvn (EC.decL qdf (EC.encL qdf r_Except)) (-8)).bind fun r2 =>
 ((q5f r2.1 r2.2).bind fun r3 =>
 (brE r3
 (some (r2.1,r2.2))
 (gdE (EC.isL qdf (EC.encL qdf r_Add))<|
 ((qvn (EC.decL qdf (EC.encL qdf r_Add)) (-9)).bind fun r4 =>
 (some (r4.1,r4.2)))))))))))))))))
 ((q5l 3 (-5)).bind fun r0 =>
 (some (r0.1,r0.2)))))
 ((q5l 3 (-4)).bind fun r0 =>
 (some (r0.1,r0.2)))))
 ((q5l 4 (-3)).bind fun r0 =>
 (some (r0.1,r0.2))))
theorem qwp {r_Frequency r_Every r_Count r_Until r_HasUntil r_Weekdays r_Except r_Add r} (h:rval_t r_Frequency r_Every r_Count r_Until r_HasUntil r_Weekdays r_Except r_Add=some r):rval_s r_Frequency r_Every r_Count r_Until r_HasUntil r_Weekdays r_Except r_Add=some r :=
 qf4 (es:=q12h) (hs:=[]) [] Tryz.func88 rfl (by kernel_rfl) rfl (by kernel_rfl) (by kernel_rfl) trivial trivial (by kernel_rfl) h
def rval_e:=entS Tryz.prog lv X0 88 [] qwn qwo (fun x=>rval_s x.1 x.2.1 x.2.2.1 x.2.2.2.1 x.2.2.2.2.1 x.2.2.2.2.2.1 x.2.2.2.2.2.2.1 x.2.2.2.2.2.2.2) (fun _ _ h=>qf3 h)
def q12g:=rval_e::q12h
def qzg:=(qni (vC (cSl qdf)) (qnk (vC (cInt .i64))))
def qzq:=sLS [0,1,7,8] (qni (vC (cSl qdf)) (qni (vC (cInt .i64)) (qni (vC (cInt .i64)) (qnk (vC (cInt .i64)))))) qnj [] [] (by decide) (fun _=>rfl)
def qzp:=sLS [0,1,7,8,9] (qni (vC (cSl qdf)) (qni (vC (cInt .i64)) (qni (vC (cInt .i64)) (qni (vC (cInt .i64)) (qnk (vC cBool)))))) qnj [] [] (by decide) (fun _=>rfl)
def qzo:=sLS [4] (qnk (vC (cInt .i64))) qnj [] [] (by decide) (fun _=>rfl)
def qzn:=oOr 1 qzo (oAt 2 qzp) (fun x=>(by decide:(2:Nat)≠1))
def qzk (s:(List Int)) (v:Int) (t7:Int) (t8:Int):Option ((Int×Unit)⊕(((List Int)×Int×Int×Int×Bool)×Unit)):=lS Tryz.prog lv X0 216 19 (qix (cdF Tryz.f216) 2) qzq qzn ((s,v,t7,t8),())
def qzr (s:(List Int)) (v:Int) (t7:Int) (t8:Int):Option ((Int×Unit)⊕(((List Int)×Int×Int×Int×Bool)×Unit)) :=
 (brE (decide (t8<t7))
 (gdE (decide (0≤t8))<|
 (gdE ((decide ((Int.toNat t8)<(List.length (EC.encL qdf s))))&&(isE [(K1.int Go.IntKind.i64)] 0 (List.getD (EC.encL qdf s) (Int.toNat t8) [])))<|
 (brE (v==(qm6 (List.getD (List.getD (EC.encL qdf s) (Int.toNat t8) []) 0 C.ne)))
 (some (.inl (t8,())))
 (gdE (EC.isL qdf (EC.encL qdf s))<|
 (qzk (EC.decL qdf (EC.encL qdf s)) v t7 (IntKind.wrap .i64 (t8+1)))))))
 (gdE (EC.isL qdf (EC.encL qdf s))<|
 (some (.inr (((EC.decL qdf (EC.encL qdf s)),(v,(t7,(t8,false)))),())))))
theorem qzm {s v t7 t8 r} (h:qzr s v t7 t8=some r):qzk s v t7 t8=some r :=
 qnm (es:=q12g) (hs:=[]) [] (by kernel_rfl) trivial trivial (by kernel_rfl) h
def qzl:=qp9 Tryz.prog lv X0 2 (qix (cdF Tryz.f216) 2) qzq qzn (fun x=>qzk x.1.1 x.1.2.1 x.1.2.2.1 x.1.2.2.2) (fun _ _ h=>qnl h)
def qzh:Cod (V×List B) Int:=(cFstU (cPair (vC (cInt .i64)) qnj))
def qzs (s:(List Int)) (v:Int):Option Int:=fS Tryz.prog lv X0 216 qzg qzh (s,v)
def qzt (s:(List Int)) (v:Int):Option Int :=
 (gdE (EC.isL qdf (EC.encL qdf s))<|
 ((qzk (EC.decL qdf (EC.encL qdf s)) v (List.length (EC.encL qdf s):Int) 0).bind fun r0 =>
 (Sum.elim (fun r1=>(some r1.1))
 (fun r1=>(some (-1:Int))) r0)))
theorem qzj {s v r} (h:qzt s v=some r):qzs s v=some r :=
 qf4 (es:=q12g) (hs:=[]) [qzl] Tryz.func216 rfl (by kernel_rfl) rfl (by kernel_rfl) (by kernel_rfl) ⟨⟨_,rfl,rfl⟩,trivial⟩ trivial (by kernel_rfl) h
def qzi:=entS Tryz.prog lv X0 216 [] qzg qzh (fun x=>qzs x.1 x.2) (fun _ _ h=>qf3 h)
def q12k:=qzi::q12g
def qza:=(qni (vC (cSl qdf)) (qnk (vC (cInt .i64))))
def qzb:Cod (V×List B) Bool:=(cFstU (cPair (vC cBool) qnj))
def qze (s:(List Int)) (v:Int):Option Bool:=fS Tryz.prog lv X0 177 qza qzb (s,v)
def qzf (s:(List Int)) (v:Int):Option Bool :=
 (gdE (EC.isL qdf (EC.encL qdf s))<|
 ((qzs (EC.decL qdf (EC.encL qdf s)) v).bind fun r0 =>
 (some (decide (r0≥0)))))
theorem qzd {s v r} (h:qzf s v=some r):qze s v=some r :=
 qf4 (es:=q12k) (hs:=[]) [] Tryz.func177 rfl (by kernel_rfl) rfl (by kernel_rfl) (by kernel_rfl) trivial trivial (by kernel_rfl) h
def qzc:=entS Tryz.prog lv X0 177 [] qza qzb (fun x=>qze x.1 x.2) (fun _ _ h=>qf3 h)
def q12j:=qzc::q12k
def qg4:=(qni (vAgg (qni (vC (cInt .i64)) (qni (vC (cInt .i64)) (qni (vC (cInt .i64)) (qni (vC (cInt .i64)) (qni (vC cBool) (qni (vC (cSl qdf)) (qni (vC (cSl qdf)) (qnk (vC (cSl qdf))))))))))) (qni (vAgg (qni (vC (cInt .i64)) (qni (vC (cInt .i64)) (qni (vC (cInt .i64)) (qni (vC (cInt .i64)) (qni (vC (cInt .i64)) (qni (vC (cInt .i64)) (qnk (vC (cInt .i64)))))))))) (qni (vAgg (qni (vC (cInt .i64)) (qni (vC (cInt .i64)) (qni (vC (cInt .i64)) (qni (vC (cInt .i64)) (qni (vC (cInt .i64)) (qni (vC (cInt .i64)) (qnk (vC (cInt .i64)))))))))) (qnk (vC (cInt .i64))))))
def qg5:Cod (V×List B) Bool:=(cFstU (cPair (vC cBool) qnj))
def fits_s (r_Frequency:Int) (r_Every:Int) (r_Count:Int) (r_Until:Int) (r_HasUntil:Bool) (r_Weekdays:(List Int)) (r_Except:(List Int)) (r_Add:(List Int)) (start_Year:Int) (start_Month:Int) (start_Day:Int) (start_Hour:Int) (start_Minute:Int) (start_Second:Int) (start_Zone:Int) (d_Year:Int) (d_Month:Int) (d_Day:Int) (d_Hour:Int) (d_Minute:Int) (d_Second:Int) (d_Zone:Int) (after:Int):Option Bool:=fS Tryz.prog lv X0 129 qg4 qg5 ((r_Frequency,r_Every,r_Count,r_Until,r_HasUntil,r_Weekdays,r_Except,r_Add),(start_Year,start_Month,start_Day,start_Hour,start_Minute,start_Second,start_Zone),(d_Year,d_Month,d_Day,d_Hour,d_Minute,d_Second,d_Zone),after)
def fits_t (r_Frequency:Int) (r_Every:Int) (r_Count:Int) (r_Until:Int) (r_HasUntil:Bool) (r_Weekdays:(List Int)) (r_Except:(List Int)) (r_Add:(List Int)) (start_Year:Int) (start_Month:Int) (start_Day:Int) (start_Hour:Int) (start_Minute:Int) (start_Second:Int) (start_Zone:Int) (d_Year:Int) (d_Month:Int) (d_Day:Int) (d_Hour:Int) (d_Minute:Int) (d_Second:Int) (d_Zone:Int) (after:Int):Option Bool :=
 ((wday_s d_Year d_Month d_Day d_Hour d_Minute d_Second d_Zone).bind fun r0 =>
 ((wday_s start_Year start_Month start_Day start_Hour start_Minute start_Second start_Zone).bind fun r1 =>
 (brE (r_Frequency==1)
 (brE (r_Every==0)
 none
 (some ((Int.tmod after r_Every)==0)))
 (brE (r_Frequency==2)
 (brE (decide ((List.length (EC.encL qdf r_Weekdays):Int)>0))
 (gdE (EC.isL qdf (EC.encL qdf r_Weekdays))<|
 ((qze (EC.decL qdf (EC.encL qdf r_Weekdays)) r0.1).bind fun r2 =>
 (brE (r2==true)
 (brE (r_Every==0)
 none
 (some ((Int.tmod (IntKind.wrap .i64 (Int.tdiv (IntKind.wrap .i64 (after+r1.1)) 7)) r_Every)==0)))
 (some false))))
 (brE ((r0.1==r1.1)==true)
 (brE (r_Every==0)
 none
 (some ((Int.tmod (IntKind.wrap .i64 (Int.tdiv (IntKind.wrap .i64 (after+r1.1)) 7)) r_Every)==0)))
 (some false)))
 (brE (r_Frequency==3)
 (brE ((d_Day==start_Day)==true)
 (brE (r_Every==0)
 none
 (some ((Int.tmod (IntKind.wrap .i64 ((IntKind.wrap .i64 ((IntKind.wrap .i64 (12*(IntKind.wrap .i64 (d_Year - start_Year))))+d_Month)) - start_Month)) r_Every)==0)))
 (some false))
 (brE (r_Frequency==4)
 (brE ((d_Day==start_Day)==true)
 (brE ((d_Month==start_Month)==true)
 (brE (r_Every==0)
 none
 (some ((Int.tmod (IntKind.wrap .i64 (d_Year - start_Year)) r_Every)==0)))
 (some false))
 (some false))
 (some (after==0))))))))
theorem qg6 {r_Frequency r_Every r_Count r_Until r_HasUntil r_Weekdays r_Except r_Add start_Year start_Month start_Day start_Hour start_Minute start_Second start_Zone d_Year d_Month d_Day d_Hour d_Minute d_Second d_Zone after r} (h:fits_t r_Frequency r_Every r_Count r_Until r_HasUntil r_Weekdays r_Except r_Add start_Year start_Month start_Day start_Hour start_Minute start_Second start_Zone d_Year d_Month d_Day d_Hour d_Minute d_Second d_Zone after=some r):fits_s r_Frequency r_Every r_Count r_Until r_HasUntil r_Weekdays r_Except r_Add start_Year start_Month start_Day start_Hour start_Minute start_Second start_Zone d_Year d_Month d_Day d_Hour d_Minute d_Second d_Zone after=some r :=
 qf4 (es:=q12j) (hs:=[]) [] Tryz.func129 rfl (by kernel_rfl) rfl (by kernel_rfl) (by kernel_rfl) trivial trivial (by kernel_rfl) h
def fits_e:=entS Tryz.prog lv X0 129 [] qg4 qg5 (fun x=>fits_s x.1.1 x.1.2.1 x.1.2.2.1 x.1.2.2.2.1 x.1.2.2.2.2.1 x.1.2.2.2.2.2.1 x.1.2.2.2.2.2.2.1 x.1.2.2.2.2.2.2.2 x.2.1.1 x.2.1.2.1 x.2.1.2.2.1 x.2.1.2.2.2.1 x.2.1.2.2.2.2.1 x.2.1.2.2.2.2.2.1 x.2.1.2.2.2.2.2.2 x.2.2.1.1 x.2.2.1.2.1 x.2.2.1.2.2.1 x.2.2.1.2.2.2.1 x.2.2.1.2.2.2.2.1 x.2.2.1.2.2.2.2.2.1 x.2.2.1.2.2.2.2.2.2 x.2.2.2) (fun _ _ h=>qf3 h)
def q11u:=fits_e::q12j
def q137:=(qnk (vAgg (qni (vC (cInt .i64)) (qnk (vC (cInt .i64))))))
def q138:Cod (V×List B) Bool:=(cFstU (cPair (vC cBool) qnj))
def ubad_s (p_From:Int) (p_To:Int):Option Bool:=fS Tryz.prog lv X0 52 q137 q138 (p_From,p_To)
def ubad_t (p_From:Int) (p_To:Int):Option Bool :=
 (some (decide (p_From≥p_To)))
theorem q139 {p_From p_To r} (h:ubad_t p_From p_To=some r):ubad_s p_From p_To=some r :=
 qf4 (es:=q11u) (hs:=[]) [] Tryz.func52 rfl (by kernel_rfl) rfl (by kernel_rfl) (by kernel_rfl) trivial trivial (by kernel_rfl) h
def ubad_e:=entS Tryz.prog lv X0 52 [] q137 q138 (fun x=>ubad_s x.1 x.2) (fun _ _ h=>qf3 h)
def q12l:=ubad_e::q11u
def q13r:Cod (List V) ((List S24)×Unit):=(qni (vC (cSl qde)) (qnk (vFn 52 qnj)))
def q140:=sLS [0,1,7,8] (qni (vC (cSl qde)) (qni (vFn 52 qnj) (qni (vC (cInt .i64)) (qnk (vC (cInt .i64)))))) qnj [] [] (by decide) (fun _=>rfl)
def q13z:=sLS [0,1,7,8,9] (qni (vC (cSl qde)) (qni (vFn 52 qnj) (qni (vC (cInt .i64)) (qni (vC (cInt .i64)) (qnk (vC cBool)))))) qnj [] [] (by decide) (fun _=>rfl)
def q13y:=sLS [4] (qnk (vC (cInt .i64))) qnj [] [] (by decide) (fun _=>rfl)
def q13x:=oOr 1 q13y (oAt 2 q13z) (fun x=>(by decide:(2:Nat)≠1))
def q13u (s:(List S24)) (t7:Int) (t8:Int):Option ((Int×Unit)⊕(((List S24)×Unit×Int×Int×Bool)×Unit)):=lS Tryz.prog lv X0 95 19 (qix (cdF Tryz.f95) 2) q140 q13x ((s,(),t7,t8),())
def q141 (s:(List S24)) (t7:Int) (t8:Int):Option ((Int×Unit)⊕(((List S24)×Unit×Int×Int×Bool)×Unit)) :=
 (brE (decide (t8<t7))
 (gdE (decide (0≤t8))<|
 (gdE ((decide ((Int.toNat t8)<(List.length (EC.encL qde s))))&&(isE [(K1.int Go.IntKind.i64),(K1.int Go.IntKind.i64)] 0 (List.getD (EC.encL qde s) (Int.toNat t8) [])))<|
 ((ubad_s (qm6 (List.getD (List.getD (EC.encL qde s) (Int.toNat t8) []) 0 C.ne)) (qm6 (List.getD (List.getD (EC.encL qde s) (Int.toNat t8) []) 1 C.ne))).bind fun r0 =>
 (brE r0
 (some (.inl (t8,())))
 (gdE (EC.isL qde (EC.encL qde s))<|
 (q13u (EC.decL qde (EC.encL qde s)) t7 (IntKind.wrap .i64 (t8+1))))))))
 (gdE (EC.isL qde (EC.encL qde s))<|
 (some (.inr (((EC.decL qde (EC.encL qde s)),((),(t7,(t8,false)))),())))))
theorem q13w {s t7 t8 r} (h:q141 s t7 t8=some r):q13u s t7 t8=some r :=
 qnm (es:=q12l) (hs:=[]) [] (by kernel_rfl) trivial trivial (by kernel_rfl) h
def q13v:=qp9 Tryz.prog lv X0 2 (qix (cdF Tryz.f95) 2) q140 q13x (fun x=>q13u x.1.1 x.1.2.2.1 x.1.2.2.2) (fun _ _ h=>qnl h)
def q13s:Cod (V×List B) Int:=(cFstU (cPair (vC (cInt .i64)) qnj))
def uidx_s (s:(List S24)):Option Int:=fS Tryz.prog lv X0 95 q13r q13s (s,())
def uidx_t (s:(List S24)):Option Int :=
 (gdE (EC.isL qde (EC.encL qde s))<|
 ((q13u (EC.decL qde (EC.encL qde s)) (List.length (EC.encL qde s):Int) 0).bind fun r0 =>
 (Sum.elim (fun r1=>(some r1.1))
 (fun r1=>(some (-1:Int))) r0)))
theorem q13t {s r} (h:uidx_t s=some r):uidx_s s=some r :=
 qf4 (es:=q12l) (hs:=[]) [q13v] Tryz.func95 rfl (by kernel_rfl) rfl (by kernel_rfl) (by kernel_rfl) ⟨⟨_,rfl,rfl⟩,trivial⟩ trivial (by kernel_rfl) h
def uidx_e:=entS Tryz.prog lv X0 95 [52] q13r q13s (fun x=>uidx_s x.1) (fun _ _ h=>qf3 h)
def q12n:=uidx_e::q12l
def q13b:=(qnk (vC (cSl qde)))
def q13c:Cod (V×List B) (Nat×(List S24)):=(cPair (vRow 0) (qnk (bRow qde)))
def q13g (s:(List S24)):Option (Nat×(List S24)):=fS Tryz.prog lv X0 51 q13b q13c s
def q13i (s:(List S24)):Option (Nat×(List S24)) :=
 (gdE (!(List.isEmpty (EC.encL qde s)))<|
 (gdE (((List.all (EC.encL qde s) (fun (el:(List C))=>((List.length el)==2)))&&(decide (((((List.length (EC.encL qde s))+((List.length (EC.encL qde s)) / 4))+192)*16)≤281474976710656)))&&(decide ((List.length (EC.encL qde s))≤9223372036854775807)))<|
 (gdE (EC.isL qde (EC.encL qde s))<|
 (some ((List.length (EC.encL qde s)),(EC.decL qde (EC.encL qde s)))))))
theorem q13e {s r} (h:q13i s=some r):q13g s=some r:=by
 cases s with
 |nil=>exact nomatch (show (none:Option (Nat×(List S24)))=some r from h)
 |cons x xs=>exact qf4 (es:=q12n) (hs:=[]) [] Tryz.func51 rfl (by kernel_rfl) rfl (by kernel_rfl) (by kernel_rfl) trivial trivial (by kernel_rfl) h
theorem q13f:q13g []=some (0,[]):=fS_of (r:=(0,[])) (by unfold Call callD;rfl)
def q13d:=entS Tryz.prog lv X0 51 [] q13b q13c (fun x=>q13g x) (fun _ _ h=>qf3 h)
def q12m:=q13d::q12n
def q13o:=sLS [0,1,5,6] (qni (vRow 0) (qni (vFn 52 qnj) (qni (vC (cInt .i64)) (qnk (vC (cInt .i64)))))) (qnk (qt8 (bRow qde))) [false] [] (by decide) (fun _=>rfl)
def q13n:=sLS [0,1,5,6,19] (qni (vRow 0) (qni (vFn 52 qnj) (qni (vC (cInt .i64)) (qni (vC (cInt .i64)) (qnk (vC cBool)))))) (qnk (qt8 (bRow qde))) [false] [] (by decide) (fun _=>rfl)
def q13m:=oAt 2 q13n
def q13k (s:Nat) (i:Int) (j:Int) (b0:(List S24)):Option ((Nat×Unit×Int×Int×Bool)×(List S24)):=lS Tryz.prog lv X0 50 42 (qix (cdF Tryz.f50) 5) q13o q13m ((s,(),i,j),b0)
def q13p (s:Nat) (i:Int) (j:Int) (b0:(List S24)):Option ((Nat×Unit×Int×Int×Bool)×(List S24)) :=
 (brE (decide (j<((s:Nat):Int)))
 (gdE ((decide (0≤j))&&(decide (j<((s:Nat):Int))))<|
 (gdE ((decide ((Int.toNat j)<(List.length (EC.encL qde b0))))&&((List.length (List.getD (EC.encL qde b0) (Int.toNat j) []))==2))<|
 (gdE (isP [(K1.int Go.IntKind.i64),(K1.int Go.IntKind.i64)] 0 (List.getD (EC.encL qde b0) (Int.toNat j) []))<|
 ((ubad_s (qm6 (List.getD (List.getD (EC.encL qde b0) (Int.toNat j) []) 0 C.ne)) (qm6 (List.getD (List.getD (EC.encL qde b0) (Int.toNat j) []) 1 C.ne))).bind fun r0 =>
 (brE (!r0)
 (gdE ((decide (0≤i))&&(decide (i<((s:Nat):Int))))<|
 (gdE ((decide ((Int.toNat i)<(List.length (EC.encL qde b0))))&&((List.length (List.getD (EC.encL qde b0) (Int.toNat i) []))==2))<|
 (gdE (EC.isL qde (List.set (EC.encL qde b0) (Int.toNat i) (splice (List.getD (EC.encL qde b0) (Int.toNat i) []) 0 [(C.int Go.IntKind.i64 (qm6 (List.getD (List.getD (EC.encL qde b0) (Int.toNat j) []) 0 C.ne))),(C.int Go.IntKind.i64 (qm6 (List.getD (List.getD (EC.encL qde b0) (Int.toNat j) []) 1 C.ne)))])))<|
 (q13k s (IntKind.wrap .i64 (i+1)) (IntKind.wrap .i64 (j+1)) (EC.decL qde (List.set (EC.encL qde b0) (Int.toNat i) (splice (List.getD (EC.encL qde b0) (Int.toNat i) []) 0 [(C.int Go.IntKind.i64 (qm6 (List.getD (List.getD (EC.encL qde b0) (Int.toNat j) []) 0 C.ne))),(C.int Go.IntKind.i64 (qm6 (List.getD (List.getD (EC.encL qde b0) (Int.toNat j) []) 1 C.ne)))])))))))
 (gdE (EC.isL qde (EC.encL qde b0))<|
 (q13k s i (IntKind.wrap .i64 (j+1)) (EC.decL qde (EC.encL qde b0)))))))))
 (gdE (EC.isL qde (EC.encL qde b0))<|
 (some ((s,((),(i,(j,false)))),(EC.decL qde (EC.encL qde b0))))))
theorem q13l {s i j b0 r} (h:q13p s i j b0=some r):q13k s i j b0=some r :=
 qnm (es:=q12m) (hs:=[]) [] (by kernel_rfl) trivial trivial (by kernel_rfl) h
def q14g:=sLS [3,12,13,14] (qni (vRow 0) (qni (vC (cSl qde)) (qni (vC (cInt .i64)) (qnk (vC (cInt .i64)))))) (qnk (qt8 (bRow qde))) [false] [] (by decide) (fun _=>rfl)
def q14f:=sLS [3,12,13,14,15] (qni (vRow 0) (qni (vC (cSl qde)) (qni (vC (cInt .i64)) (qni (vC (cInt .i64)) (qnk (vC cBool)))))) (qnk (qt8 (bRow qde))) [false] [] (by decide) (fun _=>rfl)
def q14e:=oAt 2 q14f
def q14c (out:Nat) (t12:(List S24)) (t13:Int) (t14:Int) (b0:(List S24)):Option ((Nat×(List S24)×Int×Int×Bool)×(List S24)):=lS Tryz.prog lv X0 18 51 (qix (cdF Tryz.f18) 5) q14g q14e ((out,t12,t13,t14),b0)
def q14h (out:Nat) (t12:(List S24)) (t13:Int) (t14:Int) (b0:(List S24)):Option ((Nat×(List S24)×Int×Int×Bool)×(List S24)) :=
 (brE (decide (t14<t13))
 (gdE (decide (0≤t14))<|
 (gdE ((decide ((Int.toNat t14)<(List.length (EC.encL qde t12))))&&(isE [(K1.int Go.IntKind.i64),(K1.int Go.IntKind.i64)] 0 (List.getD (EC.encL qde t12) (Int.toNat t14) [])))<|
 (brE ((decide ((IntKind.wrap .i64 (((out:Nat):Int) - 1))≥0))==true)
 (gdE ((decide (0≤(IntKind.wrap .i64 (((out:Nat):Int) - 1))))&&(decide ((IntKind.wrap .i64 (((out:Nat):Int) - 1))<((out:Nat):Int))))<|
 (gdE ((decide ((Int.toNat (IntKind.wrap .i64 (((out:Nat):Int) - 1)))<(List.length (EC.encL qde b0))))&&((List.length (List.getD (EC.encL qde b0) (Int.toNat (IntKind.wrap .i64 (((out:Nat):Int) - 1))) []))==2))<|
 (gdE (isP [(K1.int Go.IntKind.i64)] 1 (List.getD (EC.encL qde b0) (Int.toNat (IntKind.wrap .i64 (((out:Nat):Int) - 1))) []))<|
 (brE (decide ((qm6 (List.getD (List.getD (EC.encL qde t12) (Int.toNat t14) []) 0 C.ne))≤(qm6 (List.getD (List.getD (EC.encL qde b0) (Int.toNat (IntKind.wrap .i64 (((out:Nat):Int) - 1))) []) 1 C.ne))))
 (gdE ((decide (0≤(IntKind.wrap .i64 (((out:Nat):Int) - 1))))&&(decide ((IntKind.wrap .i64 (((out:Nat):Int) - 1))<((out:Nat):Int))))<|
 (gdE ((decide ((Int.toNat (IntKind.wrap .i64 (((out:Nat):Int) - 1)))<(List.length (EC.encL qde b0))))&&((List.length (List.getD (EC.encL qde b0) (Int.toNat (IntKind.wrap .i64 (((out:Nat):Int) - 1))) []))==2))<|
 (gdE (isP [(K1.int Go.IntKind.i64)] 1 (List.getD (EC.encL qde b0) (Int.toNat (IntKind.wrap .i64 (((out:Nat):Int) - 1))) []))<|
 (gdE ((decide (0≤(IntKind.wrap .i64 (((out:Nat):Int) - 1))))&&(decide ((IntKind.wrap .i64 (((out:Nat):Int) - 1))<((out:Nat):Int))))<|
 (gdE ((decide ((Int.toNat (IntKind.wrap .i64 (((out:Nat):Int) - 1)))<(List.length (EC.encL qde b0))))&&((List.length (List.getD (EC.encL qde b0) (Int.toNat (IntKind.wrap .i64 (((out:Nat):Int) - 1))) []))==2))<|
 (gdE (EC.isL qde (EC.encL qde t12))<|
 (gdE (EC.isL qde (List.set (EC.encL qde b0) (Int.toNat (IntKind.wrap .i64 (((out:Nat):Int) - 1))) (splice (List.getD (EC.encL qde b0) (Int.toNat (IntKind.wrap .i64 (((out:Nat):Int) - 1))) []) 1 [(C.int Go.IntKind.i64 (ite (true=true) (ite ((qm6 (List.getD (List.getD (EC.encL qde b0) (Int.toNat (IntKind.wrap .i64 (((out:Nat):Int) - 1))) []) 1 C.ne))<(qm6 (List.getD (List.getD (EC.encL qde t12) (Int.toNat t14) []) 1 C.ne))) (qm6 (List.getD (List.getD (EC.encL qde t12) (Int.toNat t14) []) 1 C.ne)) (qm6 (List.getD (List.getD (EC.encL qde b0) (Int.toNat (IntKind.wrap .i64 (((out:Nat):Int) - 1))) []) 1 C.ne))) (ite ((qm6 (List.getD (List.getD (EC.encL qde t12) (Int.toNat t14) []) 1 C.ne))<(qm6 (List.getD (List.getD (EC.encL qde b0) (Int.toNat (IntKind.wrap .i64 (((out:Nat):Int) - 1))) []) 1 C.ne))) (qm6 (List.getD (List.getD (EC.encL qde t12) (Int.toNat t14) []) 1 C.ne)) (qm6 (List.getD (List.getD (EC.encL qde b0) (Int.toNat (IntKind.wrap .i64 (((out:Nat):Int) - 1))) []) 1 C.ne)))))])))<|
 (q14c out (EC.decL qde (EC.encL qde t12)) t13 (IntKind.wrap .i64 (t14+1)) (EC.decL qde (List.set (EC.encL qde b0) (Int.toNat (IntKind.wrap .i64 (((out:Nat):Int) - 1))) (splice (List.getD (EC.encL qde b0) (Int.toNat (IntKind.wrap .i64 (((out:Nat):Int) - 1))) []) 1 [(C.int Go.IntKind.i64 (ite (true=true) (ite ((qm6 (List.getD (List.getD (EC.encL qde b0) (Int.toNat (IntKind.wrap .i64 (((out:Nat):Int) - 1))) []) 1 C.ne))<(qm6 (List.getD (List.getD (EC.encL qde t12) (Int.toNat t14) []) 1 C.ne))) (qm6 (List.getD (List.getD (EC.encL qde t12) (Int.toNat t14) []) 1 C.ne)) (qm6 (List.getD (List.getD (EC.encL qde b0) (Int.toNat (IntKind.wrap .i64 (((out:Nat):Int) - 1))) []) 1 C.ne))) (ite ((qm6 (List.getD (List.getD (EC.encL qde t12) (Int.toNat t14) []) 1 C.ne))<(qm6 (List.getD (List.getD (EC.encL qde b0) (Int.toNat (IntKind.wrap .i64 (((out:Nat):Int) - 1))) []) 1 C.ne))) (qm6 (List.getD (List.getD (EC.encL qde t12) (Int.toNat t14) []) 1 C.ne)) (qm6 (List.getD (List.getD (EC.encL qde b0) (Int.toNat (IntKind.wrap .i64 (((out:Nat):Int) - 1))) []) 1 C.ne)))))])))))))))))
 (gdE ((((List.all [[(C.int Go.IntKind.i64 (qm6 (List.getD (List.getD (EC.encL qde t12) (Int.toNat t14) []) 0 C.ne))),(C.int Go.IntKind.i64 (qm6 (List.getD (List.getD (EC.encL qde t12) (Int.toNat t14) []) 1 C.ne)))]] (fun (el:(List C))=>((List.length el)==2)))&&(List.all (EC.encL qde b0) (fun (el:(List C))=>((List.length el)==2))))&&(decide (((((out+(List.length [[(C.int Go.IntKind.i64 (qm6 (List.getD (List.getD (EC.encL qde t12) (Int.toNat t14) []) 0 C.ne))),(C.int Go.IntKind.i64 (qm6 (List.getD (List.getD (EC.encL qde t12) (Int.toNat t14) []) 1 C.ne)))]]))+((out+(List.length [[(C.int Go.IntKind.i64 (qm6 (List.getD (List.getD (EC.encL qde t12) (Int.toNat t14) []) 0 C.ne))),(C.int Go.IntKind.i64 (qm6 (List.getD (List.getD (EC.encL qde t12) (Int.toNat t14) []) 1 C.ne)))]])) / 4))+192)*16)≤281474976710656)))&&(decide ((out+(List.length [[(C.int Go.IntKind.i64 (qm6 (List.getD (List.getD (EC.encL qde t12) (Int.toNat t14) []) 0 C.ne))),(C.int Go.IntKind.i64 (qm6 (List.getD (List.getD (EC.encL qde t12) (Int.toNat t14) []) 1 C.ne)))]]))≤9223372036854775807)))<|
 (gdE (EC.isL qde (EC.encL qde t12))<|
 (gdE (EC.isL qde ((EC.encL qde b0)++[[(C.int Go.IntKind.i64 (qm6 (List.getD (List.getD (EC.encL qde t12) (Int.toNat t14) []) 0 C.ne))),(C.int Go.IntKind.i64 (qm6 (List.getD (List.getD (EC.encL qde t12) (Int.toNat t14) []) 1 C.ne)))]]))<|
 (q14c (out+(List.length [[(C.int Go.IntKind.i64 (qm6 (List.getD (List.getD (EC.encL qde t12) (Int.toNat t14) []) 0 C.ne))),(C.int Go.IntKind.i64 (qm6 (List.getD (List.getD (EC.encL qde t12) (Int.toNat t14) []) 1 C.ne)))]])) (EC.decL qde (EC.encL qde t12)) t13 (IntKind.wrap .i64 (t14+1)) (EC.decL qde ((EC.encL qde b0)++[[(C.int Go.IntKind.i64 (qm6 (List.getD (List.getD (EC.encL qde t12) (Int.toNat t14) []) 0 C.ne))),(C.int Go.IntKind.i64 (qm6 (List.getD (List.getD (EC.encL qde t12) (Int.toNat t14) []) 1 C.ne)))]]))))))))))
 (gdE ((((List.all [[(C.int Go.IntKind.i64 (qm6 (List.getD (List.getD (EC.encL qde t12) (Int.toNat t14) []) 0 C.ne))),(C.int Go.IntKind.i64 (qm6 (List.getD (List.getD (EC.encL qde t12) (Int.toNat t14) []) 1 C.ne)))]] (fun (el:(List C))=>((List.length el)==2)))&&(List.all (EC.encL qde b0) (fun (el:(List C))=>((List.length el)==2))))&&(decide (((((out+(List.length [[(C.int Go.IntKind.i64 (qm6 (List.getD (List.getD (EC.encL qde t12) (Int.toNat t14) []) 0 C.ne))),(C.int Go.IntKind.i64 (qm6 (List.getD (List.getD (EC.encL qde t12) (Int.toNat t14) []) 1 C.ne)))]]))+((out+(List.length [[(C.int Go.IntKind.i64 (qm6 (List.getD (List.getD (EC.encL qde t12) (Int.toNat t14) []) 0 C.ne))),(C.int Go.IntKind.i64 (qm6 (List.getD (List.getD (EC.encL qde t12) (Int.toNat t14) []) 1 C.ne)))]])) / 4))+192)*16)≤281474976710656)))&&(decide ((out+(List.length [[(C.int Go.IntKind.i64 (qm6 (List.getD (List.getD (EC.encL qde t12) (Int.toNat t14) []) 0 C.ne))),(C.int Go.IntKind.i64 (qm6 (List.getD (List.getD (EC.encL qde t12) (Int.toNat t14) []) 1 C.ne)))]]))≤9223372036854775807)))<|
 (gdE (EC.isL qde (EC.encL qde t12))<|
 (gdE (EC.isL qde ((EC.encL qde b0)++[[(C.int Go.IntKind.i64 (qm6 (List.getD (List.getD (EC.encL qde t12) (Int.toNat t14) []) 0 C.ne))),(C.int Go.IntKind.i64 (qm6 (List.getD (List.getD (EC.encL qde t12) (Int.toNat t14) []) 1 C.ne)))]]))<|
 (q14c (out+(List.length [[(C.int Go.IntKind.i64 (qm6 (List.getD (List.getD (EC.encL qde t12) (Int.toNat t14) []) 0 C.ne))),(C.int Go.IntKind.i64 (qm6 (List.getD (List.getD (EC.encL qde t12) (Int.toNat t14) []) 1 C.ne)))]])) (EC.decL qde (EC.encL qde t12)) t13 (IntKind.wrap .i64 (t14+1)) (EC.decL qde ((EC.encL qde b0)++[[(C.int Go.IntKind.i64 (qm6 (List.getD (List.getD (EC.encL qde t12) (Int.toNat t14) []) 0 C.ne))),(C.int Go.IntKind.i64 (qm6 (List.getD (List.getD (EC.encL qde t12) (Int.toNat t14) []) 1 C.ne)))]])))))))))
 (gdE (EC.isL qde (EC.encL qde t12))<|
 (gdE (EC.isL qde (EC.encL qde b0))<|
 (some ((out,((EC.decL qde (EC.encL qde t12)),(t13,(t14,false)))),(EC.decL qde (EC.encL qde b0)))))))
theorem q14d {out t12 t13 t14 b0 r} (h:q14h out t12 t13 t14 b0=some r):q14c out t12 t13 t14 b0=some r :=
 qnm (es:=q12m) (hs:=[]) [] (by kernel_rfl) trivial trivial (by kernel_rfl) h
def qab:=(qnk (vC (cInt .i64)))
def qac:Cod (V×List B) Bool:=(cFstU (cPair (vC cBool) qnj))
def qaf (x:Int):Option Bool:=fS Tryz.prog lv X0 98 qab qac x
def qag (x:Int):Option Bool :=
 (some (x != x))
theorem qae {x r} (h:qag x=some r):qaf x=some r :=
 qf4 (es:=q12m) (hs:=[]) [] Tryz.func98 rfl (by kernel_rfl) rfl (by kernel_rfl) (by kernel_rfl) trivial trivial (by kernel_rfl) h
def qad:=entS Tryz.prog lv X0 98 [] qab qac (fun x=>qaf x) (fun _ _ h=>qf3 h)
def q11i:=qad::q12m
def qz1:=(qnk (vC (cInt .i64)))
def qz2:Cod (V×List B) Bool:=(cFstU (cPair (vC cBool) qnj))
def qz6 (x:Int):Option Bool:=fS Tryz.prog lv X0 131 qz1 qz2 x
def qz7 (x:Int):Option Bool :=
 (some (x != x))
theorem qz4 {x r} (h:qz7 x=some r):qz6 x=some r :=
 qf4 (es:=q11i) (hs:=[]) [] Tryz.func131 rfl (by kernel_rfl) rfl (by kernel_rfl) (by kernel_rfl) trivial trivial (by kernel_rfl) h
def qz3:=entS Tryz.prog lv X0 131 [] qz1 qz2 (fun x=>qz6 x) (fun _ _ h=>qf3 h)
def q12i:=qz3::q11i
def qa4:=(qni (vC (cInt .i64)) (qnk (vC (cInt .i64))))
def qa5:Cod (V×List B) Bool:=(cFstU (cPair (vC cBool) qnj))
def qa9 (x:Int) (y:Int):Option Bool:=fS Tryz.prog lv X0 130 qa4 qa5 (x,y)
def qaa (x:Int) (y:Int):Option Bool :=
 ((qaf x).bind fun r0 =>
 (brE (r0==true)
 ((qaf y).bind fun r1 =>
 (brE ((!r1)==false)
 (some (decide (x<y)))
 (some true)))
 (some (decide (x<y)))))
theorem qa7 {x y r} (h:qaa x y=some r):qa9 x y=some r :=
 qf4 (es:=q12i) (hs:=[]) [] Tryz.func130 rfl (by kernel_rfl) rfl (by kernel_rfl) (by kernel_rfl) trivial trivial (by kernel_rfl) h
def qa6:=entS Tryz.prog lv X0 130 [] qa4 qa5 (fun x=>qa9 x.1 x.2) (fun _ _ h=>qf3 h)
def q11h:=qa6::q12i
def bsI_ca:=(qni (vC (cSl qdf)) (qnk (vC (cInt .i64))))
def q7e:=sLS [0,1,6,7,8] (qni (vC (cSl qdf)) (qni (vC (cInt .i64)) (qni (vC (cInt .i64)) (qni (vC (cInt .i64)) (qnk (vC (cInt .i64))))))) qnj [] [] (by decide) (fun _=>rfl)
def q7d:=sLS [0,1,6,7,8,15] (qni (vC (cSl qdf)) (qni (vC (cInt .i64)) (qni (vC (cInt .i64)) (qni (vC (cInt .i64)) (qni (vC (cInt .i64)) (qnk (vC cBool))))))) qnj [] [] (by decide) (fun _=>rfl)
def q7c:=oAt 2 q7d
def bsI_l3 (x:(List Int)) (target:Int) (n:Int) (i:Int) (j:Int):Option (((List Int)×Int×Int×Int×Int×Bool)×Unit):=lS Tryz.prog lv X0 90 54 (qix (cdF Tryz.f90) 3) q7e q7c ((x,target,n,i,j),())
def q7f (x:(List Int)) (target:Int) (n:Int) (i:Int) (j:Int):Option (((List Int)×Int×Int×Int×Int×Bool)×Unit) :=
 (brE (decide (i<j))
 (gdE (decide (0≤(IntKind.wrap .i64 (Int.fdiv (IntKind.wrap .u64 (IntKind.wrap .i64 (i+j))) (2 ^ (Min.min (Int.toNat 1) (Go.IntKind.bits Go.IntKind.u64)))))))<|
 (gdE ((decide ((Int.toNat (IntKind.wrap .i64 (Int.fdiv (IntKind.wrap .u64 (IntKind.wrap .i64 (i+j))) (2 ^ (Min.min (Int.toNat 1) (Go.IntKind.bits Go.IntKind.u64))))))<(List.length (EC.encL qdf x))))&&(isE [(K1.int Go.IntKind.i64)] 0 (List.getD (EC.encL qdf x) (Int.toNat (IntKind.wrap .i64 (Int.fdiv (IntKind.wrap .u64 (IntKind.wrap .i64 (i+j))) (2 ^ (Min.min (Int.toNat 1) (Go.IntKind.bits Go.IntKind.u64)))))) [])))<|
 (Option.bind (qa9 (qm6 (List.getD (List.getD (EC.encL qdf x) (Int.toNat (IntKind.wrap .i64 (Int.fdiv (IntKind.wrap .u64 (IntKind.wrap .i64 (i+j))) (2 ^ (Min.min (Int.toNat 1) (Go.IntKind.bits Go.IntKind.u64)))))) []) 0 C.ne)) target) fun r0 =>
 (brE r0
 (gdE (EC.isL qdf (EC.encL qdf x))<|
 (bsI_l3 (EC.decL qdf (EC.encL qdf x)) target n (IntKind.wrap .i64 ((IntKind.wrap .i64 (Int.fdiv (IntKind.wrap .u64 (IntKind.wrap .i64 (i+j))) (2 ^ (Min.min (Int.toNat 1) (Go.IntKind.bits Go.IntKind.u64)))))+1)) j))
 (gdE (EC.isL qdf (EC.encL qdf x))<|
 (bsI_l3 (EC.decL qdf (EC.encL qdf x)) target n i (IntKind.wrap .i64 (Int.fdiv (IntKind.wrap .u64 (IntKind.wrap .i64 (i+j))) (2 ^ (Min.min (Int.toNat 1) (Go.IntKind.bits Go.IntKind.u64)))))))))))
 (gdE (EC.isL qdf (EC.encL qdf x))<|
 (some (((EC.decL qdf (EC.encL qdf x)),(target,(n,(i,(j,false))))),()))))
theorem q7b {x target n i j r} (h:q7f x target n i j=some r):bsI_l3 x target n i j=some r :=
 qnm (es:=q11h) (hs:=[]) [] (by kernel_rfl) trivial trivial (by kernel_rfl) h
def q7a:=qp9 Tryz.prog lv X0 3 (qix (cdF Tryz.f90) 3) q7e q7c (fun x=>bsI_l3 x.1.1 x.1.2.1 x.1.2.2.1 x.1.2.2.2.1 x.1.2.2.2.2) (fun _ _ h=>qnl h)
def bsI_cr:Cod (V×List B) (Int×Bool):=(cFstU (cPair (vTup (qni (vC (cInt .i64)) (qnk (vC cBool)))) qnj))
def bsI_s (x:(List Int)) (target:Int):Option (Int×Bool):=fS Tryz.prog lv X0 90 bsI_ca bsI_cr (x,target)
def bsI_t (x:(List Int)) (target:Int):Option (Int×Bool) :=
 (gdE (EC.isL qdf (EC.encL qdf x))<|
 ((bsI_l3 (EC.decL qdf (EC.encL qdf x)) target (List.length (EC.encL qdf x):Int) 0 (List.length (EC.encL qdf x):Int)).bind fun r0 =>
 (brE ((decide (r0.1.2.2.2.1<r0.1.2.2.1))==true)
 (gdE (decide (0≤r0.1.2.2.2.1))<|
 (gdE ((decide ((Int.toNat r0.1.2.2.2.1)<(List.length (EC.encL qdf r0.1.1))))&&(isE [(K1.int Go.IntKind.i64)] 0 (List.getD (EC.encL qdf r0.1.1) (Int.toNat r0.1.2.2.2.1) [])))<|
 (brE (((qm6 (List.getD (List.getD (EC.encL qdf r0.1.1) (Int.toNat r0.1.2.2.2.1) []) 0 C.ne))==r0.1.2.1)==false)
 (gdE (decide (0≤r0.1.2.2.2.1))<|
 (gdE ((decide ((Int.toNat r0.1.2.2.2.1)<(List.length (EC.encL qdf r0.1.1))))&&(isE [(K1.int Go.IntKind.i64)] 0 (List.getD (EC.encL qdf r0.1.1) (Int.toNat r0.1.2.2.2.1) [])))<|
 ((qz6 (qm6 (List.getD (List.getD (EC.encL qdf r0.1.1) (Int.toNat r0.1.2.2.2.1) []) 0 C.ne))).bind fun r1 =>
 (brE (r1==true)
 ((qz6 r0.1.2.1).bind fun r2 =>
 (some (r0.1.2.2.2.1,r2)))
 (some (r0.1.2.2.2.1,false))))))
 (some (r0.1.2.2.2.1,true)))))
 (some (r0.1.2.2.2.1,false)))))
theorem bsI_eq {x target r} (h:bsI_t x target=some r):bsI_s x target=some r :=
 qf4 (es:=q11h) (hs:=[]) [q7a] Tryz.func90 rfl (by kernel_rfl) rfl (by kernel_rfl) (by kernel_rfl) ⟨⟨_,rfl,rfl⟩,trivial⟩ trivial (by kernel_rfl) h
end
end Go.Proofs.YtfakibajjibjjaaGreatDoor
