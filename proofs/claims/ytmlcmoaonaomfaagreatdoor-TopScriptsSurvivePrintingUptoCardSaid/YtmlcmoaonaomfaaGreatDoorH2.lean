/- Functions of the program as plain functions: made by program from the machine. -/
import Derived.Test.YtmlcmoaonaomfaaGreatDoorH1
namespace Go.Proofs.YtmlcmoaonaomfaaGreatDoor
open Go.RowKit
set_option maxRecDepth 100000
noncomputable section
structure S35 where
 Kind:Int
 Tests:(List S35)
 Name:BA
 Pattern:Int
 Text:BA
 N:Int
abbrev L35:=List S35
mutual
def en35:S35->List C
 |⟨a0,a1,a2,a3,a4,a5⟩=>[.int .i64 a0,.sl (en35L a1),.str a2,.int .i64 a3,.str a4,.int .i64 a5]
def en35L:List S35->List (List C)
 |[]=>[]
 |x::xs=>en35 x::en35L xs
end
theorem qce:∀ xs,en35L xs=xs.map en35
 |[]=>rfl
 |x::xs=>by rw [en35L,qce xs];rfl
mutual
theorem qcf:∀ {x y:S35},en35 x=en35 y->x=y
 |⟨a0,a1,a2,a3,a4,a5⟩,⟨b0,b1,b2,b3,b4,b5⟩,h=>by
  simp only [en35,List.cons.injEq,C.int.injEq,C.sl.injEq,C.str.injEq,true_and,and_true] at h;obtain ⟨h0,h1,h2,h3,h4,h5⟩:=h;have h1:=qcd h1
  subst h0 h1 h2 h3 h4 h5;rfl
theorem qcd:∀ {xs ys:List S35},en35L xs=en35L ys->xs=ys
 |[],[],_=>rfl
 |[],_::_,h=>by simp [en35L] at h
 |_::_,[],h=>by simp [en35L] at h
 |x::xs,y::ys,h=>by simp only [en35L,List.cons.injEq] at h;rw [qcf h.1,qcd h.2]
end
open Classical in
def qbp:EC S35 where
 enc:=en35
 dec c:=if h:∃ x,en35 x=c then h.choose else ⟨qph .ne,([]:(List S35)),q1e1 .ne,qph .ne,q1e1 .ne,qph .ne⟩
 is c:=decide (∃ x,en35 x=c)
 enc_dec {c} h:=by
  have h2:∃ x,en35 x=c:=by simpa using h
  rw [dif_pos h2];exact h2.choose_spec
 dec_enc x:=by have h2:∃ y,en35 y=en35 x:=⟨x,rfl⟩;rw [dif_pos h2];exact qcf h2.choose_spec
 is_enc x:=by simp
theorem qcl (x:S35):qbp.enc x=[.int .i64 x.Kind,.sl (qbp.encL x.Tests),.str x.Name,.int .i64 x.Pattern,.str x.Text,.int .i64 x.N]:=by
 cases x;show en35 _=_
 simp only [en35,qce];rfl
theorem qb0:qbp.dec []=(⟨qph .ne,([]:(List S35)),q1e1 .ne,qph .ne,q1e1 .ne,qph .ne⟩:S35):=by refine dif_neg ?_;rintro ⟨⟨a0,a1,a2,a3,a4,a5⟩,h⟩;simp [en35] at h
theorem qpt (xs:List S35) (n:Nat):isE [.int .i64,.sl,.str,.int .i64,.str,.int .i64] 0 ((qbp.encL xs).getD n [])=decide (n<xs.length):=by
 by_cases h:n<xs.length
 ·simp only [EC.getD_lt _ _ h];simp [qcl,isE,isK,h]
 ·simp only [EC.getD_ge _ _ (y7q.1 h)];simp [isE,isK,h]
theorem q4h (xs:List S35) (n:Nat):qph (((qbp.encL xs).getD n []).getD 0 .ne)=(xs.getD n (qbp.dec [])).Kind:=by
 by_cases h:n<xs.length
 ·simp only [EC.getD_lt _ _ h];simp [qcl,h,qph]
 ·simp only [EC.getD_ge _ _ (y7q.1 h)];simp [y7q.1 h,qb0,q1e1,qph]
theorem q4i (xs:List S35) (n:Nat):slOf (((qbp.encL xs).getD n []).getD 1 .ne)=qbp.encL (xs.getD n (qbp.dec [])).Tests:=by
 by_cases h:n<xs.length
 ·simp only [EC.getD_lt _ _ h];simp [qcl,h,slOf]
 ·simp only [EC.getD_ge _ _ (y7q.1 h)];simp [y7q.1 h,qb0,q1e1,qph,slOf,EC.encL]
theorem q4j (xs:List S35) (n:Nat):q1e1 (((qbp.encL xs).getD n []).getD 2 .ne)=(xs.getD n (qbp.dec [])).Name:=by
 by_cases h:n<xs.length
 ·simp only [EC.getD_lt _ _ h];simp [qcl,h,q1e1]
 ·simp only [EC.getD_ge _ _ (y7q.1 h)];simp [y7q.1 h,qb0,q1e1,qph]
theorem q4k (xs:List S35) (n:Nat):qph (((qbp.encL xs).getD n []).getD 3 .ne)=(xs.getD n (qbp.dec [])).Pattern:=by
 by_cases h:n<xs.length
 ·simp only [EC.getD_lt _ _ h];simp [qcl,h,qph]
 ·simp only [EC.getD_ge _ _ (y7q.1 h)];simp [y7q.1 h,qb0,q1e1,qph]
theorem q4l (xs:List S35) (n:Nat):q1e1 (((qbp.encL xs).getD n []).getD 4 .ne)=(xs.getD n (qbp.dec [])).Text:=by
 by_cases h:n<xs.length
 ·simp only [EC.getD_lt _ _ h];simp [qcl,h,q1e1]
 ·simp only [EC.getD_ge _ _ (y7q.1 h)];simp [y7q.1 h,qb0,q1e1,qph]
theorem q4m (xs:List S35) (n:Nat):qph (((qbp.encL xs).getD n []).getD 5 .ne)=(xs.getD n (qbp.dec [])).N:=by
 by_cases h:n<xs.length
 ·simp only [EC.getD_lt _ _ h];simp [qcl,h,qph]
 ·simp only [EC.getD_ge _ _ (y7q.1 h)];simp [y7q.1 h,qb0,q1e1,qph]
theorem lit_35 (a0:Int) (a1:List S35) (a2:BA) (a3:Int) (a4:BA) (a5:Int):([.int .i64 a0,.sl (qbp.encL a1),.str a2,.int .i64 a3,.str a4,.int .i64 a5]:List C)=qbp.enc (⟨a0,a1,a2,a3,a4,a5⟩:S35):=(qcl (⟨a0,a1,a2,a3,a4,a5⟩:S35)).symm
theorem apd_35 (xs:List S35) (a0:Int) (a1:List S35) (a2:BA) (a3:Int) (a4:BA) (a5:Int):qbp.encL xs++[[.int .i64 a0,.sl (qbp.encL a1),.str a2,.int .i64 a3,.str a4,.int .i64 a5]]=qbp.encL (xs++[(⟨a0,a1,a2,a3,a4,a5⟩:S35)]):=by rw [lit_35];simp [EC.encL]
theorem all_35 (xs:List S35):(qbp.encL xs).all (λ(el:List C)=>el.length==6)=true:=by induction xs with|nil=>rfl|cons x xs ih=>first|(simp [EC.encL,qcl];done)|simpa [EC.encL,qcl] using ih
structure S38 where
 Kind:Int
 Test_Kind:Int
 Test_Tests:(List S35)
 Test_Name:BA
 Test_Pattern:Int
 Test_Text:BA
 Test_N:Int
 Then:(List S38)
 Else:(List S38)
 Act:Int
 Name:BA
 Text:BA
 N:Int
abbrev L38:=List S38
mutual
def en38:S38->List C
 |⟨a0,a1,a2,a3,a4,a5,a6,a7,a8,a9,a10,a11,a12⟩=>[.int .i64 a0,.int .i64 a1,.sl (qbp.encL a2),.str a3,.int .i64 a4,.str a5,.int .i64 a6,.sl (en38L a7),.sl (en38L a8),.int .i64 a9,.str a10,.str a11,.int .i64 a12]
def en38L:List S38->List (List C)
 |[]=>[]
 |x::xs=>en38 x::en38L xs
end
theorem qch:∀ xs,en38L xs=xs.map en38
 |[]=>rfl
 |x::xs=>by rw [en38L,qch xs];rfl
mutual
theorem qci:∀ {x y:S38},en38 x=en38 y->x=y
 |⟨a0,a1,a2,a3,a4,a5,a6,a7,a8,a9,a10,a11,a12⟩,⟨b0,b1,b2,b3,b4,b5,b6,b7,b8,b9,b10,b11,b12⟩,h=>by
  simp only [en38,List.cons.injEq,C.int.injEq,C.sl.injEq,C.str.injEq,true_and,and_true] at h;obtain ⟨h0,h1,h2,h3,h4,h5,h6,h7,h8,h9,h10,h11,h12⟩:=h;have h2:a2=b2:=by have q:=congrArg qbp.decL h2;simpa only [EC.decL_encL] using q
  have h7:=qcg h7;have h8:=qcg h8
  subst h0 h1 h2 h3 h4 h5 h6 h7 h8 h9 h10 h11 h12;rfl
theorem qcg:∀ {xs ys:List S38},en38L xs=en38L ys->xs=ys
 |[],[],_=>rfl
 |[],_::_,h=>by simp [en38L] at h
 |_::_,[],h=>by simp [en38L] at h
 |x::xs,y::ys,h=>by simp only [en38L,List.cons.injEq] at h;rw [qci h.1,qcg h.2]
end
open Classical in
def qbr:EC S38 where
 enc:=en38
 dec c:=if h:∃ x,en38 x=c then h.choose else ⟨qph .ne,qph .ne,([]:(List S35)),q1e1 .ne,qph .ne,q1e1 .ne,qph .ne,([]:(List S38)),([]:(List S38)),qph .ne,q1e1 .ne,q1e1 .ne,qph .ne⟩
 is c:=decide (∃ x,en38 x=c)
 enc_dec {c} h:=by
  have h2:∃ x,en38 x=c:=by simpa using h
  rw [dif_pos h2];exact h2.choose_spec
 dec_enc x:=by have h2:∃ y,en38 y=en38 x:=⟨x,rfl⟩;rw [dif_pos h2];exact qci h2.choose_spec
 is_enc x:=by simp
theorem qcm (x:S38):qbr.enc x=[.int .i64 x.Kind,.int .i64 x.Test_Kind,.sl (qbp.encL x.Test_Tests),.str x.Test_Name,.int .i64 x.Test_Pattern,.str x.Test_Text,.int .i64 x.Test_N,.sl (qbr.encL x.Then),.sl (qbr.encL x.Else),.int .i64 x.Act,.str x.Name,.str x.Text,.int .i64 x.N]:=by
 cases x;show en38 _=_
 simp only [en38,qch];rfl
theorem qb1:qbr.dec []=(⟨qph .ne,qph .ne,([]:(List S35)),q1e1 .ne,qph .ne,q1e1 .ne,qph .ne,([]:(List S38)),([]:(List S38)),qph .ne,q1e1 .ne,q1e1 .ne,qph .ne⟩:S38):=by refine dif_neg ?_;rintro ⟨⟨a0,a1,a2,a3,a4,a5,a6,a7,a8,a9,a10,a11,a12⟩,h⟩;simp [en38] at h
theorem qpu (xs:List S38) (n:Nat):isE [.int .i64,.int .i64,.sl,.str,.int .i64,.str,.int .i64,.sl,.sl,.int .i64,.str,.str,.int .i64] 0 ((qbr.encL xs).getD n [])=decide (n<xs.length):=by
 by_cases h:n<xs.length
 ·simp only [EC.getD_lt _ _ h];simp [qcm,isE,isK,h]
 ·simp only [EC.getD_ge _ _ (y7q.1 h)];simp [isE,isK,h]
theorem q4o (xs:List S38) (n:Nat):qph (((qbr.encL xs).getD n []).getD 0 .ne)=(xs.getD n (qbr.dec [])).Kind:=by
 by_cases h:n<xs.length
 ·simp only [EC.getD_lt _ _ h];simp [qcm,h,qph]
 ·simp only [EC.getD_ge _ _ (y7q.1 h)];simp [y7q.1 h,qb1,q1e1,qph]
theorem q4p (xs:List S38) (n:Nat):qph (((qbr.encL xs).getD n []).getD 1 .ne)=(xs.getD n (qbr.dec [])).Test_Kind:=by
 by_cases h:n<xs.length
 ·simp only [EC.getD_lt _ _ h];simp [qcm,h,qph]
 ·simp only [EC.getD_ge _ _ (y7q.1 h)];simp [y7q.1 h,qb1,q1e1,qph]
theorem q4t (xs:List S38) (n:Nat):slOf (((qbr.encL xs).getD n []).getD 2 .ne)=qbp.encL (xs.getD n (qbr.dec [])).Test_Tests:=by
 by_cases h:n<xs.length
 ·simp only [EC.getD_lt _ _ h];simp [qcm,h,slOf]
 ·simp only [EC.getD_ge _ _ (y7q.1 h)];simp [y7q.1 h,qb1,q1e1,qph,slOf,EC.encL]
theorem q4u (xs:List S38) (n:Nat):q1e1 (((qbr.encL xs).getD n []).getD 3 .ne)=(xs.getD n (qbr.dec [])).Test_Name:=by
 by_cases h:n<xs.length
 ·simp only [EC.getD_lt _ _ h];simp [qcm,h,q1e1]
 ·simp only [EC.getD_ge _ _ (y7q.1 h)];simp [y7q.1 h,qb1,q1e1,qph]
theorem q4v (xs:List S38) (n:Nat):qph (((qbr.encL xs).getD n []).getD 4 .ne)=(xs.getD n (qbr.dec [])).Test_Pattern:=by
 by_cases h:n<xs.length
 ·simp only [EC.getD_lt _ _ h];simp [qcm,h,qph]
 ·simp only [EC.getD_ge _ _ (y7q.1 h)];simp [y7q.1 h,qb1,q1e1,qph]
theorem q4w (xs:List S38) (n:Nat):q1e1 (((qbr.encL xs).getD n []).getD 5 .ne)=(xs.getD n (qbr.dec [])).Test_Text:=by
 by_cases h:n<xs.length
 ·simp only [EC.getD_lt _ _ h];simp [qcm,h,q1e1]
 ·simp only [EC.getD_ge _ _ (y7q.1 h)];simp [y7q.1 h,qb1,q1e1,qph]
theorem q4x (xs:List S38) (n:Nat):qph (((qbr.encL xs).getD n []).getD 6 .ne)=(xs.getD n (qbr.dec [])).Test_N:=by
 by_cases h:n<xs.length
 ·simp only [EC.getD_lt _ _ h];simp [qcm,h,qph]
 ·simp only [EC.getD_ge _ _ (y7q.1 h)];simp [y7q.1 h,qb1,q1e1,qph]
theorem q4y (xs:List S38) (n:Nat):slOf (((qbr.encL xs).getD n []).getD 7 .ne)=qbr.encL (xs.getD n (qbr.dec [])).Then:=by
 by_cases h:n<xs.length
 ·simp only [EC.getD_lt _ _ h];simp [qcm,h,slOf]
 ·simp only [EC.getD_ge _ _ (y7q.1 h)];simp [y7q.1 h,qb1,q1e1,qph,slOf,EC.encL]
theorem q4z (xs:List S38) (n:Nat):slOf (((qbr.encL xs).getD n []).getD 8 .ne)=qbr.encL (xs.getD n (qbr.dec [])).Else:=by
 by_cases h:n<xs.length
 ·simp only [EC.getD_lt _ _ h];simp [qcm,h,slOf]
 ·simp only [EC.getD_ge _ _ (y7q.1 h)];simp [y7q.1 h,qb1,q1e1,qph,slOf,EC.encL]
theorem q50 (xs:List S38) (n:Nat):qph (((qbr.encL xs).getD n []).getD 9 .ne)=(xs.getD n (qbr.dec [])).Act:=by
 by_cases h:n<xs.length
 ·simp only [EC.getD_lt _ _ h];simp [qcm,h,qph]
 ·simp only [EC.getD_ge _ _ (y7q.1 h)];simp [y7q.1 h,qb1,q1e1,qph]
theorem q4q (xs:List S38) (n:Nat):q1e1 (((qbr.encL xs).getD n []).getD 10 .ne)=(xs.getD n (qbr.dec [])).Name:=by
 by_cases h:n<xs.length
 ·simp only [EC.getD_lt _ _ h];simp [qcm,h,q1e1]
 ·simp only [EC.getD_ge _ _ (y7q.1 h)];simp [y7q.1 h,qb1,q1e1,qph]
theorem q4r (xs:List S38) (n:Nat):q1e1 (((qbr.encL xs).getD n []).getD 11 .ne)=(xs.getD n (qbr.dec [])).Text:=by
 by_cases h:n<xs.length
 ·simp only [EC.getD_lt _ _ h];simp [qcm,h,q1e1]
 ·simp only [EC.getD_ge _ _ (y7q.1 h)];simp [y7q.1 h,qb1,q1e1,qph]
theorem q4s (xs:List S38) (n:Nat):qph (((qbr.encL xs).getD n []).getD 12 .ne)=(xs.getD n (qbr.dec [])).N:=by
 by_cases h:n<xs.length
 ·simp only [EC.getD_lt _ _ h];simp [qcm,h,qph]
 ·simp only [EC.getD_ge _ _ (y7q.1 h)];simp [y7q.1 h,qb1,q1e1,qph]
theorem lit_38 (a0:Int) (a1:Int) (a2:List S35) (a3:BA) (a4:Int) (a5:BA) (a6:Int) (a7:List S38) (a8:List S38) (a9:Int) (a10:BA) (a11:BA) (a12:Int):([.int .i64 a0,.int .i64 a1,.sl (qbp.encL a2),.str a3,.int .i64 a4,.str a5,.int .i64 a6,.sl (qbr.encL a7),.sl (qbr.encL a8),.int .i64 a9,.str a10,.str a11,.int .i64 a12]:List C)=qbr.enc (⟨a0,a1,a2,a3,a4,a5,a6,a7,a8,a9,a10,a11,a12⟩:S38):=(qcm (⟨a0,a1,a2,a3,a4,a5,a6,a7,a8,a9,a10,a11,a12⟩:S38)).symm
theorem apd_38 (xs:List S38) (a0:Int) (a1:Int) (a2:List S35) (a3:BA) (a4:Int) (a5:BA) (a6:Int) (a7:List S38) (a8:List S38) (a9:Int) (a10:BA) (a11:BA) (a12:Int):qbr.encL xs++[[.int .i64 a0,.int .i64 a1,.sl (qbp.encL a2),.str a3,.int .i64 a4,.str a5,.int .i64 a6,.sl (qbr.encL a7),.sl (qbr.encL a8),.int .i64 a9,.str a10,.str a11,.int .i64 a12]]=qbr.encL (xs++[(⟨a0,a1,a2,a3,a4,a5,a6,a7,a8,a9,a10,a11,a12⟩:S38)]):=by rw [lit_38];simp [EC.encL]
theorem all_38 (xs:List S38):(qbr.encL xs).all (λ(el:List C)=>el.length==13)=true:=by induction xs with|nil=>rfl|cons x xs ih=>first|(simp [EC.encL,qcm];done)|simpa [EC.encL,qcm] using ih
abbrev z2l:=(vC (cInt .i64))
abbrev z2m:=(qqr z2l (qqr (vC (cSl qbp)) (qqr (vC cStr) (qqr z2l (qqr (vC cStr) (qqt z2l))))))
def q13s:=(qqt (vAgg z2m))
abbrev z2q:=(cFstU (cPair (vC cBool) (qqs (ρ:=B))))
def q13t:Cod (V×List B) Bool:=z2q
def q13w (q1f8:Int) (q1fb:L35) (q1f9:BA) (q1fa:Int) (q1fc:BA) (t_N:Int):=fS Tryz.prog lv X0 94 q13s q13t (q1f8,q1fb,q1f9,q1fa,q1fc,t_N)
def q13x (q1f8:Int) (q1fb:L35) (q1f9:BA) (q1fa:Int) (q1fc:BA) (t_N:Int):Oq Bool :=brE ((q1f8==0)==true) (brE (((lN qbp q1fb:Int)==0)==true) (brE ((q1f9.toList==ByteArray.toList ⟨#[]⟩)==true) (brE ((q1fa==0)==true) (brE ((q1fc.toList==ByteArray.toList ⟨#[]⟩)==true) (some (t_N==0)) (some false)) (some false)) (some false)) (some false)) (some false)
theorem q13v:E6 q13x q13w:=λh=>fT (es:=q1g1) (hs:=[]) [] Tryz.func94 trivial trivial h
def q13u:=entZ 94 [] q13s q13t
def q1h0:=q13u::q1g1
def q1au:=(qqt z2l)
def q1av:Cod (V×List B) Bool:=z2q
def q1ay (act:Int):=fS Tryz.prog lv X0 66 q1au q1av act
def q1az (act:Int):Oq Bool :=brE ((act==2)==false) (brE ((act==4)==false) (brE ((act==5)==false) (some (act==7)) (some true)) (some true)) (some true)
theorem q1ax {act r} (h:q1az act=some r):q1ay act=some r :=
 fT (es:=q1h0) (hs:=[]) [] Tryz.func66 trivial trivial h
def q1aw:=entZ 66 [] q1au q1av
def q1h9:=q1aw::q1h0
def q1b0:=(qqt z2l)
def q1b1:Cod (V×List B) (Bool×Bool×Bool):=(cFstU (cPair (vTup (qqr (vC cBool) (qqr (vC cBool) (qqt (vC cBool))))) qqs))
def q1b4 (kind:Int):=fS Tryz.prog lv X0 96 q1b0 q1b1 kind
def q1b5 (kind:Int):Oq (Bool×Bool×Bool) :=brE (kind==5) (some (true,true,false)) (brE (kind==6) (some (false,true,false)) (brE (kind==7) (some (false,true,false)) (brE (kind==8) (some (false,false,true)) (brE (kind==9) (some (true,false,false)) (some (false,false,false))))))
theorem q1b3 {kind r} (h:q1b5 kind=some r):q1b4 kind=some r :=
 fT (es:=q1h9) (hs:=[]) [] Tryz.func96 trivial trivial h
def q1b2:=entZ 96 [] q1b0 q1b1
def q1ha:=q1b2::q1h9
def q139:=(qqt (vAgg z2m))
def q13a:Cod (V×List B) Bool:=z2q
def q13d (q1f8:Int) (q1fb:L35) (q1f9:BA) (q1fa:Int) (q1fc:BA) (t_N:Int):=fS Tryz.prog lv X0 97 q139 q13a (q1f8,q1fb,q1f9,q1fa,q1fc,t_N)
def q13e (q1f8:Int) (q1fb:L35) (_q1f9:BA) (_q1fa:Int) (_q1fc:BA) (_t_N:Int):Oq Bool :=brE (q1f8==2) (some ((lN qbp q1fb:Int)==1)) (brE (q1f8==3) (brE (decide ((lN qbp q1fb:Int)≥1)==true) (some (decide ((lN qbp q1fb:Int)<=60))) (some false)) (brE (q1f8==4) (brE (decide ((lN qbp q1fb:Int)≥1)==true) (some (decide ((lN qbp q1fb:Int)<=60))) (some false)) (some ((lN qbp q1fb:Int)==0))))
theorem q13c:E6 q13e q13d:=λh=>fT (es:=q1ha) (hs:=[]) [] Tryz.func97 trivial trivial h
def q13b:=entZ 97 [] q139 q13a
def q1gx:=q13b::q1ha
def q1b6:=(qqt (vC (cInt .u8)))
def q1b7:Cod (V×List B) Bool:=z2q
def q1ba (c:Int):=fS Tryz.prog lv X0 126 q1b6 q1b7 c
def q1bb (c:Int):Oq Bool :=brE (decide (c≥97)==true) (brE (decide (c<=122)==false) (brE (decide (c≥48)==true) (some (decide (c<=57))) (some false)) (some true)) (brE (decide (c≥48)==true) (some (decide (c<=57))) (some false))
theorem q1b9 {c r} (h:q1bb c=some r):q1ba c=some r :=
 fT (es:=q1gx) (hs:=[]) [] Tryz.func126 trivial trivial h
def q1b8:=entZ 126 [] q1b6 q1b7
def q1hc:=q1b8::q1gx
def q3e:Cod (List V) (BA×Unit):=(qqr (vC cStr) (qqt (vFn 126 qqs)))
abbrev z2p:=(qqr z2l (qqt z2l))
def q3o:=sLS [0,1,7,8] (qqr (vC cStr) (qqr (vFn 126 qqs) z2p)) qqs [] [] (by decide) (λ_=>rfl)
abbrev z2s:=(qqr z2l (qqr z2l (qqt (vC cBool))))
def q3n:=sLS [0,1,7,8,9] (qqr (vC cStr) (qqr (vFn 126 qqs) z2s)) qqs [] [] (by decide) (λ_=>rfl)
def q3m:=sLS [4] (qqt (vC cBool)) qqs [] [] (by decide) (λ_=>rfl)
def q3l:=oOr 1 q3m (oAt 2 q3n) (λx=>(by decide:(2:Nat)≠1))
def q3i (s:BA) (t7 t8:Int):=lS Tryz.prog lv X0 78 18 (qm6 (cdF Tryz.f78) 2) q3o q3l ((s,(),t7,t8),())
def q3p (s:BA) (t7 t8:Int):Oq ((Bool×Unit)⊕((BA×Unit×Int×Int×Bool)×Unit)) :=brE (decide (t8<t7)) (gdE (p0 t8&&decide (Int.toNat t8<s.size))<|(q1ba ((UInt8.toNat (Array.getD s.data (Int.toNat t8) (0:UInt8)):Nat):Int)).bind λr0=>brE (!r0) (some (.inl (false,()))) (q3i s t7 (wI t8))) (some (.inr ((s,(),t7,t8,false),())))
theorem q3k:E3 q3p q3i:=λh=>lT (es:=q1hc) (hs:=[]) [] trivial trivial h
def q3j:=lentZ 78 18 2 (qm6 (cdF Tryz.f78) 2) q3o q3l
def q3f:Cod (V×List B) Bool:=z2q
def q3r (s:BA):=fS Tryz.prog lv X0 78 q3e q3f (s,())
def q3s (s:BA):Oq Bool :=(q3i s (s.size:Int) 0).bind λr0=>Sum.elim (λr1=>some r1.1) (λ_r1=>some true) r0
theorem q3h {s r} (h:q3s s=some r):q3r s=some r :=
 fT (es:=q1hc) (hs:=[]) [q3j] Tryz.func78 ⟨⟨_,rfl,rfl⟩,trivial⟩ trivial h
def q3g:=entZ 78 [126] q3e q3f
def q1fj:=q3g::q1hc
def q1bc:=(qqt (vC cStr))
def q1bd:Cod (V×List B) Bool:=z2q
def q1bg (s:BA):=fS Tryz.prog lv X0 95 q1bc q1bd s
def q1bh (s:BA):Oq Bool :=brE ((!(s.toList==ByteArray.toList ⟨#[]⟩))==true) (brE (decide ((s.size:Int)<=60)==true) ((q3r s).bind λr0=>brE (r0==true) (gdE (decide ((0:Int)<=0)&&decide (Int.toNat 0<s.size))<|some (decide (((UInt8.toNat (Array.getD s.data (Int.toNat 0) (0:UInt8)):Nat):Int)>57))) (some false)) (some false)) (some false)
theorem q1bf {s r} (h:q1bh s=some r):q1bg s=some r :=
 fT (es:=q1fj) (hs:=[]) [] Tryz.func95 trivial trivial h
def q1be:=entZ 95 [] q1bc q1bd
def q1hb:=q1be::q1fj
abbrev z2o:=(vAgg (qqr z2l (qqr z2l (qqr (vC (cSl qbp)) (qqr (vC cStr) (qqr z2l (qqr (vC cStr) (qqr z2l (qqr (vC (cSl qbr)) (qqr (vC (cSl qbr)) (qqr z2l (qqr (vC cStr) (qqr (vC cStr) (qqt z2l))))))))))))))
def q19x:=(qqt z2o)
def q19y:Cod (V×List B) Int:=(cFstU (cPair z2l qqs))
def q1a1 (q103 r_Test_Kind:Int) (q107:L35) (q105:BA) (q106:Int) (q108:BA) (q104:Int) (r_Then r_Else:L38) (r_Act:Int) (r_Name r_Text:BA) (r_N:Int):=fS Tryz.prog lv X0 60 q19x q19y (q103,r_Test_Kind,q107,q105,q106,q108,q104,r_Then,r_Else,r_Act,r_Name,r_Text,r_N)
abbrev zh_t (q103:Int) (r_Name r_Text:BA) (r_N:Int):Oq Int :=brE ((q103==3)==true) ((q1bg r_Name).bind λr0=>brE (!r0) (some 10) (brE (decide ((r_Text.size:Int)>200)) (some 1) (brE (decide (r_N<0)==false) (brE (decide (r_N>63)) (some 3) (some 0)) (some 3)))) (brE (decide ((r_Text.size:Int)>200)) (some 1) (brE (decide (r_N<0)==false) (brE (decide (r_N>63)) (some 3) (some 0)) (some 3)))
abbrev zg_t (q103 r_Act:Int) (r_Name r_Text:BA) (r_N:Int):Oq Int :=brE ((q103==2)==true) ((q1ay r_Act).bind λr0=>brE ((!r0)==true) (brE ((!(r_Text.toList==ByteArray.toList ⟨#[]⟩))==false) (brE ((r_Act != 6)==true) (brE (r_N != 0) (some 5) (zh_t q103 r_Name r_Text r_N)) (zh_t q103 r_Name r_Text r_N)) (some 5)) (brE ((r_Act != 6)==true) (brE (r_N != 0) (some 5) (zh_t q103 r_Name r_Text r_N)) (zh_t q103 r_Name r_Text r_N))) (zh_t q103 r_Name r_Text r_N)
abbrev zi_t (q103 r_Act:Int) (r_Name r_Text:BA) (r_N:Int):Oq Int :=brE ((q103==4)==true) (brE (!(r_Text.toList==ByteArray.toList ⟨#[]⟩)) (some 5) (brE ((q103==2)==true) (brE (decide (r_Act<1)==false) (brE (decide (r_Act>7)) (some 4) (zg_t q103 r_Act r_Name r_Text r_N)) (some 4)) (zg_t q103 r_Act r_Name r_Text r_N))) (brE ((q103==2)==true) (brE (decide (r_Act<1)==false) (brE (decide (r_Act>7)) (some 4) (zg_t q103 r_Act r_Name r_Text r_N)) (some 4)) (zg_t q103 r_Act r_Name r_Text r_N))
def q1a2 (q103 r_Test_Kind:Int) (q107:L35) (q105:BA) (q106:Int) (q108:BA) (q104:Int) (r_Then r_Else:L38) (r_Act:Int) (r_Name r_Text:BA) (r_N:Int):Oq Int :=gL qbp q107<|(q13w r_Test_Kind (dL qbp q107) q105 q106 q108 q104).bind λr0=>brE ((!r0)==false) (brE (decide (IntKind.wrap .i64 ((lN qbr r_Then:Int)+(lN qbr r_Else:Int))>0)==false) (brE ((!(q103==2))==true) (brE ((r_Act != 0)==false) (brE ((r_N != 0)==false) (brE ((q103 != 3)==true) (brE ((!(r_Name.toList==ByteArray.toList ⟨#[]⟩))==false) (zi_t q103 r_Act r_Name r_Text r_N) (some 5)) (zi_t q103 r_Act r_Name r_Text r_N)) (some 5)) (some 5)) (brE ((q103 != 3)==true) (brE ((!(r_Name.toList==ByteArray.toList ⟨#[]⟩))==false) (zi_t q103 r_Act r_Name r_Text r_N) (some 5)) (zi_t q103 r_Act r_Name r_Text r_N))) (some 5)) (some 5)
theorem q1a0:E13 q1a2 q1a1:=λh=>fT (es:=q1hb) (hs:=[]) [] Tryz.func60 trivial trivial h
def q19z:=entZ 60 [] q19x q19y
def q1h6:=q19z::q1hb
def q1a9:=(qqr (vAgg z2m) (qqt z2l))
def q1aa:Cod (V×List B) Int:=(cFstU (cPair z2l qqs))
def q1as (q1f8:Int) (q1fb:L35) (q1f9:BA) (q1fa:Int) (q1fc:BA) (t_N depth:Int):=fS Tryz.prog lv X0 61 q1a9 q1aa ((q1f8,q1fb,q1f9,q1fa,q1fc,t_N),depth)
def q1ab:=entZ 61 [] q1a9 q1aa
def q1h8:=q1ab::q1h6
def q1aq:=sLS [1,105,106,107] (qqr z2l (qqr (vC (cSl qbp)) z2p)) qqs [] [] (by decide) (λ_=>rfl)
def q1ap:=sLS [1,105,106,107,108] (qqr z2l (qqr (vC (cSl qbp)) z2s)) qqs [] [] (by decide) (λ_=>rfl)
def q1ao:=sLS [4] (qqt z2l) qqs [] [] (by decide) (λ_=>rfl)
def q1an:=oOr 1 q1ao (oAt 3 q1ap) (λx=>(by decide:(3:Nat)≠1))
def q1ak (depth:Int) (t105:L35) (t106 t107:Int):=lS Tryz.prog lv X0 61 119 (qm6 (cdF Tryz.f61) 19) q1aq q1an ((depth,t105,t106,t107),())
abbrev zj (t105:L35) (t107:Int):=(List.getD (EC.encL qbp t105) (Int.toNat t107) [])
def q1ar (depth:Int) (t105:L35) (t106 t107:Int):Oq ((Int×Unit)⊕((Int×L35×Int×Int×Bool)×Unit)) :=brE (decide (t107<t106)) (gdE (p0 t107)<|gdE (eC qbp t105 t107 [K1.int IntKind.i64,K1.sl,K1.str,K1.int IntKind.i64,K1.str,K1.int IntKind.i64])<|gdE (EC.isL qbp (slOf (List.getD (zj t105 t107) 1 C.ne)))<|(q1as (qph (List.getD (zj t105 t107) 0 C.ne)) (uL qbp (List.getD (zj t105 t107) 1 C.ne)) (q1e1 (List.getD (zj t105 t107) 2 C.ne)) (qph (List.getD (zj t105 t107) 3 C.ne)) (q1e1 (List.getD (zj t105 t107) 4 C.ne)) (qph (List.getD (zj t105 t107) 5 C.ne)) (wI depth)).bind λr0=>brE (r0 != 0) (some (.inl (r0,()))) (gL qbp t105<|q1ak depth (dL qbp t105) t106 (wI t107))) (gL qbp t105<|some (.inr ((depth,dL qbp t105,t106,t107,false),())))
theorem q1am:E4 q1ar q1ak:=λh=>lT (es:=q1h8) (hs:=[]) [] trivial trivial h
def q1al:=lentZ 61 119 19 (qm6 (cdF Tryz.f61) 19) q1aq q1an
def q1ai:=sLS [1,2] (qqr z2l (qqt (vPtr 0 0))) (qqt (qvh (bBox z2m))) [false] [] (by decide) (λ_=>rfl)
def q1ah:=sLS [4] (qqt z2l) qqs [] [] (by decide) (λ_=>rfl)
def q1ag:=oAt 1 q1ah
def q1ad (depth b0:Int) (b0_1:L35) (b0_2:BA) (b0_3:Int) (b0_4:BA) (b0_5:Int):=gS Tryz.prog lv X0 61 119 (getSeg (cdF Tryz.f61) 18) q1ai q1ag ((depth,()),b0,b0_1,b0_2,b0_3,b0_4,b0_5)
def q1aj (depth _b0:Int) (b0_1:L35) (_b0_2:BA) (_b0_3:Int) (_b0_4:BA) (_b0_5:Int):Oq (Int×Unit) :=gL qbp b0_1<|(q1ak depth (dL qbp b0_1) (lN qbp b0_1:Int) 0).bind λr0=>Sum.elim (λr1=>some (r1.1,())) (λ_r1=>some (0,())) r0
theorem q1af:E7 q1aj q1ad:=λh=>gT (es:=q1h8) (hs:=[]) [q1al] ⟨⟨_,rfl,rfl⟩,trivial⟩ trivial h
def q1ae:=gentZ 61 119 18 (getSeg (cdF Tryz.f61) 18) (by kernel_rfl) q1ai q1ag
abbrev q1kn (q1f8:Int) (q1fb:L35) (q1f9:BA) (q1fa:Int) (q1fc:BA) (t_N depth:Int):Oq Int :=brE (decide ((q1fc.size:Int)>200)) (some 1) (brE (decide (t_N<0)==false) (brE (decide (t_N>1000000)) (some 3) (gL qbp q1fb<|(q1ad depth q1f8 (dL qbp q1fb) q1f9 q1fa q1fc t_N).bind λr0=>some r0.1)) (some 3))
abbrev q1ko (q1f8:Int) (q1fb:L35) (q1f9:BA) (q1fa:Int) (q1fc:BA) (t_N depth:Int):Oq Int :=brE (decide (q1fa<1)==false) (brE (decide (q1fa>3)) (some 4) (q1kn q1f8 q1fb q1f9 q1fa q1fc t_N depth)) (some 4)
abbrev zn (q1f9:BA):=((q1f9.toList==ByteArray.toList ⟨#[]⟩)==false)
abbrev zo (q1f9:BA):=(decide ((q1f9.size:Int)>60))
def q1at (q1f8:Int) (q1fb:L35) (q1f9:BA) (q1fa:Int) (q1fc:BA) (t_N depth:Int):Oq Int :=(q1b4 q1f8).bind λr0=>brE (decide (depth>8)) (some 5) (brE (decide (q1f8<1)==false) (brE (decide (q1f8>9)) (some 4) (gL qbp q1fb<|(q13d q1f8 (dL qbp q1fb) q1f9 q1fa q1fc t_N).bind λr1=>brE (!r1) (some 5) (brE ((!r0.1)==true) (brE ((!(q1f9.toList==ByteArray.toList ⟨#[]⟩))==false) (brE ((!r0.2.1)==true) (brE ((q1fa != 0)==false) (brE ((!(q1fc.toList==ByteArray.toList ⟨#[]⟩))==false) (brE ((!r0.2.2)==true) (brE (t_N != 0) (some 5) (brE (r0.1==true) (brE (zn q1f9) (brE (zo q1f9) (some 10) (brE (r0.2.1==true) (q1ko q1f8 q1fb q1f9 q1fa q1fc t_N depth) (q1kn q1f8 q1fb q1f9 q1fa q1fc t_N depth))) (some 10)) (brE (r0.2.1==true) (q1ko q1f8 q1fb q1f9 q1fa q1fc t_N depth) (q1kn q1f8 q1fb q1f9 q1fa q1fc t_N depth)))) (brE (r0.1==true) (brE (zn q1f9) (brE (zo q1f9) (some 10) (brE (r0.2.1==true) (q1ko q1f8 q1fb q1f9 q1fa q1fc t_N depth) (q1kn q1f8 q1fb q1f9 q1fa q1fc t_N depth))) (some 10)) (brE (r0.2.1==true) (q1ko q1f8 q1fb q1f9 q1fa q1fc t_N depth) (q1kn q1f8 q1fb q1f9 q1fa q1fc t_N depth)))) (some 5)) (some 5)) (brE ((!r0.2.2)==true) (brE (t_N != 0) (some 5) (brE (r0.1==true) (brE (zn q1f9) (brE (zo q1f9) (some 10) (brE (r0.2.1==true) (q1ko q1f8 q1fb q1f9 q1fa q1fc t_N depth) (q1kn q1f8 q1fb q1f9 q1fa q1fc t_N depth))) (some 10)) (brE (r0.2.1==true) (q1ko q1f8 q1fb q1f9 q1fa q1fc t_N depth) (q1kn q1f8 q1fb q1f9 q1fa q1fc t_N depth)))) (brE (r0.1==true) (brE (zn q1f9) (brE (zo q1f9) (some 10) (brE (r0.2.1==true) (q1ko q1f8 q1fb q1f9 q1fa q1fc t_N depth) (q1kn q1f8 q1fb q1f9 q1fa q1fc t_N depth))) (some 10)) (brE (r0.2.1==true) (q1ko q1f8 q1fb q1f9 q1fa q1fc t_N depth) (q1kn q1f8 q1fb q1f9 q1fa q1fc t_N depth))))) (some 5)) (brE ((!r0.2.1)==true) (brE ((q1fa != 0)==false) (brE ((!(q1fc.toList==ByteArray.toList ⟨#[]⟩))==false) (brE ((!r0.2.2)==true) (brE (t_N != 0) (some 5) (brE (r0.1==true) (brE (zn q1f9) (brE (zo q1f9) (some 10) (brE (r0.2.1==true) (q1ko q1f8 q1fb q1f9 q1fa q1fc t_N depth) (q1kn q1f8 q1fb q1f9 q1fa q1fc t_N depth))) (some 10)) (brE (r0.2.1==true) (q1ko q1f8 q1fb q1f9 q1fa q1fc t_N depth) (q1kn q1f8 q1fb q1f9 q1fa q1fc t_N depth)))) (brE (r0.1==true) (brE (zn q1f9) (brE (zo q1f9) (some 10) (brE (r0.2.1==true) (q1ko q1f8 q1fb q1f9 q1fa q1fc t_N depth) (q1kn q1f8 q1fb q1f9 q1fa q1fc t_N depth))) (some 10)) (brE (r0.2.1==true) (q1ko q1f8 q1fb q1f9 q1fa q1fc t_N depth) (q1kn q1f8 q1fb q1f9 q1fa q1fc t_N depth)))) (some 5)) (some 5)) (brE ((!r0.2.2)==true) (brE (t_N != 0) (some 5) (brE (r0.1==true) (brE (zn q1f9) (brE (zo q1f9) (some 10) (brE (r0.2.1==true) (q1ko q1f8 q1fb q1f9 q1fa q1fc t_N depth) (q1kn q1f8 q1fb q1f9 q1fa q1fc t_N depth))) (some 10)) (brE (r0.2.1==true) (q1ko q1f8 q1fb q1f9 q1fa q1fc t_N depth) (q1kn q1f8 q1fb q1f9 q1fa q1fc t_N depth)))) (brE (r0.1==true) (brE (zn q1f9) (brE (zo q1f9) (some 10) (brE (r0.2.1==true) (q1ko q1f8 q1fb q1f9 q1fa q1fc t_N depth) (q1kn q1f8 q1fb q1f9 q1fa q1fc t_N depth))) (some 10)) (brE (r0.2.1==true) (q1ko q1f8 q1fb q1f9 q1fa q1fc t_N depth) (q1kn q1f8 q1fb q1f9 q1fa q1fc t_N depth)))))))) (some 4))
theorem q1ac:E7 q1at q1as:=λh=>fT (es:=q1h8) (hs:=[]) [q1ae] Tryz.func61 trivial ⟨⟨_,rfl,rfl⟩,trivial⟩ h
def q1a3:=(qqr z2o (qqt z2l))
def q1a4:Cod (V×List B) Int:=(cFstU (cPair z2l qqs))
def q1a7 (q103 r_Test_Kind:Int) (q107:L35) (q105:BA) (q106:Int) (q108:BA) (q104:Int) (r_Then r_Else:L38) (r_Act:Int) (r_Name r_Text:BA) (r_N depth:Int):=fS Tryz.prog lv X0 34 q1a3 q1a4 ((q103,r_Test_Kind,q107,q105,q106,q108,q104,r_Then,r_Else,r_Act,r_Name,r_Text,r_N),depth)
def q1a8 (q103 r_Test_Kind:Int) (q107:L35) (q105:BA) (q106:Int) (q108:BA) (q104:Int) (r_Then r_Else:L38) (r_Act:Int) (r_Name r_Text:BA) (r_N depth:Int):Oq Int :=brE (decide (depth>8)) (some 5) (brE (decide (q103<1)==false) (brE (decide (q103>4)) (some 4) (brE (q103 != 1) (gL qbp q107<|gL qbr r_Then<|gL qbr r_Else<|(q1a1 q103 r_Test_Kind (dL qbp q107) q105 q106 q108 q104 (dL qbr r_Then) (dL qbr r_Else) r_Act r_Name r_Text r_N).bind λr0=>some r0) (brE ((r_Act != 0)==false) (brE ((!(r_Name.toList==ByteArray.toList ⟨#[]⟩))==false) (brE ((!(r_Text.toList==ByteArray.toList ⟨#[]⟩))==false) (brE (r_N != 0) (some 5) (gL qbp q107<|(q1as r_Test_Kind (dL qbp q107) q105 q106 q108 q104 1).bind λr0=>some r0)) (some 5)) (some 5)) (some 5)))) (some 4))
theorem q1a6:E14 q1a8 q1a7:=λh=>fT (es:=q1h8) (hs:=[]) [] Tryz.func34 trivial trivial h
def q1a5:=entZ 34 [] q1a3 q1a4
def q1h7:=q1a5::q1h8
def qbq:EC (List S38) where
 enc x:=[.sl (qbr.encL x)]
 dec c:=qbr.decL (slOf (c.getD 0 .ne))
 is c:=isE [.sl] 0 c&&qbr.isL (slOf (c.getD 0 .ne))
 enc_dec h:=by
  simp only [x6q] at h;have h0:=qat h.1
  simp only [decE,decC] at h0;simp only [EC.encL_decL _ h.2];exact h0
 dec_enc x:=by simp [slOf]
 is_enc x:=by simp [isE,isK,slOf]
theorem enc_36 (x:List S38):qbq.enc x=[.sl (qbr.encL x)]:=rfl
theorem q4n (xs:List (List S38)) (n:Nat):slOf (((qbq.encL xs).getD n []).getD 0 .ne)=qbr.encL (xs.getD n (qbq.dec [])):=by
 by_cases h:n<xs.length
 ·simp only [EC.getD_lt _ _ h];simp [enc_36,h,slOf]
 ·simp only [EC.getD_ge _ _ (y7q.1 h)];simp [y7q.1 h,qbq,slOf,EC.decL,EC.encL]
def q12x:=(qqt (vC (cSl qbr)))
abbrev z2n:=(qvh (bBox (qqt (vFn 33 (qqr (vPtr 0 0) (qqt (vPtr 1 0)))))))
def q12v:=sLS [0,1,2,3] (qqr (vC (cSl qbr)) (qqr z2l (qqr (vPtr 0 0) (qqt (vPtr 1 0))))) (qqr (qvh (bBox (qqt z2l))) (qqt z2n)) [false,false] [0,1] (by decide) (λ_=>rfl)
def q12u:SC ((Int×Int)×Int×Unit×Unit):=sLS [0] (qqt (vAgg (qqr (vC (cInt .i64)) (qqt (vC (cInt .i64)))))) (qqr (qvh (bBox (qqt (vC (cInt .i64))))) (qqt (qvh (bBox (qqt (vFn 33 (qqr (vPtr 0 0) (qqt (vPtr 1 0))))))))) [false,false] [0,1] (by decide) (λ_=>rfl)
def q12t:HC ((Int×Int)×(Int×Int)×Int×Unit×Unit):=hPair (vAgg (qqr (vC (cInt .i64)) (qqt (vC (cInt .i64))))) q12u
def q12a (l:L38) (depth b0:Int):=hS Tryz.prog lv X0 33 q12v q12t ((l,depth,(),()),b0,(),())
def q12b:=hentZ 33 [0,1,4,1,1,1,2,3,0,0,3,3,1,0,1,1,1,1,1,1,6,33,2,3,0,0,3,1,0,0,1] q12v q12t
def qob:=q12b::[]
abbrev z2t:=(qqr (qvh (bBox (qqt z2l))) (qqr z2n (qqr (qvh (bBox z2p)) (qqt (qvh (bRow qbq))))))
def q12j:=sLS [1,2,3,6,13,14,15,36,37,38] (qqr z2l (qqr (vPtr 0 0) (qqr (vPtr 1 0) (qqr (vPtr 2 0) (qqr (vC (cSl qbr)) (qqr z2l (qqr z2l (qqr (vRow 3) z2p)))))))) z2t [false,false,false,false] [0,1] (by decide) (λ_=>rfl)
def q12i:=sLS [1,2,3,6,13,14,15,36,37,38,39] (qqr z2l (qqr (vPtr 0 0) (qqr (vPtr 1 0) (qqr (vPtr 2 0) (qqr (vC (cSl qbr)) (qqr z2l (qqr z2l (qqr (vRow 3) z2s)))))))) z2t [false,false,false,false] [0,1] (by decide) (λ_=>rfl)
abbrev z2r:=(qqr (qvh (bBox z2p)) (qqr (qvh (bBox (qqt z2l))) (qqt (qvh (bBox (qqt (vFn 33 (qqr (vPtr 1 0) (qqt (vPtr 2 0))))))))))
def q12h:=sLS [6] (qqt (vPtr 0 0)) z2r [false,false,false] [1,2] (by decide) (λ_=>rfl)
def q12g:=oOr 1 q12h (oAt 4 q12i) (λx=>(by decide:(4:Nat)≠1))
def q12d (depth:Int) (t13:L38) (t14 t15:Int) (t36:Nat) (t37 t38:Int) (b0 b2 b2_1:Int) (b3:List L38):=lS Tryz.prog lv X0 33 53 (qm6 (cdF Tryz.f33) 11) q12j q12g ((depth,(),(),(),t13,t14,t15,t36,t37,t38),b0,((),()),(b2,b2_1),b3)
def q12k (depth:Int) (t13:L38) (t14 t15:Int) (t36:Nat) (t37 t38:Int) (b0 b2 b2_1:Int) (b3:List L38):Oq ((Unit×(Int×Int)×Int×Unit×Unit)⊕((Int×Unit×Unit×Unit×L38×Int×Int×Nat×Int×Int×Bool)×Int×(Unit×Unit)×(Int×Int)×List L38)) :=brE (decide (t38<t37)) (gdE (p0 t38&&decide (t38<((t36:Nat):Int)))<|gdE (decide (Int.toNat t38<lN qbq b3)&&(List.length (List.getD (EC.encL qbq b3) (Int.toNat t38) [])==1))<|gdE (isP [K1.sl] 0 (List.getD (EC.encL qbq b3) (Int.toNat t38) []))<|gdE (EC.isL qbr (slOf (List.getD (List.getD (EC.encL qbq b3) (Int.toNat t38) []) 0 C.ne)))<|(q12a (uL qbr (List.getD (List.getD (EC.encL qbq b3) (Int.toNat t38) []) 0 C.ne)) (wI depth) b0).bind λr0=>(q69 r0.1.1 r0.1.2).bind λr1=>brE r1 (some (.inl ((),r0.1,r0.2.2.1,(),()))) (gL qbr t13<|gL qbq b3<|q12d depth (dL qbr t13) t14 t15 t36 t37 (wI t38) r0.2.2.1 b2 b2_1 (dL qbq b3))) (gL qbr t13<|gL qbq b3<|some (.inr ((depth,(),(),(),dL qbr t13,t14,t15,t36,t37,t38,false),b0,((),()),(b2,b2_1),dL qbq b3)))
theorem q12f:E11 q12k q12d:=λh=>lT (es:=q1h7) (hs:=qob) [] trivial trivial h
def q12e:=lentZ 33 53 11 (qm6 (cdF Tryz.f33) 11) q12j q12g
abbrev z2u:=(qqr (qvh (bBox (qqt z2l))) (qqr z2n (qqt (qvh (bBox z2p)))))
def q12r:=sLS [1,2,3,6,13,14,15] (qqr z2l (qqr (vPtr 0 0) (qqr (vPtr 1 0) (qqr (vPtr 2 0) (qqr (vC (cSl qbr)) z2p))))) z2u [false,false,false] [0,1] (by decide) (λ_=>rfl)
def q12q:=sLS [1,2,3,6,13,14,15,16] (qqr z2l (qqr (vPtr 0 0) (qqr (vPtr 1 0) (qqr (vPtr 2 0) (qqr (vC (cSl qbr)) z2s))))) z2u [false,false,false] [0,1] (by decide) (λ_=>rfl)
def q12p:=sLS [6] (qqt (vPtr 0 0)) z2r [false,false,false] [1,2] (by decide) (λ_=>rfl)
def q12o:=oOr 1 q12p (oAt 2 q12q) (λx=>(by decide:(2:Nat)≠1))
def q12l (depth:Int) (t13:L38) (t14 t15:Int) (b0 b2 b2_1:Int):=lS Tryz.prog lv X0 33 53 (qm6 (cdF Tryz.f33) 2) q12r q12o ((depth,(),(),(),t13,t14,t15),b0,((),()),b2,b2_1)
abbrev zq (t13:L38) (t15:Int):=(List.getD (EC.encL qbr t13) (Int.toNat t15) [])
def q12s (depth:Int) (t13:L38) (t14 t15:Int) (b0 b2 b2_1:Int):Oq ((Unit×(Int×Int)×Int×Unit×Unit)⊕((Int×Unit×Unit×Unit×L38×Int×Int×Bool)×Int×(Unit×Unit)×Int×Int)) :=brE (decide (t15<t14)) (gdE (p0 t15)<|gdE (eC qbr t13 t15 [K1.int IntKind.i64,K1.int IntKind.i64,K1.sl,K1.str,K1.int IntKind.i64,K1.str,K1.int IntKind.i64,K1.sl,K1.sl,K1.int IntKind.i64,K1.str,K1.str,K1.int IntKind.i64])<|brE (b0==100) ((q6f 2 (-1)).bind λr0=>some (.inl ((),r0,b0,(),()))) (gdE (EC.isL qbp (slOf (List.getD (zq t13 t15) 2 C.ne)))<|gdE (EC.isL qbr (slOf (List.getD (zq t13 t15) 7 C.ne)))<|gdE (EC.isL qbr (slOf (List.getD (zq t13 t15) 8 C.ne)))<|(q1a7 (qph (List.getD (zq t13 t15) 0 C.ne)) (qph (List.getD (zq t13 t15) 1 C.ne)) (uL qbp (List.getD (zq t13 t15) 2 C.ne)) (q1e1 (List.getD (zq t13 t15) 3 C.ne)) (qph (List.getD (zq t13 t15) 4 C.ne)) (q1e1 (List.getD (zq t13 t15) 5 C.ne)) (qph (List.getD (zq t13 t15) 6 C.ne)) (uL qbr (List.getD (zq t13 t15) 7 C.ne)) (uL qbr (List.getD (zq t13 t15) 8 C.ne)) (qph (List.getD (zq t13 t15) 9 C.ne)) (q1e1 (List.getD (zq t13 t15) 10 C.ne)) (q1e1 (List.getD (zq t13 t15) 11 C.ne)) (qph (List.getD (zq t13 t15) 12 C.ne)) depth).bind λr0=>brE (r0 != 0) ((q6f r0 b0).bind λr1=>some (.inl ((),r1,b0,(),()))) (gL qbr t13<|gdE (EC.isL qbq [[C.sl (slOf (List.getD (zq t13 t15) 7 C.ne))],[C.sl (slOf (List.getD (zq t13 t15) 8 C.ne))]])<|Option.bind (q12d depth (dL qbr t13) t14 t15 2 ((2:Nat):Int) 0 (wI b0) b2 b2_1 (EC.decL qbq [[C.sl (slOf (List.getD (zq t13 t15) 7 C.ne))],[C.sl (slOf (List.getD (zq t13 t15) 8 C.ne))]])) λr1=>Sum.elim (λr2=>some (.inl ((),r2.2.1,r2.2.2.1,(),()))) (λr2=>gdE (EC.isL qbr (EC.encL qbr r2.1.2.2.2.2.1))<|q12l r2.1.1 (dL qbr r2.1.2.2.2.2.1) r2.1.2.2.2.2.2.1 (wI r2.1.2.2.2.2.2.2.1) r2.2.1 r2.2.2.2.1.1 r2.2.2.2.1.2) r1))) (gL qbr t13<|some (.inr ((depth,(),(),(),dL qbr t13,t14,t15,false),b0,((),()),b2,b2_1)))
theorem q12n:E7 q12s q12l:=λh=>lT (es:=q1h7) (hs:=qob) [q12e] ⟨⟨_,rfl,rfl⟩,trivial⟩ trivial h
def q12m:=lentZ 33 53 2 (qm6 (cdF Tryz.f33) 2) q12r q12o
def q12w (l:L38) (depth b0:Int):Oq ((Int×Int)×(Int×Int)×Int×Unit×Unit) :=gL qbr l<|(q12l depth (dL qbr l) (lN qbr l:Int) 0 b0 0 0).bind λr0=>Sum.elim (λr1=>some (r1.2.1,r1.2.1,r1.2.2.1,(),())) (λr1=>Option.bind q7g λr2=>some (r2,r2,r1.2.1,(),())) r0
theorem q12c:E3 q12w q12a:=λh=>hT (fn:=Tryz.f33) (es:=q1h7) (hs:=qob) [q12m] ⟨⟨_,rfl,rfl⟩,trivial⟩ trivial h
def q12y:Cod (V×List B) (Int×Int):=(cFstU (cPair (vAgg z2p) qqs))
def q131 (s:L38):=fS Tryz.prog lv X0 15 q12x q12y s
def q132 (s:L38):Oq (Int×Int) :=gL qbr s<|(q12a (dL qbr s) 1 0).bind λr0=>some r0.1
theorem q130 {s r} (h:q132 s=some r):q131 s=some r :=
 fT (es:=q1h7) (hs:=qob) [] Tryz.func15 trivial trivial h
def q12z:=entZ 15 [] q12x q12y
def q1gv:=q12z::q1h7
end
end Go.Proofs.YtmlcmoaonaomfaaGreatDoor
