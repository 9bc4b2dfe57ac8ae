/- Functions of the program as plain functions: made by program from the machine. -/
import Derived.Test.YtmlcmoaonaomfaaGreatDoorH1
namespace Go.Proofs.YtmlcmoaonaomfaaGreatDoor
set_option linter.unusedSimpArgs false
open Go.RowKit
set_option maxRecDepth 100000
noncomputable section
structure S35 where
 Kind:Int
 Tests:(List S35)
 Name:BA
 Pattern:Int
 Text:BA
 N:Int
abbrev L35:=List S35
mutual
def en35:S35->List C
 |⟨a0,a1,a2,a3,a4,a5⟩=>[.int .i64 a0,.sl (en35L a1),.str a2,.int .i64 a3,.str a4,.int .i64 a5]
def en35L:List S35->List (List C)
 |[]=>[]
 |x::xs=>en35 x::en35L xs
end
theorem qd6:∀ xs,en35L xs=xs.map en35
 |[]=>rfl
 |x::xs=>by rw [en35L,qd6 xs];rfl
mutual
theorem qd7:∀ {x y:S35},en35 x=en35 y->x=y
 |⟨a0,a1,a2,a3,a4,a5⟩,⟨b0,b1,b2,b3,b4,b5⟩,h=>by
  simp only [en35,List.cons.injEq,C.int.injEq,C.bool.injEq,C.sl.injEq,C.str.injEq,true_and,and_true] at h
  obtain ⟨h0,h1,h2,h3,h4,h5⟩:=h
  have h1:=qd5 h1
  subst h0 h1 h2 h3 h4 h5
  rfl
theorem qd5:∀ {xs ys:List S35},en35L xs=en35L ys->xs=ys
 |[],[],_=>rfl
 |[],_::_,h=>by simp [en35L] at h
 |_::_,[],h=>by simp [en35L] at h
 |x::xs,y::ys,h=>by
  simp only [en35L,List.cons.injEq] at h
  rw [qd7 h.1,qd5 h.2]
end
open Classical in
def qcu:EC S35 where
 enc:=en35
 dec c:=if h:∃ x,en35 x=c then h.choose else ⟨qo4 .ne,([]:(List S35)),q18t .ne,qo4 .ne,q18t .ne,qo4 .ne⟩
 is c:=decide (∃ x,en35 x=c)
 enc_dec {c} h:=by
  have h2:∃ x,en35 x=c:=by simpa using h
  rw [dif_pos h2]
  exact h2.choose_spec
 dec_enc x:=by
  have h2:∃ y,en35 y=en35 x:=⟨x,rfl⟩
  rw [dif_pos h2]
  exact qd7 h2.choose_spec
 is_enc x:=by simp
theorem qdb (x:S35):qcu.enc x=[.int .i64 x.Kind,.sl (qcu.encL x.Tests),.str x.Name,.int .i64 x.Pattern,.str x.Text,.int .i64 x.N]:=by
 cases x
 show en35 _=_
 simp only [en35,qd6]
 rfl
theorem qca:qcu.dec []=(⟨qo4 .ne,([]:(List S35)),q18t .ne,qo4 .ne,q18t .ne,qo4 .ne⟩:S35):=by
 refine dif_neg ?_
 rintro ⟨⟨a0,a1,a2,a3,a4,a5⟩,h⟩
 simp [en35] at h
theorem qoh (xs:List S35) (n:Nat):isE [.int .i64,.sl,.str,.int .i64,.str,.int .i64] 0 ((qcu.encL xs).getD n [])=decide (n<xs.length):=by
 by_cases h:n<xs.length
 ·simp only [EC.getD_lt _ _ h];simp [qdb,isE,isK,h]
 ·simp only [EC.getD_ge _ _ (Nat.not_lt.1 h)];simp [isE,isK,h]
theorem q4c (xs:List S35) (n:Nat):qo4 (((qcu.encL xs).getD n []).getD 0 .ne)=(xs.getD n (qcu.dec [])).Kind:=by
 by_cases h:n<xs.length
 ·simp only [EC.getD_lt _ _ h];simp [qdb,h,q18t,qo4,q84,slOf,List.getD_eq_getElem?_getD]
 ·simp only [EC.getD_ge _ _ (Nat.not_lt.1 h)];simp [Nat.not_lt.1 h,qca,q18t,qo4,q84,slOf,List.getD_eq_getElem?_getD,EC.decL,EC.encL]
theorem q4d (xs:List S35) (n:Nat):slOf (((qcu.encL xs).getD n []).getD 1 .ne)=qcu.encL (xs.getD n (qcu.dec [])).Tests:=by
 by_cases h:n<xs.length
 ·simp only [EC.getD_lt _ _ h];simp [qdb,h,q18t,qo4,q84,slOf,List.getD_eq_getElem?_getD]
 ·simp only [EC.getD_ge _ _ (Nat.not_lt.1 h)];simp [Nat.not_lt.1 h,qca,q18t,qo4,q84,slOf,List.getD_eq_getElem?_getD,EC.decL,EC.encL]
theorem q4e (xs:List S35) (n:Nat):q18t (((qcu.encL xs).getD n []).getD 2 .ne)=(xs.getD n (qcu.dec [])).Name:=by
 by_cases h:n<xs.length
 ·simp only [EC.getD_lt _ _ h];simp [qdb,h,q18t,qo4,q84,slOf,List.getD_eq_getElem?_getD]
 ·simp only [EC.getD_ge _ _ (Nat.not_lt.1 h)];simp [Nat.not_lt.1 h,qca,q18t,qo4,q84,slOf,List.getD_eq_getElem?_getD,EC.decL,EC.encL]
theorem q4f (xs:List S35) (n:Nat):qo4 (((qcu.encL xs).getD n []).getD 3 .ne)=(xs.getD n (qcu.dec [])).Pattern:=by
 by_cases h:n<xs.length
 ·simp only [EC.getD_lt _ _ h];simp [qdb,h,q18t,qo4,q84,slOf,List.getD_eq_getElem?_getD]
 ·simp only [EC.getD_ge _ _ (Nat.not_lt.1 h)];simp [Nat.not_lt.1 h,qca,q18t,qo4,q84,slOf,List.getD_eq_getElem?_getD,EC.decL,EC.encL]
theorem q4g (xs:List S35) (n:Nat):q18t (((qcu.encL xs).getD n []).getD 4 .ne)=(xs.getD n (qcu.dec [])).Text:=by
 by_cases h:n<xs.length
 ·simp only [EC.getD_lt _ _ h];simp [qdb,h,q18t,qo4,q84,slOf,List.getD_eq_getElem?_getD]
 ·simp only [EC.getD_ge _ _ (Nat.not_lt.1 h)];simp [Nat.not_lt.1 h,qca,q18t,qo4,q84,slOf,List.getD_eq_getElem?_getD,EC.decL,EC.encL]
theorem q4h (xs:List S35) (n:Nat):qo4 (((qcu.encL xs).getD n []).getD 5 .ne)=(xs.getD n (qcu.dec [])).N:=by
 by_cases h:n<xs.length
 ·simp only [EC.getD_lt _ _ h];simp [qdb,h,q18t,qo4,q84,slOf,List.getD_eq_getElem?_getD]
 ·simp only [EC.getD_ge _ _ (Nat.not_lt.1 h)];simp [Nat.not_lt.1 h,qca,q18t,qo4,q84,slOf,List.getD_eq_getElem?_getD,EC.decL,EC.encL]
theorem lit_35 (a0:Int) (a1:(List S35)) (a2:BA) (a3:Int) (a4:BA) (a5:Int):([.int .i64 a0,.sl (qcu.encL a1),.str a2,.int .i64 a3,.str a4,.int .i64 a5]:List C)=qcu.enc (⟨a0,a1,a2,a3,a4,a5⟩:S35):=(qdb (⟨a0,a1,a2,a3,a4,a5⟩:S35)).symm
theorem q3z (xs:List S35) (a0:Int) (a1:(List S35)) (a2:BA) (a3:Int) (a4:BA) (a5:Int):qcu.encL xs++[[.int .i64 a0,.sl (qcu.encL a1),.str a2,.int .i64 a3,.str a4,.int .i64 a5]]=qcu.encL (xs++[(⟨a0,a1,a2,a3,a4,a5⟩:S35)]):=by rw [lit_35];simp [EC.encL]
theorem q3g (xs:List S35):(qcu.encL xs).all (λ(el:List C)=>el.length==6)=true:=by induction xs with|nil=>rfl|cons x xs ih=>first|(simp [EC.encL,qdb];done)|simpa [EC.encL,qdb] using ih
theorem q15h (xs:List S35) (n:Nat) (a0:Int) (a1:(List S35)) (a2:BA) (a3:Int) (a4:BA) (a5:Int):(qcu.encL xs).set n (splice ((qcu.encL xs).getD n []) 0 [.int .i64 a0,.sl (qcu.encL a1),.str a2,.int .i64 a3,.str a4,.int .i64 a5])=qcu.encL (xs.set n ({ xs.getD n (qcu.dec []) with Kind:=a0,Tests:=a1,Name:=a2,Pattern:=a3,Text:=a4,N:=a5 })):=by
 by_cases h:n<xs.length
 ·rw [EC.getD_lt _ _ h];simp [EC.encL,List.map_set,qdb,splice,List.getD_eq_getElem?_getD,h]
 ·simp [EC.encL,List.set_eq_of_length_le,Nat.not_lt.1 h]
theorem q15g (xs:List S35) (n:Nat) (a0:Int):(qcu.encL xs).set n (splice ((qcu.encL xs).getD n []) 0 [.int .i64 a0])=qcu.encL (xs.set n ({ xs.getD n (qcu.dec []) with Kind:=a0 })):=by
 by_cases h:n<xs.length
 ·rw [EC.getD_lt _ _ h];simp [EC.encL,List.map_set,qdb,splice,List.getD_eq_getElem?_getD,h]
 ·simp [EC.encL,List.set_eq_of_length_le,Nat.not_lt.1 h]
theorem q15i (xs:List S35) (n:Nat) (a1:(List S35)):(qcu.encL xs).set n (splice ((qcu.encL xs).getD n []) 1 [.sl (qcu.encL a1)])=qcu.encL (xs.set n ({ xs.getD n (qcu.dec []) with Tests:=a1 })):=by
 by_cases h:n<xs.length
 ·rw [EC.getD_lt _ _ h];simp [EC.encL,List.map_set,qdb,splice,List.getD_eq_getElem?_getD,h]
 ·simp [EC.encL,List.set_eq_of_length_le,Nat.not_lt.1 h]
theorem q15j (xs:List S35) (n:Nat) (a2:BA):(qcu.encL xs).set n (splice ((qcu.encL xs).getD n []) 2 [.str a2])=qcu.encL (xs.set n ({ xs.getD n (qcu.dec []) with Name:=a2 })):=by
 by_cases h:n<xs.length
 ·rw [EC.getD_lt _ _ h];simp [EC.encL,List.map_set,qdb,splice,List.getD_eq_getElem?_getD,h]
 ·simp [EC.encL,List.set_eq_of_length_le,Nat.not_lt.1 h]
theorem q15k (xs:List S35) (n:Nat) (a3:Int):(qcu.encL xs).set n (splice ((qcu.encL xs).getD n []) 3 [.int .i64 a3])=qcu.encL (xs.set n ({ xs.getD n (qcu.dec []) with Pattern:=a3 })):=by
 by_cases h:n<xs.length
 ·rw [EC.getD_lt _ _ h];simp [EC.encL,List.map_set,qdb,splice,List.getD_eq_getElem?_getD,h]
 ·simp [EC.encL,List.set_eq_of_length_le,Nat.not_lt.1 h]
theorem q15l (xs:List S35) (n:Nat) (a4:BA):(qcu.encL xs).set n (splice ((qcu.encL xs).getD n []) 4 [.str a4])=qcu.encL (xs.set n ({ xs.getD n (qcu.dec []) with Text:=a4 })):=by
 by_cases h:n<xs.length
 ·rw [EC.getD_lt _ _ h];simp [EC.encL,List.map_set,qdb,splice,List.getD_eq_getElem?_getD,h]
 ·simp [EC.encL,List.set_eq_of_length_le,Nat.not_lt.1 h]
theorem q15m (xs:List S35) (n:Nat) (a5:Int):(qcu.encL xs).set n (splice ((qcu.encL xs).getD n []) 5 [.int .i64 a5])=qcu.encL (xs.set n ({ xs.getD n (qcu.dec []) with N:=a5 })):=by
 by_cases h:n<xs.length
 ·rw [EC.getD_lt _ _ h];simp [EC.encL,List.map_set,qdb,splice,List.getD_eq_getElem?_getD,h]
 ·simp [EC.encL,List.set_eq_of_length_le,Nat.not_lt.1 h]
structure S38 where
 Kind:Int
 Test_Kind:Int
 Test_Tests:(List S35)
 Test_Name:BA
 Test_Pattern:Int
 Test_Text:BA
 Test_N:Int
 Then:(List S38)
 Else:(List S38)
 Act:Int
 Name:BA
 Text:BA
 N:Int
abbrev L38:=List S38
mutual
def en38:S38->List C
 |⟨a0,a1,a2,a3,a4,a5,a6,a7,a8,a9,a10,a11,a12⟩=>[.int .i64 a0,.int .i64 a1,.sl (qcu.encL a2),.str a3,.int .i64 a4,.str a5,.int .i64 a6,.sl (en38L a7),.sl (en38L a8),.int .i64 a9,.str a10,.str a11,.int .i64 a12]
def en38L:List S38->List (List C)
 |[]=>[]
 |x::xs=>en38 x::en38L xs
end
theorem qd9:∀ xs,en38L xs=xs.map en38
 |[]=>rfl
 |x::xs=>by rw [en38L,qd9 xs];rfl
mutual
theorem qda:∀ {x y:S38},en38 x=en38 y->x=y
 |⟨a0,a1,a2,a3,a4,a5,a6,a7,a8,a9,a10,a11,a12⟩,⟨b0,b1,b2,b3,b4,b5,b6,b7,b8,b9,b10,b11,b12⟩,h=>by
  simp only [en38,List.cons.injEq,C.int.injEq,C.bool.injEq,C.sl.injEq,C.str.injEq,true_and,and_true] at h
  obtain ⟨h0,h1,h2,h3,h4,h5,h6,h7,h8,h9,h10,h11,h12⟩:=h
  have h2:a2=b2:=by have q:=congrArg qcu.decL h2;simpa only [EC.decL_encL] using q
  have h7:=qd8 h7
  have h8:=qd8 h8
  subst h0 h1 h2 h3 h4 h5 h6 h7 h8 h9 h10 h11 h12
  rfl
theorem qd8:∀ {xs ys:List S38},en38L xs=en38L ys->xs=ys
 |[],[],_=>rfl
 |[],_::_,h=>by simp [en38L] at h
 |_::_,[],h=>by simp [en38L] at h
 |x::xs,y::ys,h=>by
  simp only [en38L,List.cons.injEq] at h
  rw [qda h.1,qd8 h.2]
end
open Classical in
def qcw:EC S38 where
 enc:=en38
 dec c:=if h:∃ x,en38 x=c then h.choose else ⟨qo4 .ne,qo4 .ne,([]:(List S35)),q18t .ne,qo4 .ne,q18t .ne,qo4 .ne,([]:(List S38)),([]:(List S38)),qo4 .ne,q18t .ne,q18t .ne,qo4 .ne⟩
 is c:=decide (∃ x,en38 x=c)
 enc_dec {c} h:=by
  have h2:∃ x,en38 x=c:=by simpa using h
  rw [dif_pos h2]
  exact h2.choose_spec
 dec_enc x:=by
  have h2:∃ y,en38 y=en38 x:=⟨x,rfl⟩
  rw [dif_pos h2]
  exact qda h2.choose_spec
 is_enc x:=by simp
theorem qdc (x:S38):qcw.enc x=[.int .i64 x.Kind,.int .i64 x.Test_Kind,.sl (qcu.encL x.Test_Tests),.str x.Test_Name,.int .i64 x.Test_Pattern,.str x.Test_Text,.int .i64 x.Test_N,.sl (qcw.encL x.Then),.sl (qcw.encL x.Else),.int .i64 x.Act,.str x.Name,.str x.Text,.int .i64 x.N]:=by
 cases x
 show en38 _=_
 simp only [en38,qd9]
 rfl
theorem qcb:qcw.dec []=(⟨qo4 .ne,qo4 .ne,([]:(List S35)),q18t .ne,qo4 .ne,q18t .ne,qo4 .ne,([]:(List S38)),([]:(List S38)),qo4 .ne,q18t .ne,q18t .ne,qo4 .ne⟩:S38):=by
 refine dif_neg ?_
 rintro ⟨⟨a0,a1,a2,a3,a4,a5,a6,a7,a8,a9,a10,a11,a12⟩,h⟩
 simp [en38] at h
theorem qoj (xs:List S38) (n:Nat):isE [.int .i64,.int .i64,.sl,.str,.int .i64,.str,.int .i64,.sl,.sl,.int .i64,.str,.str,.int .i64] 0 ((qcw.encL xs).getD n [])=decide (n<xs.length):=by
 by_cases h:n<xs.length
 ·simp only [EC.getD_lt _ _ h];simp [qdc,isE,isK,h]
 ·simp only [EC.getD_ge _ _ (Nat.not_lt.1 h)];simp [isE,isK,h]
theorem q4j (xs:List S38) (n:Nat):qo4 (((qcw.encL xs).getD n []).getD 0 .ne)=(xs.getD n (qcw.dec [])).Kind:=by
 by_cases h:n<xs.length
 ·simp only [EC.getD_lt _ _ h];simp [qdc,h,q18t,qo4,q84,slOf,List.getD_eq_getElem?_getD]
 ·simp only [EC.getD_ge _ _ (Nat.not_lt.1 h)];simp [Nat.not_lt.1 h,qcb,q18t,qo4,q84,slOf,List.getD_eq_getElem?_getD,EC.decL,EC.encL]
theorem q4k (xs:List S38) (n:Nat):qo4 (((qcw.encL xs).getD n []).getD 1 .ne)=(xs.getD n (qcw.dec [])).Test_Kind:=by
 by_cases h:n<xs.length
 ·simp only [EC.getD_lt _ _ h];simp [qdc,h,q18t,qo4,q84,slOf,List.getD_eq_getElem?_getD]
 ·simp only [EC.getD_ge _ _ (Nat.not_lt.1 h)];simp [Nat.not_lt.1 h,qcb,q18t,qo4,q84,slOf,List.getD_eq_getElem?_getD,EC.decL,EC.encL]
theorem q4o (xs:List S38) (n:Nat):slOf (((qcw.encL xs).getD n []).getD 2 .ne)=qcu.encL (xs.getD n (qcw.dec [])).Test_Tests:=by
 by_cases h:n<xs.length
 ·simp only [EC.getD_lt _ _ h];simp [qdc,h,q18t,qo4,q84,slOf,List.getD_eq_getElem?_getD]
 ·simp only [EC.getD_ge _ _ (Nat.not_lt.1 h)];simp [Nat.not_lt.1 h,qcb,q18t,qo4,q84,slOf,List.getD_eq_getElem?_getD,EC.decL,EC.encL]
theorem q4p (xs:List S38) (n:Nat):q18t (((qcw.encL xs).getD n []).getD 3 .ne)=(xs.getD n (qcw.dec [])).Test_Name:=by
 by_cases h:n<xs.length
 ·simp only [EC.getD_lt _ _ h];simp [qdc,h,q18t,qo4,q84,slOf,List.getD_eq_getElem?_getD]
 ·simp only [EC.getD_ge _ _ (Nat.not_lt.1 h)];simp [Nat.not_lt.1 h,qcb,q18t,qo4,q84,slOf,List.getD_eq_getElem?_getD,EC.decL,EC.encL]
theorem q4q (xs:List S38) (n:Nat):qo4 (((qcw.encL xs).getD n []).getD 4 .ne)=(xs.getD n (qcw.dec [])).Test_Pattern:=by
 by_cases h:n<xs.length
 ·simp only [EC.getD_lt _ _ h];simp [qdc,h,q18t,qo4,q84,slOf,List.getD_eq_getElem?_getD]
 ·simp only [EC.getD_ge _ _ (Nat.not_lt.1 h)];simp [Nat.not_lt.1 h,qcb,q18t,qo4,q84,slOf,List.getD_eq_getElem?_getD,EC.decL,EC.encL]
theorem q4r (xs:List S38) (n:Nat):q18t (((qcw.encL xs).getD n []).getD 5 .ne)=(xs.getD n (qcw.dec [])).Test_Text:=by
 by_cases h:n<xs.length
 ·simp only [EC.getD_lt _ _ h];simp [qdc,h,q18t,qo4,q84,slOf,List.getD_eq_getElem?_getD]
 ·simp only [EC.getD_ge _ _ (Nat.not_lt.1 h)];simp [Nat.not_lt.1 h,qcb,q18t,qo4,q84,slOf,List.getD_eq_getElem?_getD,EC.decL,EC.encL]
theorem q4s (xs:List S38) (n:Nat):qo4 (((qcw.encL xs).getD n []).getD 6 .ne)=(xs.getD n (qcw.dec [])).Test_N:=by
 by_cases h:n<xs.length
 ·simp only [EC.getD_lt _ _ h];simp [qdc,h,q18t,qo4,q84,slOf,List.getD_eq_getElem?_getD]
 ·simp only [EC.getD_ge _ _ (Nat.not_lt.1 h)];simp [Nat.not_lt.1 h,qcb,q18t,qo4,q84,slOf,List.getD_eq_getElem?_getD,EC.decL,EC.encL]
theorem q4t (xs:List S38) (n:Nat):slOf (((qcw.encL xs).getD n []).getD 7 .ne)=qcw.encL (xs.getD n (qcw.dec [])).Then:=by
 by_cases h:n<xs.length
 ·simp only [EC.getD_lt _ _ h];simp [qdc,h,q18t,qo4,q84,slOf,List.getD_eq_getElem?_getD]
 ·simp only [EC.getD_ge _ _ (Nat.not_lt.1 h)];simp [Nat.not_lt.1 h,qcb,q18t,qo4,q84,slOf,List.getD_eq_getElem?_getD,EC.decL,EC.encL]
theorem q4u (xs:List S38) (n:Nat):slOf (((qcw.encL xs).getD n []).getD 8 .ne)=qcw.encL (xs.getD n (qcw.dec [])).Else:=by
 by_cases h:n<xs.length
 ·simp only [EC.getD_lt _ _ h];simp [qdc,h,q18t,qo4,q84,slOf,List.getD_eq_getElem?_getD]
 ·simp only [EC.getD_ge _ _ (Nat.not_lt.1 h)];simp [Nat.not_lt.1 h,qcb,q18t,qo4,q84,slOf,List.getD_eq_getElem?_getD,EC.decL,EC.encL]
theorem q4v (xs:List S38) (n:Nat):qo4 (((qcw.encL xs).getD n []).getD 9 .ne)=(xs.getD n (qcw.dec [])).Act:=by
 by_cases h:n<xs.length
 ·simp only [EC.getD_lt _ _ h];simp [qdc,h,q18t,qo4,q84,slOf,List.getD_eq_getElem?_getD]
 ·simp only [EC.getD_ge _ _ (Nat.not_lt.1 h)];simp [Nat.not_lt.1 h,qcb,q18t,qo4,q84,slOf,List.getD_eq_getElem?_getD,EC.decL,EC.encL]
theorem q4l (xs:List S38) (n:Nat):q18t (((qcw.encL xs).getD n []).getD 10 .ne)=(xs.getD n (qcw.dec [])).Name:=by
 by_cases h:n<xs.length
 ·simp only [EC.getD_lt _ _ h];simp [qdc,h,q18t,qo4,q84,slOf,List.getD_eq_getElem?_getD]
 ·simp only [EC.getD_ge _ _ (Nat.not_lt.1 h)];simp [Nat.not_lt.1 h,qcb,q18t,qo4,q84,slOf,List.getD_eq_getElem?_getD,EC.decL,EC.encL]
theorem q4m (xs:List S38) (n:Nat):q18t (((qcw.encL xs).getD n []).getD 11 .ne)=(xs.getD n (qcw.dec [])).Text:=by
 by_cases h:n<xs.length
 ·simp only [EC.getD_lt _ _ h];simp [qdc,h,q18t,qo4,q84,slOf,List.getD_eq_getElem?_getD]
 ·simp only [EC.getD_ge _ _ (Nat.not_lt.1 h)];simp [Nat.not_lt.1 h,qcb,q18t,qo4,q84,slOf,List.getD_eq_getElem?_getD,EC.decL,EC.encL]
theorem q4n (xs:List S38) (n:Nat):qo4 (((qcw.encL xs).getD n []).getD 12 .ne)=(xs.getD n (qcw.dec [])).N:=by
 by_cases h:n<xs.length
 ·simp only [EC.getD_lt _ _ h];simp [qdc,h,q18t,qo4,q84,slOf,List.getD_eq_getElem?_getD]
 ·simp only [EC.getD_ge _ _ (Nat.not_lt.1 h)];simp [Nat.not_lt.1 h,qcb,q18t,qo4,q84,slOf,List.getD_eq_getElem?_getD,EC.decL,EC.encL]
theorem lit_38 (a0:Int) (a1:Int) (a2:(List S35)) (a3:BA) (a4:Int) (a5:BA) (a6:Int) (a7:(List S38)) (a8:(List S38)) (a9:Int) (a10:BA) (a11:BA) (a12:Int):([.int .i64 a0,.int .i64 a1,.sl (qcu.encL a2),.str a3,.int .i64 a4,.str a5,.int .i64 a6,.sl (qcw.encL a7),.sl (qcw.encL a8),.int .i64 a9,.str a10,.str a11,.int .i64 a12]:List C)=qcw.enc (⟨a0,a1,a2,a3,a4,a5,a6,a7,a8,a9,a10,a11,a12⟩:S38):=(qdc (⟨a0,a1,a2,a3,a4,a5,a6,a7,a8,a9,a10,a11,a12⟩:S38)).symm
theorem q41 (xs:List S38) (a0:Int) (a1:Int) (a2:(List S35)) (a3:BA) (a4:Int) (a5:BA) (a6:Int) (a7:(List S38)) (a8:(List S38)) (a9:Int) (a10:BA) (a11:BA) (a12:Int):qcw.encL xs++[[.int .i64 a0,.int .i64 a1,.sl (qcu.encL a2),.str a3,.int .i64 a4,.str a5,.int .i64 a6,.sl (qcw.encL a7),.sl (qcw.encL a8),.int .i64 a9,.str a10,.str a11,.int .i64 a12]]=qcw.encL (xs++[(⟨a0,a1,a2,a3,a4,a5,a6,a7,a8,a9,a10,a11,a12⟩:S38)]):=by rw [lit_38];simp [EC.encL]
theorem q3i (xs:List S38):(qcw.encL xs).all (λ(el:List C)=>el.length==13)=true:=by induction xs with|nil=>rfl|cons x xs ih=>first|(simp [EC.encL,qdc];done)|simpa [EC.encL,qdc] using ih
theorem q15p (xs:List S38) (n:Nat) (a0:Int) (a1:Int) (a2:(List S35)) (a3:BA) (a4:Int) (a5:BA) (a6:Int) (a7:(List S38)) (a8:(List S38)) (a9:Int) (a10:BA) (a11:BA) (a12:Int):(qcw.encL xs).set n (splice ((qcw.encL xs).getD n []) 0 [.int .i64 a0,.int .i64 a1,.sl (qcu.encL a2),.str a3,.int .i64 a4,.str a5,.int .i64 a6,.sl (qcw.encL a7),.sl (qcw.encL a8),.int .i64 a9,.str a10,.str a11,.int .i64 a12])=qcw.encL (xs.set n ({ xs.getD n (qcw.dec []) with Kind:=a0,Test_Kind:=a1,Test_Tests:=a2,Test_Name:=a3,Test_Pattern:=a4,Test_Text:=a5,Test_N:=a6,Then:=a7,Else:=a8,Act:=a9,Name:=a10,Text:=a11,N:=a12 })):=by
 by_cases h:n<xs.length
 ·rw [EC.getD_lt _ _ h];simp [EC.encL,List.map_set,qdc,splice,List.getD_eq_getElem?_getD,h]
 ·simp [EC.encL,List.set_eq_of_length_le,Nat.not_lt.1 h]
theorem q15o (xs:List S38) (n:Nat) (a0:Int):(qcw.encL xs).set n (splice ((qcw.encL xs).getD n []) 0 [.int .i64 a0])=qcw.encL (xs.set n ({ xs.getD n (qcw.dec []) with Kind:=a0 })):=by
 by_cases h:n<xs.length
 ·rw [EC.getD_lt _ _ h];simp [EC.encL,List.map_set,qdc,splice,List.getD_eq_getElem?_getD,h]
 ·simp [EC.encL,List.set_eq_of_length_le,Nat.not_lt.1 h]
theorem q15u (xs:List S38) (n:Nat) (a1:Int) (a2:(List S35)) (a3:BA) (a4:Int) (a5:BA) (a6:Int):(qcw.encL xs).set n (splice ((qcw.encL xs).getD n []) 1 [.int .i64 a1,.sl (qcu.encL a2),.str a3,.int .i64 a4,.str a5,.int .i64 a6])=qcw.encL (xs.set n ({ xs.getD n (qcw.dec []) with Test_Kind:=a1,Test_Tests:=a2,Test_Name:=a3,Test_Pattern:=a4,Test_Text:=a5,Test_N:=a6 })):=by
 by_cases h:n<xs.length
 ·rw [EC.getD_lt _ _ h];simp [EC.encL,List.map_set,qdc,splice,List.getD_eq_getElem?_getD,h]
 ·simp [EC.encL,List.set_eq_of_length_le,Nat.not_lt.1 h]
theorem q15t (xs:List S38) (n:Nat) (a1:Int):(qcw.encL xs).set n (splice ((qcw.encL xs).getD n []) 1 [.int .i64 a1])=qcw.encL (xs.set n ({ xs.getD n (qcw.dec []) with Test_Kind:=a1 })):=by
 by_cases h:n<xs.length
 ·rw [EC.getD_lt _ _ h];simp [EC.encL,List.map_set,qdc,splice,List.getD_eq_getElem?_getD,h]
 ·simp [EC.encL,List.set_eq_of_length_le,Nat.not_lt.1 h]
theorem q15v (xs:List S38) (n:Nat) (a2:(List S35)):(qcw.encL xs).set n (splice ((qcw.encL xs).getD n []) 2 [.sl (qcu.encL a2)])=qcw.encL (xs.set n ({ xs.getD n (qcw.dec []) with Test_Tests:=a2 })):=by
 by_cases h:n<xs.length
 ·rw [EC.getD_lt _ _ h];simp [EC.encL,List.map_set,qdc,splice,List.getD_eq_getElem?_getD,h]
 ·simp [EC.encL,List.set_eq_of_length_le,Nat.not_lt.1 h]
theorem q15w (xs:List S38) (n:Nat) (a3:BA):(qcw.encL xs).set n (splice ((qcw.encL xs).getD n []) 3 [.str a3])=qcw.encL (xs.set n ({ xs.getD n (qcw.dec []) with Test_Name:=a3 })):=by
 by_cases h:n<xs.length
 ·rw [EC.getD_lt _ _ h];simp [EC.encL,List.map_set,qdc,splice,List.getD_eq_getElem?_getD,h]
 ·simp [EC.encL,List.set_eq_of_length_le,Nat.not_lt.1 h]
theorem q15x (xs:List S38) (n:Nat) (a4:Int):(qcw.encL xs).set n (splice ((qcw.encL xs).getD n []) 4 [.int .i64 a4])=qcw.encL (xs.set n ({ xs.getD n (qcw.dec []) with Test_Pattern:=a4 })):=by
 by_cases h:n<xs.length
 ·rw [EC.getD_lt _ _ h];simp [EC.encL,List.map_set,qdc,splice,List.getD_eq_getElem?_getD,h]
 ·simp [EC.encL,List.set_eq_of_length_le,Nat.not_lt.1 h]
theorem q15y (xs:List S38) (n:Nat) (a5:BA):(qcw.encL xs).set n (splice ((qcw.encL xs).getD n []) 5 [.str a5])=qcw.encL (xs.set n ({ xs.getD n (qcw.dec []) with Test_Text:=a5 })):=by
 by_cases h:n<xs.length
 ·rw [EC.getD_lt _ _ h];simp [EC.encL,List.map_set,qdc,splice,List.getD_eq_getElem?_getD,h]
 ·simp [EC.encL,List.set_eq_of_length_le,Nat.not_lt.1 h]
theorem q15z (xs:List S38) (n:Nat) (a6:Int):(qcw.encL xs).set n (splice ((qcw.encL xs).getD n []) 6 [.int .i64 a6])=qcw.encL (xs.set n ({ xs.getD n (qcw.dec []) with Test_N:=a6 })):=by
 by_cases h:n<xs.length
 ·rw [EC.getD_lt _ _ h];simp [EC.encL,List.map_set,qdc,splice,List.getD_eq_getElem?_getD,h]
 ·simp [EC.encL,List.set_eq_of_length_le,Nat.not_lt.1 h]
theorem q160 (xs:List S38) (n:Nat) (a7:(List S38)):(qcw.encL xs).set n (splice ((qcw.encL xs).getD n []) 7 [.sl (qcw.encL a7)])=qcw.encL (xs.set n ({ xs.getD n (qcw.dec []) with Then:=a7 })):=by
 by_cases h:n<xs.length
 ·rw [EC.getD_lt _ _ h];simp [EC.encL,List.map_set,qdc,splice,List.getD_eq_getElem?_getD,h]
 ·simp [EC.encL,List.set_eq_of_length_le,Nat.not_lt.1 h]
theorem q161 (xs:List S38) (n:Nat) (a8:(List S38)):(qcw.encL xs).set n (splice ((qcw.encL xs).getD n []) 8 [.sl (qcw.encL a8)])=qcw.encL (xs.set n ({ xs.getD n (qcw.dec []) with Else:=a8 })):=by
 by_cases h:n<xs.length
 ·rw [EC.getD_lt _ _ h];simp [EC.encL,List.map_set,qdc,splice,List.getD_eq_getElem?_getD,h]
 ·simp [EC.encL,List.set_eq_of_length_le,Nat.not_lt.1 h]
theorem q162 (xs:List S38) (n:Nat) (a9:Int):(qcw.encL xs).set n (splice ((qcw.encL xs).getD n []) 9 [.int .i64 a9])=qcw.encL (xs.set n ({ xs.getD n (qcw.dec []) with Act:=a9 })):=by
 by_cases h:n<xs.length
 ·rw [EC.getD_lt _ _ h];simp [EC.encL,List.map_set,qdc,splice,List.getD_eq_getElem?_getD,h]
 ·simp [EC.encL,List.set_eq_of_length_le,Nat.not_lt.1 h]
theorem q15q (xs:List S38) (n:Nat) (a10:BA):(qcw.encL xs).set n (splice ((qcw.encL xs).getD n []) 10 [.str a10])=qcw.encL (xs.set n ({ xs.getD n (qcw.dec []) with Name:=a10 })):=by
 by_cases h:n<xs.length
 ·rw [EC.getD_lt _ _ h];simp [EC.encL,List.map_set,qdc,splice,List.getD_eq_getElem?_getD,h]
 ·simp [EC.encL,List.set_eq_of_length_le,Nat.not_lt.1 h]
theorem q15r (xs:List S38) (n:Nat) (a11:BA):(qcw.encL xs).set n (splice ((qcw.encL xs).getD n []) 11 [.str a11])=qcw.encL (xs.set n ({ xs.getD n (qcw.dec []) with Text:=a11 })):=by
 by_cases h:n<xs.length
 ·rw [EC.getD_lt _ _ h];simp [EC.encL,List.map_set,qdc,splice,List.getD_eq_getElem?_getD,h]
 ·simp [EC.encL,List.set_eq_of_length_le,Nat.not_lt.1 h]
theorem q15s (xs:List S38) (n:Nat) (a12:Int):(qcw.encL xs).set n (splice ((qcw.encL xs).getD n []) 12 [.int .i64 a12])=qcw.encL (xs.set n ({ xs.getD n (qcw.dec []) with N:=a12 })):=by
 by_cases h:n<xs.length
 ·rw [EC.getD_lt _ _ h];simp [EC.encL,List.map_set,qdc,splice,List.getD_eq_getElem?_getD,h]
 ·simp [EC.encL,List.set_eq_of_length_le,Nat.not_lt.1 h]
def q13y:=(qpl (vC (cInt .i64)))
def q13z:Cod (V×List B) Bool:=(cFstU (cPair (vC cBool) qpk))
def q142 (act:Int):=fS Tryz.prog lv X0 66 q13y q13z act
def q143 (act:Int):Oq Bool :=
 (brE ((act==2)==false)
 (brE ((act==4)==false)
 (brE ((act==5)==false)
 (some (act==7))
 (some true))
 (some true))
 (some true))
theorem q141 {act r} (h:q143 act=some r):q142 act=some r :=
 qg7 (es:=q1b1) (hs:=[]) [] Tryz.func66 rfl (by kernel_rfl) rfl (by kernel_rfl) (by kernel_rfl) trivial trivial (by kernel_rfl) h
def q140:=entS Tryz.prog lv X0 66 [] q13y q13z (λx=>q142 x) (λ_ _ h=>qg5 h)
def q1ca:=q140::q1b1
def qcv:EC (List S38) where
 enc x:=[.sl (qcw.encL x)]
 dec c:=qcw.decL (slOf (c.getD 0 .ne))
 is c:=isE [.sl] 0 c&&qcw.isL (slOf (c.getD 0 .ne))
 enc_dec h:=by
  simp only [x6q] at h
  have h0:=qc4 h.1
  simp only [decE,decC] at h0
  simp only [EC.encL_decL _ h.2]
  exact h0
 dec_enc x:=by simp [q18t,qo4,q84,slOf]
 is_enc x:=by simp [isE,isK,slOf]
theorem enc_36 (x:(List S38)):qcv.enc x=[.sl (qcw.encL x)]:=rfl
theorem qoi (xs:List (List S38)) (n:Nat):isE [.sl] 0 ((qcv.encL xs).getD n [])=decide (n<xs.length):=by
 by_cases h:n<xs.length
 ·simp only [EC.getD_lt _ _ h];simp [enc_36,isE,isK,h]
 ·simp only [EC.getD_ge _ _ (Nat.not_lt.1 h)];simp [isE,isK,h]
theorem q4i (xs:List (List S38)) (n:Nat):slOf (((qcv.encL xs).getD n []).getD 0 .ne)=qcw.encL (xs.getD n (qcv.dec [])):=by
 by_cases h:n<xs.length
 ·simp only [EC.getD_lt _ _ h];simp [enc_36,h,q18t,qo4,q84,slOf,List.getD_eq_getElem?_getD]
 ·simp only [EC.getD_ge _ _ (Nat.not_lt.1 h)];simp [Nat.not_lt.1 h,qcv,q18t,qo4,q84,slOf,List.getD_eq_getElem?_getD,EC.decL,EC.encL]
theorem lit_36 (a0:(List S38)):([.sl (qcw.encL a0)]:List C)=qcv.enc a0:=rfl
theorem q40 (xs:List (List S38)) (a0:(List S38)):qcv.encL xs++[[.sl (qcw.encL a0)]]=qcv.encL (xs++[a0]):=by rw [lit_36];simp [EC.encL]
theorem q3h (xs:List (List S38)):(qcv.encL xs).all (λ(el:List C)=>el.length==1)=true:=by induction xs with|nil=>rfl|cons x xs ih=>first|(simp [EC.encL,enc_36];done)|simpa [EC.encL,enc_36] using ih
theorem q15n (xs:List (List S38)) (n:Nat) (a0:(List S38)):(qcv.encL xs).set n (splice ((qcv.encL xs).getD n []) 0 [.sl (qcw.encL a0)])=qcv.encL (xs.set n (a0)):=by
 by_cases h:n<xs.length
 ·rw [EC.getD_lt _ _ h];simp [EC.encL,List.map_set,enc_36,splice,List.getD_eq_getElem?_getD,h]
 ·simp [EC.encL,List.set_eq_of_length_le,Nat.not_lt.1 h]
def qyt:=(qpl (vC (cSl qcw)))
def qyu:Cod (V×List B) (Int×Int):=(cFstU (cPair (vAgg (qpj (vC (cInt .i64)) (qpl (vC (cInt .i64))))) qpk))
def qyw (s:L38):=fS Tryz.prog lv X0 15 qyt qyu s
def qyv:=entS Tryz.prog lv X0 15 [] qyt qyu (λx=>qyw x) (λ_ _ h=>qg5 h)
def q1c5:=qyv::q1ca
end
end Go.Proofs.YtmlcmoaonaomfaaGreatDoor
