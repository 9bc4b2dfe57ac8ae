/- Functions of the program as plain functions: made by program from the machine. -/
import Derived.Test.YtognhcibcocbkaaGreatDoorGB
namespace Go.Proofs.YtognhcibcocbkaaGreatDoor
open Go.RowKit
abbrev gL {τ β:Type} (e:EC τ) (l:List τ) (x:Option β):Option β:=gdE (EC.isL e (EC.encL e l)) x
abbrev dL {τ:Type} (e:EC τ) (l:List τ):List τ:=EC.decL e (EC.encL e l)
abbrev lN {τ:Type} (e:EC τ) (l:List τ):Nat:=List.length (EC.encL e l)
abbrev eC {τ:Type} (e:EC τ) (l:List τ) (i:Int) (k:List K1):Bool:=(decide ((Int.toNat i)<(List.length (EC.encL e l))))&&(isE k 0 (List.getD (EC.encL e l) (Int.toNat i) []))
abbrev wI (i:Int):Int:=IntKind.wrap .i64 (i+1)
abbrev p0 (i:Int):Bool:=decide (0≤i)
abbrev aL (l:List (List C)) (n:Nat):Bool:=List.all l (fun (el:(List C))=>((List.length el)==n))
abbrev dQ (n k:Nat):Bool:=decide ((((n+(n / 4))+192)*k)≤281474976710656)
abbrev uL {τ:Type} (e:EC τ) (c:C):List τ:=EC.decL e (slOf c)
abbrev LB:=List ByteArray
abbrev BA:=ByteArray
abbrev Oq:=Option
set_option maxRecDepth 100000
noncomputable section
structure S57 where
 Kind:Int
 Tests:(List S57)
 Name:ByteArray
 Pattern:Int
 Text:ByteArray
 N:Int
abbrev L57:=List S57
mutual
def en57:S57→List C
 |⟨a0,a1,a2,a3,a4,a5⟩=>[.int .i64 a0,.sl (en57L a1),.str a2,.int .i64 a3,.str a4,.int .i64 a5]
def en57L:List S57→List (List C)
 |[]=>[]
 |x::xs=>en57 x::en57L xs
end
theorem q60:∀ xs,en57L xs=xs.map en57
 |[]=>rfl
 |x::xs=>by rw [en57L,q60 xs];rfl
mutual
theorem q61:∀ {x y:S57},en57 x=en57 y→x=y
 |⟨a0,a1,a2,a3,a4,a5⟩,⟨b0,b1,b2,b3,b4,b5⟩,h=>by
  simp only [en57,List.cons.injEq,C.int.injEq,C.sl.injEq,C.str.injEq,true_and,and_true] at h
  obtain ⟨h0,h1,h2,h3,h4,h5⟩:=h
  have h1:=q5z h1
  subst h0 h1 h2 h3 h4 h5
  rfl
theorem q5z:∀ {xs ys:List S57},en57L xs=en57L ys→xs=ys
 |[],[],_=>rfl
 |[],_::_,h=>by simp [en57L] at h
 |_::_,[],h=>by simp [en57L] at h
 |x::xs,y::ys,h=>by
  simp only [en57L,List.cons.injEq] at h
  rw [q61 h.1,q5z h.2]
end
open Classical in
def q5t:EC S57 where
 enc:=en57
 dec c:=if h:∃ x,en57 x=c then h.choose else ⟨qa0 .ne,([]:(List S57)),q135 .ne,qa0 .ne,q135 .ne,qa0 .ne⟩
 is c:=decide (∃ x,en57 x=c)
 enc_dec {c} h:=by
  have h2:∃ x,en57 x=c:=by simpa using h
  rw [dif_pos h2]
  exact h2.choose_spec
 dec_enc x:=by
  have h2:∃ y,en57 y=en57 x:=⟨x,rfl⟩
  rw [dif_pos h2]
  exact q61 h2.choose_spec
 is_enc x:=by simp
theorem q66 (x:S57):q5t.enc x=[.int .i64 x.Kind,.sl (q5t.encL x.Tests),.str x.Name,.int .i64 x.Pattern,.str x.Text,.int .i64 x.N]:=by
 cases x
 show en57 _=_
 simp only [en57,q60]
 rfl
theorem q5d:q5t.dec []=(⟨qa0 .ne,([]:(List S57)),q135 .ne,qa0 .ne,q135 .ne,qa0 .ne⟩:S57):=by
 refine dif_neg ?_
 rintro ⟨⟨a0,a1,a2,a3,a4,a5⟩,h⟩
 simp [en57] at h
theorem qaa (xs:List S57) (n:Nat):isE [.int .i64,.sl,.str,.int .i64,.str,.int .i64] 0 ((q5t.encL xs).getD n [])=decide (n<xs.length):=by
 by_cases h:n<xs.length
 ·simp only [EC.getD_lt _ _ h];simp [q66,isE,isK,h]
 ·simp only [EC.getD_ge _ _ (Nat.not_lt.1 h)];simp [isE,isK,h]
theorem q2a (xs:List S57) (n:Nat):qa0 (((q5t.encL xs).getD n []).getD 0 .ne)=(xs.getD n (q5t.dec [])).Kind:=by
 by_cases h:n<xs.length
 ·simp only [EC.getD_lt _ _ h];simp [q66,h,qa0,List.getD_eq_getElem?_getD]
 ·simp only [EC.getD_ge _ _ (Nat.not_lt.1 h)];simp [Nat.not_lt.1 h,q5d,q135,qa0,List.getD_eq_getElem?_getD]
theorem q2b (xs:List S57) (n:Nat):slOf (((q5t.encL xs).getD n []).getD 1 .ne)=q5t.encL (xs.getD n (q5t.dec [])).Tests:=by
 by_cases h:n<xs.length
 ·simp only [EC.getD_lt _ _ h];simp [q66,h,slOf,List.getD_eq_getElem?_getD]
 ·simp only [EC.getD_ge _ _ (Nat.not_lt.1 h)];simp [Nat.not_lt.1 h,q5d,q135,qa0,slOf,List.getD_eq_getElem?_getD,EC.encL]
theorem q2c (xs:List S57) (n:Nat):q135 (((q5t.encL xs).getD n []).getD 2 .ne)=(xs.getD n (q5t.dec [])).Name:=by
 by_cases h:n<xs.length
 ·simp only [EC.getD_lt _ _ h];simp [q66,h,q135,List.getD_eq_getElem?_getD]
 ·simp only [EC.getD_ge _ _ (Nat.not_lt.1 h)];simp [Nat.not_lt.1 h,q5d,q135,qa0,List.getD_eq_getElem?_getD]
theorem q2d (xs:List S57) (n:Nat):qa0 (((q5t.encL xs).getD n []).getD 3 .ne)=(xs.getD n (q5t.dec [])).Pattern:=by
 by_cases h:n<xs.length
 ·simp only [EC.getD_lt _ _ h];simp [q66,h,qa0,List.getD_eq_getElem?_getD]
 ·simp only [EC.getD_ge _ _ (Nat.not_lt.1 h)];simp [Nat.not_lt.1 h,q5d,q135,qa0,List.getD_eq_getElem?_getD]
theorem q2e (xs:List S57) (n:Nat):q135 (((q5t.encL xs).getD n []).getD 4 .ne)=(xs.getD n (q5t.dec [])).Text:=by
 by_cases h:n<xs.length
 ·simp only [EC.getD_lt _ _ h];simp [q66,h,q135,List.getD_eq_getElem?_getD]
 ·simp only [EC.getD_ge _ _ (Nat.not_lt.1 h)];simp [Nat.not_lt.1 h,q5d,q135,qa0,List.getD_eq_getElem?_getD]
theorem q2f (xs:List S57) (n:Nat):qa0 (((q5t.encL xs).getD n []).getD 5 .ne)=(xs.getD n (q5t.dec [])).N:=by
 by_cases h:n<xs.length
 ·simp only [EC.getD_lt _ _ h];simp [q66,h,qa0,List.getD_eq_getElem?_getD]
 ·simp only [EC.getD_ge _ _ (Nat.not_lt.1 h)];simp [Nat.not_lt.1 h,q5d,q135,qa0,List.getD_eq_getElem?_getD]
theorem lit_57 (a0:Int) (a1:(List S57)) (a2:ByteArray) (a3:Int) (a4:ByteArray) (a5:Int):([.int .i64 a0,.sl (q5t.encL a1),.str a2,.int .i64 a3,.str a4,.int .i64 a5]:List C)=q5t.enc (⟨a0,a1,a2,a3,a4,a5⟩:S57):=(q66 (⟨a0,a1,a2,a3,a4,a5⟩:S57)).symm
theorem q21 (xs:List S57) (a0:Int) (a1:(List S57)) (a2:ByteArray) (a3:Int) (a4:ByteArray) (a5:Int):q5t.encL xs++[[.int .i64 a0,.sl (q5t.encL a1),.str a2,.int .i64 a3,.str a4,.int .i64 a5]]=q5t.encL (xs++[(⟨a0,a1,a2,a3,a4,a5⟩:S57)]):=by rw [lit_57];simp [EC.encL]
theorem q1l (xs:List S57):(q5t.encL xs).all (fun (el:List C)=>el.length==6)=true:=by induction xs with|nil=>rfl|cons x xs ih=>first|(simp [EC.encL,q66];done)|simpa [EC.encL,q66] using ih
structure S59 where
 Kind:Int
 Test_Kind:Int
 Test_Tests:(List S57)
 Test_Name:ByteArray
 Test_Pattern:Int
 Test_Text:ByteArray
 Test_N:Int
 Then:(List S59)
 Else:(List S59)
 Act:Int
 Name:ByteArray
 Text:ByteArray
 N:Int
abbrev L59:=List S59
mutual
def en59:S59→List C
 |⟨a0,a1,a2,a3,a4,a5,a6,a7,a8,a9,a10,a11,a12⟩=>[.int .i64 a0,.int .i64 a1,.sl (q5t.encL a2),.str a3,.int .i64 a4,.str a5,.int .i64 a6,.sl (en59L a7),.sl (en59L a8),.int .i64 a9,.str a10,.str a11,.int .i64 a12]
def en59L:List S59→List (List C)
 |[]=>[]
 |x::xs=>en59 x::en59L xs
end
theorem q63:∀ xs,en59L xs=xs.map en59
 |[]=>rfl
 |x::xs=>by rw [en59L,q63 xs];rfl
mutual
theorem q64:∀ {x y:S59},en59 x=en59 y→x=y
 |⟨a0,a1,a2,a3,a4,a5,a6,a7,a8,a9,a10,a11,a12⟩,⟨b0,b1,b2,b3,b4,b5,b6,b7,b8,b9,b10,b11,b12⟩,h=>by
  simp only [en59,List.cons.injEq,C.int.injEq,C.sl.injEq,C.str.injEq,true_and,and_true] at h
  obtain ⟨h0,h1,h2,h3,h4,h5,h6,h7,h8,h9,h10,h11,h12⟩:=h
  have h2:a2=b2:=by have q:=congrArg q5t.decL h2;simpa only [EC.decL_encL] using q
  have h7:=q62 h7
  have h8:=q62 h8
  subst h0 h1 h2 h3 h4 h5 h6 h7 h8 h9 h10 h11 h12
  rfl
theorem q62:∀ {xs ys:List S59},en59L xs=en59L ys→xs=ys
 |[],[],_=>rfl
 |[],_::_,h=>by simp [en59L] at h
 |_::_,[],h=>by simp [en59L] at h
 |x::xs,y::ys,h=>by
  simp only [en59L,List.cons.injEq] at h
  rw [q64 h.1,q62 h.2]
end
open Classical in
def q5u:EC S59 where
 enc:=en59
 dec c:=if h:∃ x,en59 x=c then h.choose else ⟨qa0 .ne,qa0 .ne,([]:(List S57)),q135 .ne,qa0 .ne,q135 .ne,qa0 .ne,([]:(List S59)),([]:(List S59)),qa0 .ne,q135 .ne,q135 .ne,qa0 .ne⟩
 is c:=decide (∃ x,en59 x=c)
 enc_dec {c} h:=by
  have h2:∃ x,en59 x=c:=by simpa using h
  rw [dif_pos h2]
  exact h2.choose_spec
 dec_enc x:=by
  have h2:∃ y,en59 y=en59 x:=⟨x,rfl⟩
  rw [dif_pos h2]
  exact q64 h2.choose_spec
 is_enc x:=by simp
theorem q67 (x:S59):q5u.enc x=[.int .i64 x.Kind,.int .i64 x.Test_Kind,.sl (q5t.encL x.Test_Tests),.str x.Test_Name,.int .i64 x.Test_Pattern,.str x.Test_Text,.int .i64 x.Test_N,.sl (q5u.encL x.Then),.sl (q5u.encL x.Else),.int .i64 x.Act,.str x.Name,.str x.Text,.int .i64 x.N]:=by
 cases x
 show en59 _=_
 simp only [en59,q63]
 rfl
theorem q5e:q5u.dec []=(⟨qa0 .ne,qa0 .ne,([]:(List S57)),q135 .ne,qa0 .ne,q135 .ne,qa0 .ne,([]:(List S59)),([]:(List S59)),qa0 .ne,q135 .ne,q135 .ne,qa0 .ne⟩:S59):=by
 refine dif_neg ?_
 rintro ⟨⟨a0,a1,a2,a3,a4,a5,a6,a7,a8,a9,a10,a11,a12⟩,h⟩
 simp [en59] at h
theorem qab (xs:List S59) (n:Nat):isE [.int .i64,.int .i64,.sl,.str,.int .i64,.str,.int .i64,.sl,.sl,.int .i64,.str,.str,.int .i64] 0 ((q5u.encL xs).getD n [])=decide (n<xs.length):=by
 by_cases h:n<xs.length
 ·simp only [EC.getD_lt _ _ h];simp [q67,isE,isK,h]
 ·simp only [EC.getD_ge _ _ (Nat.not_lt.1 h)];simp [isE,isK,h]
theorem q2g (xs:List S59) (n:Nat):qa0 (((q5u.encL xs).getD n []).getD 0 .ne)=(xs.getD n (q5u.dec [])).Kind:=by
 by_cases h:n<xs.length
 ·simp only [EC.getD_lt _ _ h];simp [q67,h,qa0,List.getD_eq_getElem?_getD]
 ·simp only [EC.getD_ge _ _ (Nat.not_lt.1 h)];simp [Nat.not_lt.1 h,q5e,q135,qa0,List.getD_eq_getElem?_getD]
theorem q2h (xs:List S59) (n:Nat):qa0 (((q5u.encL xs).getD n []).getD 1 .ne)=(xs.getD n (q5u.dec [])).Test_Kind:=by
 by_cases h:n<xs.length
 ·simp only [EC.getD_lt _ _ h];simp [q67,h,qa0,List.getD_eq_getElem?_getD]
 ·simp only [EC.getD_ge _ _ (Nat.not_lt.1 h)];simp [Nat.not_lt.1 h,q5e,q135,qa0,List.getD_eq_getElem?_getD]
theorem q2l (xs:List S59) (n:Nat):slOf (((q5u.encL xs).getD n []).getD 2 .ne)=q5t.encL (xs.getD n (q5u.dec [])).Test_Tests:=by
 by_cases h:n<xs.length
 ·simp only [EC.getD_lt _ _ h];simp [q67,h,slOf,List.getD_eq_getElem?_getD]
 ·simp only [EC.getD_ge _ _ (Nat.not_lt.1 h)];simp [Nat.not_lt.1 h,q5e,q135,qa0,slOf,List.getD_eq_getElem?_getD,EC.encL]
theorem q2m (xs:List S59) (n:Nat):q135 (((q5u.encL xs).getD n []).getD 3 .ne)=(xs.getD n (q5u.dec [])).Test_Name:=by
 by_cases h:n<xs.length
 ·simp only [EC.getD_lt _ _ h];simp [q67,h,q135,List.getD_eq_getElem?_getD]
 ·simp only [EC.getD_ge _ _ (Nat.not_lt.1 h)];simp [Nat.not_lt.1 h,q5e,q135,qa0,List.getD_eq_getElem?_getD]
theorem q2n (xs:List S59) (n:Nat):qa0 (((q5u.encL xs).getD n []).getD 4 .ne)=(xs.getD n (q5u.dec [])).Test_Pattern:=by
 by_cases h:n<xs.length
 ·simp only [EC.getD_lt _ _ h];simp [q67,h,qa0,List.getD_eq_getElem?_getD]
 ·simp only [EC.getD_ge _ _ (Nat.not_lt.1 h)];simp [Nat.not_lt.1 h,q5e,q135,qa0,List.getD_eq_getElem?_getD]
theorem q2o (xs:List S59) (n:Nat):q135 (((q5u.encL xs).getD n []).getD 5 .ne)=(xs.getD n (q5u.dec [])).Test_Text:=by
 by_cases h:n<xs.length
 ·simp only [EC.getD_lt _ _ h];simp [q67,h,q135,List.getD_eq_getElem?_getD]
 ·simp only [EC.getD_ge _ _ (Nat.not_lt.1 h)];simp [Nat.not_lt.1 h,q5e,q135,qa0,List.getD_eq_getElem?_getD]
theorem q2p (xs:List S59) (n:Nat):qa0 (((q5u.encL xs).getD n []).getD 6 .ne)=(xs.getD n (q5u.dec [])).Test_N:=by
 by_cases h:n<xs.length
 ·simp only [EC.getD_lt _ _ h];simp [q67,h,qa0,List.getD_eq_getElem?_getD]
 ·simp only [EC.getD_ge _ _ (Nat.not_lt.1 h)];simp [Nat.not_lt.1 h,q5e,q135,qa0,List.getD_eq_getElem?_getD]
theorem q2q (xs:List S59) (n:Nat):slOf (((q5u.encL xs).getD n []).getD 7 .ne)=q5u.encL (xs.getD n (q5u.dec [])).Then:=by
 by_cases h:n<xs.length
 ·simp only [EC.getD_lt _ _ h];simp [q67,h,slOf,List.getD_eq_getElem?_getD]
 ·simp only [EC.getD_ge _ _ (Nat.not_lt.1 h)];simp [Nat.not_lt.1 h,q5e,q135,qa0,slOf,List.getD_eq_getElem?_getD,EC.encL]
theorem q2r (xs:List S59) (n:Nat):slOf (((q5u.encL xs).getD n []).getD 8 .ne)=q5u.encL (xs.getD n (q5u.dec [])).Else:=by
 by_cases h:n<xs.length
 ·simp only [EC.getD_lt _ _ h];simp [q67,h,slOf,List.getD_eq_getElem?_getD]
 ·simp only [EC.getD_ge _ _ (Nat.not_lt.1 h)];simp [Nat.not_lt.1 h,q5e,q135,qa0,slOf,List.getD_eq_getElem?_getD,EC.encL]
theorem q2s (xs:List S59) (n:Nat):qa0 (((q5u.encL xs).getD n []).getD 9 .ne)=(xs.getD n (q5u.dec [])).Act:=by
 by_cases h:n<xs.length
 ·simp only [EC.getD_lt _ _ h];simp [q67,h,qa0,List.getD_eq_getElem?_getD]
 ·simp only [EC.getD_ge _ _ (Nat.not_lt.1 h)];simp [Nat.not_lt.1 h,q5e,q135,qa0,List.getD_eq_getElem?_getD]
theorem q2i (xs:List S59) (n:Nat):q135 (((q5u.encL xs).getD n []).getD 10 .ne)=(xs.getD n (q5u.dec [])).Name:=by
 by_cases h:n<xs.length
 ·simp only [EC.getD_lt _ _ h];simp [q67,h,q135,List.getD_eq_getElem?_getD]
 ·simp only [EC.getD_ge _ _ (Nat.not_lt.1 h)];simp [Nat.not_lt.1 h,q5e,q135,qa0,List.getD_eq_getElem?_getD]
theorem q2j (xs:List S59) (n:Nat):q135 (((q5u.encL xs).getD n []).getD 11 .ne)=(xs.getD n (q5u.dec [])).Text:=by
 by_cases h:n<xs.length
 ·simp only [EC.getD_lt _ _ h];simp [q67,h,q135,List.getD_eq_getElem?_getD]
 ·simp only [EC.getD_ge _ _ (Nat.not_lt.1 h)];simp [Nat.not_lt.1 h,q5e,q135,qa0,List.getD_eq_getElem?_getD]
theorem q2k (xs:List S59) (n:Nat):qa0 (((q5u.encL xs).getD n []).getD 12 .ne)=(xs.getD n (q5u.dec [])).N:=by
 by_cases h:n<xs.length
 ·simp only [EC.getD_lt _ _ h];simp [q67,h,qa0,List.getD_eq_getElem?_getD]
 ·simp only [EC.getD_ge _ _ (Nat.not_lt.1 h)];simp [Nat.not_lt.1 h,q5e,q135,qa0,List.getD_eq_getElem?_getD]
theorem lit_59 (a0:Int) (a1:Int) (a2:(List S57)) (a3:ByteArray) (a4:Int) (a5:ByteArray) (a6:Int) (a7:(List S59)) (a8:(List S59)) (a9:Int) (a10:ByteArray) (a11:ByteArray) (a12:Int):([.int .i64 a0,.int .i64 a1,.sl (q5t.encL a2),.str a3,.int .i64 a4,.str a5,.int .i64 a6,.sl (q5u.encL a7),.sl (q5u.encL a8),.int .i64 a9,.str a10,.str a11,.int .i64 a12]:List C)=q5u.enc (⟨a0,a1,a2,a3,a4,a5,a6,a7,a8,a9,a10,a11,a12⟩:S59):=(q67 (⟨a0,a1,a2,a3,a4,a5,a6,a7,a8,a9,a10,a11,a12⟩:S59)).symm
theorem q22 (xs:List S59) (a0:Int) (a1:Int) (a2:(List S57)) (a3:ByteArray) (a4:Int) (a5:ByteArray) (a6:Int) (a7:(List S59)) (a8:(List S59)) (a9:Int) (a10:ByteArray) (a11:ByteArray) (a12:Int):q5u.encL xs++[[.int .i64 a0,.int .i64 a1,.sl (q5t.encL a2),.str a3,.int .i64 a4,.str a5,.int .i64 a6,.sl (q5u.encL a7),.sl (q5u.encL a8),.int .i64 a9,.str a10,.str a11,.int .i64 a12]]=q5u.encL (xs++[(⟨a0,a1,a2,a3,a4,a5,a6,a7,a8,a9,a10,a11,a12⟩:S59)]):=by rw [lit_59];simp [EC.encL]
theorem q1m (xs:List S59):(q5u.encL xs).all (fun (el:List C)=>el.length==13)=true:=by induction xs with|nil=>rfl|cons x xs ih=>first|(simp [EC.encL,q67];done)|simpa [EC.encL,q67] using ih
def q3d:Cod (List V) Unit:=qb8
abbrev z1c:=(vC (cInt .i64))
abbrev z1e:=(qb7 z1c (qb9 z1c))
def q3e:Cod (V×List B) (Int×Int):=(cFstU (cPair (vAgg z1e) qb8))
def q3h :=fS Tryz.prog lv X0 22 q3d q3e ()
def q3i :Oq (Int×Int) :=
 (some (0,0))
theorem q3g {r} (h:q3i =some r):q3h =some r :=
 q75 (es:=tab0) (hs:=[]) [] Tryz.func22 rfl (by kernel_rfl) rfl (by kernel_rfl) (by kernel_rfl) trivial trivial (by kernel_rfl) h
def q3f:=entS Tryz.prog lv X0 22 [] q3d q3e (fun x=>q3h ) (fun _ _ h=>q74 h)
def q13p:=q3f::tab0
def q37:=z1e
def q38:Cod (V×List B) (Int×Int):=(cFstU (cPair (vAgg z1e) qb8))
def q3b (code at_:Int):=fS Tryz.prog lv X0 18 q37 q38 (code,at_)
def q3c (code at_:Int):Oq (Int×Int) :=
 (some (code,at_))
theorem q3a {code at_ r} (h:q3c code at_=some r):q3b code at_=some r :=
 q75 (es:=q13p) (hs:=[]) [] Tryz.func18 rfl (by kernel_rfl) rfl (by kernel_rfl) (by kernel_rfl) trivial trivial (by kernel_rfl) h
def q39:=entS Tryz.prog lv X0 18 [] q37 q38 (fun x=>q3b x.1 x.2) (fun _ _ h=>q74 h)
def q13o:=q39::q13p
def q31:=(qb9 (vAgg z1e))
abbrev z1h:=(cFstU (cPair (vC cBool) (qb8 (ρ:=B))))
def q32:Cod (V×List B) Bool:=z1h
def q35 (f_Code f_Index:Int):=fS Tryz.prog lv X0 21 q31 q32 (f_Code,f_Index)
def q36 (f_Code f_Index:Int):Oq Bool :=
 (some (f_Code != 0))
theorem q34 {f_Code f_Index r} (h:q36 f_Code f_Index=some r):q35 f_Code f_Index=some r :=
 q75 (es:=q13o) (hs:=[]) [] Tryz.func21 rfl (by kernel_rfl) rfl (by kernel_rfl) (by kernel_rfl) trivial trivial (by kernel_rfl) h
def q33:=entS Tryz.prog lv X0 21 [] q31 q32 (fun x=>q35 x.1 x.2) (fun _ _ h=>q74 h)
def q13n:=q33::q13o
abbrev z1k:=(vC (cSl q5u))
def qeu:=(qb9 z1k)
def qev:Cod (V×List B) Int:=(cFstU (cPair z1c qb8))
def qf5 (s:L59):=fS Tryz.prog lv X0 17 qeu qev s
def qew:=entS Tryz.prog lv X0 17 [] qeu qev (fun x=>qf5 x) (fun _ _ h=>q74 h)
def q13s:=qew::q13n
def qf3:=sLS [0,3,4] (qb7 z1k z1e) qb8 [] [] (by decide) (fun _=>rfl)
abbrev z1i:=(qb7 z1c (qb7 z1c (qb9 (vC cBool))))
def qf2:=sLS [0,3,4,10] (qb7 z1k z1i) qb8 [] [] (by decide) (fun _=>rfl)
def qf1:=oAt 2 qf2
def qey (s:L59) (n i:Int):=lS Tryz.prog lv X0 17 29 (q8x (cdF Tryz.f17) 3) qf3 qf1 ((s,n,i),())
def qf4 (s:L59) (n i:Int):Oq ((L59×Int×Int×Bool)×Unit) :=
 (brE (decide (i<(lN q5u s:Int)))
 (gdE (p0 i)<|
 (gdE (eC q5u s i [(K1.int Go.IntKind.i64),(K1.int Go.IntKind.i64),K1.sl,K1.str,(K1.int Go.IntKind.i64),K1.str,(K1.int Go.IntKind.i64),K1.sl,K1.sl,(K1.int Go.IntKind.i64),K1.str,K1.str,(K1.int Go.IntKind.i64)])<|
 (gdE (EC.isL q5u (slOf (List.getD (List.getD (EC.encL q5u s) (Int.toNat i) []) 7 C.ne)))<|
 ((qf5 (uL q5u (List.getD (List.getD (EC.encL q5u s) (Int.toNat i) []) 7 C.ne))).bind fun r0 =>
 (gdE (p0 i)<|
 (gdE (eC q5u s i [(K1.int Go.IntKind.i64),(K1.int Go.IntKind.i64),K1.sl,K1.str,(K1.int Go.IntKind.i64),K1.str,(K1.int Go.IntKind.i64),K1.sl,K1.sl,(K1.int Go.IntKind.i64),K1.str,K1.str,(K1.int Go.IntKind.i64)])<|
 (gdE (EC.isL q5u (slOf (List.getD (List.getD (EC.encL q5u s) (Int.toNat i) []) 8 C.ne)))<|
 ((qf5 (uL q5u (List.getD (List.getD (EC.encL q5u s) (Int.toNat i) []) 8 C.ne))).bind fun r1 =>
 (gL q5u s<|
 (qey (dL q5u s) (IntKind.wrap .i64 (n+(IntKind.wrap .i64 (r0+r1)))) (wI i)))))))))))
 (gL q5u s<|
 (some (((dL q5u s),(n,(i,false))),()))))
theorem qf0 {s n i r} (h:qf4 s n i=some r):qey s n i=some r :=
 qbb (es:=q13s) (hs:=[]) [] (by kernel_rfl) trivial trivial (by kernel_rfl) h
def qez:=qby Tryz.prog lv X0 3 (q8x (cdF Tryz.f17) 3) qf3 qf1 (fun x=>qey x.1.1 x.1.2.1 x.1.2.2) (fun _ _ h=>qba h)
def qf6 (s:L59):Oq Int :=
 (gL q5u s<|
 ((qey (dL q5u s) (lN q5u s:Int) 0).bind fun r0 =>
 (some r0.1.2.1)))
theorem qex {s r} (h:qf6 s=some r):qf5 s=some r :=
 q75 (es:=q13s) (hs:=[]) [qez] Tryz.func17 rfl (by kernel_rfl) rfl (by kernel_rfl) (by kernel_rfl) ⟨⟨_,rfl,rfl⟩,trivial⟩ trivial (by kernel_rfl) h
abbrev z1d:=(qb7 z1c (qb7 (vC (cSl q5t)) (qb7 (vC cStr) (qb7 z1c (qb7 (vC cStr) (qb9 z1c))))))
def qtq:=(qb9 (vAgg z1d))
def qtr:Cod (V×List B) Bool:=z1h
def qtu (q16u:Int) (q16x:L57) (q16v:BA) (q16w:Int) (q16y:BA) (t_N:Int):=fS Tryz.prog lv X0 69 qtq qtr (q16u,q16x,q16v,q16w,q16y,t_N)
def qtv (q16u:Int) (q16x:L57) (q16v:BA) (q16w:Int) (q16y:BA) (t_N:Int):Oq Bool :=
 (brE ((q16u==0)==true)
 (brE (((lN q5t q16x:Int)==0)==true)
 (brE ((q16v.toList==(ByteArray.toList ⟨#[]⟩))==true)
 (brE ((q16w==0)==true)
 (brE ((q16y.toList==(ByteArray.toList ⟨#[]⟩))==true)
 (some (t_N==0))
 (some false))
 (some false))
 (some false))
 (some false))
 (some false))
theorem qtt {q16u q16x q16v q16w q16y t_N r} (h:qtv q16u q16x q16v q16w q16y t_N=some r):qtu q16u q16x q16v q16w q16y t_N=some r :=
 q75 (es:=q13s) (hs:=[]) [] Tryz.func69 rfl (by kernel_rfl) rfl (by kernel_rfl) (by kernel_rfl) trivial trivial (by kernel_rfl) h
def qts:=entS Tryz.prog lv X0 69 [] qtq qtr (fun x=>qtu x.1 x.2.1 x.2.2.1 x.2.2.2.1 x.2.2.2.2.1 x.2.2.2.2.2) (fun _ _ h=>q74 h)
def q14i:=qts::q13s
def qzj:=(qb9 z1c)
def qzk:Cod (V×List B) Bool:=z1h
def qzn (act:Int):=fS Tryz.prog lv X0 65 qzj qzk act
def qzo (act:Int):Oq Bool :=
 (brE ((act==2)==false)
 (brE ((act==4)==false)
 (brE ((act==5)==false)
 (some (act==7))
 (some true))
 (some true))
 (some true))
theorem qzm {act r} (h:qzo act=some r):qzn act=some r :=
 q75 (es:=q14i) (hs:=[]) [] Tryz.func65 rfl (by kernel_rfl) rfl (by kernel_rfl) (by kernel_rfl) trivial trivial (by kernel_rfl) h
def qzl:=entS Tryz.prog lv X0 65 [] qzj qzk (fun x=>qzn x) (fun _ _ h=>q74 h)
def q14o:=qzl::q14i
def qzp:=(qb9 z1c)
def qzq:Cod (V×List B) (Bool×Bool×Bool):=(cFstU (cPair (vTup (qb7 (vC cBool) (qb7 (vC cBool) (qb9 (vC cBool))))) qb8))
def qzt (kind:Int):=fS Tryz.prog lv X0 71 qzp qzq kind
def qzu (kind:Int):Oq (Bool×Bool×Bool) :=
 (brE (kind==5)
 (some (true,(true,false)))
 (brE (kind==6)
 (some (false,(true,false)))
 (brE (kind==7)
 (some (false,(true,false)))
 (brE (kind==8)
 (some (false,(false,true)))
 (brE (kind==9)
 (some (true,(false,false)))
 (some (false,(false,false))))))))
theorem qzs {kind r} (h:qzu kind=some r):qzt kind=some r :=
 q75 (es:=q14o) (hs:=[]) [] Tryz.func71 rfl (by kernel_rfl) rfl (by kernel_rfl) (by kernel_rfl) trivial trivial (by kernel_rfl) h
def qzr:=entS Tryz.prog lv X0 71 [] qzp qzq (fun x=>qzt x) (fun _ _ h=>q74 h)
def q14p:=qzr::q14o
def qte:=(qb9 (vAgg z1d))
def qtf:Cod (V×List B) Bool:=z1h
def qti (q16u:Int) (q16x:L57) (q16v:BA) (q16w:Int) (q16y:BA) (t_N:Int):=fS Tryz.prog lv X0 72 qte qtf (q16u,q16x,q16v,q16w,q16y,t_N)
def qtj (q16u:Int) (q16x:L57) (q16v:BA) (q16w:Int) (q16y:BA) (t_N:Int):Oq Bool :=
 (brE (q16u==2)
 (some ((lN q5t q16x:Int)==1))
 (brE (q16u==3)
 (brE ((decide ((lN q5t q16x:Int)≥1))==true)
 (some (decide ((lN q5t q16x:Int)≤60)))
 (some false))
 (brE (q16u==4)
 (brE ((decide ((lN q5t q16x:Int)≥1))==true)
 (some (decide ((lN q5t q16x:Int)≤60)))
 (some false))
 (some ((lN q5t q16x:Int)==0)))))
theorem qth {q16u q16x q16v q16w q16y t_N r} (h:qtj q16u q16x q16v q16w q16y t_N=some r):qti q16u q16x q16v q16w q16y t_N=some r :=
 q75 (es:=q14p) (hs:=[]) [] Tryz.func72 rfl (by kernel_rfl) rfl (by kernel_rfl) (by kernel_rfl) trivial trivial (by kernel_rfl) h
def qtg:=entS Tryz.prog lv X0 72 [] qte qtf (fun x=>qti x.1 x.2.1 x.2.2.1 x.2.2.2.1 x.2.2.2.2.1 x.2.2.2.2.2) (fun _ _ h=>q74 h)
def q14g:=qtg::q14p
def qzv:=(qb9 (vC (cInt .u8)))
def qzw:Cod (V×List B) Bool:=z1h
def qzz (c:Int):=fS Tryz.prog lv X0 92 qzv qzw c
def q100 (c:Int):Oq Bool :=
 (brE ((decide (c≥97))==true)
 (brE ((decide (c≤122))==false)
 (brE ((decide (c≥48))==true)
 (some (decide (c≤57)))
 (some false))
 (some true))
 (brE ((decide (c≥48))==true)
 (some (decide (c≤57)))
 (some false)))
theorem qzy {c r} (h:q100 c=some r):qzz c=some r :=
 q75 (es:=q14g) (hs:=[]) [] Tryz.func92 rfl (by kernel_rfl) rfl (by kernel_rfl) (by kernel_rfl) trivial trivial (by kernel_rfl) h
def qzx:=entS Tryz.prog lv X0 92 [] qzv qzw (fun x=>qzz x) (fun _ _ h=>q74 h)
def q14r:=qzx::q14g
def q13:Cod (List V) (ByteArray×Unit):=(qb7 (vC cStr) (qb9 (vFn 92 qb8)))
def q1d:=sLS [0,1,7,8] (qb7 (vC cStr) (qb7 (vFn 92 qb8) z1e)) qb8 [] [] (by decide) (fun _=>rfl)
def q1c:=sLS [0,1,7,8,9] (qb7 (vC cStr) (qb7 (vFn 92 qb8) z1i)) qb8 [] [] (by decide) (fun _=>rfl)
def q1b:=sLS [4] (qb9 (vC cBool)) qb8 [] [] (by decide) (fun _=>rfl)
def q1a:=oOr 1 q1b (oAt 2 q1c) (fun x=>(by decide:(2:Nat)≠1))
def q17 (s:BA) (t7 t8:Int):=lS Tryz.prog lv X0 93 18 (q8x (cdF Tryz.f93) 2) q1d q1a ((s,(),t7,t8),())
def q1e (s:BA) (t7 t8:Int):Oq ((Bool×Unit)⊕((BA×Unit×Int×Int×Bool)×Unit)) :=
 (brE (decide (t8<t7))
 (gdE ((p0 t8)&&(decide ((Int.toNat t8)<s.size)))<|
 ((qzz (((UInt8.toNat (Array.getD s.data (Int.toNat t8) (0:UInt8))):Nat):Int)).bind fun r0 =>
 (brE (!r0)
 (some (.inl (false,())))
 (q17 s t7 (wI t8)))))
 (some (.inr ((s,((),(t7,(t8,false)))),()))))
theorem q19 {s t7 t8 r} (h:q1e s t7 t8=some r):q17 s t7 t8=some r :=
 qbb (es:=q14r) (hs:=[]) [] (by kernel_rfl) trivial trivial (by kernel_rfl) h
def q18:=qby Tryz.prog lv X0 2 (q8x (cdF Tryz.f93) 2) q1d q1a (fun x=>q17 x.1.1 x.1.2.2.1 x.1.2.2.2) (fun _ _ h=>qba h)
def q14:Cod (V×List B) Bool:=z1h
def q1g (s:BA):=fS Tryz.prog lv X0 93 q13 q14 (s,())
def q1h (s:BA):Oq Bool :=
 ((q17 s (s.size:Int) 0).bind fun r0 =>
 (Sum.elim (fun r1=>(some r1.1))
 (fun r1=>(some true)) r0))
theorem q16 {s r} (h:q1h s=some r):q1g s=some r :=
 q75 (es:=q14r) (hs:=[]) [q18] Tryz.func93 rfl (by kernel_rfl) rfl (by kernel_rfl) (by kernel_rfl) ⟨⟨_,rfl,rfl⟩,trivial⟩ trivial (by kernel_rfl) h
def q15:=entS Tryz.prog lv X0 93 [92] q13 q14 (fun x=>q1g x.1) (fun _ _ h=>q74 h)
def q13m:=q15::q14r
def q101:=(qb9 (vC cStr))
def q102:Cod (V×List B) Bool:=z1h
def q105 (s:BA):=fS Tryz.prog lv X0 70 q101 q102 s
def q106 (s:BA):Oq Bool :=
 (brE ((!(s.toList==(ByteArray.toList ⟨#[]⟩)))==true)
 (brE ((decide ((s.size:Int)≤60))==true)
 ((q1g s).bind fun r0 =>
 (brE (r0==true)
 (gdE ((decide ((0:Int)≤0))&&(decide ((Int.toNat 0)<s.size)))<|
 (some (decide ((((UInt8.toNat (Array.getD s.data (Int.toNat 0) (0:UInt8))):Nat):Int)>57))))
 (some false)))
 (some false))
 (some false))
theorem q104 {s r} (h:q106 s=some r):q105 s=some r :=
 q75 (es:=q13m) (hs:=[]) [] Tryz.func70 rfl (by kernel_rfl) rfl (by kernel_rfl) (by kernel_rfl) trivial trivial (by kernel_rfl) h
def q103:=entS Tryz.prog lv X0 70 [] q101 q102 (fun x=>q105 x) (fun _ _ h=>q74 h)
def q14q:=q103::q13m
abbrev z1g:=(vAgg (qb7 z1c (qb7 z1c (qb7 (vC (cSl q5t)) (qb7 (vC cStr) (qb7 z1c (qb7 (vC cStr) (qb7 z1c (qb7 (vC (cSl q5u)) (qb7 (vC (cSl q5u)) (qb7 z1c (qb7 (vC cStr) (qb7 (vC cStr) (qb9 z1c))))))))))))))
def qym:=(qb9 z1g)
def qyn:Cod (V×List B) Int:=(cFstU (cPair z1c qb8))
def qyq (r_Kind r_Test_Kind:Int) (q16r:L57) (q16p:BA) (q16q:Int) (q16s:BA) (q16o:Int) (r_Then r_Else:L59) (r_Act:Int) (q16n q16t:BA) (r_N:Int):=fS Tryz.prog lv X0 50 qym qyn (r_Kind,r_Test_Kind,q16r,q16p,q16q,q16s,q16o,r_Then,r_Else,r_Act,q16n,q16t,r_N)
abbrev z7 (q16t:BA):=(decide ((q16t.size:Int)>200))
abbrev z8 (r_N:Int):=((decide (r_N<0))==false)
abbrev za (q16n:BA):=(q105 q16n)
abbrev zb (q16t:BA):=((!(q16t.toList==(ByteArray.toList ⟨#[]⟩)))==false)
abbrev zd (r_Act:Int):=((decide (r_Act<1))==false)
def qyr (r_Kind r_Test_Kind:Int) (q16r:L57) (q16p:BA) (q16q:Int) (q16s:BA) (q16o:Int) (r_Then r_Else:L59) (r_Act:Int) (q16n q16t:BA) (r_N:Int):Oq Int :=
 (gL q5t q16r<|
 ((qtu r_Test_Kind (dL q5t q16r) q16p q16q q16s q16o).bind fun r0 =>
 (brE ((!r0)==false)
 (brE ((decide ((IntKind.wrap .i64 ((lN q5u r_Then:Int)+(lN q5u r_Else:Int)))>0))==false)
 (brE ((!(r_Kind==2))==true)
 (brE ((r_Act != 0)==false)
 (brE ((r_N != 0)==false)
 (brE ((r_Kind != 3)==true)
 (brE ((!(q16n.toList==(ByteArray.toList ⟨#[]⟩)))==false)
 (brE ((r_Kind==4)==true)
 (brE (!(q16t.toList==(ByteArray.toList ⟨#[]⟩)))
 (some 5)
 (brE ((r_Kind==2)==true)
 (brE (zd r_Act)
 (brE (decide (r_Act>7))
 (some 4)
 (brE ((r_Kind==2)==true)
 ((qzn r_Act).bind fun r1 =>
 (brE ((!r1)==true)
 (brE (zb q16t)
 (brE ((r_Act != 6)==true)
 (brE (r_N != 0)
 (some 5)
 (brE ((r_Kind==3)==true)
 ((za q16n).bind fun r2 =>
 (brE (!r2)
 (some 10)
 (brE (z7 q16t)
 (some 1)
 (brE (z8 r_N)
 (brE (decide (r_N>63))
 (some 3)
 (some 0))
 (some 3)))))
 (brE (z7 q16t)
 (some 1)
 (brE (z8 r_N)
 (brE (decide (r_N>63))
 (some 3)
 (some 0))
 (some 3)))))
 (brE ((r_Kind==3)==true)
 ((za q16n).bind fun r2 =>
 (brE (!r2)
 (some 10)
 (brE (z7 q16t)
 (some 1)
 (brE (z8 r_N)
 (brE (decide (r_N>63))
 (some 3)
 (some 0))
 (some 3)))))
 (brE (z7 q16t)
 (some 1)
 (brE (z8 r_N)
 (brE (decide (r_N>63))
 (some 3)
 (some 0))
 (some 3)))))
 (some 5))
 (brE ((r_Act != 6)==true)
 (brE (r_N != 0)
 (some 5)
 (brE ((r_Kind==3)==true)
 ((za q16n).bind fun r2 =>
 (brE (!r2)
 (some 10)
 (brE (z7 q16t)
 (some 1)
 (brE (z8 r_N)
 (brE (decide (r_N>63))
 (some 3)
 (some 0))
 (some 3)))))
 (brE (z7 q16t)
 (some 1)
 (brE (z8 r_N)
 (brE (decide (r_N>63))
 (some 3)
 (some 0))
 (some 3)))))
 (brE ((r_Kind==3)==true)
 ((za q16n).bind fun r2 =>
 (brE (!r2)
 (some 10)
 (brE (z7 q16t)
 (some 1)
 (brE (z8 r_N)
 (brE (decide (r_N>63))
 (some 3)
 (some 0))
 (some 3)))))
 (brE (z7 q16t)
 (some 1)
 (brE (z8 r_N)
 (brE (decide (r_N>63))
 (some 3)
 (some 0))
 (some 3)))))))
 (brE ((r_Kind==3)==true)
 ((za q16n).bind fun r1 =>
 (brE (!r1)
 (some 10)
 (brE (z7 q16t)
 (some 1)
 (brE (z8 r_N)
 (brE (decide (r_N>63))
 (some 3)
 (some 0))
 (some 3)))))
 (brE (z7 q16t)
 (some 1)
 (brE (z8 r_N)
 (brE (decide (r_N>63))
 (some 3)
 (some 0))
 (some 3))))))
 (some 4))
 (brE ((r_Kind==2)==true)
 ((qzn r_Act).bind fun r1 =>
 (brE ((!r1)==true)
 (brE (zb q16t)
 (brE ((r_Act != 6)==true)
 (brE (r_N != 0)
 (some 5)
 (brE ((r_Kind==3)==true)
 ((za q16n).bind fun r2 =>
 (brE (!r2)
 (some 10)
 (brE (z7 q16t)
 (some 1)
 (brE (z8 r_N)
 (brE (decide (r_N>63))
 (some 3)
 (some 0))
 (some 3)))))
 (brE (z7 q16t)
 (some 1)
 (brE (z8 r_N)
 (brE (decide (r_N>63))
 (some 3)
 (some 0))
 (some 3)))))
 (brE ((r_Kind==3)==true)
 ((za q16n).bind fun r2 =>
 (brE (!r2)
 (some 10)
 (brE (z7 q16t)
 (some 1)
 (brE (z8 r_N)
 (brE (decide (r_N>63))
 (some 3)
 (some 0))
 (some 3)))))
 (brE (z7 q16t)
 (some 1)
 (brE (z8 r_N)
 (brE (decide (r_N>63))
 (some 3)
 (some 0))
 (some 3)))))
 (some 5))
 (brE ((r_Act != 6)==true)
 (brE (r_N != 0)
 (some 5)
 (brE ((r_Kind==3)==true)
 ((za q16n).bind fun r2 =>
 (brE (!r2)
 (some 10)
 (brE (z7 q16t)
 (some 1)
 (brE (z8 r_N)
 (brE (decide (r_N>63))
 (some 3)
 (some 0))
 (some 3)))))
 (brE (z7 q16t)
 (some 1)
 (brE (z8 r_N)
 (brE (decide (r_N>63))
 (some 3)
 (some 0))
 (some 3)))))
 (brE ((r_Kind==3)==true)
 ((za q16n).bind fun r2 =>
 (brE (!r2)
 (some 10)
 (brE (z7 q16t)
 (some 1)
 (brE (z8 r_N)
 (brE (decide (r_N>63))
 (some 3)
 (some 0))
 (some 3)))))
 (brE (z7 q16t)
 (some 1)
 (brE (z8 r_N)
 (brE (decide (r_N>63))
 (some 3)
 (some 0))
 (some 3)))))))
 (brE ((r_Kind==3)==true)
 ((za q16n).bind fun r1 =>
 (brE (!r1)
 (some 10)
 (brE (z7 q16t)
 (some 1)
 (brE (z8 r_N)
 (brE (decide (r_N>63))
 (some 3)
 (some 0))
 (some 3)))))
 (brE (z7 q16t)
 (some 1)
 (brE (z8 r_N)
 (brE (decide (r_N>63))
 (some 3)
 (some 0))
 (some 3)))))))
 (brE ((r_Kind==2)==true)
 (brE (zd r_Act)
 (brE (decide (r_Act>7))
 (some 4)
 (brE ((r_Kind==2)==true)
 ((qzn r_Act).bind fun r1 =>
 (brE ((!r1)==true)
 (brE (zb q16t)
 (brE ((r_Act != 6)==true)
 (brE (r_N != 0)
 (some 5)
 (brE ((r_Kind==3)==true)
 ((za q16n).bind fun r2 =>
 (brE (!r2)
 (some 10)
 (brE (z7 q16t)
 (some 1)
 (brE (z8 r_N)
 (brE (decide (r_N>63))
 (some 3)
 (some 0))
 (some 3)))))
 (brE (z7 q16t)
 (some 1)
 (brE (z8 r_N)
 (brE (decide (r_N>63))
 (some 3)
 (some 0))
 (some 3)))))
 (brE ((r_Kind==3)==true)
 ((za q16n).bind fun r2 =>
 (brE (!r2)
 (some 10)
 (brE (z7 q16t)
 (some 1)
 (brE (z8 r_N)
 (brE (decide (r_N>63))
 (some 3)
 (some 0))
 (some 3)))))
 (brE (z7 q16t)
 (some 1)
 (brE (z8 r_N)
 (brE (decide (r_N>63))
 (some 3)
 (some 0))
 (some 3)))))
 (some 5))
 (brE ((r_Act != 6)==true)
 (brE (r_N != 0)
 (some 5)
 (brE ((r_Kind==3)==true)
 ((za q16n).bind fun r2 =>
 (brE (!r2)
 (some 10)
 (brE (z7 q16t)
 (some 1)
 (brE (z8 r_N)
 (brE (decide (r_N>63))
 (some 3)
 (some 0))
 (some 3)))))
 (brE (z7 q16t)
 (some 1)
 (brE (z8 r_N)
 (brE (decide (r_N>63))
 (some 3)
 (some 0))
 (some 3)))))
 (brE ((r_Kind==3)==true)
 ((za q16n).bind fun r2 =>
 (brE (!r2)
 (some 10)
 (brE (z7 q16t)
 (some 1)
 (brE (z8 r_N)
 (brE (decide (r_N>63))
 (some 3)
 (some 0))
 (some 3)))))
 (brE (z7 q16t)
 (some 1)
 (brE (z8 r_N)
 (brE (decide (r_N>63))
 (some 3)
 (some 0))
 (some 3)))))))
 (brE ((r_Kind==3)==true)
 ((za q16n).bind fun r1 =>
 (brE (!r1)
 (some 10)
 (brE (z7 q16t)
 (some 1)
 (brE (z8 r_N)
 (brE (decide (r_N>63))
 (some 3)
 (some 0))
 (some 3)))))
 (brE (z7 q16t)
 (some 1)
 (brE (z8 r_N)
 (brE (decide (r_N>63))
 (some 3)
 (some 0))
 (some 3))))))
 (some 4))
 (brE ((r_Kind==2)==true)
 ((qzn r_Act).bind fun r1 =>
 (brE ((!r1)==true)
 (brE (zb q16t)
 (brE ((r_Act != 6)==true)
 (brE (r_N != 0)
 (some 5)
 (brE ((r_Kind==3)==true)
 ((za q16n).bind fun r2 =>
 (brE (!r2)
 (some 10)
 (brE (z7 q16t)
 (some 1)
 (brE (z8 r_N)
 (brE (decide (r_N>63))
 (some 3)
 (some 0))
 (some 3)))))
 (brE (z7 q16t)
 (some 1)
 (brE (z8 r_N)
 (brE (decide (r_N>63))
 (some 3)
 (some 0))
 (some 3)))))
 (brE ((r_Kind==3)==true)
 ((za q16n).bind fun r2 =>
 (brE (!r2)
 (some 10)
 (brE (z7 q16t)
 (some 1)
 (brE (z8 r_N)
 (brE (decide (r_N>63))
 (some 3)
 (some 0))
 (some 3)))))
 (brE (z7 q16t)
 (some 1)
 (brE (z8 r_N)
 (brE (decide (r_N>63))
 (some 3)
 (some 0))
 (some 3)))))
 (some 5))
 (brE ((r_Act != 6)==true)
 (brE (r_N != 0)
 (some 5)
 (brE ((r_Kind==3)==true)
 ((za q16n).bind fun r2 =>
 (brE (!r2)
 (some 10)
 (brE (z7 q16t)
 (some 1)
 (brE (z8 r_N)
 (brE (decide (r_N>63))
 (some 3)
 (some 0))
 (some 3)))))
 (brE (z7 q16t)
 (some 1)
 (brE (z8 r_N)
 (brE (decide (r_N>63))
 (some 3)
 (some 0))
 (some 3)))))
 (brE ((r_Kind==3)==true)
 ((za q16n).bind fun r2 =>
 (brE (!r2)
 (some 10)
 (brE (z7 q16t)
 (some 1)
 (brE (z8 r_N)
 (brE (decide (r_N>63))
 (some 3)
 (some 0))
 (some 3)))))
 (brE (z7 q16t)
 (some 1)
 (brE (z8 r_N)
 (brE (decide (r_N>63))
 (some 3)
 (some 0))
 (some 3)))))))
 (brE ((r_Kind==3)==true)
 ((za q16n).bind fun r1 =>
 (brE (!r1)
 (some 10)
 (brE (z7 q16t)
 (some 1)
 (brE (z8 r_N)
 (brE (decide (r_N>63))
 (some 3)
 (some 0))
 (some 3)))))
 (brE (z7 q16t)
 (some 1)
 (brE (z8 r_N)
 (brE (decide (r_N>63))
 (some 3)
 (some 0))
 (some 3)))))))
 (some 5))
 (brE ((r_Kind==4)==true)
 (brE (!(q16t.toList==(ByteArray.toList ⟨#[]⟩)))
 (some 5)
 (brE ((r_Kind==2)==true)
 (brE (zd r_Act)
 (brE (decide (r_Act>7))
 (some 4)
 (brE ((r_Kind==2)==true)
 ((qzn r_Act).bind fun r1 =>
 (brE ((!r1)==true)
 (brE (zb q16t)
 (brE ((r_Act != 6)==true)
 (brE (r_N != 0)
 (some 5)
 (brE ((r_Kind==3)==true)
 ((za q16n).bind fun r2 =>
 (brE (!r2)
 (some 10)
 (brE (z7 q16t)
 (some 1)
 (brE (z8 r_N)
 (brE (decide (r_N>63))
 (some 3)
 (some 0))
 (some 3)))))
 (brE (z7 q16t)
 (some 1)
 (brE (z8 r_N)
 (brE (decide (r_N>63))
 (some 3)
 (some 0))
 (some 3)))))
 (brE ((r_Kind==3)==true)
 ((za q16n).bind fun r2 =>
 (brE (!r2)
 (some 10)
 (brE (z7 q16t)
 (some 1)
 (brE (z8 r_N)
 (brE (decide (r_N>63))
 (some 3)
 (some 0))
 (some 3)))))
 (brE (z7 q16t)
 (some 1)
 (brE (z8 r_N)
 (brE (decide (r_N>63))
 (some 3)
 (some 0))
 (some 3)))))
 (some 5))
 (brE ((r_Act != 6)==true)
 (brE (r_N != 0)
 (some 5)
 (brE ((r_Kind==3)==true)
 ((za q16n).bind fun r2 =>
 (brE (!r2)
 (some 10)
 (brE (z7 q16t)
 (some 1)
 (brE (z8 r_N)
 (brE (decide (r_N>63))
 (some 3)
 (some 0))
 (some 3)))))
 (brE (z7 q16t)
 (some 1)
 (brE (z8 r_N)
 (brE (decide (r_N>63))
 (some 3)
 (some 0))
 (some 3)))))
 (brE ((r_Kind==3)==true)
 ((za q16n).bind fun r2 =>
 (brE (!r2)
 (some 10)
 (brE (z7 q16t)
 (some 1)
 (brE (z8 r_N)
 (brE (decide (r_N>63))
 (some 3)
 (some 0))
 (some 3)))))
 (brE (z7 q16t)
 (some 1)
 (brE (z8 r_N)
 (brE (decide (r_N>63))
 (some 3)
 (some 0))
 (some 3)))))))
 (brE ((r_Kind==3)==true)
 ((za q16n).bind fun r1 =>
 (brE (!r1)
 (some 10)
 (brE (z7 q16t)
 (some 1)
 (brE (z8 r_N)
 (brE (decide (r_N>63))
 (some 3)
 (some 0))
 (some 3)))))
 (brE (z7 q16t)
 (some 1)
 (brE (z8 r_N)
 (brE (decide (r_N>63))
 (some 3)
 (some 0))
 (some 3))))))
 (some 4))
 (brE ((r_Kind==2)==true)
 ((qzn r_Act).bind fun r1 =>
 (brE ((!r1)==true)
 (brE (zb q16t)
 (brE ((r_Act != 6)==true)
 (brE (r_N != 0)
 (some 5)
 (brE ((r_Kind==3)==true)
 ((za q16n).bind fun r2 =>
 (brE (!r2)
 (some 10)
 (brE (z7 q16t)
 (some 1)
 (brE (z8 r_N)
 (brE (decide (r_N>63))
 (some 3)
 (some 0))
 (some 3)))))
 (brE (z7 q16t)
 (some 1)
 (brE (z8 r_N)
 (brE (decide (r_N>63))
 (some 3)
 (some 0))
 (some 3)))))
 (brE ((r_Kind==3)==true)
 ((za q16n).bind fun r2 =>
 (brE (!r2)
 (some 10)
 (brE (z7 q16t)
 (some 1)
 (brE (z8 r_N)
 (brE (decide (r_N>63))
 (some 3)
 (some 0))
 (some 3)))))
 (brE (z7 q16t)
 (some 1)
 (brE (z8 r_N)
 (brE (decide (r_N>63))
 (some 3)
 (some 0))
 (some 3)))))
 (some 5))
 (brE ((r_Act != 6)==true)
 (brE (r_N != 0)
 (some 5)
 (brE ((r_Kind==3)==true)
 ((za q16n).bind fun r2 =>
 (brE (!r2)
 (some 10)
 (brE (z7 q16t)
 (some 1)
 (brE (z8 r_N)
 (brE (decide (r_N>63))
 (some 3)
 (some 0))
 (some 3)))))
 (brE (z7 q16t)
 (some 1)
 (brE (z8 r_N)
 (brE (decide (r_N>63))
 (some 3)
 (some 0))
 (some 3)))))
 (brE ((r_Kind==3)==true)
 ((za q16n).bind fun r2 =>
 (brE (!r2)
 (some 10)
 (brE (z7 q16t)
 (some 1)
 (brE (z8 r_N)
 (brE (decide (r_N>63))
 (some 3)
 (some 0))
 (some 3)))))
 (brE (z7 q16t)
 (some 1)
 (brE (z8 r_N)
 (brE (decide (r_N>63))
 (some 3)
 (some 0))
 (some 3)))))))
 (brE ((r_Kind==3)==true)
 ((za q16n).bind fun r1 =>
 (brE (!r1)
 (some 10)
 (brE (z7 q16t)
 (some 1)
 (brE (z8 r_N)
 (brE (decide (r_N>63))
 (some 3)
 (some 0))
 (some 3)))))
 (brE (z7 q16t)
 (some 1)
 (brE (z8 r_N)
 (brE (decide (r_N>63))
 (some 3)
 (some 0))
 (some 3)))))))
 (brE ((r_Kind==2)==true)
 (brE (zd r_Act)
 (brE (decide (r_Act>7))
 (some 4)
 (brE ((r_Kind==2)==true)
 ((qzn r_Act).bind fun r1 =>
 (brE ((!r1)==true)
 (brE (zb q16t)
 (brE ((r_Act != 6)==true)
 (brE (r_N != 0)
 (some 5)
 (brE ((r_Kind==3)==true)
 ((za q16n).bind fun r2 =>
 (brE (!r2)
 (some 10)
 (brE (z7 q16t)
 (some 1)
 (brE (z8 r_N)
 (brE (decide (r_N>63))
 (some 3)
 (some 0))
 (some 3)))))
 (brE (z7 q16t)
 (some 1)
 (brE (z8 r_N)
 (brE (decide (r_N>63))
 (some 3)
 (some 0))
 (some 3)))))
 (brE ((r_Kind==3)==true)
 ((za q16n).bind fun r2 =>
 (brE (!r2)
 (some 10)
 (brE (z7 q16t)
 (some 1)
 (brE (z8 r_N)
 (brE (decide (r_N>63))
 (some 3)
 (some 0))
 (some 3)))))
 (brE (z7 q16t)
 (some 1)
 (brE (z8 r_N)
 (brE (decide (r_N>63))
 (some 3)
 (some 0))
 (some 3)))))
 (some 5))
 (brE ((r_Act != 6)==true)
 (brE (r_N != 0)
 (some 5)
 (brE ((r_Kind==3)==true)
 ((za q16n).bind fun r2 =>
 (brE (!r2)
 (some 10)
 (brE (z7 q16t)
 (some 1)
 (brE (z8 r_N)
 (brE (decide (r_N>63))
 (some 3)
 (some 0))
 (some 3)))))
 (brE (z7 q16t)
 (some 1)
 (brE (z8 r_N)
 (brE (decide (r_N>63))
 (some 3)
 (some 0))
 (some 3)))))
 (brE ((r_Kind==3)==true)
 ((za q16n).bind fun r2 =>
 (brE (!r2)
 (some 10)
 (brE (z7 q16t)
 (some 1)
 (brE (z8 r_N)
 (brE (decide (r_N>63))
 (some 3)
 (some 0))
 (some 3)))))
 (brE (z7 q16t)
 (some 1)
 (brE (z8 r_N)
 (brE (decide (r_N>63))
 (some 3)
 (some 0))
 (some 3)))))))
 (brE ((r_Kind==3)==true)
 ((za q16n).bind fun r1 =>
 (brE (!r1)
 (some 10)
 (brE (z7 q16t)
 (some 1)
 (brE (z8 r_N)
 (brE (decide (r_N>63))
 (some 3)
 (some 0))
 (some 3)))))
 (brE (z7 q16t)
 (some 1)
 (brE (z8 r_N)
 (brE (decide (r_N>63))
 (some 3)
 (some 0))
 (some 3))))))
 (some 4))
 (brE ((r_Kind==2)==true)
 ((qzn r_Act).bind fun r1 =>
 (brE ((!r1)==true)
 (brE (zb q16t)
 (brE ((r_Act != 6)==true)
 (brE (r_N != 0)
 (some 5)
 (brE ((r_Kind==3)==true)
 ((za q16n).bind fun r2 =>
 (brE (!r2)
 (some 10)
 (brE (z7 q16t)
 (some 1)
 (brE (z8 r_N)
 (brE (decide (r_N>63))
 (some 3)
 (some 0))
 (some 3)))))
 (brE (z7 q16t)
 (some 1)
 (brE (z8 r_N)
 (brE (decide (r_N>63))
 (some 3)
 (some 0))
 (some 3)))))
 (brE ((r_Kind==3)==true)
 ((za q16n).bind fun r2 =>
 (brE (!r2)
 (some 10)
 (brE (z7 q16t)
 (some 1)
 (brE (z8 r_N)
 (brE (decide (r_N>63))
 (some 3)
 (some 0))
 (some 3)))))
 (brE (z7 q16t)
 (some 1)
 (brE (z8 r_N)
 (brE (decide (r_N>63))
 (some 3)
 (some 0))
 (some 3)))))
 (some 5))
 (brE ((r_Act != 6)==true)
 (brE (r_N != 0)
 (some 5)
 (brE ((r_Kind==3)==true)
 ((za q16n).bind fun r2 =>
 (brE (!r2)
 (some 10)
 (brE (z7 q16t)
 (some 1)
 (brE (z8 r_N)
 (brE (decide (r_N>63))
 (some 3)
 (some 0))
 (some 3)))))
 (brE (z7 q16t)
 (some 1)
 (brE (z8 r_N)
 (brE (decide (r_N>63))
 (some 3)
 (some 0))
 (some 3)))))
 (brE ((r_Kind==3)==true)
 ((za q16n).bind fun r2 =>
 (brE (!r2)
 (some 10)
 (brE (z7 q16t)
 (some 1)
 (brE (z8 r_N)
 (brE (decide (r_N>63))
 (some 3)
 (some 0))
 (some 3)))))
 (brE (z7 q16t)
 (some 1)
 (brE (z8 r_N)
 (brE (decide (r_N>63))
 (some 3)
 (some 0))
 (some 3)))))))
 (brE ((r_Kind==3)==true)
 ((za q16n).bind fun r1 =>
 (brE (!r1)
 (some 10)
 (brE (z7 q16t)
 (some 1)
 (brE (z8 r_N)
 (brE (decide (r_N>63))
 (some 3)
 (some 0))
 (some 3)))))
 (brE (z7 q16t)
 (some 1)
 (brE (z8 r_N)
 (brE (decide (r_N>63))
 (some 3)
 (some 0))
 (some 3))))))))
 (some 5))
 (some 5))
 (brE ((r_Kind != 3)==true)
 (brE ((!(q16n.toList==(ByteArray.toList ⟨#[]⟩)))==false)
 (brE ((r_Kind==4)==true)
 (brE (!(q16t.toList==(ByteArray.toList ⟨#[]⟩)))
 (some 5)
 (brE ((r_Kind==2)==true)
 (brE (zd r_Act)
 (brE (decide (r_Act>7))
 (some 4)
 (brE ((r_Kind==2)==true)
 ((qzn r_Act).bind fun r1 =>
 (brE ((!r1)==true)
 (brE (zb q16t)
 (brE ((r_Act != 6)==true)
 (brE (r_N != 0)
 (some 5)
 (brE ((r_Kind==3)==true)
 ((za q16n).bind fun r2 =>
 (brE (!r2)
 (some 10)
 (brE (z7 q16t)
 (some 1)
 (brE (z8 r_N)
 (brE (decide (r_N>63))
 (some 3)
 (some 0))
 (some 3)))))
 (brE (z7 q16t)
 (some 1)
 (brE (z8 r_N)
 (brE (decide (r_N>63))
 (some 3)
 (some 0))
 (some 3)))))
 (brE ((r_Kind==3)==true)
 ((za q16n).bind fun r2 =>
 (brE (!r2)
 (some 10)
 (brE (z7 q16t)
 (some 1)
 (brE (z8 r_N)
 (brE (decide (r_N>63))
 (some 3)
 (some 0))
 (some 3)))))
 (brE (z7 q16t)
 (some 1)
 (brE (z8 r_N)
 (brE (decide (r_N>63))
 (some 3)
 (some 0))
 (some 3)))))
 (some 5))
 (brE ((r_Act != 6)==true)
 (brE (r_N != 0)
 (some 5)
 (brE ((r_Kind==3)==true)
 ((za q16n).bind fun r2 =>
 (brE (!r2)
 (some 10)
 (brE (z7 q16t)
 (some 1)
 (brE (z8 r_N)
 (brE (decide (r_N>63))
 (some 3)
 (some 0))
 (some 3)))))
 (brE (z7 q16t)
 (some 1)
 (brE (z8 r_N)
 (brE (decide (r_N>63))
 (some 3)
 (some 0))
 (some 3)))))
 (brE ((r_Kind==3)==true)
 ((za q16n).bind fun r2 =>
 (brE (!r2)
 (some 10)
 (brE (z7 q16t)
 (some 1)
 (brE (z8 r_N)
 (brE (decide (r_N>63))
 (some 3)
 (some 0))
 (some 3)))))
 (brE (z7 q16t)
 (some 1)
 (brE (z8 r_N)
 (brE (decide (r_N>63))
 (some 3)
 (some 0))
 (some 3)))))))
 (brE ((r_Kind==3)==true)
 ((za q16n).bind fun r1 =>
 (brE (!r1)
 (some 10)
 (brE (z7 q16t)
 (some 1)
 (brE (z8 r_N)
 (brE (decide (r_N>63))
 (some 3)
 (some 0))
 (some 3)))))
 (brE (z7 q16t)
 (some 1)
 (brE (z8 r_N)
 (brE (decide (r_N>63))
 (some 3)
 (some 0))
 (some 3))))))
 (some 4))
 (brE ((r_Kind==2)==true)
 ((qzn r_Act).bind fun r1 =>
 (brE ((!r1)==true)
 (brE (zb q16t)
 (brE ((r_Act != 6)==true)
 (brE (r_N != 0)
 (some 5)
 (brE ((r_Kind==3)==true)
 ((za q16n).bind fun r2 =>
 (brE (!r2)
 (some 10)
 (brE (z7 q16t)
 (some 1)
 (brE (z8 r_N)
 (brE (decide (r_N>63))
 (some 3)
 (some 0))
 (some 3)))))
 (brE (z7 q16t)
 (some 1)
 (brE (z8 r_N)
 (brE (decide (r_N>63))
 (some 3)
 (some 0))
 (some 3)))))
 (brE ((r_Kind==3)==true)
 ((za q16n).bind fun r2 =>
 (brE (!r2)
 (some 10)
 (brE (z7 q16t)
 (some 1)
 (brE (z8 r_N)
 (brE (decide (r_N>63))
 (some 3)
 (some 0))
 (some 3)))))
 (brE (z7 q16t)
 (some 1)
 (brE (z8 r_N)
 (brE (decide (r_N>63))
 (some 3)
 (some 0))
 (some 3)))))
 (some 5))
 (brE ((r_Act != 6)==true)
 (brE (r_N != 0)
 (some 5)
 (brE ((r_Kind==3)==true)
 ((za q16n).bind fun r2 =>
 (brE (!r2)
 (some 10)
 (brE (z7 q16t)
 (some 1)
 (brE (z8 r_N)
 (brE (decide (r_N>63))
 (some 3)
 (some 0))
 (some 3)))))
 (brE (z7 q16t)
 (some 1)
 (brE (z8 r_N)
 (brE (decide (r_N>63))
 (some 3)
 (some 0))
 (some 3)))))
 (brE ((r_Kind==3)==true)
 ((za q16n).bind fun r2 =>
 (brE (!r2)
 (some 10)
 (brE (z7 q16t)
 (some 1)
 (brE (z8 r_N)
 (brE (decide (r_N>63))
 (some 3)
 (some 0))
 (some 3)))))
 (brE (z7 q16t)
 (some 1)
 (brE (z8 r_N)
 (brE (decide (r_N>63))
 (some 3)
 (some 0))
 (some 3)))))))
 (brE ((r_Kind==3)==true)
 ((za q16n).bind fun r1 =>
 (brE (!r1)
 (some 10)
 (brE (z7 q16t)
 (some 1)
 (brE (z8 r_N)
 (brE (decide (r_N>63))
 (some 3)
 (some 0))
 (some 3)))))
 (brE (z7 q16t)
 (some 1)
 (brE (z8 r_N)
 (brE (decide (r_N>63))
 (some 3)
 (some 0))
 (some 3)))))))
 (brE ((r_Kind==2)==true)
 (brE (zd r_Act)
 (brE (decide (r_Act>7))
 (some 4)
 (brE ((r_Kind==2)==true)
 ((qzn r_Act).bind fun r1 =>
 (brE ((!r1)==true)
 (brE (zb q16t)
 (brE ((r_Act != 6)==true)
 (brE (r_N != 0)
 (some 5)
 (brE ((r_Kind==3)==true)
 ((za q16n).bind fun r2 =>
 (brE (!r2)
 (some 10)
 (brE (z7 q16t)
 (some 1)
 (brE (z8 r_N)
 (brE (decide (r_N>63))
 (some 3)
 (some 0))
 (some 3)))))
 (brE (z7 q16t)
 (some 1)
 (brE (z8 r_N)
 (brE (decide (r_N>63))
 (some 3)
 (some 0))
 (some 3)))))
 (brE ((r_Kind==3)==true)
 ((za q16n).bind fun r2 =>
 (brE (!r2)
 (some 10)
 (brE (z7 q16t)
 (some 1)
 (brE (z8 r_N)
 (brE (decide (r_N>63))
 (some 3)
 (some 0))
 (some 3)))))
 (brE (z7 q16t)
 (some 1)
 (brE (z8 r_N)
 (brE (decide (r_N>63))
 (some 3)
 (some 0))
 (some 3)))))
 (some 5))
 (brE ((r_Act != 6)==true)
 (brE (r_N != 0)
 (some 5)
 (brE ((r_Kind==3)==true)
 ((za q16n).bind fun r2 =>
 (brE (!r2)
 (some 10)
 (brE (z7 q16t)
 (some 1)
 (brE (z8 r_N)
 (brE (decide (r_N>63))
 (some 3)
 (some 0))
 (some 3)))))
 (brE (z7 q16t)
 (some 1)
 (brE (z8 r_N)
 (brE (decide (r_N>63))
 (some 3)
 (some 0))
 (some 3)))))
 (brE ((r_Kind==3)==true)
 ((za q16n).bind fun r2 =>
 (brE (!r2)
 (some 10)
 (brE (z7 q16t)
 (some 1)
 (brE (z8 r_N)
 (brE (decide (r_N>63))
 (some 3)
 (some 0))
 (some 3)))))
 (brE (z7 q16t)
 (some 1)
 (brE (z8 r_N)
 (brE (decide (r_N>63))
 (some 3)
 (some 0))
 (some 3)))))))
 (brE ((r_Kind==3)==true)
 ((za q16n).bind fun r1 =>
 (brE (!r1)
 (some 10)
 (brE (z7 q16t)
 (some 1)
 (brE (z8 r_N)
 (brE (decide (r_N>63))
 (some 3)
 (some 0))
 (some 3)))))
 (brE (z7 q16t)
 (some 1)
 (brE (z8 r_N)
 (brE (decide (r_N>63))
 (some 3)
 (some 0))
 (some 3))))))
 (some 4))
 (brE ((r_Kind==2)==true)
 ((qzn r_Act).bind fun r1 =>
 (brE ((!r1)==true)
 (brE (zb q16t)
 (brE ((r_Act != 6)==true)
 (brE (r_N != 0)
 (some 5)
 (brE ((r_Kind==3)==true)
 ((za q16n).bind fun r2 =>
 (brE (!r2)
 (some 10)
 (brE (z7 q16t)
 (some 1)
 (brE (z8 r_N)
 (brE (decide (r_N>63))
 (some 3)
 (some 0))
 (some 3)))))
 (brE (z7 q16t)
 (some 1)
 (brE (z8 r_N)
 (brE (decide (r_N>63))
 (some 3)
 (some 0))
 (some 3)))))
 (brE ((r_Kind==3)==true)
 ((za q16n).bind fun r2 =>
 (brE (!r2)
 (some 10)
 (brE (z7 q16t)
 (some 1)
 (brE (z8 r_N)
 (brE (decide (r_N>63))
 (some 3)
 (some 0))
 (some 3)))))
 (brE (z7 q16t)
 (some 1)
 (brE (z8 r_N)
 (brE (decide (r_N>63))
 (some 3)
 (some 0))
 (some 3)))))
 (some 5))
 (brE ((r_Act != 6)==true)
 (brE (r_N != 0)
 (some 5)
 (brE ((r_Kind==3)==true)
 ((za q16n).bind fun r2 =>
 (brE (!r2)
 (some 10)
 (brE (z7 q16t)
 (some 1)
 (brE (z8 r_N)
 (brE (decide (r_N>63))
 (some 3)
 (some 0))
 (some 3)))))
 (brE (z7 q16t)
 (some 1)
 (brE (z8 r_N)
 (brE (decide (r_N>63))
 (some 3)
 (some 0))
 (some 3)))))
 (brE ((r_Kind==3)==true)
 ((za q16n).bind fun r2 =>
 (brE (!r2)
 (some 10)
 (brE (z7 q16t)
 (some 1)
 (brE (z8 r_N)
 (brE (decide (r_N>63))
 (some 3)
 (some 0))
 (some 3)))))
 (brE (z7 q16t)
 (some 1)
 (brE (z8 r_N)
 (brE (decide (r_N>63))
 (some 3)
 (some 0))
 (some 3)))))))
 (brE ((r_Kind==3)==true)
 ((za q16n).bind fun r1 =>
 (brE (!r1)
 (some 10)
 (brE (z7 q16t)
 (some 1)
 (brE (z8 r_N)
 (brE (decide (r_N>63))
 (some 3)
 (some 0))
 (some 3)))))
 (brE (z7 q16t)
 (some 1)
 (brE (z8 r_N)
 (brE (decide (r_N>63))
 (some 3)
 (some 0))
 (some 3)))))))
 (some 5))
 (brE ((r_Kind==4)==true)
 (brE (!(q16t.toList==(ByteArray.toList ⟨#[]⟩)))
 (some 5)
 (brE ((r_Kind==2)==true)
 (brE (zd r_Act)
 (brE (decide (r_Act>7))
 (some 4)
 (brE ((r_Kind==2)==true)
 ((qzn r_Act).bind fun r1 =>
 (brE ((!r1)==true)
 (brE (zb q16t)
 (brE ((r_Act != 6)==true)
 (brE (r_N != 0)
 (some 5)
 (brE ((r_Kind==3)==true)
 ((za q16n).bind fun r2 =>
 (brE (!r2)
 (some 10)
 (brE (z7 q16t)
 (some 1)
 (brE (z8 r_N)
 (brE (decide (r_N>63))
 (some 3)
 (some 0))
 (some 3)))))
 (brE (z7 q16t)
 (some 1)
 (brE (z8 r_N)
 (brE (decide (r_N>63))
 (some 3)
 (some 0))
 (some 3)))))
 (brE ((r_Kind==3)==true)
 ((za q16n).bind fun r2 =>
 (brE (!r2)
 (some 10)
 (brE (z7 q16t)
 (some 1)
 (brE (z8 r_N)
 (brE (decide (r_N>63))
 (some 3)
 (some 0))
 (some 3)))))
 (brE (z7 q16t)
 (some 1)
 (brE (z8 r_N)
 (brE (decide (r_N>63))
 (some 3)
 (some 0))
 (some 3)))))
 (some 5))
 (brE ((r_Act != 6)==true)
 (brE (r_N != 0)
 (some 5)
 (brE ((r_Kind==3)==true)
 ((za q16n).bind fun r2 =>
 (brE (!r2)
 (some 10)
 (brE (z7 q16t)
 (some 1)
 (brE (z8 r_N)
 (brE (decide (r_N>63))
 (some 3)
 (some 0))
 (some 3)))))
 (brE (z7 q16t)
 (some 1)
 (brE (z8 r_N)
 (brE (decide (r_N>63))
 (some 3)
 (some 0))
 (some 3)))))
 (brE ((r_Kind==3)==true)
 ((za q16n).bind fun r2 =>
 (brE (!r2)
 (some 10)
 (brE (z7 q16t)
 (some 1)
 (brE (z8 r_N)
 (brE (decide (r_N>63))
 (some 3)
 (some 0))
 (some 3)))))
 (brE (z7 q16t)
 (some 1)
 (brE (z8 r_N)
 (brE (decide (r_N>63))
 (some 3)
 (some 0))
 (some 3)))))))
 (brE ((r_Kind==3)==true)
 ((za q16n).bind fun r1 =>
 (brE (!r1)
 (some 10)
 (brE (z7 q16t)
 (some 1)
 (brE (z8 r_N)
 (brE (decide (r_N>63))
 (some 3)
 (some 0))
 (some 3)))))
 (brE (z7 q16t)
 (some 1)
 (brE (z8 r_N)
 (brE (decide (r_N>63))
 (some 3)
 (some 0))
 (some 3))))))
 (some 4))
 (brE ((r_Kind==2)==true)
 ((qzn r_Act).bind fun r1 =>
 (brE ((!r1)==true)
 (brE (zb q16t)
 (brE ((r_Act != 6)==true)
 (brE (r_N != 0)
 (some 5)
 (brE ((r_Kind==3)==true)
 ((za q16n).bind fun r2 =>
 (brE (!r2)
 (some 10)
 (brE (z7 q16t)
 (some 1)
 (brE (z8 r_N)
 (brE (decide (r_N>63))
 (some 3)
 (some 0))
 (some 3)))))
 (brE (z7 q16t)
 (some 1)
 (brE (z8 r_N)
 (brE (decide (r_N>63))
 (some 3)
 (some 0))
 (some 3)))))
 (brE ((r_Kind==3)==true)
 ((za q16n).bind fun r2 =>
 (brE (!r2)
 (some 10)
 (brE (z7 q16t)
 (some 1)
 (brE (z8 r_N)
 (brE (decide (r_N>63))
 (some 3)
 (some 0))
 (some 3)))))
 (brE (z7 q16t)
 (some 1)
 (brE (z8 r_N)
 (brE (decide (r_N>63))
 (some 3)
 (some 0))
 (some 3)))))
 (some 5))
 (brE ((r_Act != 6)==true)
 (brE (r_N != 0)
 (some 5)
 (brE ((r_Kind==3)==true)
 ((za q16n).bind fun r2 =>
 (brE (!r2)
 (some 10)
 (brE (z7 q16t)
 (some 1)
 (brE (z8 r_N)
 (brE (decide (r_N>63))
 (some 3)
 (some 0))
 (some 3)))))
 (brE (z7 q16t)
 (some 1)
 (brE (z8 r_N)
 (brE (decide (r_N>63))
 (some 3)
 (some 0))
 (some 3)))))
 (brE ((r_Kind==3)==true)
 ((za q16n).bind fun r2 =>
 (brE (!r2)
 (some 10)
 (brE (z7 q16t)
 (some 1)
 (brE (z8 r_N)
 (brE (decide (r_N>63))
 (some 3)
 (some 0))
 (some 3)))))
 (brE (z7 q16t)
 (some 1)
 (brE (z8 r_N)
 (brE (decide (r_N>63))
 (some 3)
 (some 0))
 (some 3)))))))
 (brE ((r_Kind==3)==true)
 ((za q16n).bind fun r1 =>
 (brE (!r1)
 (some 10)
 (brE (z7 q16t)
 (some 1)
 (brE (z8 r_N)
 (brE (decide (r_N>63))
 (some 3)
 (some 0))
 (some 3)))))
 (brE (z7 q16t)
 (some 1)
 (brE (z8 r_N)
 (brE (decide (r_N>63))
 (some 3)
 (some 0))
 (some 3)))))))
 (brE ((r_Kind==2)==true)
 (brE (zd r_Act)
 (brE (decide (r_Act>7))
 (some 4)
 (brE ((r_Kind==2)==true)
 ((qzn r_Act).bind fun r1 =>
 (brE ((!r1)==true)
 (brE (zb q16t)
 (brE ((r_Act != 6)==true)
 (brE (r_N != 0)
 (some 5)
 (brE ((r_Kind==3)==true)
 ((za q16n).bind fun r2 =>
 (brE (!r2)
 (some 10)
 (brE (z7 q16t)
 (some 1)
 (brE (z8 r_N)
 (brE (decide (r_N>63))
 (some 3)
 (some 0))
 (some 3)))))
 (brE (z7 q16t)
 (some 1)
 (brE (z8 r_N)
 (brE (decide (r_N>63))
 (some 3)
 (some 0))
 (some 3)))))
 (brE ((r_Kind==3)==true)
 ((za q16n).bind fun r2 =>
 (brE (!r2)
 (some 10)
 (brE (z7 q16t)
 (some 1)
 (brE (z8 r_N)
 (brE (decide (r_N>63))
 (some 3)
 (some 0))
 (some 3)))))
 (brE (z7 q16t)
 (some 1)
 (brE (z8 r_N)
 (brE (decide (r_N>63))
 (some 3)
 (some 0))
 (some 3)))))
 (some 5))
 (brE ((r_Act != 6)==true)
 (brE (r_N != 0)
 (some 5)
 (brE ((r_Kind==3)==true)
 ((za q16n).bind fun r2 =>
 (brE (!r2)
 (some 10)
 (brE (z7 q16t)
 (some 1)
 (brE (z8 r_N)
 (brE (decide (r_N>63))
 (some 3)
 (some 0))
 (some 3)))))
 (brE (z7 q16t)
 (some 1)
 (brE (z8 r_N)
 (brE (decide (r_N>63))
 (some 3)
 (some 0))
 (some 3)))))
 (brE ((r_Kind==3)==true)
 ((za q16n).bind fun r2 =>
 (brE (!r2)
 (some 10)
 (brE (z7 q16t)
 (some 1)
 (brE (z8 r_N)
 (brE (decide (r_N>63))
 (some 3)
 (some 0))
 (some 3)))))
 (brE (z7 q16t)
 (some 1)
 (brE (z8 r_N)
 (brE (decide (r_N>63))
 (some 3)
 (some 0))
 (some 3)))))))
 (brE ((r_Kind==3)==true)
 ((za q16n).bind fun r1 =>
 (brE (!r1)
 (some 10)
 (brE (z7 q16t)
 (some 1)
 (brE (z8 r_N)
 (brE (decide (r_N>63))
 (some 3)
 (some 0))
 (some 3)))))
 (brE (z7 q16t)
 (some 1)
 (brE (z8 r_N)
 (brE (decide (r_N>63))
 (some 3)
 (some 0))
 (some 3))))))
 (some 4))
 (brE ((r_Kind==2)==true)
 ((qzn r_Act).bind fun r1 =>
 (brE ((!r1)==true)
 (brE (zb q16t)
 (brE ((r_Act != 6)==true)
 (brE (r_N != 0)
 (some 5)
 (brE ((r_Kind==3)==true)
 ((za q16n).bind fun r2 =>
 (brE (!r2)
 (some 10)
 (brE (z7 q16t)
 (some 1)
 (brE (z8 r_N)
 (brE (decide (r_N>63))
 (some 3)
 (some 0))
 (some 3)))))
 (brE (z7 q16t)
 (some 1)
 (brE (z8 r_N)
 (brE (decide (r_N>63))
 (some 3)
 (some 0))
 (some 3)))))
 (brE ((r_Kind==3)==true)
 ((za q16n).bind fun r2 =>
 (brE (!r2)
 (some 10)
 (brE (z7 q16t)
 (some 1)
 (brE (z8 r_N)
 (brE (decide (r_N>63))
 (some 3)
 (some 0))
 (some 3)))))
 (brE (z7 q16t)
 (some 1)
 (brE (z8 r_N)
 (brE (decide (r_N>63))
 (some 3)
 (some 0))
 (some 3)))))
 (some 5))
 (brE ((r_Act != 6)==true)
 (brE (r_N != 0)
 (some 5)
 (brE ((r_Kind==3)==true)
 ((za q16n).bind fun r2 =>
 (brE (!r2)
 (some 10)
 (brE (z7 q16t)
 (some 1)
 (brE (z8 r_N)
 (brE (decide (r_N>63))
 (some 3)
 (some 0))
 (some 3)))))
 (brE (z7 q16t)
 (some 1)
 (brE (z8 r_N)
 (brE (decide (r_N>63))
 (some 3)
 (some 0))
 (some 3)))))
 (brE ((r_Kind==3)==true)
 ((za q16n).bind fun r2 =>
 (brE (!r2)
 (some 10)
 (brE (z7 q16t)
 (some 1)
 (brE (z8 r_N)
 (brE (decide (r_N>63))
 (some 3)
 (some 0))
 (some 3)))))
 (brE (z7 q16t)
 (some 1)
 (brE (z8 r_N)
 (brE (decide (r_N>63))
 (some 3)
 (some 0))
 (some 3)))))))
 (brE ((r_Kind==3)==true)
 ((za q16n).bind fun r1 =>
 (brE (!r1)
 (some 10)
 (brE (z7 q16t)
 (some 1)
 (brE (z8 r_N)
 (brE (decide (r_N>63))
 (some 3)
 (some 0))
 (some 3)))))
 (brE (z7 q16t)
 (some 1)
 (brE (z8 r_N)
 (brE (decide (r_N>63))
 (some 3)
 (some 0))
 (some 3)))))))))
 (some 5))
 (some 5))))
theorem qyp {r_Kind r_Test_Kind q16r q16p q16q q16s q16o r_Then r_Else r_Act q16n q16t r_N r} (h:qyr r_Kind r_Test_Kind q16r q16p q16q q16s q16o r_Then r_Else r_Act q16n q16t r_N=some r):qyq r_Kind r_Test_Kind q16r q16p q16q q16s q16o r_Then r_Else r_Act q16n q16t r_N=some r :=
 q75 (es:=q14q) (hs:=[]) [] Tryz.func50 rfl (by kernel_rfl) rfl (by kernel_rfl) (by kernel_rfl) trivial trivial (by kernel_rfl) h
def qyo:=entS Tryz.prog lv X0 50 [] qym qyn (fun x=>qyq x.1 x.2.1 x.2.2.1 x.2.2.2.1 x.2.2.2.2.1 x.2.2.2.2.2.1 x.2.2.2.2.2.2.1 x.2.2.2.2.2.2.2.1 x.2.2.2.2.2.2.2.2.1 x.2.2.2.2.2.2.2.2.2.1 x.2.2.2.2.2.2.2.2.2.2.1 x.2.2.2.2.2.2.2.2.2.2.2.1 x.2.2.2.2.2.2.2.2.2.2.2.2) (fun _ _ h=>q74 h)
def q14l:=qyo::q14q
def qyy:=(qb7 (vAgg z1d) (qb9 z1c))
def qyz:Cod (V×List B) Int:=(cFstU (cPair z1c qb8))
def qzh (q16u:Int) (q16x:L57) (q16v:BA) (q16w:Int) (q16y:BA) (t_N depth:Int):=fS Tryz.prog lv X0 51 qyy qyz ((q16u,q16x,q16v,q16w,q16y,t_N),depth)
def qz0:=entS Tryz.prog lv X0 51 [] qyy qyz (fun x=>qzh x.1.1 x.1.2.1 x.1.2.2.1 x.1.2.2.2.1 x.1.2.2.2.2.1 x.1.2.2.2.2.2 x.2) (fun _ _ h=>q74 h)
def q14n:=qz0::q14l
def qzf:=sLS [1,105,106,107] (qb7 z1c (qb7 (vC (cSl q5t)) z1e)) qb8 [] [] (by decide) (fun _=>rfl)
def qze:=sLS [1,105,106,107,108] (qb7 z1c (qb7 (vC (cSl q5t)) z1i)) qb8 [] [] (by decide) (fun _=>rfl)
def qzd:=sLS [4] (qb9 z1c) qb8 [] [] (by decide) (fun _=>rfl)
def qzc:=oOr 1 qzd (oAt 3 qze) (fun x=>(by decide:(3:Nat)≠1))
def qz9 (depth:Int) (t105:L57) (t106 t107:Int):=lS Tryz.prog lv X0 51 119 (q8x (cdF Tryz.f51) 19) qzf qzc ((depth,t105,t106,t107),())
abbrev ze (t105:L57) (t107:Int):=(List.getD (EC.encL q5t t105) (Int.toNat t107) [])
def qzg (depth:Int) (t105:L57) (t106 t107:Int):Oq ((Int×Unit)⊕((Int×L57×Int×Int×Bool)×Unit)) :=
 (brE (decide (t107<t106))
 (gdE (p0 t107)<|
 (gdE (eC q5t t105 t107 [(K1.int Go.IntKind.i64),K1.sl,K1.str,(K1.int Go.IntKind.i64),K1.str,(K1.int Go.IntKind.i64)])<|
 (gdE (EC.isL q5t (slOf (List.getD (ze t105 t107) 1 C.ne)))<|
 ((qzh (qa0 (List.getD (ze t105 t107) 0 C.ne)) (uL q5t (List.getD (ze t105 t107) 1 C.ne)) (q135 (List.getD (ze t105 t107) 2 C.ne)) (qa0 (List.getD (ze t105 t107) 3 C.ne)) (q135 (List.getD (ze t105 t107) 4 C.ne)) (qa0 (List.getD (ze t105 t107) 5 C.ne)) (wI depth)).bind fun r0 =>
 (brE (r0 != 0)
 (some (.inl (r0,())))
 (gL q5t t105<|
 (qz9 depth (dL q5t t105) t106 (wI t107))))))))
 (gL q5t t105<|
 (some (.inr ((depth,((dL q5t t105),(t106,(t107,false)))),())))))
theorem qzb {depth t105 t106 t107 r} (h:qzg depth t105 t106 t107=some r):qz9 depth t105 t106 t107=some r :=
 qbb (es:=q14n) (hs:=[]) [] (by kernel_rfl) trivial trivial (by kernel_rfl) h
def qza:=qby Tryz.prog lv X0 19 (q8x (cdF Tryz.f51) 19) qzf qzc (fun x=>qz9 x.1.1 x.1.2.1 x.1.2.2.1 x.1.2.2.2) (fun _ _ h=>qba h)
def qz7:=sLS [1,2] (qb7 z1c (qb9 (vPtr 0 0))) (qb9 (qdm (bBox z1d))) [false] [] (by decide) (fun _=>rfl)
def qz6:=sLS [4] (qb9 z1c) qb8 [] [] (by decide) (fun _=>rfl)
def qz5:=oAt 1 qz6
def qz2 (depth b0:Int) (b0_1:L57) (b0_2:BA) (b0_3:Int) (b0_4:BA) (b0_5:Int):=gS Tryz.prog lv X0 51 119 (q8y (cdF Tryz.f51) 18) qz7 qz5 ((depth,()),(b0,b0_1,b0_2,b0_3,b0_4,b0_5))
def qz8 (depth b0:Int) (b0_1:L57) (b0_2:BA) (b0_3:Int) (b0_4:BA) (b0_5:Int):Oq (Int×Unit) :=
 (gL q5t b0_1<|
 ((qz9 depth (dL q5t b0_1) (lN q5t b0_1:Int) 0).bind fun r0 =>
 (Sum.elim (fun r1=>(some (r1.1,())))
 (fun r1=>(some (0,()))) r0)))
theorem qz4 {depth b0 b0_1 b0_2 b0_3 b0_4 b0_5 r} (h:qz8 depth b0 b0_1 b0_2 b0_3 b0_4 b0_5=some r):qz2 depth b0 b0_1 b0_2 b0_3 b0_4 b0_5=some r :=
 q8r (es:=q14n) (hs:=[]) [qza] (by kernel_rfl) ⟨⟨_,rfl,rfl⟩,trivial⟩ trivial (by kernel_rfl) h
def qz3:=gentS Tryz.prog lv X0 18 (q8y (cdF Tryz.f51) 18) (by kernel_rfl) qz7 qz5 (fun x=>qz2 x.1.1 x.2.1 x.2.2.1 x.2.2.2.1 x.2.2.2.2.1 x.2.2.2.2.2.1 x.2.2.2.2.2.2) (fun _ _ h=>q8q h)
abbrev zg (q16y:BA):=(decide ((q16y.size:Int)>200))
abbrev zh (t_N:Int):=((decide (t_N<0))==false)
abbrev zi (q16u:Int) (q16x:L57) (q16v:BA) (q16w:Int) (q16y:BA) (t_N depth:Int):=(qz2 depth q16u (dL q5t q16x) q16v q16w q16y t_N)
abbrev zj (t_N:Int):=(decide (t_N>1000000))
abbrev zk (q16w:Int):=((decide (q16w<1))==false)
abbrev zm (q16v:BA):=((q16v.toList==(ByteArray.toList ⟨#[]⟩))==false)
abbrev zn (q16v:BA):=(decide ((q16v.size:Int)>60))
abbrev zo (q16w:Int):=(decide (q16w>3))
def qzi (q16u:Int) (q16x:L57) (q16v:BA) (q16w:Int) (q16y:BA) (t_N depth:Int):Oq Int :=
 ((qzt q16u).bind fun r0 =>
 (brE (decide (depth>8))
 (some 5)
 (brE ((decide (q16u<1))==false)
 (brE (decide (q16u>9))
 (some 4)
 (gL q5t q16x<|
 ((qti q16u (dL q5t q16x) q16v q16w q16y t_N).bind fun r1 =>
 (brE (!r1)
 (some 5)
 (brE ((!r0.1)==true)
 (brE ((!(q16v.toList==(ByteArray.toList ⟨#[]⟩)))==false)
 (brE ((!r0.2.1)==true)
 (brE ((q16w != 0)==false)
 (brE ((!(q16y.toList==(ByteArray.toList ⟨#[]⟩)))==false)
 (brE ((!r0.2.2)==true)
 (brE (t_N != 0)
 (some 5)
 (brE (r0.1==true)
 (brE (zm q16v)
 (brE (zn q16v)
 (some 10)
 (brE (r0.2.1==true)
 (brE (zk q16w)
 (brE (zo q16w)
 (some 4)
 (brE (zg q16y)
 (some 1)
 (brE (zh t_N)
 (brE (zj t_N)
 (some 3)
 (gL q5t q16x<|
 ((zi q16u q16x q16v q16w q16y t_N depth).bind fun r2 =>
 (some r2.1))))
 (some 3))))
 (some 4))
 (brE (zg q16y)
 (some 1)
 (brE (zh t_N)
 (brE (zj t_N)
 (some 3)
 (gL q5t q16x<|
 ((zi q16u q16x q16v q16w q16y t_N depth).bind fun r2 =>
 (some r2.1))))
 (some 3)))))
 (some 10))
 (brE (r0.2.1==true)
 (brE (zk q16w)
 (brE (zo q16w)
 (some 4)
 (brE (zg q16y)
 (some 1)
 (brE (zh t_N)
 (brE (zj t_N)
 (some 3)
 (gL q5t q16x<|
 ((zi q16u q16x q16v q16w q16y t_N depth).bind fun r2 =>
 (some r2.1))))
 (some 3))))
 (some 4))
 (brE (zg q16y)
 (some 1)
 (brE (zh t_N)
 (brE (zj t_N)
 (some 3)
 (gL q5t q16x<|
 ((zi q16u q16x q16v q16w q16y t_N depth).bind fun r2 =>
 (some r2.1))))
 (some 3))))))
 (brE (r0.1==true)
 (brE (zm q16v)
 (brE (zn q16v)
 (some 10)
 (brE (r0.2.1==true)
 (brE (zk q16w)
 (brE (zo q16w)
 (some 4)
 (brE (zg q16y)
 (some 1)
 (brE (zh t_N)
 (brE (zj t_N)
 (some 3)
 (gL q5t q16x<|
 ((zi q16u q16x q16v q16w q16y t_N depth).bind fun r2 =>
 (some r2.1))))
 (some 3))))
 (some 4))
 (brE (zg q16y)
 (some 1)
 (brE (zh t_N)
 (brE (zj t_N)
 (some 3)
 (gL q5t q16x<|
 ((zi q16u q16x q16v q16w q16y t_N depth).bind fun r2 =>
 (some r2.1))))
 (some 3)))))
 (some 10))
 (brE (r0.2.1==true)
 (brE (zk q16w)
 (brE (zo q16w)
 (some 4)
 (brE (zg q16y)
 (some 1)
 (brE (zh t_N)
 (brE (zj t_N)
 (some 3)
 (gL q5t q16x<|
 ((zi q16u q16x q16v q16w q16y t_N depth).bind fun r2 =>
 (some r2.1))))
 (some 3))))
 (some 4))
 (brE (zg q16y)
 (some 1)
 (brE (zh t_N)
 (brE (zj t_N)
 (some 3)
 (gL q5t q16x<|
 ((zi q16u q16x q16v q16w q16y t_N depth).bind fun r2 =>
 (some r2.1))))
 (some 3))))))
 (some 5))
 (some 5))
 (brE ((!r0.2.2)==true)
 (brE (t_N != 0)
 (some 5)
 (brE (r0.1==true)
 (brE (zm q16v)
 (brE (zn q16v)
 (some 10)
 (brE (r0.2.1==true)
 (brE (zk q16w)
 (brE (zo q16w)
 (some 4)
 (brE (zg q16y)
 (some 1)
 (brE (zh t_N)
 (brE (zj t_N)
 (some 3)
 (gL q5t q16x<|
 ((zi q16u q16x q16v q16w q16y t_N depth).bind fun r2 =>
 (some r2.1))))
 (some 3))))
 (some 4))
 (brE (zg q16y)
 (some 1)
 (brE (zh t_N)
 (brE (zj t_N)
 (some 3)
 (gL q5t q16x<|
 ((zi q16u q16x q16v q16w q16y t_N depth).bind fun r2 =>
 (some r2.1))))
 (some 3)))))
 (some 10))
 (brE (r0.2.1==true)
 (brE (zk q16w)
 (brE (zo q16w)
 (some 4)
 (brE (zg q16y)
 (some 1)
 (brE (zh t_N)
 (brE (zj t_N)
 (some 3)
 (gL q5t q16x<|
 ((zi q16u q16x q16v q16w q16y t_N depth).bind fun r2 =>
 (some r2.1))))
 (some 3))))
 (some 4))
 (brE (zg q16y)
 (some 1)
 (brE (zh t_N)
 (brE (zj t_N)
 (some 3)
 (gL q5t q16x<|
 ((zi q16u q16x q16v q16w q16y t_N depth).bind fun r2 =>
 (some r2.1))))
 (some 3))))))
 (brE (r0.1==true)
 (brE (zm q16v)
 (brE (zn q16v)
 (some 10)
 (brE (r0.2.1==true)
 (brE (zk q16w)
 (brE (zo q16w)
 (some 4)
 (brE (zg q16y)
 (some 1)
 (brE (zh t_N)
 (brE (zj t_N)
 (some 3)
 (gL q5t q16x<|
 ((zi q16u q16x q16v q16w q16y t_N depth).bind fun r2 =>
 (some r2.1))))
 (some 3))))
 (some 4))
 (brE (zg q16y)
 (some 1)
 (brE (zh t_N)
 (brE (zj t_N)
 (some 3)
 (gL q5t q16x<|
 ((zi q16u q16x q16v q16w q16y t_N depth).bind fun r2 =>
 (some r2.1))))
 (some 3)))))
 (some 10))
 (brE (r0.2.1==true)
 (brE (zk q16w)
 (brE (zo q16w)
 (some 4)
 (brE (zg q16y)
 (some 1)
 (brE (zh t_N)
 (brE (zj t_N)
 (some 3)
 (gL q5t q16x<|
 ((zi q16u q16x q16v q16w q16y t_N depth).bind fun r2 =>
 (some r2.1))))
 (some 3))))
 (some 4))
 (brE (zg q16y)
 (some 1)
 (brE (zh t_N)
 (brE (zj t_N)
 (some 3)
 (gL q5t q16x<|
 ((zi q16u q16x q16v q16w q16y t_N depth).bind fun r2 =>
 (some r2.1))))
 (some 3)))))))
 (some 5))
 (brE ((!r0.2.1)==true)
 (brE ((q16w != 0)==false)
 (brE ((!(q16y.toList==(ByteArray.toList ⟨#[]⟩)))==false)
 (brE ((!r0.2.2)==true)
 (brE (t_N != 0)
 (some 5)
 (brE (r0.1==true)
 (brE (zm q16v)
 (brE (zn q16v)
 (some 10)
 (brE (r0.2.1==true)
 (brE (zk q16w)
 (brE (zo q16w)
 (some 4)
 (brE (zg q16y)
 (some 1)
 (brE (zh t_N)
 (brE (zj t_N)
 (some 3)
 (gL q5t q16x<|
 ((zi q16u q16x q16v q16w q16y t_N depth).bind fun r2 =>
 (some r2.1))))
 (some 3))))
 (some 4))
 (brE (zg q16y)
 (some 1)
 (brE (zh t_N)
 (brE (zj t_N)
 (some 3)
 (gL q5t q16x<|
 ((zi q16u q16x q16v q16w q16y t_N depth).bind fun r2 =>
 (some r2.1))))
 (some 3)))))
 (some 10))
 (brE (r0.2.1==true)
 (brE (zk q16w)
 (brE (zo q16w)
 (some 4)
 (brE (zg q16y)
 (some 1)
 (brE (zh t_N)
 (brE (zj t_N)
 (some 3)
 (gL q5t q16x<|
 ((zi q16u q16x q16v q16w q16y t_N depth).bind fun r2 =>
 (some r2.1))))
 (some 3))))
 (some 4))
 (brE (zg q16y)
 (some 1)
 (brE (zh t_N)
 (brE (zj t_N)
 (some 3)
 (gL q5t q16x<|
 ((zi q16u q16x q16v q16w q16y t_N depth).bind fun r2 =>
 (some r2.1))))
 (some 3))))))
 (brE (r0.1==true)
 (brE (zm q16v)
 (brE (zn q16v)
 (some 10)
 (brE (r0.2.1==true)
 (brE (zk q16w)
 (brE (zo q16w)
 (some 4)
 (brE (zg q16y)
 (some 1)
 (brE (zh t_N)
 (brE (zj t_N)
 (some 3)
 (gL q5t q16x<|
 ((zi q16u q16x q16v q16w q16y t_N depth).bind fun r2 =>
 (some r2.1))))
 (some 3))))
 (some 4))
 (brE (zg q16y)
 (some 1)
 (brE (zh t_N)
 (brE (zj t_N)
 (some 3)
 (gL q5t q16x<|
 ((zi q16u q16x q16v q16w q16y t_N depth).bind fun r2 =>
 (some r2.1))))
 (some 3)))))
 (some 10))
 (brE (r0.2.1==true)
 (brE (zk q16w)
 (brE (zo q16w)
 (some 4)
 (brE (zg q16y)
 (some 1)
 (brE (zh t_N)
 (brE (zj t_N)
 (some 3)
 (gL q5t q16x<|
 ((zi q16u q16x q16v q16w q16y t_N depth).bind fun r2 =>
 (some r2.1))))
 (some 3))))
 (some 4))
 (brE (zg q16y)
 (some 1)
 (brE (zh t_N)
 (brE (zj t_N)
 (some 3)
 (gL q5t q16x<|
 ((zi q16u q16x q16v q16w q16y t_N depth).bind fun r2 =>
 (some r2.1))))
 (some 3))))))
 (some 5))
 (some 5))
 (brE ((!r0.2.2)==true)
 (brE (t_N != 0)
 (some 5)
 (brE (r0.1==true)
 (brE (zm q16v)
 (brE (zn q16v)
 (some 10)
 (brE (r0.2.1==true)
 (brE (zk q16w)
 (brE (zo q16w)
 (some 4)
 (brE (zg q16y)
 (some 1)
 (brE (zh t_N)
 (brE (zj t_N)
 (some 3)
 (gL q5t q16x<|
 ((zi q16u q16x q16v q16w q16y t_N depth).bind fun r2 =>
 (some r2.1))))
 (some 3))))
 (some 4))
 (brE (zg q16y)
 (some 1)
 (brE (zh t_N)
 (brE (zj t_N)
 (some 3)
 (gL q5t q16x<|
 ((zi q16u q16x q16v q16w q16y t_N depth).bind fun r2 =>
 (some r2.1))))
 (some 3)))))
 (some 10))
 (brE (r0.2.1==true)
 (brE (zk q16w)
 (brE (zo q16w)
 (some 4)
 (brE (zg q16y)
 (some 1)
 (brE (zh t_N)
 (brE (zj t_N)
 (some 3)
 (gL q5t q16x<|
 ((zi q16u q16x q16v q16w q16y t_N depth).bind fun r2 =>
 (some r2.1))))
 (some 3))))
 (some 4))
 (brE (zg q16y)
 (some 1)
 (brE (zh t_N)
 (brE (zj t_N)
 (some 3)
 (gL q5t q16x<|
 ((zi q16u q16x q16v q16w q16y t_N depth).bind fun r2 =>
 (some r2.1))))
 (some 3))))))
 (brE (r0.1==true)
 (brE (zm q16v)
 (brE (zn q16v)
 (some 10)
 (brE (r0.2.1==true)
 (brE (zk q16w)
 (brE (zo q16w)
 (some 4)
 (brE (zg q16y)
 (some 1)
 (brE (zh t_N)
 (brE (zj t_N)
 (some 3)
 (gL q5t q16x<|
 ((zi q16u q16x q16v q16w q16y t_N depth).bind fun r2 =>
 (some r2.1))))
 (some 3))))
 (some 4))
 (brE (zg q16y)
 (some 1)
 (brE (zh t_N)
 (brE (zj t_N)
 (some 3)
 (gL q5t q16x<|
 ((zi q16u q16x q16v q16w q16y t_N depth).bind fun r2 =>
 (some r2.1))))
 (some 3)))))
 (some 10))
 (brE (r0.2.1==true)
 (brE (zk q16w)
 (brE (zo q16w)
 (some 4)
 (brE (zg q16y)
 (some 1)
 (brE (zh t_N)
 (brE (zj t_N)
 (some 3)
 (gL q5t q16x<|
 ((zi q16u q16x q16v q16w q16y t_N depth).bind fun r2 =>
 (some r2.1))))
 (some 3))))
 (some 4))
 (brE (zg q16y)
 (some 1)
 (brE (zh t_N)
 (brE (zj t_N)
 (some 3)
 (gL q5t q16x<|
 ((zi q16u q16x q16v q16w q16y t_N depth).bind fun r2 =>
 (some r2.1))))
 (some 3))))))))))))
 (some 4))))
theorem qz1 {q16u q16x q16v q16w q16y t_N depth r} (h:qzi q16u q16x q16v q16w q16y t_N depth=some r):qzh q16u q16x q16v q16w q16y t_N depth=some r :=
 q75 (es:=q14n) (hs:=[]) [qz3] Tryz.func51 rfl (by kernel_rfl) rfl (by kernel_rfl) (by kernel_rfl) trivial ⟨⟨_,rfl,rfl⟩,trivial⟩ (by kernel_rfl) h
def qys:=(qb7 z1g (qb9 z1c))
def qyt:Cod (V×List B) Int:=(cFstU (cPair z1c qb8))
def qyw (r_Kind r_Test_Kind:Int) (q16r:L57) (q16p:BA) (q16q:Int) (q16s:BA) (q16o:Int) (r_Then r_Else:L59) (r_Act:Int) (q16n q16t:BA) (r_N depth:Int):=fS Tryz.prog lv X0 31 qys qyt ((r_Kind,r_Test_Kind,q16r,q16p,q16q,q16s,q16o,r_Then,r_Else,r_Act,q16n,q16t,r_N),depth)
def qyx (r_Kind r_Test_Kind:Int) (q16r:L57) (q16p:BA) (q16q:Int) (q16s:BA) (q16o:Int) (r_Then r_Else:L59) (r_Act:Int) (q16n q16t:BA) (r_N depth:Int):Oq Int :=
 (brE (decide (depth>8))
 (some 5)
 (brE ((decide (r_Kind<1))==false)
 (brE (decide (r_Kind>4))
 (some 4)
 (brE (r_Kind != 1)
 (gL q5t q16r<|
 (gL q5u r_Then<|
 (gL q5u r_Else<|
 ((qyq r_Kind r_Test_Kind (dL q5t q16r) q16p q16q q16s q16o (dL q5u r_Then) (dL q5u r_Else) r_Act q16n q16t r_N).bind fun r0 =>
 (some r0)))))
 (brE ((r_Act != 0)==false)
 (brE ((!(q16n.toList==(ByteArray.toList ⟨#[]⟩)))==false)
 (brE ((!(q16t.toList==(ByteArray.toList ⟨#[]⟩)))==false)
 (brE (r_N != 0)
 (some 5)
 (gL q5t q16r<|
 ((qzh r_Test_Kind (dL q5t q16r) q16p q16q q16s q16o 1).bind fun r0 =>
 (some r0))))
 (some 5))
 (some 5))
 (some 5))))
 (some 4)))
theorem qyv {r_Kind r_Test_Kind q16r q16p q16q q16s q16o r_Then r_Else r_Act q16n q16t r_N depth r} (h:qyx r_Kind r_Test_Kind q16r q16p q16q q16s q16o r_Then r_Else r_Act q16n q16t r_N depth=some r):qyw r_Kind r_Test_Kind q16r q16p q16q q16s q16o r_Then r_Else r_Act q16n q16t r_N depth=some r :=
 q75 (es:=q14n) (hs:=[]) [] Tryz.func31 rfl (by kernel_rfl) rfl (by kernel_rfl) (by kernel_rfl) trivial trivial (by kernel_rfl) h
def qyu:=entS Tryz.prog lv X0 31 [] qys qyt (fun x=>qyw x.1.1 x.1.2.1 x.1.2.2.1 x.1.2.2.2.1 x.1.2.2.2.2.1 x.1.2.2.2.2.2.1 x.1.2.2.2.2.2.2.1 x.1.2.2.2.2.2.2.2.1 x.1.2.2.2.2.2.2.2.2.1 x.1.2.2.2.2.2.2.2.2.2.1 x.1.2.2.2.2.2.2.2.2.2.2.1 x.1.2.2.2.2.2.2.2.2.2.2.2.1 x.1.2.2.2.2.2.2.2.2.2.2.2.2 x.2) (fun _ _ h=>q74 h)
def q14m:=qyu::q14n
def q5q:EC (List S59) where
 enc x:=[.sl (q5u.encL x)]
 dec c:=q5u.decL (slOf (c.getD 0 .ne))
 is c:=isE [.sl] 0 c&&q5u.isL (slOf (c.getD 0 .ne))
 enc_dec h:=by
  simp only [Bool.and_eq_true] at h
  have h0:=q57 h.1
  simp only [decE,decC] at h0
  simp only [EC.encL_decL _ h.2]
  exact h0
 dec_enc x:=by simp [slOf]
 is_enc x:=by simp [isE,isK,slOf]
theorem enc_22 (x:(List S59)):q5q.enc x=[.sl (q5u.encL x)]:=rfl
theorem q26 (xs:List (List S59)) (n:Nat):slOf (((q5q.encL xs).getD n []).getD 0 .ne)=q5u.encL (xs.getD n (q5q.dec [])):=by
 by_cases h:n<xs.length
 ·simp only [EC.getD_lt _ _ h];simp [enc_22,h,slOf,List.getD_eq_getElem?_getD]
 ·simp only [EC.getD_ge _ _ (Nat.not_lt.1 h)];simp [Nat.not_lt.1 h,q5q,slOf,List.getD_eq_getElem?_getD,EC.decL,EC.encL]
def qt2:=(qb9 z1k)
abbrev z1f:=(qdm (bBox (qb9 (vFn 30 (qb7 (vPtr 0 0) (qb9 (vPtr 1 0)))))))
def qt0:=sLS [0,1,2,3] (qb7 z1k (qb7 z1c (qb7 (vPtr 0 0) (qb9 (vPtr 1 0))))) (qb7 (qdm (bBox (qb9 z1c))) (qb9 z1f)) [false,false] [0,1] (by decide) (fun _=>rfl)
def qsz:SC ((Int×Int)×(Int×(Unit×Unit))):=sLS [0] (qb9 (vAgg (qb7 (vC (cInt .i64)) (qb9 (vC (cInt .i64)))))) (qb7 (qdm (bBox (qb9 (vC (cInt .i64))))) (qb9 (qdm (bBox (qb9 (vFn 30 (qb7 (vPtr 0 0) (qb9 (vPtr 1 0))))))))) [false,false] [0,1] (by decide) (fun _=>rfl)
def qsy:HC ((Int×Int)×((Int×Int)×(Int×(Unit×Unit)))):=hPair (vAgg (qb7 (vC (cInt .i64)) (qb9 (vC (cInt .i64))))) qsz
def qsf (l:L59) (depth b0:Int):=hS Tryz.prog lv X0 30 qt0 qsy ((l,depth,(),()),(b0,((),())))
def qsg:=hentS Tryz.prog lv X0 30 [0,1,4,1,1,1,2,3,0,0,3,3,1,0,1,1,1,1,1,1,6,30,2,3,0,0,3,1,0,0,1] qt0 qsy (fun x=>qsf x.1.1 x.1.2.1 x.2.1) (fun _ _ h=>q91 h)
def q9e:=qsg::[]
abbrev z1l:=(qb7 (qdm (bBox (qb9 z1c))) (qb7 z1f (qb7 (qdm (bBox z1e)) (qb9 (qdm (bRow q5q))))))
def qso:=sLS [1,2,3,6,13,14,15,36,37,38] (qb7 z1c (qb7 (vPtr 0 0) (qb7 (vPtr 1 0) (qb7 (vPtr 2 0) (qb7 z1k (qb7 z1c (qb7 z1c (qb7 (vRow 3) z1e)))))))) z1l [false,false,false,false] [0,1] (by decide) (fun _=>rfl)
def qsn:=sLS [1,2,3,6,13,14,15,36,37,38,39] (qb7 z1c (qb7 (vPtr 0 0) (qb7 (vPtr 1 0) (qb7 (vPtr 2 0) (qb7 z1k (qb7 z1c (qb7 z1c (qb7 (vRow 3) z1i)))))))) z1l [false,false,false,false] [0,1] (by decide) (fun _=>rfl)
abbrev z1j:=(qb7 (qdm (bBox z1e)) (qb7 (qdm (bBox (qb9 z1c))) (qb9 (qdm (bBox (qb9 (vFn 30 (qb7 (vPtr 1 0) (qb9 (vPtr 2 0))))))))))
def qsm:=sLS [6] (qb9 (vPtr 0 0)) z1j [false,false,false] [1,2] (by decide) (fun _=>rfl)
def qsl:=oOr 1 qsm (oAt 4 qsn) (fun x=>(by decide:(4:Nat)≠1))
def qsi (depth:Int) (t13:L59) (t14 t15:Int) (t36:Nat) (t37 t38:Int) (b0 b2 b2_1:Int) (b3:(List L59)):=lS Tryz.prog lv X0 30 53 (q8x (cdF Tryz.f30) 11) qso qsl ((depth,(),(),(),t13,t14,t15,t36,t37,t38),(b0,((),()),(b2,b2_1),b3))
def qsp (depth:Int) (t13:L59) (t14 t15:Int) (t36:Nat) (t37 t38:Int) (b0 b2 b2_1:Int) (b3:(List L59)):Oq ((Unit×((Int×Int)×Int×(Unit×Unit)))⊕((Int×Unit×Unit×Unit×L59×Int×Int×Nat×Int×Int×Bool)×(Int×(Unit×Unit)×(Int×Int)×(List L59)))) :=
 (brE (decide (t38<t37))
 (gdE ((p0 t38)&&(decide (t38<((t36:Nat):Int))))<|
 (gdE ((decide ((Int.toNat t38)<(lN q5q b3)))&&((List.length (List.getD (EC.encL q5q b3) (Int.toNat t38) []))==1))<|
 (gdE (isP [K1.sl] 0 (List.getD (EC.encL q5q b3) (Int.toNat t38) []))<|
 (gdE (EC.isL q5u (slOf (List.getD (List.getD (EC.encL q5q b3) (Int.toNat t38) []) 0 C.ne)))<|
 ((qsf (uL q5u (List.getD (List.getD (EC.encL q5q b3) (Int.toNat t38) []) 0 C.ne)) (wI depth) b0).bind fun r0 =>
 ((q35 r0.1.1 r0.1.2).bind fun r1 =>
 (brE r1
 (some (.inl ((),((r0.1.1,r0.1.2),(r0.2.2.1,((),()))))))
 (gL q5u t13<|
 (gL q5q b3<|
 (qsi depth (dL q5u t13) t14 t15 t36 t37 (wI t38) r0.2.2.1 b2 b2_1 (dL q5q b3)))))))))))
 (gL q5u t13<|
 (gL q5q b3<|
 (some (.inr ((depth,((),((),((),((dL q5u t13),(t14,(t15,(t36,(t37,(t38,false)))))))))),(b0,(((),()),((b2,b2_1),(dL q5q b3))))))))))
theorem qsk {depth t13 t14 t15 t36 t37 t38 b0 b2 b2_1 b3 r} (h:qsp depth t13 t14 t15 t36 t37 t38 b0 b2 b2_1 b3=some r):qsi depth t13 t14 t15 t36 t37 t38 b0 b2 b2_1 b3=some r :=
 qbb (es:=q14m) (hs:=q9e) [] (by kernel_rfl) trivial trivial (by kernel_rfl) h
def qsj:=qby Tryz.prog lv X0 11 (q8x (cdF Tryz.f30) 11) qso qsl (fun x=>qsi x.1.1 x.1.2.2.2.2.1 x.1.2.2.2.2.2.1 x.1.2.2.2.2.2.2.1 x.1.2.2.2.2.2.2.2.1 x.1.2.2.2.2.2.2.2.2.1 x.1.2.2.2.2.2.2.2.2.2 x.2.1 x.2.2.2.1.1 x.2.2.2.1.2 x.2.2.2.2) (fun _ _ h=>qba h)
abbrev z1m:=(qb7 (qdm (bBox (qb9 z1c))) (qb7 z1f (qb9 (qdm (bBox z1e)))))
def qsw:=sLS [1,2,3,6,13,14,15] (qb7 z1c (qb7 (vPtr 0 0) (qb7 (vPtr 1 0) (qb7 (vPtr 2 0) (qb7 z1k z1e))))) z1m [false,false,false] [0,1] (by decide) (fun _=>rfl)
def qsv:=sLS [1,2,3,6,13,14,15,16] (qb7 z1c (qb7 (vPtr 0 0) (qb7 (vPtr 1 0) (qb7 (vPtr 2 0) (qb7 z1k z1i))))) z1m [false,false,false] [0,1] (by decide) (fun _=>rfl)
def qsu:=sLS [6] (qb9 (vPtr 0 0)) z1j [false,false,false] [1,2] (by decide) (fun _=>rfl)
def qst:=oOr 1 qsu (oAt 2 qsv) (fun x=>(by decide:(2:Nat)≠1))
def qsq (depth:Int) (t13:L59) (t14 t15:Int) (b0 b2 b2_1:Int):=lS Tryz.prog lv X0 30 53 (q8x (cdF Tryz.f30) 2) qsw qst ((depth,(),(),(),t13,t14,t15),(b0,((),()),(b2,b2_1)))
abbrev zp (t13:L59) (t15:Int):=(List.getD (EC.encL q5u t13) (Int.toNat t15) [])
def qsx (depth:Int) (t13:L59) (t14 t15:Int) (b0 b2 b2_1:Int):Oq ((Unit×((Int×Int)×Int×(Unit×Unit)))⊕((Int×Unit×Unit×Unit×L59×Int×Int×Bool)×(Int×(Unit×Unit)×(Int×Int)))) :=
 (brE (decide (t15<t14))
 (gdE (p0 t15)<|
 (gdE (eC q5u t13 t15 [(K1.int Go.IntKind.i64),(K1.int Go.IntKind.i64),K1.sl,K1.str,(K1.int Go.IntKind.i64),K1.str,(K1.int Go.IntKind.i64),K1.sl,K1.sl,(K1.int Go.IntKind.i64),K1.str,K1.str,(K1.int Go.IntKind.i64)])<|
 (brE (b0==100)
 ((q3b 2 (-1)).bind fun r0 =>
 (some (.inl ((),((r0.1,r0.2),(b0,((),())))))))
 (gdE (EC.isL q5t (slOf (List.getD (zp t13 t15) 2 C.ne)))<|
 (gdE (EC.isL q5u (slOf (List.getD (zp t13 t15) 7 C.ne)))<|
 (gdE (EC.isL q5u (slOf (List.getD (zp t13 t15) 8 C.ne)))<|
 ((qyw (qa0 (List.getD (zp t13 t15) 0 C.ne)) (qa0 (List.getD (zp t13 t15) 1 C.ne)) (uL q5t (List.getD (zp t13 t15) 2 C.ne)) (q135 (List.getD (zp t13 t15) 3 C.ne)) (qa0 (List.getD (zp t13 t15) 4 C.ne)) (q135 (List.getD (zp t13 t15) 5 C.ne)) (qa0 (List.getD (zp t13 t15) 6 C.ne)) (uL q5u (List.getD (zp t13 t15) 7 C.ne)) (uL q5u (List.getD (zp t13 t15) 8 C.ne)) (qa0 (List.getD (zp t13 t15) 9 C.ne)) (q135 (List.getD (zp t13 t15) 10 C.ne)) (q135 (List.getD (zp t13 t15) 11 C.ne)) (qa0 (List.getD (zp t13 t15) 12 C.ne)) depth).bind fun r0 =>
 (brE (r0 != 0)
 ((q3b r0 b0).bind fun r1 =>
 (some (.inl ((),((r1.1,r1.2),(b0,((),())))))))
 (gL q5u t13<|
 (gdE (EC.isL q5q [[(C.sl (slOf (List.getD (zp t13 t15) 7 C.ne)))],[(C.sl (slOf (List.getD (zp t13 t15) 8 C.ne)))]])<|
 (Option.bind (qsi depth (dL q5u t13) t14 t15 2 ((2:Nat):Int) 0 (wI b0) b2 b2_1 (EC.decL q5q [[(C.sl (slOf (List.getD (zp t13 t15) 7 C.ne)))],[(C.sl (slOf (List.getD (zp t13 t15) 8 C.ne)))]])) fun r1 =>
 (Sum.elim (fun r2=>(some (.inl ((),((r2.2.1.1,r2.2.1.2),(r2.2.2.1,((),())))))))
 (fun r2=>(gdE (EC.isL q5u (EC.encL q5u r2.1.2.2.2.2.1))<|
 (qsq r2.1.1 (dL q5u r2.1.2.2.2.2.1) r2.1.2.2.2.2.2.1 (wI r2.1.2.2.2.2.2.2.1) r2.2.1 r2.2.2.2.1.1 r2.2.2.2.1.2))) r1))))))))))))
 (gL q5u t13<|
 (some (.inr ((depth,((),((),((),((dL q5u t13),(t14,(t15,false))))))),(b0,(((),()),(b2,b2_1))))))))
theorem qss {depth t13 t14 t15 b0 b2 b2_1 r} (h:qsx depth t13 t14 t15 b0 b2 b2_1=some r):qsq depth t13 t14 t15 b0 b2 b2_1=some r :=
 qbb (es:=q14m) (hs:=q9e) [qsj] (by kernel_rfl) ⟨⟨_,rfl,rfl⟩,trivial⟩ trivial (by kernel_rfl) h
def qsr:=qby Tryz.prog lv X0 2 (q8x (cdF Tryz.f30) 2) qsw qst (fun x=>qsq x.1.1 x.1.2.2.2.2.1 x.1.2.2.2.2.2.1 x.1.2.2.2.2.2.2 x.2.1 x.2.2.2.1 x.2.2.2.2) (fun _ _ h=>qba h)
def qt1 (l:L59) (depth b0:Int):Oq ((Int×Int)×((Int×Int)×(Int×(Unit×Unit)))) :=
 (gL q5u l<|
 ((qsq depth (dL q5u l) (lN q5u l:Int) 0 b0 0 0).bind fun r0 =>
 (Sum.elim (fun r1=>(some ((r1.2.1.1,r1.2.1.2),((r1.2.1.1,r1.2.1.2),(r1.2.2.1,((),()))))))
 (fun r1=>(Option.bind q3h fun r2 =>
 (some ((r2.1,r2.2),((r2.1,r2.2),(r1.2.1,((),()))))))) r0)))
theorem qsh {l depth b0 r} (h:qt1 l depth b0=some r):qsf l depth b0=some r :=
 q92 (fn:=Tryz.f30) (es:=q14m) (hs:=q9e) [qsr] (by kernel_rfl) rfl (by kernel_rfl) (by kernel_rfl) ⟨⟨_,rfl,rfl⟩,trivial⟩ trivial (by kernel_rfl) h
def qt3:Cod (V×List B) (Int×Int):=(cFstU (cPair (vAgg z1e) qb8))
def qt6 (s:L59):=fS Tryz.prog lv X0 14 qt2 qt3 s
def qt7 (s:L59):Oq (Int×Int) :=
 (gL q5u s<|
 ((qsf (dL q5u s) 1 0).bind fun r0 =>
 (some (r0.1.1,r0.1.2))))
theorem qt5 {s r} (h:qt7 s=some r):qt6 s=some r :=
 q75 (es:=q14m) (hs:=q9e) [] Tryz.func14 rfl (by kernel_rfl) rfl (by kernel_rfl) (by kernel_rfl) trivial trivial (by kernel_rfl) h
def qt4:=entS Tryz.prog lv X0 14 [] qt2 qt3 (fun x=>qt6 x) (fun _ _ h=>q74 h)
def q14e:=qt4::q14m
end
end Go.Proofs.YtognhcibcocbkaaGreatDoor
