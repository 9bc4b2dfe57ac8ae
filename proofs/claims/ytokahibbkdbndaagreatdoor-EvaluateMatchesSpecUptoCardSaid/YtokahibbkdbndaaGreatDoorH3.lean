/- Functions of the program as plain functions: made by program from the machine. -/
import Derived.Test.YtokahibbkdbndaaGreatDoorH2
namespace Go.Proofs.YtokahibbkdbndaaGreatDoor
open Go.RowKit
set_option maxRecDepth 100000
noncomputable section
structure S48 where
 Kind:Int
 Tests:(List S48)
 Name:ByteArray
 Pattern:Int
 Text:ByteArray
 N:Int
abbrev L48:=List S48
mutual
def en48:S48→List C
 |⟨a0,a1,a2,a3,a4,a5⟩=>[.int .i64 a0,.sl (en48L a1),.str a2,.int .i64 a3,.str a4,.int .i64 a5]
def en48L:List S48→List (List C)
 |[]=>[]
 |x::xs=>en48 x::en48L xs
end
theorem qbj:∀ xs,en48L xs=xs.map en48
 |[]=>rfl
 |x::xs=>by rw [en48L,qbj xs];rfl
mutual
theorem qbk:∀ {x y:S48},en48 x=en48 y→x=y
 |⟨a0,a1,a2,a3,a4,a5⟩,⟨b0,b1,b2,b3,b4,b5⟩,h=>by
  simp only [en48,List.cons.injEq,C.int.injEq,C.sl.injEq,C.str.injEq,true_and,and_true] at h
  obtain ⟨h0,h1,h2,h3,h4,h5⟩:=h
  have h1:=qbi h1
  subst h0 h1 h2 h3 h4 h5
  rfl
theorem qbi:∀ {xs ys:List S48},en48L xs=en48L ys→xs=ys
 |[],[],_=>rfl
 |[],_::_,h=>by simp [en48L] at h
 |_::_,[],h=>by simp [en48L] at h
 |x::xs,y::ys,h=>by
  simp only [en48L,List.cons.injEq] at h
  rw [qbk h.1,qbi h.2]
end
open Classical in
def qaz:EC S48 where
 enc:=en48
 dec c:=if h:∃ x,en48 x=c then h.choose else ⟨qqd .ne,([]:(List S48)),q1gu .ne,qqd .ne,q1gu .ne,qqd .ne⟩
 is c:=decide (∃ x,en48 x=c)
 enc_dec {c} h:=by
  have h2:∃ x,en48 x=c:=by simpa using h
  rw [dif_pos h2]
  exact h2.choose_spec
 dec_enc x:=by
  have h2:∃ y,en48 y=en48 x:=⟨x,rfl⟩
  rw [dif_pos h2]
  exact qbk h2.choose_spec
 is_enc x:=by simp
theorem qbq (x:S48):qaz.enc x=[.int .i64 x.Kind,.sl (qaz.encL x.Tests),.str x.Name,.int .i64 x.Pattern,.str x.Text,.int .i64 x.N]:=by
 cases x
 show en48 _=_
 simp only [en48,qbj]
 rfl
theorem qa0:qaz.dec []=(⟨qqd .ne,([]:(List S48)),q1gu .ne,qqd .ne,q1gu .ne,qqd .ne⟩:S48):=by
 refine dif_neg ?_
 rintro ⟨⟨a0,a1,a2,a3,a4,a5⟩,h⟩
 simp [en48] at h
theorem qqp (xs:List S48) (n:Nat):isE [.int .i64,.sl,.str,.int .i64,.str,.int .i64] 0 ((qaz.encL xs).getD n [])=decide (n<xs.length):=by
 by_cases h:n<xs.length
 ·simp only [EC.getD_lt _ _ h];simp [qbq,isE,isK,h]
 ·simp only [EC.getD_ge _ _ (Nat.not_lt.1 h)];simp [isE,isK,h]
theorem q4b (xs:List S48) (n:Nat):qqd (((qaz.encL xs).getD n []).getD 0 .ne)=(xs.getD n (qaz.dec [])).Kind:=by
 by_cases h:n<xs.length
 ·simp only [EC.getD_lt _ _ h];simp [qbq,h,qqd,List.getD_eq_getElem?_getD]
 ·simp only [EC.getD_ge _ _ (Nat.not_lt.1 h)];simp [Nat.not_lt.1 h,qa0,q1gu,qqd,List.getD_eq_getElem?_getD]
theorem q4c (xs:List S48) (n:Nat):slOf (((qaz.encL xs).getD n []).getD 1 .ne)=qaz.encL (xs.getD n (qaz.dec [])).Tests:=by
 by_cases h:n<xs.length
 ·simp only [EC.getD_lt _ _ h];simp [qbq,h,slOf,List.getD_eq_getElem?_getD]
 ·simp only [EC.getD_ge _ _ (Nat.not_lt.1 h)];simp [Nat.not_lt.1 h,qa0,q1gu,qqd,slOf,List.getD_eq_getElem?_getD,EC.encL]
theorem q4d (xs:List S48) (n:Nat):q1gu (((qaz.encL xs).getD n []).getD 2 .ne)=(xs.getD n (qaz.dec [])).Name:=by
 by_cases h:n<xs.length
 ·simp only [EC.getD_lt _ _ h];simp [qbq,h,q1gu,List.getD_eq_getElem?_getD]
 ·simp only [EC.getD_ge _ _ (Nat.not_lt.1 h)];simp [Nat.not_lt.1 h,qa0,q1gu,qqd,List.getD_eq_getElem?_getD]
theorem q4e (xs:List S48) (n:Nat):qqd (((qaz.encL xs).getD n []).getD 3 .ne)=(xs.getD n (qaz.dec [])).Pattern:=by
 by_cases h:n<xs.length
 ·simp only [EC.getD_lt _ _ h];simp [qbq,h,qqd,List.getD_eq_getElem?_getD]
 ·simp only [EC.getD_ge _ _ (Nat.not_lt.1 h)];simp [Nat.not_lt.1 h,qa0,q1gu,qqd,List.getD_eq_getElem?_getD]
theorem q4f (xs:List S48) (n:Nat):q1gu (((qaz.encL xs).getD n []).getD 4 .ne)=(xs.getD n (qaz.dec [])).Text:=by
 by_cases h:n<xs.length
 ·simp only [EC.getD_lt _ _ h];simp [qbq,h,q1gu,List.getD_eq_getElem?_getD]
 ·simp only [EC.getD_ge _ _ (Nat.not_lt.1 h)];simp [Nat.not_lt.1 h,qa0,q1gu,qqd,List.getD_eq_getElem?_getD]
theorem q4g (xs:List S48) (n:Nat):qqd (((qaz.encL xs).getD n []).getD 5 .ne)=(xs.getD n (qaz.dec [])).N:=by
 by_cases h:n<xs.length
 ·simp only [EC.getD_lt _ _ h];simp [qbq,h,qqd,List.getD_eq_getElem?_getD]
 ·simp only [EC.getD_ge _ _ (Nat.not_lt.1 h)];simp [Nat.not_lt.1 h,qa0,q1gu,qqd,List.getD_eq_getElem?_getD]
structure S50 where
 Kind:Int
 Test_Kind:Int
 Test_Tests:(List S48)
 Test_Name:ByteArray
 Test_Pattern:Int
 Test_Text:ByteArray
 Test_N:Int
 Then:(List S50)
 Else:(List S50)
 Act:Int
 Name:ByteArray
 Text:ByteArray
 N:Int
abbrev L50:=List S50
mutual
def en50:S50→List C
 |⟨a0,a1,a2,a3,a4,a5,a6,a7,a8,a9,a10,a11,a12⟩=>[.int .i64 a0,.int .i64 a1,.sl (qaz.encL a2),.str a3,.int .i64 a4,.str a5,.int .i64 a6,.sl (en50L a7),.sl (en50L a8),.int .i64 a9,.str a10,.str a11,.int .i64 a12]
def en50L:List S50→List (List C)
 |[]=>[]
 |x::xs=>en50 x::en50L xs
end
theorem qbm:∀ xs,en50L xs=xs.map en50
 |[]=>rfl
 |x::xs=>by rw [en50L,qbm xs];rfl
mutual
theorem qbn:∀ {x y:S50},en50 x=en50 y→x=y
 |⟨a0,a1,a2,a3,a4,a5,a6,a7,a8,a9,a10,a11,a12⟩,⟨b0,b1,b2,b3,b4,b5,b6,b7,b8,b9,b10,b11,b12⟩,h=>by
  simp only [en50,List.cons.injEq,C.int.injEq,C.sl.injEq,C.str.injEq,true_and,and_true] at h
  obtain ⟨h0,h1,h2,h3,h4,h5,h6,h7,h8,h9,h10,h11,h12⟩:=h
  have h2:a2=b2:=by have q:=congrArg qaz.decL h2;simpa only [EC.decL_encL] using q
  have h7:=qbl h7
  have h8:=qbl h8
  subst h0 h1 h2 h3 h4 h5 h6 h7 h8 h9 h10 h11 h12
  rfl
theorem qbl:∀ {xs ys:List S50},en50L xs=en50L ys→xs=ys
 |[],[],_=>rfl
 |[],_::_,h=>by simp [en50L] at h
 |_::_,[],h=>by simp [en50L] at h
 |x::xs,y::ys,h=>by
  simp only [en50L,List.cons.injEq] at h
  rw [qbn h.1,qbl h.2]
end
open Classical in
def qb1:EC S50 where
 enc:=en50
 dec c:=if h:∃ x,en50 x=c then h.choose else ⟨qqd .ne,qqd .ne,([]:(List S48)),q1gu .ne,qqd .ne,q1gu .ne,qqd .ne,([]:(List S50)),([]:(List S50)),qqd .ne,q1gu .ne,q1gu .ne,qqd .ne⟩
 is c:=decide (∃ x,en50 x=c)
 enc_dec {c} h:=by
  have h2:∃ x,en50 x=c:=by simpa using h
  rw [dif_pos h2]
  exact h2.choose_spec
 dec_enc x:=by
  have h2:∃ y,en50 y=en50 x:=⟨x,rfl⟩
  rw [dif_pos h2]
  exact qbn h2.choose_spec
 is_enc x:=by simp
theorem qbr (x:S50):qb1.enc x=[.int .i64 x.Kind,.int .i64 x.Test_Kind,.sl (qaz.encL x.Test_Tests),.str x.Test_Name,.int .i64 x.Test_Pattern,.str x.Test_Text,.int .i64 x.Test_N,.sl (qb1.encL x.Then),.sl (qb1.encL x.Else),.int .i64 x.Act,.str x.Name,.str x.Text,.int .i64 x.N]:=by
 cases x
 show en50 _=_
 simp only [en50,qbm]
 rfl
theorem qa1:qb1.dec []=(⟨qqd .ne,qqd .ne,([]:(List S48)),q1gu .ne,qqd .ne,q1gu .ne,qqd .ne,([]:(List S50)),([]:(List S50)),qqd .ne,q1gu .ne,q1gu .ne,qqd .ne⟩:S50):=by
 refine dif_neg ?_
 rintro ⟨⟨a0,a1,a2,a3,a4,a5,a6,a7,a8,a9,a10,a11,a12⟩,h⟩
 simp [en50] at h
theorem qqq (xs:List S50) (n:Nat):isE [.int .i64,.int .i64,.sl,.str,.int .i64,.str,.int .i64,.sl,.sl,.int .i64,.str,.str,.int .i64] 0 ((qb1.encL xs).getD n [])=decide (n<xs.length):=by
 by_cases h:n<xs.length
 ·simp only [EC.getD_lt _ _ h];simp [qbr,isE,isK,h]
 ·simp only [EC.getD_ge _ _ (Nat.not_lt.1 h)];simp [isE,isK,h]
theorem q4i (xs:List S50) (n:Nat):qqd (((qb1.encL xs).getD n []).getD 0 .ne)=(xs.getD n (qb1.dec [])).Kind:=by
 by_cases h:n<xs.length
 ·simp only [EC.getD_lt _ _ h];simp [qbr,h,qqd,List.getD_eq_getElem?_getD]
 ·simp only [EC.getD_ge _ _ (Nat.not_lt.1 h)];simp [Nat.not_lt.1 h,qa1,q1gu,qqd,List.getD_eq_getElem?_getD]
theorem q4j (xs:List S50) (n:Nat):qqd (((qb1.encL xs).getD n []).getD 1 .ne)=(xs.getD n (qb1.dec [])).Test_Kind:=by
 by_cases h:n<xs.length
 ·simp only [EC.getD_lt _ _ h];simp [qbr,h,qqd,List.getD_eq_getElem?_getD]
 ·simp only [EC.getD_ge _ _ (Nat.not_lt.1 h)];simp [Nat.not_lt.1 h,qa1,q1gu,qqd,List.getD_eq_getElem?_getD]
theorem q4n (xs:List S50) (n:Nat):slOf (((qb1.encL xs).getD n []).getD 2 .ne)=qaz.encL (xs.getD n (qb1.dec [])).Test_Tests:=by
 by_cases h:n<xs.length
 ·simp only [EC.getD_lt _ _ h];simp [qbr,h,slOf,List.getD_eq_getElem?_getD]
 ·simp only [EC.getD_ge _ _ (Nat.not_lt.1 h)];simp [Nat.not_lt.1 h,qa1,q1gu,qqd,slOf,List.getD_eq_getElem?_getD,EC.encL]
theorem q4o (xs:List S50) (n:Nat):q1gu (((qb1.encL xs).getD n []).getD 3 .ne)=(xs.getD n (qb1.dec [])).Test_Name:=by
 by_cases h:n<xs.length
 ·simp only [EC.getD_lt _ _ h];simp [qbr,h,q1gu,List.getD_eq_getElem?_getD]
 ·simp only [EC.getD_ge _ _ (Nat.not_lt.1 h)];simp [Nat.not_lt.1 h,qa1,q1gu,qqd,List.getD_eq_getElem?_getD]
theorem q4p (xs:List S50) (n:Nat):qqd (((qb1.encL xs).getD n []).getD 4 .ne)=(xs.getD n (qb1.dec [])).Test_Pattern:=by
 by_cases h:n<xs.length
 ·simp only [EC.getD_lt _ _ h];simp [qbr,h,qqd,List.getD_eq_getElem?_getD]
 ·simp only [EC.getD_ge _ _ (Nat.not_lt.1 h)];simp [Nat.not_lt.1 h,qa1,q1gu,qqd,List.getD_eq_getElem?_getD]
theorem q4q (xs:List S50) (n:Nat):q1gu (((qb1.encL xs).getD n []).getD 5 .ne)=(xs.getD n (qb1.dec [])).Test_Text:=by
 by_cases h:n<xs.length
 ·simp only [EC.getD_lt _ _ h];simp [qbr,h,q1gu,List.getD_eq_getElem?_getD]
 ·simp only [EC.getD_ge _ _ (Nat.not_lt.1 h)];simp [Nat.not_lt.1 h,qa1,q1gu,qqd,List.getD_eq_getElem?_getD]
theorem q4r (xs:List S50) (n:Nat):qqd (((qb1.encL xs).getD n []).getD 6 .ne)=(xs.getD n (qb1.dec [])).Test_N:=by
 by_cases h:n<xs.length
 ·simp only [EC.getD_lt _ _ h];simp [qbr,h,qqd,List.getD_eq_getElem?_getD]
 ·simp only [EC.getD_ge _ _ (Nat.not_lt.1 h)];simp [Nat.not_lt.1 h,qa1,q1gu,qqd,List.getD_eq_getElem?_getD]
theorem q4s (xs:List S50) (n:Nat):slOf (((qb1.encL xs).getD n []).getD 7 .ne)=qb1.encL (xs.getD n (qb1.dec [])).Then:=by
 by_cases h:n<xs.length
 ·simp only [EC.getD_lt _ _ h];simp [qbr,h,slOf,List.getD_eq_getElem?_getD]
 ·simp only [EC.getD_ge _ _ (Nat.not_lt.1 h)];simp [Nat.not_lt.1 h,qa1,q1gu,qqd,slOf,List.getD_eq_getElem?_getD,EC.encL]
theorem q4t (xs:List S50) (n:Nat):slOf (((qb1.encL xs).getD n []).getD 8 .ne)=qb1.encL (xs.getD n (qb1.dec [])).Else:=by
 by_cases h:n<xs.length
 ·simp only [EC.getD_lt _ _ h];simp [qbr,h,slOf,List.getD_eq_getElem?_getD]
 ·simp only [EC.getD_ge _ _ (Nat.not_lt.1 h)];simp [Nat.not_lt.1 h,qa1,q1gu,qqd,slOf,List.getD_eq_getElem?_getD,EC.encL]
theorem q4u (xs:List S50) (n:Nat):qqd (((qb1.encL xs).getD n []).getD 9 .ne)=(xs.getD n (qb1.dec [])).Act:=by
 by_cases h:n<xs.length
 ·simp only [EC.getD_lt _ _ h];simp [qbr,h,qqd,List.getD_eq_getElem?_getD]
 ·simp only [EC.getD_ge _ _ (Nat.not_lt.1 h)];simp [Nat.not_lt.1 h,qa1,q1gu,qqd,List.getD_eq_getElem?_getD]
theorem q4k (xs:List S50) (n:Nat):q1gu (((qb1.encL xs).getD n []).getD 10 .ne)=(xs.getD n (qb1.dec [])).Name:=by
 by_cases h:n<xs.length
 ·simp only [EC.getD_lt _ _ h];simp [qbr,h,q1gu,List.getD_eq_getElem?_getD]
 ·simp only [EC.getD_ge _ _ (Nat.not_lt.1 h)];simp [Nat.not_lt.1 h,qa1,q1gu,qqd,List.getD_eq_getElem?_getD]
theorem q4l (xs:List S50) (n:Nat):q1gu (((qb1.encL xs).getD n []).getD 11 .ne)=(xs.getD n (qb1.dec [])).Text:=by
 by_cases h:n<xs.length
 ·simp only [EC.getD_lt _ _ h];simp [qbr,h,q1gu,List.getD_eq_getElem?_getD]
 ·simp only [EC.getD_ge _ _ (Nat.not_lt.1 h)];simp [Nat.not_lt.1 h,qa1,q1gu,qqd,List.getD_eq_getElem?_getD]
theorem q4m (xs:List S50) (n:Nat):qqd (((qb1.encL xs).getD n []).getD 12 .ne)=(xs.getD n (qb1.dec [])).N:=by
 by_cases h:n<xs.length
 ·simp only [EC.getD_lt _ _ h];simp [qbr,h,qqd,List.getD_eq_getElem?_getD]
 ·simp only [EC.getD_ge _ _ (Nat.not_lt.1 h)];simp [Nat.not_lt.1 h,qa1,q1gu,qqd,List.getD_eq_getElem?_getD]
abbrev z43:=(vC (cSl qb1))
def qzp:=(qrf z43)
abbrev z3w:=(vC (cInt .i64))
abbrev z47:=(cFstU (cPair z3w (qre (ρ:=B))))
def qzq:Cod (V×List B) Int:=z47
def q100 (s:L50):=fS Tryz.prog lv X0 25 qzp qzq s
def qzr:=entS Tryz.prog lv X0 25 [] qzp qzq (fun x=>q100 x) (fun _ _ h=>qjm h)
def q1jh:=qzr::q1jl
abbrev z3z:=(qrd z3w (qrf z3w))
def qzy:=sLS [0,3,4] (qrd z43 z3z) qre [] [] (by decide) (fun _=>rfl)
abbrev z40:=(qrd z3w (qrd z3w (qrf (vC cBool))))
def qzx:=sLS [0,3,4,10] (qrd z43 z40) qre [] [] (by decide) (fun _=>rfl)
def qzw:=oAt 2 qzx
def qzt (s:L50) (n i:Int):=lS Tryz.prog lv X0 25 29 (qnb (cdF Tryz.f25) 3) qzy qzw ((s,n,i),())
def qzz (s:L50) (n i:Int):Oq ((L50×Int×Int×Bool)×Unit) :=
 (brE (decide (i<(lN qb1 s:Int)))
 (gdE (p0 i)<|
 (gdE (eC qb1 s i [(K1.int Go.IntKind.i64),(K1.int Go.IntKind.i64),K1.sl,K1.str,(K1.int Go.IntKind.i64),K1.str,(K1.int Go.IntKind.i64),K1.sl,K1.sl,(K1.int Go.IntKind.i64),K1.str,K1.str,(K1.int Go.IntKind.i64)])<|
 (gdE (EC.isL qb1 (slOf (List.getD (List.getD (EC.encL qb1 s) (Int.toNat i) []) 7 C.ne)))<|
 ((q100 (uL qb1 (List.getD (List.getD (EC.encL qb1 s) (Int.toNat i) []) 7 C.ne))).bind fun r0 =>
 (gdE (p0 i)<|
 (gdE (eC qb1 s i [(K1.int Go.IntKind.i64),(K1.int Go.IntKind.i64),K1.sl,K1.str,(K1.int Go.IntKind.i64),K1.str,(K1.int Go.IntKind.i64),K1.sl,K1.sl,(K1.int Go.IntKind.i64),K1.str,K1.str,(K1.int Go.IntKind.i64)])<|
 (gdE (EC.isL qb1 (slOf (List.getD (List.getD (EC.encL qb1 s) (Int.toNat i) []) 8 C.ne)))<|
 ((q100 (uL qb1 (List.getD (List.getD (EC.encL qb1 s) (Int.toNat i) []) 8 C.ne))).bind fun r1 =>
 (gL qb1 s<|
 (qzt (dL qb1 s) (IntKind.wrap .i64 (n+(IntKind.wrap .i64 (r0+r1)))) (wI i)))))))))))
 (gL qb1 s<|
 (some (((dL qb1 s),(n,(i,false))),()))))
theorem qzv {s n i r} (h:qzz s n i=some r):qzt s n i=some r :=
 qrh (es:=q1jh) (hs:=[]) [] (by kernel_rfl) trivial trivial (by kernel_rfl) h
def qzu:=qs5 Tryz.prog lv X0 3 (qnb (cdF Tryz.f25) 3) qzy qzw (fun x=>qzt x.1.1 x.1.2.1 x.1.2.2) (fun _ _ h=>qrg h)
def q101 (s:L50):Oq Int :=
 (gL qb1 s<|
 ((qzt (dL qb1 s) (lN qb1 s:Int) 0).bind fun r0 =>
 (some r0.1.2.1)))
theorem qzs {s r} (h:q101 s=some r):q100 s=some r :=
 qjn (es:=q1jh) (hs:=[]) [qzu] Tryz.func25 rfl (by kernel_rfl) rfl (by kernel_rfl) (by kernel_rfl) ⟨⟨_,rfl,rfl⟩,trivial⟩ trivial (by kernel_rfl) h
def q1bb:=(qrf z43)
def q1bc:Cod (V×List B) Int:=z47
def q1bm (s:L50):=fS Tryz.prog lv X0 73 q1bb q1bc s
def q1bd:=entS Tryz.prog lv X0 73 [] q1bb q1bc (fun x=>q1bm x) (fun _ _ h=>qjm h)
def q1k3:=q1bd::q1jh
def q1bk:=sLS [3,6,7,8] (qrd z3w (qrd z43 z3z)) qre [] [] (by decide) (fun _=>rfl)
def q1bj:=sLS [3,6,7,8,9] (qrd z3w (qrd z43 z40)) qre [] [] (by decide) (fun _=>rfl)
def q1bi:=oAt 2 q1bj
def q1bf (n:Int) (t6:L50) (t7 t8:Int):=lS Tryz.prog lv X0 73 24 (qnb (cdF Tryz.f73) 3) q1bk q1bi ((n,t6,t7,t8),())
def q1bl (n:Int) (t6:L50) (t7 t8:Int):Oq ((Int×L50×Int×Int×Bool)×Unit) :=
 (brE (decide (t8<t7))
 (gdE (p0 t8)<|
 (gdE (eC qb1 t6 t8 [(K1.int Go.IntKind.i64),(K1.int Go.IntKind.i64),K1.sl,K1.str,(K1.int Go.IntKind.i64),K1.str,(K1.int Go.IntKind.i64),K1.sl,K1.sl,(K1.int Go.IntKind.i64),K1.str,K1.str,(K1.int Go.IntKind.i64)])<|
 (gdE (EC.isL qb1 (slOf (List.getD (List.getD (EC.encL qb1 t6) (Int.toNat t8) []) 7 C.ne)))<|
 ((q1bm (uL qb1 (List.getD (List.getD (EC.encL qb1 t6) (Int.toNat t8) []) 7 C.ne))).bind fun r0 =>
 (gdE (EC.isL qb1 (slOf (List.getD (List.getD (EC.encL qb1 t6) (Int.toNat t8) []) 8 C.ne)))<|
 ((q1bm (uL qb1 (List.getD (List.getD (EC.encL qb1 t6) (Int.toNat t8) []) 8 C.ne))).bind fun r1 =>
 (gL qb1 t6<|
 (q1bf (IntKind.wrap .i64 (n+(IntKind.wrap .i64 ((IntKind.wrap .i64 (1+r0))+r1)))) (dL qb1 t6) t7 (wI t8)))))))))
 (gL qb1 t6<|
 (some ((n,((dL qb1 t6),(t7,(t8,false)))),()))))
theorem q1bh {n t6 t7 t8 r} (h:q1bl n t6 t7 t8=some r):q1bf n t6 t7 t8=some r :=
 qrh (es:=q1k3) (hs:=[]) [] (by kernel_rfl) trivial trivial (by kernel_rfl) h
def q1bg:=qs5 Tryz.prog lv X0 3 (qnb (cdF Tryz.f73) 3) q1bk q1bi (fun x=>q1bf x.1.1 x.1.2.1 x.1.2.2.1 x.1.2.2.2) (fun _ _ h=>qrg h)
def q1bn (s:L50):Oq Int :=
 (gL qb1 s<|
 ((q1bf 0 (dL qb1 s) (lN qb1 s:Int) 0).bind fun r0 =>
 (some r0.1.1)))
theorem q1be {s r} (h:q1bn s=some r):q1bm s=some r :=
 qjn (es:=q1k3) (hs:=[]) [q1bg] Tryz.func73 rfl (by kernel_rfl) rfl (by kernel_rfl) (by kernel_rfl) ⟨⟨_,rfl,rfl⟩,trivial⟩ trivial (by kernel_rfl) h
abbrev z3x:=(qrd z3w (qrd (vC (cSl qaz)) (qrd (vC cStr) (qrd z3w (qrd (vC cStr) (qrf z3w))))))
def q1cn:=(qrf (vAgg z3x))
abbrev z42:=(cFstU (cPair (vC cBool) (qre (ρ:=B))))
def q1co:Cod (V×List B) Bool:=z42
def q1cr (q1hv:Int) (q1hy:L48) (q1hw:BA) (q1hx:Int) (q1hz:BA) (t_N:Int):=fS Tryz.prog lv X0 126 q1cn q1co (q1hv,q1hy,q1hw,q1hx,q1hz,t_N)
def q1cs (q1hv:Int) (q1hy:L48) (q1hw:BA) (q1hx:Int) (q1hz:BA) (t_N:Int):Oq Bool :=
 (brE ((q1hv==0)==true)
 (brE (((lN qaz q1hy:Int)==0)==true)
 (brE ((q1hw.toList==(ByteArray.toList ⟨#[]⟩))==true)
 (brE ((q1hx==0)==true)
 (brE ((q1hz.toList==(ByteArray.toList ⟨#[]⟩))==true)
 (some (t_N==0))
 (some false))
 (some false))
 (some false))
 (some false))
 (some false))
theorem q1cq {q1hv q1hy q1hw q1hx q1hz t_N r} (h:q1cs q1hv q1hy q1hw q1hx q1hz t_N=some r):q1cr q1hv q1hy q1hw q1hx q1hz t_N=some r :=
 qjn (es:=q1k3) (hs:=[]) [] Tryz.func126 rfl (by kernel_rfl) rfl (by kernel_rfl) (by kernel_rfl) trivial trivial (by kernel_rfl) h
def q1cp:=entS Tryz.prog lv X0 126 [] q1cn q1co (fun x=>q1cr x.1 x.2.1 x.2.2.1 x.2.2.2.1 x.2.2.2.2.1 x.2.2.2.2.2) (fun _ _ h=>qjm h)
def q1k6:=q1cp::q1k3
def q1dq:=(qrf z3w)
def q1dr:Cod (V×List B) Bool:=z42
def q1du (act:Int):=fS Tryz.prog lv X0 127 q1dq q1dr act
def q1dv (act:Int):Oq Bool :=
 (brE ((act==2)==false)
 (brE ((act==4)==false)
 (brE ((act==5)==false)
 (some (act==7))
 (some true))
 (some true))
 (some true))
theorem q1dt {act r} (h:q1dv act=some r):q1du act=some r :=
 qjn (es:=q1k6) (hs:=[]) [] Tryz.func127 rfl (by kernel_rfl) rfl (by kernel_rfl) (by kernel_rfl) trivial trivial (by kernel_rfl) h
def q1ds:=entS Tryz.prog lv X0 127 [] q1dq q1dr (fun x=>q1du x) (fun _ _ h=>qjm h)
def q1ka:=q1ds::q1k6
def q1dw:=(qrf z3w)
def q1dx:Cod (V×List B) (Bool×Bool×Bool):=(cFstU (cPair (vTup (qrd (vC cBool) (qrd (vC cBool) (qrf (vC cBool))))) qre))
def q1e0 (kind:Int):=fS Tryz.prog lv X0 129 q1dw q1dx kind
def q1e1 (kind:Int):Oq (Bool×Bool×Bool) :=
 (brE (kind==5)
 (some (true,(true,false)))
 (brE (kind==6)
 (some (false,(true,false)))
 (brE (kind==7)
 (some (false,(true,false)))
 (brE (kind==8)
 (some (false,(false,true)))
 (brE (kind==9)
 (some (true,(false,false)))
 (some (false,(false,false))))))))
theorem q1dz {kind r} (h:q1e1 kind=some r):q1e0 kind=some r :=
 qjn (es:=q1ka) (hs:=[]) [] Tryz.func129 rfl (by kernel_rfl) rfl (by kernel_rfl) (by kernel_rfl) trivial trivial (by kernel_rfl) h
def q1dy:=entS Tryz.prog lv X0 129 [] q1dw q1dx (fun x=>q1e0 x) (fun _ _ h=>qjm h)
def q1kb:=q1dy::q1ka
def q1ch:=(qrf (vAgg z3x))
def q1ci:Cod (V×List B) Bool:=z42
def q1cl (q1hv:Int) (q1hy:L48) (q1hw:BA) (q1hx:Int) (q1hz:BA) (t_N:Int):=fS Tryz.prog lv X0 130 q1ch q1ci (q1hv,q1hy,q1hw,q1hx,q1hz,t_N)
def q1cm (q1hv:Int) (q1hy:L48) (q1hw:BA) (q1hx:Int) (q1hz:BA) (t_N:Int):Oq Bool :=
 (brE (q1hv==2)
 (some ((lN qaz q1hy:Int)==1))
 (brE (q1hv==3)
 (brE ((decide ((lN qaz q1hy:Int)≥1))==true)
 (some (decide ((lN qaz q1hy:Int)≤60)))
 (some false))
 (brE (q1hv==4)
 (brE ((decide ((lN qaz q1hy:Int)≥1))==true)
 (some (decide ((lN qaz q1hy:Int)≤60)))
 (some false))
 (some ((lN qaz q1hy:Int)==0)))))
theorem q1ck {q1hv q1hy q1hw q1hx q1hz t_N r} (h:q1cm q1hv q1hy q1hw q1hx q1hz t_N=some r):q1cl q1hv q1hy q1hw q1hx q1hz t_N=some r :=
 qjn (es:=q1kb) (hs:=[]) [] Tryz.func130 rfl (by kernel_rfl) rfl (by kernel_rfl) (by kernel_rfl) trivial trivial (by kernel_rfl) h
def q1cj:=entS Tryz.prog lv X0 130 [] q1ch q1ci (fun x=>q1cl x.1 x.2.1 x.2.2.1 x.2.2.2.1 x.2.2.2.2.1 x.2.2.2.2.2) (fun _ _ h=>qjm h)
def q1k5:=q1cj::q1kb
structure S45 where
 Kind:Int
 Text:ByteArray
 N:Int
abbrev L45:=List S45
def qay:EC S45 where
 enc x:=[.int .i64 x.Kind,.str x.Text,.int .i64 x.N]
 dec c:=⟨qqd (c.getD 0 .ne),q1gu (c.getD 1 .ne),qqd (c.getD 2 .ne)⟩
 is c:=isE [.int .i64,.str,.int .i64] 0 c
 enc_dec h:=q9x h
 dec_enc x:=by rfl
 is_enc x:=by simp [isE,isK]
theorem enc_45 (x:S45):qay.enc x=[.int .i64 x.Kind,.str x.Text,.int .i64 x.N]:=rfl
theorem q1my (xs:List S45) (n:Nat):isE [.int .i64,.str,.int .i64] 0 ((qay.encL xs).getD n [])=decide (n<xs.length):=by
 by_cases h:n<xs.length
 ·simp only [EC.getD_lt _ _ h];simp [enc_45,isE,isK,h]
 ·simp only [EC.getD_ge _ _ (Nat.not_lt.1 h)];simp [isE,isK,h]
theorem q48 (xs:List S45) (n:Nat):qqd (((qay.encL xs).getD n []).getD 0 .ne)=(xs.getD n (qay.dec [])).Kind:=by
 by_cases h:n<xs.length
 ·simp only [EC.getD_lt _ _ h];simp [enc_45,h,qqd,List.getD_eq_getElem?_getD]
 ·simp only [EC.getD_ge _ _ (Nat.not_lt.1 h)];simp [Nat.not_lt.1 h,qay,q1gu,qqd,List.getD_eq_getElem?_getD]
theorem q49 (xs:List S45) (n:Nat):q1gu (((qay.encL xs).getD n []).getD 1 .ne)=(xs.getD n (qay.dec [])).Text:=by
 by_cases h:n<xs.length
 ·simp only [EC.getD_lt _ _ h];simp [enc_45,h,q1gu,List.getD_eq_getElem?_getD]
 ·simp only [EC.getD_ge _ _ (Nat.not_lt.1 h)];simp [Nat.not_lt.1 h,qay,q1gu,qqd,List.getD_eq_getElem?_getD]
theorem q4a (xs:List S45) (n:Nat):qqd (((qay.encL xs).getD n []).getD 2 .ne)=(xs.getD n (qay.dec [])).N:=by
 by_cases h:n<xs.length
 ·simp only [EC.getD_lt _ _ h];simp [enc_45,h,qqd,List.getD_eq_getElem?_getD]
 ·simp only [EC.getD_ge _ _ (Nat.not_lt.1 h)];simp [Nat.not_lt.1 h,qay,q1gu,qqd,List.getD_eq_getElem?_getD]
theorem lit_45 (a0:Int) (a1:ByteArray) (a2:Int):([.int .i64 a0,.str a1,.int .i64 a2]:List C)=qay.enc (⟨a0,a1,a2⟩:S45):=rfl
theorem q3y (xs:List S45) (a0:Int) (a1:ByteArray) (a2:Int):qay.encL xs++[[.int .i64 a0,.str a1,.int .i64 a2]]=qay.encL (xs++[(⟨a0,a1,a2⟩:S45)]):=by rw [lit_45];simp [EC.encL]
theorem q3k (xs:List S45):(qay.encL xs).all (fun (el:List C)=>el.length==3)=true:=by induction xs with|nil=>rfl|cons x xs ih=>first|(simp [EC.encL,enc_45];done)|simpa [EC.encL,enc_45] using ih
def qe0:=(qrf (vC (cSl qay)))
def qea:=sLS [5,6,7] (qrd (vC (cSl qay)) z3z) qre [] [] (by decide) (fun _=>rfl)
def qe9:=sLS [5,6,7,8] (qrd (vC (cSl qay)) z40) qre [] [] (by decide) (fun _=>rfl)
def qe8:=sLS [2] (qrf (vC cBool)) qre [] [] (by decide) (fun _=>rfl)
def qe7:=oOr 1 qe8 (oAt 2 qe9) (fun x=>(by decide:(2:Nat)≠1))
def qe4 (t5:L45) (t6 t7:Int):=lS Tryz.prog lv X0 54 20 (qnb (cdF Tryz.f54) 2) qea qe7 ((t5,t6,t7),())
def qeb (t5:L45) (t6 t7:Int):Oq ((Bool×Unit)⊕((L45×Int×Int×Bool)×Unit)) :=
 (brE (decide (t7<t6))
 (gdE (p0 t7)<|
 (gdE (eC qay t5 t7 [(K1.int Go.IntKind.i64),K1.str,(K1.int Go.IntKind.i64)])<|
 (brE (((qqd (List.getD (List.getD (EC.encL qay t5) (Int.toNat t7) []) 0 C.ne)) != 6)==true)
 (brE ((qqd (List.getD (List.getD (EC.encL qay t5) (Int.toNat t7) []) 0 C.ne)) != 7)
 (some (.inl (true,())))
 (gL qay t5<|
 (qe4 (dL qay t5) t6 (wI t7))))
 (gL qay t5<|
 (qe4 (dL qay t5) t6 (wI t7))))))
 (gL qay t5<|
 (some (.inr (((dL qay t5),(t6,(t7,false))),())))))
theorem qe6 {t5 t6 t7 r} (h:qeb t5 t6 t7=some r):qe4 t5 t6 t7=some r :=
 qrh (es:=q1k5) (hs:=[]) [] (by kernel_rfl) trivial trivial (by kernel_rfl) h
def qe5:=qs5 Tryz.prog lv X0 2 (qnb (cdF Tryz.f54) 2) qea qe7 (fun x=>qe4 x.1.1 x.1.2.1 x.1.2.2) (fun _ _ h=>qrg h)
def qe1:Cod (V×List B) Bool:=z42
def qec (l:L45):=fS Tryz.prog lv X0 54 qe0 qe1 l
def qed (l:L45):Oq Bool :=
 (gL qay l<|
 ((qe4 (dL qay l) (lN qay l:Int) 0).bind fun r0 =>
 (Sum.elim (fun r1=>(some r1.1))
 (fun r1=>(some false)) r0)))
theorem qe3 {l r} (h:qed l=some r):qec l=some r :=
 qjn (es:=q1k5) (hs:=[]) [qe5] Tryz.func54 rfl (by kernel_rfl) rfl (by kernel_rfl) (by kernel_rfl) ⟨⟨_,rfl,rfl⟩,trivial⟩ trivial (by kernel_rfl) h
def qe2:=entS Tryz.prog lv X0 54 [] qe0 qe1 (fun x=>qec x) (fun _ _ h=>qjm h)
def q1in:=qe2::q1k5
def q1e2:=(qrf (vC (cInt .u8)))
def q1e3:Cod (V×List B) Bool:=z42
def q1e6 (c:Int):=fS Tryz.prog lv X0 151 q1e2 q1e3 c
def q1e7 (c:Int):Oq Bool :=
 (brE ((decide (c≥97))==true)
 (brE ((decide (c≤122))==false)
 (brE ((decide (c≥48))==true)
 (some (decide (c≤57)))
 (some false))
 (some true))
 (brE ((decide (c≥48))==true)
 (some (decide (c≤57)))
 (some false)))
theorem q1e5 {c r} (h:q1e7 c=some r):q1e6 c=some r :=
 qjn (es:=q1in) (hs:=[]) [] Tryz.func151 rfl (by kernel_rfl) rfl (by kernel_rfl) (by kernel_rfl) trivial trivial (by kernel_rfl) h
def q1e4:=entS Tryz.prog lv X0 151 [] q1e2 q1e3 (fun x=>q1e6 x) (fun _ _ h=>qjm h)
def q1kd:=q1e4::q1in
def q33:Cod (List V) (ByteArray×Unit):=(qrd (vC cStr) (qrf (vFn 151 qre)))
def q3d:=sLS [0,1,7,8] (qrd (vC cStr) (qrd (vFn 151 qre) z3z)) qre [] [] (by decide) (fun _=>rfl)
def q3c:=sLS [0,1,7,8,9] (qrd (vC cStr) (qrd (vFn 151 qre) z40)) qre [] [] (by decide) (fun _=>rfl)
def q3b:=sLS [4] (qrf (vC cBool)) qre [] [] (by decide) (fun _=>rfl)
def q3a:=oOr 1 q3b (oAt 2 q3c) (fun x=>(by decide:(2:Nat)≠1))
def q37 (s:BA) (t7 t8:Int):=lS Tryz.prog lv X0 84 18 (qnb (cdF Tryz.f84) 2) q3d q3a ((s,(),t7,t8),())
def q3e (s:BA) (t7 t8:Int):Oq ((Bool×Unit)⊕((BA×Unit×Int×Int×Bool)×Unit)) :=
 (brE (decide (t8<t7))
 (gdE ((p0 t8)&&(decide ((Int.toNat t8)<s.size)))<|
 ((q1e6 (((UInt8.toNat (Array.getD s.data (Int.toNat t8) (0:UInt8))):Nat):Int)).bind fun r0 =>
 (brE (!r0)
 (some (.inl (false,())))
 (q37 s t7 (wI t8)))))
 (some (.inr ((s,((),(t7,(t8,false)))),()))))
theorem q39 {s t7 t8 r} (h:q3e s t7 t8=some r):q37 s t7 t8=some r :=
 qrh (es:=q1kd) (hs:=[]) [] (by kernel_rfl) trivial trivial (by kernel_rfl) h
def q38:=qs5 Tryz.prog lv X0 2 (qnb (cdF Tryz.f84) 2) q3d q3a (fun x=>q37 x.1.1 x.1.2.2.1 x.1.2.2.2) (fun _ _ h=>qrg h)
def q34:Cod (V×List B) Bool:=z42
def q3g (s:BA):=fS Tryz.prog lv X0 84 q33 q34 (s,())
def q3h (s:BA):Oq Bool :=
 ((q37 s (s.size:Int) 0).bind fun r0 =>
 (Sum.elim (fun r1=>(some r1.1))
 (fun r1=>(some true)) r0))
theorem q36 {s r} (h:q3h s=some r):q3g s=some r :=
 qjn (es:=q1kd) (hs:=[]) [q38] Tryz.func84 rfl (by kernel_rfl) rfl (by kernel_rfl) (by kernel_rfl) ⟨⟨_,rfl,rfl⟩,trivial⟩ trivial (by kernel_rfl) h
def q35:=entS Tryz.prog lv X0 84 [151] q33 q34 (fun x=>q3g x.1) (fun _ _ h=>qjm h)
def q1i4:=q35::q1kd
def q1e8:=(qrf (vC cStr))
def q1e9:Cod (V×List B) Bool:=z42
def q1ec (s:BA):=fS Tryz.prog lv X0 128 q1e8 q1e9 s
def q1ed (s:BA):Oq Bool :=
 (brE ((!(s.toList==(ByteArray.toList ⟨#[]⟩)))==true)
 (brE ((decide ((s.size:Int)≤60))==true)
 ((q3g s).bind fun r0 =>
 (brE (r0==true)
 (gdE ((decide ((0:Int)≤0))&&(decide ((Int.toNat 0)<s.size)))<|
 (some (decide ((((UInt8.toNat (Array.getD s.data (Int.toNat 0) (0:UInt8))):Nat):Int)>57))))
 (some false)))
 (some false))
 (some false))
theorem q1eb {s r} (h:q1ed s=some r):q1ec s=some r :=
 qjn (es:=q1i4) (hs:=[]) [] Tryz.func128 rfl (by kernel_rfl) rfl (by kernel_rfl) (by kernel_rfl) trivial trivial (by kernel_rfl) h
def q1ea:=entS Tryz.prog lv X0 128 [] q1e8 q1e9 (fun x=>q1ec x) (fun _ _ h=>qjm h)
def q1kc:=q1ea::q1i4
abbrev z41:=(vAgg (qrd z3w (qrd z3w (qrd (vC (cSl qaz)) (qrd (vC cStr) (qrd z3w (qrd (vC cStr) (qrd z3w (qrd (vC (cSl qb1)) (qrd (vC (cSl qb1)) (qrd z3w (qrd (vC cStr) (qrd (vC cStr) (qrf z3w))))))))))))))
def q1ct:=(qrf z41)
def q1cu:Cod (V×List B) Int:=z47
def q1cx (r_Kind r_Test_Kind:Int) (q19z:L48) (q19x:BA) (q19y:Int) (q1a0:BA) (q19w:Int) (r_Then r_Else:L50) (r_Act:Int) (q19v q1a1:BA) (r_N:Int):=fS Tryz.prog lv X0 101 q1ct q1cu (r_Kind,r_Test_Kind,q19z,q19x,q19y,q1a0,q19w,r_Then,r_Else,r_Act,q19v,q1a1,r_N)
abbrev z1m (q1a1:BA):=(decide ((q1a1.size:Int)>200))
abbrev z1n (r_N:Int):=((decide (r_N<0))==false)
abbrev z1o (q19v:BA):=(q1ec q19v)
abbrev z1p (q1a1:BA):=((!(q1a1.toList==(ByteArray.toList ⟨#[]⟩)))==false)
abbrev z1q (r_Act:Int):=((decide (r_Act<1))==false)
def q1cy (r_Kind r_Test_Kind:Int) (q19z:L48) (q19x:BA) (q19y:Int) (q1a0:BA) (q19w:Int) (r_Then r_Else:L50) (r_Act:Int) (q19v q1a1:BA) (r_N:Int):Oq Int :=
 (gL qaz q19z<|
 ((q1cr r_Test_Kind (dL qaz q19z) q19x q19y q1a0 q19w).bind fun r0 =>
 (brE ((!r0)==false)
 (brE ((decide ((IntKind.wrap .i64 ((lN qb1 r_Then:Int)+(lN qb1 r_Else:Int)))>0))==false)
 (brE ((!(r_Kind==2))==true)
 (brE ((r_Act != 0)==false)
 (brE ((r_N != 0)==false)
 (brE ((r_Kind != 3)==true)
 (brE ((!(q19v.toList==(ByteArray.toList ⟨#[]⟩)))==false)
 (brE ((r_Kind==4)==true)
 (brE (!(q1a1.toList==(ByteArray.toList ⟨#[]⟩)))
 (some 5)
 (brE ((r_Kind==2)==true)
 (brE (z1q r_Act)
 (brE (decide (r_Act>7))
 (some 4)
 (brE ((r_Kind==2)==true)
 ((q1du r_Act).bind fun r1 =>
 (brE ((!r1)==true)
 (brE (z1p q1a1)
 (brE ((r_Act != 6)==true)
 (brE (r_N != 0)
 (some 5)
 (brE ((r_Kind==3)==true)
 ((z1o q19v).bind fun r2 =>
 (brE (!r2)
 (some 10)
 (brE (z1m q1a1)
 (some 1)
 (brE (z1n r_N)
 (brE (decide (r_N>63))
 (some 3)
 (some 0))
 (some 3)))))
 (brE (z1m q1a1)
 (some 1)
 (brE (z1n r_N)
 (brE (decide (r_N>63))
 (some 3)
 (some 0))
 (some 3)))))
 (brE ((r_Kind==3)==true)
 ((z1o q19v).bind fun r2 =>
 (brE (!r2)
 (some 10)
 (brE (z1m q1a1)
 (some 1)
 (brE (z1n r_N)
 (brE (decide (r_N>63))
 (some 3)
 (some 0))
 (some 3)))))
 (brE (z1m q1a1)
 (some 1)
 (brE (z1n r_N)
 (brE (decide (r_N>63))
 (some 3)
 (some 0))
 (some 3)))))
 (some 5))
 (brE ((r_Act != 6)==true)
 (brE (r_N != 0)
 (some 5)
 (brE ((r_Kind==3)==true)
 ((z1o q19v).bind fun r2 =>
 (brE (!r2)
 (some 10)
 (brE (z1m q1a1)
 (some 1)
 (brE (z1n r_N)
 (brE (decide (r_N>63))
 (some 3)
 (some 0))
 (some 3)))))
 (brE (z1m q1a1)
 (some 1)
 (brE (z1n r_N)
 (brE (decide (r_N>63))
 (some 3)
 (some 0))
 (some 3)))))
 (brE ((r_Kind==3)==true)
 ((z1o q19v).bind fun r2 =>
 (brE (!r2)
 (some 10)
 (brE (z1m q1a1)
 (some 1)
 (brE (z1n r_N)
 (brE (decide (r_N>63))
 (some 3)
 (some 0))
 (some 3)))))
 (brE (z1m q1a1)
 (some 1)
 (brE (z1n r_N)
 (brE (decide (r_N>63))
 (some 3)
 (some 0))
 (some 3)))))))
 (brE ((r_Kind==3)==true)
 ((z1o q19v).bind fun r1 =>
 (brE (!r1)
 (some 10)
 (brE (z1m q1a1)
 (some 1)
 (brE (z1n r_N)
 (brE (decide (r_N>63))
 (some 3)
 (some 0))
 (some 3)))))
 (brE (z1m q1a1)
 (some 1)
 (brE (z1n r_N)
 (brE (decide (r_N>63))
 (some 3)
 (some 0))
 (some 3))))))
 (some 4))
 (brE ((r_Kind==2)==true)
 ((q1du r_Act).bind fun r1 =>
 (brE ((!r1)==true)
 (brE (z1p q1a1)
 (brE ((r_Act != 6)==true)
 (brE (r_N != 0)
 (some 5)
 (brE ((r_Kind==3)==true)
 ((z1o q19v).bind fun r2 =>
 (brE (!r2)
 (some 10)
 (brE (z1m q1a1)
 (some 1)
 (brE (z1n r_N)
 (brE (decide (r_N>63))
 (some 3)
 (some 0))
 (some 3)))))
 (brE (z1m q1a1)
 (some 1)
 (brE (z1n r_N)
 (brE (decide (r_N>63))
 (some 3)
 (some 0))
 (some 3)))))
 (brE ((r_Kind==3)==true)
 ((z1o q19v).bind fun r2 =>
 (brE (!r2)
 (some 10)
 (brE (z1m q1a1)
 (some 1)
 (brE (z1n r_N)
 (brE (decide (r_N>63))
 (some 3)
 (some 0))
 (some 3)))))
 (brE (z1m q1a1)
 (some 1)
 (brE (z1n r_N)
 (brE (decide (r_N>63))
 (some 3)
 (some 0))
 (some 3)))))
 (some 5))
 (brE ((r_Act != 6)==true)
 (brE (r_N != 0)
 (some 5)
 (brE ((r_Kind==3)==true)
 ((z1o q19v).bind fun r2 =>
 (brE (!r2)
 (some 10)
 (brE (z1m q1a1)
 (some 1)
 (brE (z1n r_N)
 (brE (decide (r_N>63))
 (some 3)
 (some 0))
 (some 3)))))
 (brE (z1m q1a1)
 (some 1)
 (brE (z1n r_N)
 (brE (decide (r_N>63))
 (some 3)
 (some 0))
 (some 3)))))
 (brE ((r_Kind==3)==true)
 ((z1o q19v).bind fun r2 =>
 (brE (!r2)
 (some 10)
 (brE (z1m q1a1)
 (some 1)
 (brE (z1n r_N)
 (brE (decide (r_N>63))
 (some 3)
 (some 0))
 (some 3)))))
 (brE (z1m q1a1)
 (some 1)
 (brE (z1n r_N)
 (brE (decide (r_N>63))
 (some 3)
 (some 0))
 (some 3)))))))
 (brE ((r_Kind==3)==true)
 ((z1o q19v).bind fun r1 =>
 (brE (!r1)
 (some 10)
 (brE (z1m q1a1)
 (some 1)
 (brE (z1n r_N)
 (brE (decide (r_N>63))
 (some 3)
 (some 0))
 (some 3)))))
 (brE (z1m q1a1)
 (some 1)
 (brE (z1n r_N)
 (brE (decide (r_N>63))
 (some 3)
 (some 0))
 (some 3)))))))
 (brE ((r_Kind==2)==true)
 (brE (z1q r_Act)
 (brE (decide (r_Act>7))
 (some 4)
 (brE ((r_Kind==2)==true)
 ((q1du r_Act).bind fun r1 =>
 (brE ((!r1)==true)
 (brE (z1p q1a1)
 (brE ((r_Act != 6)==true)
 (brE (r_N != 0)
 (some 5)
 (brE ((r_Kind==3)==true)
 ((z1o q19v).bind fun r2 =>
 (brE (!r2)
 (some 10)
 (brE (z1m q1a1)
 (some 1)
 (brE (z1n r_N)
 (brE (decide (r_N>63))
 (some 3)
 (some 0))
 (some 3)))))
 (brE (z1m q1a1)
 (some 1)
 (brE (z1n r_N)
 (brE (decide (r_N>63))
 (some 3)
 (some 0))
 (some 3)))))
 (brE ((r_Kind==3)==true)
 ((z1o q19v).bind fun r2 =>
 (brE (!r2)
 (some 10)
 (brE (z1m q1a1)
 (some 1)
 (brE (z1n r_N)
 (brE (decide (r_N>63))
 (some 3)
 (some 0))
 (some 3)))))
 (brE (z1m q1a1)
 (some 1)
 (brE (z1n r_N)
 (brE (decide (r_N>63))
 (some 3)
 (some 0))
 (some 3)))))
 (some 5))
 (brE ((r_Act != 6)==true)
 (brE (r_N != 0)
 (some 5)
 (brE ((r_Kind==3)==true)
 ((z1o q19v).bind fun r2 =>
 (brE (!r2)
 (some 10)
 (brE (z1m q1a1)
 (some 1)
 (brE (z1n r_N)
 (brE (decide (r_N>63))
 (some 3)
 (some 0))
 (some 3)))))
 (brE (z1m q1a1)
 (some 1)
 (brE (z1n r_N)
 (brE (decide (r_N>63))
 (some 3)
 (some 0))
 (some 3)))))
 (brE ((r_Kind==3)==true)
 ((z1o q19v).bind fun r2 =>
 (brE (!r2)
 (some 10)
 (brE (z1m q1a1)
 (some 1)
 (brE (z1n r_N)
 (brE (decide (r_N>63))
 (some 3)
 (some 0))
 (some 3)))))
 (brE (z1m q1a1)
 (some 1)
 (brE (z1n r_N)
 (brE (decide (r_N>63))
 (some 3)
 (some 0))
 (some 3)))))))
 (brE ((r_Kind==3)==true)
 ((z1o q19v).bind fun r1 =>
 (brE (!r1)
 (some 10)
 (brE (z1m q1a1)
 (some 1)
 (brE (z1n r_N)
 (brE (decide (r_N>63))
 (some 3)
 (some 0))
 (some 3)))))
 (brE (z1m q1a1)
 (some 1)
 (brE (z1n r_N)
 (brE (decide (r_N>63))
 (some 3)
 (some 0))
 (some 3))))))
 (some 4))
 (brE ((r_Kind==2)==true)
 ((q1du r_Act).bind fun r1 =>
 (brE ((!r1)==true)
 (brE (z1p q1a1)
 (brE ((r_Act != 6)==true)
 (brE (r_N != 0)
 (some 5)
 (brE ((r_Kind==3)==true)
 ((z1o q19v).bind fun r2 =>
 (brE (!r2)
 (some 10)
 (brE (z1m q1a1)
 (some 1)
 (brE (z1n r_N)
 (brE (decide (r_N>63))
 (some 3)
 (some 0))
 (some 3)))))
 (brE (z1m q1a1)
 (some 1)
 (brE (z1n r_N)
 (brE (decide (r_N>63))
 (some 3)
 (some 0))
 (some 3)))))
 (brE ((r_Kind==3)==true)
 ((z1o q19v).bind fun r2 =>
 (brE (!r2)
 (some 10)
 (brE (z1m q1a1)
 (some 1)
 (brE (z1n r_N)
 (brE (decide (r_N>63))
 (some 3)
 (some 0))
 (some 3)))))
 (brE (z1m q1a1)
 (some 1)
 (brE (z1n r_N)
 (brE (decide (r_N>63))
 (some 3)
 (some 0))
 (some 3)))))
 (some 5))
 (brE ((r_Act != 6)==true)
 (brE (r_N != 0)
 (some 5)
 (brE ((r_Kind==3)==true)
 ((z1o q19v).bind fun r2 =>
 (brE (!r2)
 (some 10)
 (brE (z1m q1a1)
 (some 1)
 (brE (z1n r_N)
 (brE (decide (r_N>63))
 (some 3)
 (some 0))
 (some 3)))))
 (brE (z1m q1a1)
 (some 1)
 (brE (z1n r_N)
 (brE (decide (r_N>63))
 (some 3)
 (some 0))
 (some 3)))))
 (brE ((r_Kind==3)==true)
 ((z1o q19v).bind fun r2 =>
 (brE (!r2)
 (some 10)
 (brE (z1m q1a1)
 (some 1)
 (brE (z1n r_N)
 (brE (decide (r_N>63))
 (some 3)
 (some 0))
 (some 3)))))
 (brE (z1m q1a1)
 (some 1)
 (brE (z1n r_N)
 (brE (decide (r_N>63))
 (some 3)
 (some 0))
 (some 3)))))))
 (brE ((r_Kind==3)==true)
 ((z1o q19v).bind fun r1 =>
 (brE (!r1)
 (some 10)
 (brE (z1m q1a1)
 (some 1)
 (brE (z1n r_N)
 (brE (decide (r_N>63))
 (some 3)
 (some 0))
 (some 3)))))
 (brE (z1m q1a1)
 (some 1)
 (brE (z1n r_N)
 (brE (decide (r_N>63))
 (some 3)
 (some 0))
 (some 3)))))))
 (some 5))
 (brE ((r_Kind==4)==true)
 (brE (!(q1a1.toList==(ByteArray.toList ⟨#[]⟩)))
 (some 5)
 (brE ((r_Kind==2)==true)
 (brE (z1q r_Act)
 (brE (decide (r_Act>7))
 (some 4)
 (brE ((r_Kind==2)==true)
 ((q1du r_Act).bind fun r1 =>
 (brE ((!r1)==true)
 (brE (z1p q1a1)
 (brE ((r_Act != 6)==true)
 (brE (r_N != 0)
 (some 5)
 (brE ((r_Kind==3)==true)
 ((z1o q19v).bind fun r2 =>
 (brE (!r2)
 (some 10)
 (brE (z1m q1a1)
 (some 1)
 (brE (z1n r_N)
 (brE (decide (r_N>63))
 (some 3)
 (some 0))
 (some 3)))))
 (brE (z1m q1a1)
 (some 1)
 (brE (z1n r_N)
 (brE (decide (r_N>63))
 (some 3)
 (some 0))
 (some 3)))))
 (brE ((r_Kind==3)==true)
 ((z1o q19v).bind fun r2 =>
 (brE (!r2)
 (some 10)
 (brE (z1m q1a1)
 (some 1)
 (brE (z1n r_N)
 (brE (decide (r_N>63))
 (some 3)
 (some 0))
 (some 3)))))
 (brE (z1m q1a1)
 (some 1)
 (brE (z1n r_N)
 (brE (decide (r_N>63))
 (some 3)
 (some 0))
 (some 3)))))
 (some 5))
 (brE ((r_Act != 6)==true)
 (brE (r_N != 0)
 (some 5)
 (brE ((r_Kind==3)==true)
 ((z1o q19v).bind fun r2 =>
 (brE (!r2)
 (some 10)
 (brE (z1m q1a1)
 (some 1)
 (brE (z1n r_N)
 (brE (decide (r_N>63))
 (some 3)
 (some 0))
 (some 3)))))
 (brE (z1m q1a1)
 (some 1)
 (brE (z1n r_N)
 (brE (decide (r_N>63))
 (some 3)
 (some 0))
 (some 3)))))
 (brE ((r_Kind==3)==true)
 ((z1o q19v).bind fun r2 =>
 (brE (!r2)
 (some 10)
 (brE (z1m q1a1)
 (some 1)
 (brE (z1n r_N)
 (brE (decide (r_N>63))
 (some 3)
 (some 0))
 (some 3)))))
 (brE (z1m q1a1)
 (some 1)
 (brE (z1n r_N)
 (brE (decide (r_N>63))
 (some 3)
 (some 0))
 (some 3)))))))
 (brE ((r_Kind==3)==true)
 ((z1o q19v).bind fun r1 =>
 (brE (!r1)
 (some 10)
 (brE (z1m q1a1)
 (some 1)
 (brE (z1n r_N)
 (brE (decide (r_N>63))
 (some 3)
 (some 0))
 (some 3)))))
 (brE (z1m q1a1)
 (some 1)
 (brE (z1n r_N)
 (brE (decide (r_N>63))
 (some 3)
 (some 0))
 (some 3))))))
 (some 4))
 (brE ((r_Kind==2)==true)
 ((q1du r_Act).bind fun r1 =>
 (brE ((!r1)==true)
 (brE (z1p q1a1)
 (brE ((r_Act != 6)==true)
 (brE (r_N != 0)
 (some 5)
 (brE ((r_Kind==3)==true)
 ((z1o q19v).bind fun r2 =>
 (brE (!r2)
 (some 10)
 (brE (z1m q1a1)
 (some 1)
 (brE (z1n r_N)
 (brE (decide (r_N>63))
 (some 3)
 (some 0))
 (some 3)))))
 (brE (z1m q1a1)
 (some 1)
 (brE (z1n r_N)
 (brE (decide (r_N>63))
 (some 3)
 (some 0))
 (some 3)))))
 (brE ((r_Kind==3)==true)
 ((z1o q19v).bind fun r2 =>
 (brE (!r2)
 (some 10)
 (brE (z1m q1a1)
 (some 1)
 (brE (z1n r_N)
 (brE (decide (r_N>63))
 (some 3)
 (some 0))
 (some 3)))))
 (brE (z1m q1a1)
 (some 1)
 (brE (z1n r_N)
 (brE (decide (r_N>63))
 (some 3)
 (some 0))
 (some 3)))))
 (some 5))
 (brE ((r_Act != 6)==true)
 (brE (r_N != 0)
 (some 5)
 (brE ((r_Kind==3)==true)
 ((z1o q19v).bind fun r2 =>
 (brE (!r2)
 (some 10)
 (brE (z1m q1a1)
 (some 1)
 (brE (z1n r_N)
 (brE (decide (r_N>63))
 (some 3)
 (some 0))
 (some 3)))))
 (brE (z1m q1a1)
 (some 1)
 (brE (z1n r_N)
 (brE (decide (r_N>63))
 (some 3)
 (some 0))
 (some 3)))))
 (brE ((r_Kind==3)==true)
 ((z1o q19v).bind fun r2 =>
 (brE (!r2)
 (some 10)
 (brE (z1m q1a1)
 (some 1)
 (brE (z1n r_N)
 (brE (decide (r_N>63))
 (some 3)
 (some 0))
 (some 3)))))
 (brE (z1m q1a1)
 (some 1)
 (brE (z1n r_N)
 (brE (decide (r_N>63))
 (some 3)
 (some 0))
 (some 3)))))))
 (brE ((r_Kind==3)==true)
 ((z1o q19v).bind fun r1 =>
 (brE (!r1)
 (some 10)
 (brE (z1m q1a1)
 (some 1)
 (brE (z1n r_N)
 (brE (decide (r_N>63))
 (some 3)
 (some 0))
 (some 3)))))
 (brE (z1m q1a1)
 (some 1)
 (brE (z1n r_N)
 (brE (decide (r_N>63))
 (some 3)
 (some 0))
 (some 3)))))))
 (brE ((r_Kind==2)==true)
 (brE (z1q r_Act)
 (brE (decide (r_Act>7))
 (some 4)
 (brE ((r_Kind==2)==true)
 ((q1du r_Act).bind fun r1 =>
 (brE ((!r1)==true)
 (brE (z1p q1a1)
 (brE ((r_Act != 6)==true)
 (brE (r_N != 0)
 (some 5)
 (brE ((r_Kind==3)==true)
 ((z1o q19v).bind fun r2 =>
 (brE (!r2)
 (some 10)
 (brE (z1m q1a1)
 (some 1)
 (brE (z1n r_N)
 (brE (decide (r_N>63))
 (some 3)
 (some 0))
 (some 3)))))
 (brE (z1m q1a1)
 (some 1)
 (brE (z1n r_N)
 (brE (decide (r_N>63))
 (some 3)
 (some 0))
 (some 3)))))
 (brE ((r_Kind==3)==true)
 ((z1o q19v).bind fun r2 =>
 (brE (!r2)
 (some 10)
 (brE (z1m q1a1)
 (some 1)
 (brE (z1n r_N)
 (brE (decide (r_N>63))
 (some 3)
 (some 0))
 (some 3)))))
 (brE (z1m q1a1)
 (some 1)
 (brE (z1n r_N)
 (brE (decide (r_N>63))
 (some 3)
 (some 0))
 (some 3)))))
 (some 5))
 (brE ((r_Act != 6)==true)
 (brE (r_N != 0)
 (some 5)
 (brE ((r_Kind==3)==true)
 ((z1o q19v).bind fun r2 =>
 (brE (!r2)
 (some 10)
 (brE (z1m q1a1)
 (some 1)
 (brE (z1n r_N)
 (brE (decide (r_N>63))
 (some 3)
 (some 0))
 (some 3)))))
 (brE (z1m q1a1)
 (some 1)
 (brE (z1n r_N)
 (brE (decide (r_N>63))
 (some 3)
 (some 0))
 (some 3)))))
 (brE ((r_Kind==3)==true)
 ((z1o q19v).bind fun r2 =>
 (brE (!r2)
 (some 10)
 (brE (z1m q1a1)
 (some 1)
 (brE (z1n r_N)
 (brE (decide (r_N>63))
 (some 3)
 (some 0))
 (some 3)))))
 (brE (z1m q1a1)
 (some 1)
 (brE (z1n r_N)
 (brE (decide (r_N>63))
 (some 3)
 (some 0))
 (some 3)))))))
 (brE ((r_Kind==3)==true)
 ((z1o q19v).bind fun r1 =>
 (brE (!r1)
 (some 10)
 (brE (z1m q1a1)
 (some 1)
 (brE (z1n r_N)
 (brE (decide (r_N>63))
 (some 3)
 (some 0))
 (some 3)))))
 (brE (z1m q1a1)
 (some 1)
 (brE (z1n r_N)
 (brE (decide (r_N>63))
 (some 3)
 (some 0))
 (some 3))))))
 (some 4))
 (brE ((r_Kind==2)==true)
 ((q1du r_Act).bind fun r1 =>
 (brE ((!r1)==true)
 (brE (z1p q1a1)
 (brE ((r_Act != 6)==true)
 (brE (r_N != 0)
 (some 5)
 (brE ((r_Kind==3)==true)
 ((z1o q19v).bind fun r2 =>
 (brE (!r2)
 (some 10)
 (brE (z1m q1a1)
 (some 1)
 (brE (z1n r_N)
 (brE (decide (r_N>63))
 (some 3)
 (some 0))
 (some 3)))))
 (brE (z1m q1a1)
 (some 1)
 (brE (z1n r_N)
 (brE (decide (r_N>63))
 (some 3)
 (some 0))
 (some 3)))))
 (brE ((r_Kind==3)==true)
 ((z1o q19v).bind fun r2 =>
 (brE (!r2)
 (some 10)
 (brE (z1m q1a1)
 (some 1)
 (brE (z1n r_N)
 (brE (decide (r_N>63))
 (some 3)
 (some 0))
 (some 3)))))
 (brE (z1m q1a1)
 (some 1)
 (brE (z1n r_N)
 (brE (decide (r_N>63))
 (some 3)
 (some 0))
 (some 3)))))
 (some 5))
 (brE ((r_Act != 6)==true)
 (brE (r_N != 0)
 (some 5)
 (brE ((r_Kind==3)==true)
 ((z1o q19v).bind fun r2 =>
 (brE (!r2)
 (some 10)
 (brE (z1m q1a1)
 (some 1)
 (brE (z1n r_N)
 (brE (decide (r_N>63))
 (some 3)
 (some 0))
 (some 3)))))
 (brE (z1m q1a1)
 (some 1)
 (brE (z1n r_N)
 (brE (decide (r_N>63))
 (some 3)
 (some 0))
 (some 3)))))
 (brE ((r_Kind==3)==true)
 ((z1o q19v).bind fun r2 =>
 (brE (!r2)
 (some 10)
 (brE (z1m q1a1)
 (some 1)
 (brE (z1n r_N)
 (brE (decide (r_N>63))
 (some 3)
 (some 0))
 (some 3)))))
 (brE (z1m q1a1)
 (some 1)
 (brE (z1n r_N)
 (brE (decide (r_N>63))
 (some 3)
 (some 0))
 (some 3)))))))
 (brE ((r_Kind==3)==true)
 ((z1o q19v).bind fun r1 =>
 (brE (!r1)
 (some 10)
 (brE (z1m q1a1)
 (some 1)
 (brE (z1n r_N)
 (brE (decide (r_N>63))
 (some 3)
 (some 0))
 (some 3)))))
 (brE (z1m q1a1)
 (some 1)
 (brE (z1n r_N)
 (brE (decide (r_N>63))
 (some 3)
 (some 0))
 (some 3))))))))
 (some 5))
 (some 5))
 (brE ((r_Kind != 3)==true)
 (brE ((!(q19v.toList==(ByteArray.toList ⟨#[]⟩)))==false)
 (brE ((r_Kind==4)==true)
 (brE (!(q1a1.toList==(ByteArray.toList ⟨#[]⟩)))
 (some 5)
 (brE ((r_Kind==2)==true)
 (brE (z1q r_Act)
 (brE (decide (r_Act>7))
 (some 4)
 (brE ((r_Kind==2)==true)
 ((q1du r_Act).bind fun r1 =>
 (brE ((!r1)==true)
 (brE (z1p q1a1)
 (brE ((r_Act != 6)==true)
 (brE (r_N != 0)
 (some 5)
 (brE ((r_Kind==3)==true)
 ((z1o q19v).bind fun r2 =>
 (brE (!r2)
 (some 10)
 (brE (z1m q1a1)
 (some 1)
 (brE (z1n r_N)
 (brE (decide (r_N>63))
 (some 3)
 (some 0))
 (some 3)))))
 (brE (z1m q1a1)
 (some 1)
 (brE (z1n r_N)
 (brE (decide (r_N>63))
 (some 3)
 (some 0))
 (some 3)))))
 (brE ((r_Kind==3)==true)
 ((z1o q19v).bind fun r2 =>
 (brE (!r2)
 (some 10)
 (brE (z1m q1a1)
 (some 1)
 (brE (z1n r_N)
 (brE (decide (r_N>63))
 (some 3)
 (some 0))
 (some 3)))))
 (brE (z1m q1a1)
 (some 1)
 (brE (z1n r_N)
 (brE (decide (r_N>63))
 (some 3)
 (some 0))
 (some 3)))))
 (some 5))
 (brE ((r_Act != 6)==true)
 (brE (r_N != 0)
 (some 5)
 (brE ((r_Kind==3)==true)
 ((z1o q19v).bind fun r2 =>
 (brE (!r2)
 (some 10)
 (brE (z1m q1a1)
 (some 1)
 (brE (z1n r_N)
 (brE (decide (r_N>63))
 (some 3)
 (some 0))
 (some 3)))))
 (brE (z1m q1a1)
 (some 1)
 (brE (z1n r_N)
 (brE (decide (r_N>63))
 (some 3)
 (some 0))
 (some 3)))))
 (brE ((r_Kind==3)==true)
 ((z1o q19v).bind fun r2 =>
 (brE (!r2)
 (some 10)
 (brE (z1m q1a1)
 (some 1)
 (brE (z1n r_N)
 (brE (decide (r_N>63))
 (some 3)
 (some 0))
 (some 3)))))
 (brE (z1m q1a1)
 (some 1)
 (brE (z1n r_N)
 (brE (decide (r_N>63))
 (some 3)
 (some 0))
 (some 3)))))))
 (brE ((r_Kind==3)==true)
 ((z1o q19v).bind fun r1 =>
 (brE (!r1)
 (some 10)
 (brE (z1m q1a1)
 (some 1)
 (brE (z1n r_N)
 (brE (decide (r_N>63))
 (some 3)
 (some 0))
 (some 3)))))
 (brE (z1m q1a1)
 (some 1)
 (brE (z1n r_N)
 (brE (decide (r_N>63))
 (some 3)
 (some 0))
 (some 3))))))
 (some 4))
 (brE ((r_Kind==2)==true)
 ((q1du r_Act).bind fun r1 =>
 (brE ((!r1)==true)
 (brE (z1p q1a1)
 (brE ((r_Act != 6)==true)
 (brE (r_N != 0)
 (some 5)
 (brE ((r_Kind==3)==true)
 ((z1o q19v).bind fun r2 =>
 (brE (!r2)
 (some 10)
 (brE (z1m q1a1)
 (some 1)
 (brE (z1n r_N)
 (brE (decide (r_N>63))
 (some 3)
 (some 0))
 (some 3)))))
 (brE (z1m q1a1)
 (some 1)
 (brE (z1n r_N)
 (brE (decide (r_N>63))
 (some 3)
 (some 0))
 (some 3)))))
 (brE ((r_Kind==3)==true)
 ((z1o q19v).bind fun r2 =>
 (brE (!r2)
 (some 10)
 (brE (z1m q1a1)
 (some 1)
 (brE (z1n r_N)
 (brE (decide (r_N>63))
 (some 3)
 (some 0))
 (some 3)))))
 (brE (z1m q1a1)
 (some 1)
 (brE (z1n r_N)
 (brE (decide (r_N>63))
 (some 3)
 (some 0))
 (some 3)))))
 (some 5))
 (brE ((r_Act != 6)==true)
 (brE (r_N != 0)
 (some 5)
 (brE ((r_Kind==3)==true)
 ((z1o q19v).bind fun r2 =>
 (brE (!r2)
 (some 10)
 (brE (z1m q1a1)
 (some 1)
 (brE (z1n r_N)
 (brE (decide (r_N>63))
 (some 3)
 (some 0))
 (some 3)))))
 (brE (z1m q1a1)
 (some 1)
 (brE (z1n r_N)
 (brE (decide (r_N>63))
 (some 3)
 (some 0))
 (some 3)))))
 (brE ((r_Kind==3)==true)
 ((z1o q19v).bind fun r2 =>
 (brE (!r2)
 (some 10)
 (brE (z1m q1a1)
 (some 1)
 (brE (z1n r_N)
 (brE (decide (r_N>63))
 (some 3)
 (some 0))
 (some 3)))))
 (brE (z1m q1a1)
 (some 1)
 (brE (z1n r_N)
 (brE (decide (r_N>63))
 (some 3)
 (some 0))
 (some 3)))))))
 (brE ((r_Kind==3)==true)
 ((z1o q19v).bind fun r1 =>
 (brE (!r1)
 (some 10)
 (brE (z1m q1a1)
 (some 1)
 (brE (z1n r_N)
 (brE (decide (r_N>63))
 (some 3)
 (some 0))
 (some 3)))))
 (brE (z1m q1a1)
 (some 1)
 (brE (z1n r_N)
 (brE (decide (r_N>63))
 (some 3)
 (some 0))
 (some 3)))))))
 (brE ((r_Kind==2)==true)
 (brE (z1q r_Act)
 (brE (decide (r_Act>7))
 (some 4)
 (brE ((r_Kind==2)==true)
 ((q1du r_Act).bind fun r1 =>
 (brE ((!r1)==true)
 (brE (z1p q1a1)
 (brE ((r_Act != 6)==true)
 (brE (r_N != 0)
 (some 5)
 (brE ((r_Kind==3)==true)
 ((z1o q19v).bind fun r2 =>
 (brE (!r2)
 (some 10)
 (brE (z1m q1a1)
 (some 1)
 (brE (z1n r_N)
 (brE (decide (r_N>63))
 (some 3)
 (some 0))
 (some 3)))))
 (brE (z1m q1a1)
 (some 1)
 (brE (z1n r_N)
 (brE (decide (r_N>63))
 (some 3)
 (some 0))
 (some 3)))))
 (brE ((r_Kind==3)==true)
 ((z1o q19v).bind fun r2 =>
 (brE (!r2)
 (some 10)
 (brE (z1m q1a1)
 (some 1)
 (brE (z1n r_N)
 (brE (decide (r_N>63))
 (some 3)
 (some 0))
 (some 3)))))
 (brE (z1m q1a1)
 (some 1)
 (brE (z1n r_N)
 (brE (decide (r_N>63))
 (some 3)
 (some 0))
 (some 3)))))
 (some 5))
 (brE ((r_Act != 6)==true)
 (brE (r_N != 0)
 (some 5)
 (brE ((r_Kind==3)==true)
 ((z1o q19v).bind fun r2 =>
 (brE (!r2)
 (some 10)
 (brE (z1m q1a1)
 (some 1)
 (brE (z1n r_N)
 (brE (decide (r_N>63))
 (some 3)
 (some 0))
 (some 3)))))
 (brE (z1m q1a1)
 (some 1)
 (brE (z1n r_N)
 (brE (decide (r_N>63))
 (some 3)
 (some 0))
 (some 3)))))
 (brE ((r_Kind==3)==true)
 ((z1o q19v).bind fun r2 =>
 (brE (!r2)
 (some 10)
 (brE (z1m q1a1)
 (some 1)
 (brE (z1n r_N)
 (brE (decide (r_N>63))
 (some 3)
 (some 0))
 (some 3)))))
 (brE (z1m q1a1)
 (some 1)
 (brE (z1n r_N)
 (brE (decide (r_N>63))
 (some 3)
 (some 0))
 (some 3)))))))
 (brE ((r_Kind==3)==true)
 ((z1o q19v).bind fun r1 =>
 (brE (!r1)
 (some 10)
 (brE (z1m q1a1)
 (some 1)
 (brE (z1n r_N)
 (brE (decide (r_N>63))
 (some 3)
 (some 0))
 (some 3)))))
 (brE (z1m q1a1)
 (some 1)
 (brE (z1n r_N)
 (brE (decide (r_N>63))
 (some 3)
 (some 0))
 (some 3))))))
 (some 4))
 (brE ((r_Kind==2)==true)
 ((q1du r_Act).bind fun r1 =>
 (brE ((!r1)==true)
 (brE (z1p q1a1)
 (brE ((r_Act != 6)==true)
 (brE (r_N != 0)
 (some 5)
 (brE ((r_Kind==3)==true)
 ((z1o q19v).bind fun r2 =>
 (brE (!r2)
 (some 10)
 (brE (z1m q1a1)
 (some 1)
 (brE (z1n r_N)
 (brE (decide (r_N>63))
 (some 3)
 (some 0))
 (some 3)))))
 (brE (z1m q1a1)
 (some 1)
 (brE (z1n r_N)
 (brE (decide (r_N>63))
 (some 3)
 (some 0))
 (some 3)))))
 (brE ((r_Kind==3)==true)
 ((z1o q19v).bind fun r2 =>
 (brE (!r2)
 (some 10)
 (brE (z1m q1a1)
 (some 1)
 (brE (z1n r_N)
 (brE (decide (r_N>63))
 (some 3)
 (some 0))
 (some 3)))))
 (brE (z1m q1a1)
 (some 1)
 (brE (z1n r_N)
 (brE (decide (r_N>63))
 (some 3)
 (some 0))
 (some 3)))))
 (some 5))
 (brE ((r_Act != 6)==true)
 (brE (r_N != 0)
 (some 5)
 (brE ((r_Kind==3)==true)
 ((z1o q19v).bind fun r2 =>
 (brE (!r2)
 (some 10)
 (brE (z1m q1a1)
 (some 1)
 (brE (z1n r_N)
 (brE (decide (r_N>63))
 (some 3)
 (some 0))
 (some 3)))))
 (brE (z1m q1a1)
 (some 1)
 (brE (z1n r_N)
 (brE (decide (r_N>63))
 (some 3)
 (some 0))
 (some 3)))))
 (brE ((r_Kind==3)==true)
 ((z1o q19v).bind fun r2 =>
 (brE (!r2)
 (some 10)
 (brE (z1m q1a1)
 (some 1)
 (brE (z1n r_N)
 (brE (decide (r_N>63))
 (some 3)
 (some 0))
 (some 3)))))
 (brE (z1m q1a1)
 (some 1)
 (brE (z1n r_N)
 (brE (decide (r_N>63))
 (some 3)
 (some 0))
 (some 3)))))))
 (brE ((r_Kind==3)==true)
 ((z1o q19v).bind fun r1 =>
 (brE (!r1)
 (some 10)
 (brE (z1m q1a1)
 (some 1)
 (brE (z1n r_N)
 (brE (decide (r_N>63))
 (some 3)
 (some 0))
 (some 3)))))
 (brE (z1m q1a1)
 (some 1)
 (brE (z1n r_N)
 (brE (decide (r_N>63))
 (some 3)
 (some 0))
 (some 3)))))))
 (some 5))
 (brE ((r_Kind==4)==true)
 (brE (!(q1a1.toList==(ByteArray.toList ⟨#[]⟩)))
 (some 5)
 (brE ((r_Kind==2)==true)
 (brE (z1q r_Act)
 (brE (decide (r_Act>7))
 (some 4)
 (brE ((r_Kind==2)==true)
 ((q1du r_Act).bind fun r1 =>
 (brE ((!r1)==true)
 (brE (z1p q1a1)
 (brE ((r_Act != 6)==true)
 (brE (r_N != 0)
 (some 5)
 (brE ((r_Kind==3)==true)
 ((z1o q19v).bind fun r2 =>
 (brE (!r2)
 (some 10)
 (brE (z1m q1a1)
 (some 1)
 (brE (z1n r_N)
 (brE (decide (r_N>63))
 (some 3)
 (some 0))
 (some 3)))))
 (brE (z1m q1a1)
 (some 1)
 (brE (z1n r_N)
 (brE (decide (r_N>63))
 (some 3)
 (some 0))
 (some 3)))))
 (brE ((r_Kind==3)==true)
 ((z1o q19v).bind fun r2 =>
 (brE (!r2)
 (some 10)
 (brE (z1m q1a1)
 (some 1)
 (brE (z1n r_N)
 (brE (decide (r_N>63))
 (some 3)
 (some 0))
 (some 3)))))
 (brE (z1m q1a1)
 (some 1)
 (brE (z1n r_N)
 (brE (decide (r_N>63))
 (some 3)
 (some 0))
 (some 3)))))
 (some 5))
 (brE ((r_Act != 6)==true)
 (brE (r_N != 0)
 (some 5)
 (brE ((r_Kind==3)==true)
 ((z1o q19v).bind fun r2 =>
 (brE (!r2)
 (some 10)
 (brE (z1m q1a1)
 (some 1)
 (brE (z1n r_N)
 (brE (decide (r_N>63))
 (some 3)
 (some 0))
 (some 3)))))
 (brE (z1m q1a1)
 (some 1)
 (brE (z1n r_N)
 (brE (decide (r_N>63))
 (some 3)
 (some 0))
 (some 3)))))
 (brE ((r_Kind==3)==true)
 ((z1o q19v).bind fun r2 =>
 (brE (!r2)
 (some 10)
 (brE (z1m q1a1)
 (some 1)
 (brE (z1n r_N)
 (brE (decide (r_N>63))
 (some 3)
 (some 0))
 (some 3)))))
 (brE (z1m q1a1)
 (some 1)
 (brE (z1n r_N)
 (brE (decide (r_N>63))
 (some 3)
 (some 0))
 (some 3)))))))
 (brE ((r_Kind==3)==true)
 ((z1o q19v).bind fun r1 =>
 (brE (!r1)
 (some 10)
 (brE (z1m q1a1)
 (some 1)
 (brE (z1n r_N)
 (brE (decide (r_N>63))
 (some 3)
 (some 0))
 (some 3)))))
 (brE (z1m q1a1)
 (some 1)
 (brE (z1n r_N)
 (brE (decide (r_N>63))
 (some 3)
 (some 0))
 (some 3))))))
 (some 4))
 (brE ((r_Kind==2)==true)
 ((q1du r_Act).bind fun r1 =>
 (brE ((!r1)==true)
 (brE (z1p q1a1)
 (brE ((r_Act != 6)==true)
 (brE (r_N != 0)
 (some 5)
 (brE ((r_Kind==3)==true)
 ((z1o q19v).bind fun r2 =>
 (brE (!r2)
 (some 10)
 (brE (z1m q1a1)
 (some 1)
 (brE (z1n r_N)
 (brE (decide (r_N>63))
 (some 3)
 (some 0))
 (some 3)))))
 (brE (z1m q1a1)
 (some 1)
 (brE (z1n r_N)
 (brE (decide (r_N>63))
 (some 3)
 (some 0))
 (some 3)))))
 (brE ((r_Kind==3)==true)
 ((z1o q19v).bind fun r2 =>
 (brE (!r2)
 (some 10)
 (brE (z1m q1a1)
 (some 1)
 (brE (z1n r_N)
 (brE (decide (r_N>63))
 (some 3)
 (some 0))
 (some 3)))))
 (brE (z1m q1a1)
 (some 1)
 (brE (z1n r_N)
 (brE (decide (r_N>63))
 (some 3)
 (some 0))
 (some 3)))))
 (some 5))
 (brE ((r_Act != 6)==true)
 (brE (r_N != 0)
 (some 5)
 (brE ((r_Kind==3)==true)
 ((z1o q19v).bind fun r2 =>
 (brE (!r2)
 (some 10)
 (brE (z1m q1a1)
 (some 1)
 (brE (z1n r_N)
 (brE (decide (r_N>63))
 (some 3)
 (some 0))
 (some 3)))))
 (brE (z1m q1a1)
 (some 1)
 (brE (z1n r_N)
 (brE (decide (r_N>63))
 (some 3)
 (some 0))
 (some 3)))))
 (brE ((r_Kind==3)==true)
 ((z1o q19v).bind fun r2 =>
 (brE (!r2)
 (some 10)
 (brE (z1m q1a1)
 (some 1)
 (brE (z1n r_N)
 (brE (decide (r_N>63))
 (some 3)
 (some 0))
 (some 3)))))
 (brE (z1m q1a1)
 (some 1)
 (brE (z1n r_N)
 (brE (decide (r_N>63))
 (some 3)
 (some 0))
 (some 3)))))))
 (brE ((r_Kind==3)==true)
 ((z1o q19v).bind fun r1 =>
 (brE (!r1)
 (some 10)
 (brE (z1m q1a1)
 (some 1)
 (brE (z1n r_N)
 (brE (decide (r_N>63))
 (some 3)
 (some 0))
 (some 3)))))
 (brE (z1m q1a1)
 (some 1)
 (brE (z1n r_N)
 (brE (decide (r_N>63))
 (some 3)
 (some 0))
 (some 3)))))))
 (brE ((r_Kind==2)==true)
 (brE (z1q r_Act)
 (brE (decide (r_Act>7))
 (some 4)
 (brE ((r_Kind==2)==true)
 ((q1du r_Act).bind fun r1 =>
 (brE ((!r1)==true)
 (brE (z1p q1a1)
 (brE ((r_Act != 6)==true)
 (brE (r_N != 0)
 (some 5)
 (brE ((r_Kind==3)==true)
 ((z1o q19v).bind fun r2 =>
 (brE (!r2)
 (some 10)
 (brE (z1m q1a1)
 (some 1)
 (brE (z1n r_N)
 (brE (decide (r_N>63))
 (some 3)
 (some 0))
 (some 3)))))
 (brE (z1m q1a1)
 (some 1)
 (brE (z1n r_N)
 (brE (decide (r_N>63))
 (some 3)
 (some 0))
 (some 3)))))
 (brE ((r_Kind==3)==true)
 ((z1o q19v).bind fun r2 =>
 (brE (!r2)
 (some 10)
 (brE (z1m q1a1)
 (some 1)
 (brE (z1n r_N)
 (brE (decide (r_N>63))
 (some 3)
 (some 0))
 (some 3)))))
 (brE (z1m q1a1)
 (some 1)
 (brE (z1n r_N)
 (brE (decide (r_N>63))
 (some 3)
 (some 0))
 (some 3)))))
 (some 5))
 (brE ((r_Act != 6)==true)
 (brE (r_N != 0)
 (some 5)
 (brE ((r_Kind==3)==true)
 ((z1o q19v).bind fun r2 =>
 (brE (!r2)
 (some 10)
 (brE (z1m q1a1)
 (some 1)
 (brE (z1n r_N)
 (brE (decide (r_N>63))
 (some 3)
 (some 0))
 (some 3)))))
 (brE (z1m q1a1)
 (some 1)
 (brE (z1n r_N)
 (brE (decide (r_N>63))
 (some 3)
 (some 0))
 (some 3)))))
 (brE ((r_Kind==3)==true)
 ((z1o q19v).bind fun r2 =>
 (brE (!r2)
 (some 10)
 (brE (z1m q1a1)
 (some 1)
 (brE (z1n r_N)
 (brE (decide (r_N>63))
 (some 3)
 (some 0))
 (some 3)))))
 (brE (z1m q1a1)
 (some 1)
 (brE (z1n r_N)
 (brE (decide (r_N>63))
 (some 3)
 (some 0))
 (some 3)))))))
 (brE ((r_Kind==3)==true)
 ((z1o q19v).bind fun r1 =>
 (brE (!r1)
 (some 10)
 (brE (z1m q1a1)
 (some 1)
 (brE (z1n r_N)
 (brE (decide (r_N>63))
 (some 3)
 (some 0))
 (some 3)))))
 (brE (z1m q1a1)
 (some 1)
 (brE (z1n r_N)
 (brE (decide (r_N>63))
 (some 3)
 (some 0))
 (some 3))))))
 (some 4))
 (brE ((r_Kind==2)==true)
 ((q1du r_Act).bind fun r1 =>
 (brE ((!r1)==true)
 (brE (z1p q1a1)
 (brE ((r_Act != 6)==true)
 (brE (r_N != 0)
 (some 5)
 (brE ((r_Kind==3)==true)
 ((z1o q19v).bind fun r2 =>
 (brE (!r2)
 (some 10)
 (brE (z1m q1a1)
 (some 1)
 (brE (z1n r_N)
 (brE (decide (r_N>63))
 (some 3)
 (some 0))
 (some 3)))))
 (brE (z1m q1a1)
 (some 1)
 (brE (z1n r_N)
 (brE (decide (r_N>63))
 (some 3)
 (some 0))
 (some 3)))))
 (brE ((r_Kind==3)==true)
 ((z1o q19v).bind fun r2 =>
 (brE (!r2)
 (some 10)
 (brE (z1m q1a1)
 (some 1)
 (brE (z1n r_N)
 (brE (decide (r_N>63))
 (some 3)
 (some 0))
 (some 3)))))
 (brE (z1m q1a1)
 (some 1)
 (brE (z1n r_N)
 (brE (decide (r_N>63))
 (some 3)
 (some 0))
 (some 3)))))
 (some 5))
 (brE ((r_Act != 6)==true)
 (brE (r_N != 0)
 (some 5)
 (brE ((r_Kind==3)==true)
 ((z1o q19v).bind fun r2 =>
 (brE (!r2)
 (some 10)
 (brE (z1m q1a1)
 (some 1)
 (brE (z1n r_N)
 (brE (decide (r_N>63))
 (some 3)
 (some 0))
 (some 3)))))
 (brE (z1m q1a1)
 (some 1)
 (brE (z1n r_N)
 (brE (decide (r_N>63))
 (some 3)
 (some 0))
 (some 3)))))
 (brE ((r_Kind==3)==true)
 ((z1o q19v).bind fun r2 =>
 (brE (!r2)
 (some 10)
 (brE (z1m q1a1)
 (some 1)
 (brE (z1n r_N)
 (brE (decide (r_N>63))
 (some 3)
 (some 0))
 (some 3)))))
 (brE (z1m q1a1)
 (some 1)
 (brE (z1n r_N)
 (brE (decide (r_N>63))
 (some 3)
 (some 0))
 (some 3)))))))
 (brE ((r_Kind==3)==true)
 ((z1o q19v).bind fun r1 =>
 (brE (!r1)
 (some 10)
 (brE (z1m q1a1)
 (some 1)
 (brE (z1n r_N)
 (brE (decide (r_N>63))
 (some 3)
 (some 0))
 (some 3)))))
 (brE (z1m q1a1)
 (some 1)
 (brE (z1n r_N)
 (brE (decide (r_N>63))
 (some 3)
 (some 0))
 (some 3)))))))))
 (some 5))
 (some 5))))
theorem q1cw {r_Kind r_Test_Kind q19z q19x q19y q1a0 q19w r_Then r_Else r_Act q19v q1a1 r_N r} (h:q1cy r_Kind r_Test_Kind q19z q19x q19y q1a0 q19w r_Then r_Else r_Act q19v q1a1 r_N=some r):q1cx r_Kind r_Test_Kind q19z q19x q19y q1a0 q19w r_Then r_Else r_Act q19v q1a1 r_N=some r :=
 qjn (es:=q1kc) (hs:=[]) [] Tryz.func101 rfl (by kernel_rfl) rfl (by kernel_rfl) (by kernel_rfl) trivial trivial (by kernel_rfl) h
def q1cv:=entS Tryz.prog lv X0 101 [] q1ct q1cu (fun x=>q1cx x.1 x.2.1 x.2.2.1 x.2.2.2.1 x.2.2.2.2.1 x.2.2.2.2.2.1 x.2.2.2.2.2.2.1 x.2.2.2.2.2.2.2.1 x.2.2.2.2.2.2.2.2.1 x.2.2.2.2.2.2.2.2.2.1 x.2.2.2.2.2.2.2.2.2.2.1 x.2.2.2.2.2.2.2.2.2.2.2.1 x.2.2.2.2.2.2.2.2.2.2.2.2) (fun _ _ h=>qjm h)
def q1k7:=q1cv::q1kc
def q1d5:=(qrd (vAgg z3x) (qrf z3w))
def q1d6:Cod (V×List B) Int:=z47
def q1do (q1hv:Int) (q1hy:L48) (q1hw:BA) (q1hx:Int) (q1hz:BA) (t_N depth:Int):=fS Tryz.prog lv X0 102 q1d5 q1d6 ((q1hv,q1hy,q1hw,q1hx,q1hz,t_N),depth)
def q1d7:=entS Tryz.prog lv X0 102 [] q1d5 q1d6 (fun x=>q1do x.1.1 x.1.2.1 x.1.2.2.1 x.1.2.2.2.1 x.1.2.2.2.2.1 x.1.2.2.2.2.2 x.2) (fun _ _ h=>qjm h)
def q1k9:=q1d7::q1k7
def q1dm:=sLS [1,105,106,107] (qrd z3w (qrd (vC (cSl qaz)) z3z)) qre [] [] (by decide) (fun _=>rfl)
def q1dl:=sLS [1,105,106,107,108] (qrd z3w (qrd (vC (cSl qaz)) z40)) qre [] [] (by decide) (fun _=>rfl)
def q1dk:=sLS [4] (qrf z3w) qre [] [] (by decide) (fun _=>rfl)
def q1dj:=oOr 1 q1dk (oAt 3 q1dl) (fun x=>(by decide:(3:Nat)≠1))
def q1dg (depth:Int) (t105:L48) (t106 t107:Int):=lS Tryz.prog lv X0 102 119 (qnb (cdF Tryz.f102) 19) q1dm q1dj ((depth,t105,t106,t107),())
abbrev z1r (t105:L48) (t107:Int):=(List.getD (EC.encL qaz t105) (Int.toNat t107) [])
def q1dn (depth:Int) (t105:L48) (t106 t107:Int):Oq ((Int×Unit)⊕((Int×L48×Int×Int×Bool)×Unit)) :=
 (brE (decide (t107<t106))
 (gdE (p0 t107)<|
 (gdE (eC qaz t105 t107 [(K1.int Go.IntKind.i64),K1.sl,K1.str,(K1.int Go.IntKind.i64),K1.str,(K1.int Go.IntKind.i64)])<|
 (gdE (EC.isL qaz (slOf (List.getD (z1r t105 t107) 1 C.ne)))<|
 ((q1do (qqd (List.getD (z1r t105 t107) 0 C.ne)) (uL qaz (List.getD (z1r t105 t107) 1 C.ne)) (q1gu (List.getD (z1r t105 t107) 2 C.ne)) (qqd (List.getD (z1r t105 t107) 3 C.ne)) (q1gu (List.getD (z1r t105 t107) 4 C.ne)) (qqd (List.getD (z1r t105 t107) 5 C.ne)) (wI depth)).bind fun r0 =>
 (brE (r0 != 0)
 (some (.inl (r0,())))
 (gL qaz t105<|
 (q1dg depth (dL qaz t105) t106 (wI t107))))))))
 (gL qaz t105<|
 (some (.inr ((depth,((dL qaz t105),(t106,(t107,false)))),())))))
theorem q1di {depth t105 t106 t107 r} (h:q1dn depth t105 t106 t107=some r):q1dg depth t105 t106 t107=some r :=
 qrh (es:=q1k9) (hs:=[]) [] (by kernel_rfl) trivial trivial (by kernel_rfl) h
def q1dh:=qs5 Tryz.prog lv X0 19 (qnb (cdF Tryz.f102) 19) q1dm q1dj (fun x=>q1dg x.1.1 x.1.2.1 x.1.2.2.1 x.1.2.2.2) (fun _ _ h=>qrg h)
def q1de:=sLS [1,2] (qrd z3w (qrf (vPtr 0 0))) (qrf (qv4 (bBox z3x))) [false] [] (by decide) (fun _=>rfl)
def q1dd:=sLS [4] (qrf z3w) qre [] [] (by decide) (fun _=>rfl)
def q1dc:=oAt 1 q1dd
def q1d9 (depth b0:Int) (b0_1:L48) (b0_2:BA) (b0_3:Int) (b0_4:BA) (b0_5:Int):=gS Tryz.prog lv X0 102 119 (qni (cdF Tryz.f102) 18) q1de q1dc ((depth,()),(b0,b0_1,b0_2,b0_3,b0_4,b0_5))
def q1df (depth b0:Int) (b0_1:L48) (b0_2:BA) (b0_3:Int) (b0_4:BA) (b0_5:Int):Oq (Int×Unit) :=
 (gL qaz b0_1<|
 ((q1dg depth (dL qaz b0_1) (lN qaz b0_1:Int) 0).bind fun r0 =>
 (Sum.elim (fun r1=>(some (r1.1,())))
 (fun r1=>(some (0,()))) r0)))
theorem q1db {depth b0 b0_1 b0_2 b0_3 b0_4 b0_5 r} (h:q1df depth b0 b0_1 b0_2 b0_3 b0_4 b0_5=some r):q1d9 depth b0 b0_1 b0_2 b0_3 b0_4 b0_5=some r :=
 qn5 (es:=q1k9) (hs:=[]) [q1dh] (by kernel_rfl) ⟨⟨_,rfl,rfl⟩,trivial⟩ trivial (by kernel_rfl) h
def q1da:=gentS Tryz.prog lv X0 18 (qni (cdF Tryz.f102) 18) (by kernel_rfl) q1de q1dc (fun x=>q1d9 x.1.1 x.2.1 x.2.2.1 x.2.2.2.1 x.2.2.2.2.1 x.2.2.2.2.2.1 x.2.2.2.2.2.2) (fun _ _ h=>qn4 h)
abbrev z1s (q1hz:BA):=(decide ((q1hz.size:Int)>200))
abbrev z1t (t_N:Int):=((decide (t_N<0))==false)
abbrev z1u (q1hv:Int) (q1hy:L48) (q1hw:BA) (q1hx:Int) (q1hz:BA) (t_N depth:Int):=(q1d9 depth q1hv (dL qaz q1hy) q1hw q1hx q1hz t_N)
abbrev z1v (t_N:Int):=(decide (t_N>1000000))
abbrev z1w (q1hx:Int):=((decide (q1hx<1))==false)
abbrev z1x (q1hw:BA):=((q1hw.toList==(ByteArray.toList ⟨#[]⟩))==false)
abbrev z1y (q1hw:BA):=(decide ((q1hw.size:Int)>60))
abbrev z1z (q1hx:Int):=(decide (q1hx>3))
def q1dp (q1hv:Int) (q1hy:L48) (q1hw:BA) (q1hx:Int) (q1hz:BA) (t_N depth:Int):Oq Int :=
 ((q1e0 q1hv).bind fun r0 =>
 (brE (decide (depth>8))
 (some 5)
 (brE ((decide (q1hv<1))==false)
 (brE (decide (q1hv>9))
 (some 4)
 (gL qaz q1hy<|
 ((q1cl q1hv (dL qaz q1hy) q1hw q1hx q1hz t_N).bind fun r1 =>
 (brE (!r1)
 (some 5)
 (brE ((!r0.1)==true)
 (brE ((!(q1hw.toList==(ByteArray.toList ⟨#[]⟩)))==false)
 (brE ((!r0.2.1)==true)
 (brE ((q1hx != 0)==false)
 (brE ((!(q1hz.toList==(ByteArray.toList ⟨#[]⟩)))==false)
 (brE ((!r0.2.2)==true)
 (brE (t_N != 0)
 (some 5)
 (brE (r0.1==true)
 (brE (z1x q1hw)
 (brE (z1y q1hw)
 (some 10)
 (brE (r0.2.1==true)
 (brE (z1w q1hx)
 (brE (z1z q1hx)
 (some 4)
 (brE (z1s q1hz)
 (some 1)
 (brE (z1t t_N)
 (brE (z1v t_N)
 (some 3)
 (gL qaz q1hy<|
 ((z1u q1hv q1hy q1hw q1hx q1hz t_N depth).bind fun r2 =>
 (some r2.1))))
 (some 3))))
 (some 4))
 (brE (z1s q1hz)
 (some 1)
 (brE (z1t t_N)
 (brE (z1v t_N)
 (some 3)
 (gL qaz q1hy<|
 ((z1u q1hv q1hy q1hw q1hx q1hz t_N depth).bind fun r2 =>
 (some r2.1))))
 (some 3)))))
 (some 10))
 (brE (r0.2.1==true)
 (brE (z1w q1hx)
 (brE (z1z q1hx)
 (some 4)
 (brE (z1s q1hz)
 (some 1)
 (brE (z1t t_N)
 (brE (z1v t_N)
 (some 3)
 (gL qaz q1hy<|
 ((z1u q1hv q1hy q1hw q1hx q1hz t_N depth).bind fun r2 =>
 (some r2.1))))
 (some 3))))
 (some 4))
 (brE (z1s q1hz)
 (some 1)
 (brE (z1t t_N)
 (brE (z1v t_N)
 (some 3)
 (gL qaz q1hy<|
 ((z1u q1hv q1hy q1hw q1hx q1hz t_N depth).bind fun r2 =>
 (some r2.1))))
 (some 3))))))
 (brE (r0.1==true)
 (brE (z1x q1hw)
 (brE (z1y q1hw)
 (some 10)
 (brE (r0.2.1==true)
 (brE (z1w q1hx)
 (brE (z1z q1hx)
 (some 4)
 (brE (z1s q1hz)
 (some 1)
 (brE (z1t t_N)
 (brE (z1v t_N)
 (some 3)
 (gL qaz q1hy<|
 ((z1u q1hv q1hy q1hw q1hx q1hz t_N depth).bind fun r2 =>
 (some r2.1))))
 (some 3))))
 (some 4))
 (brE (z1s q1hz)
 (some 1)
 (brE (z1t t_N)
 (brE (z1v t_N)
 (some 3)
 (gL qaz q1hy<|
 ((z1u q1hv q1hy q1hw q1hx q1hz t_N depth).bind fun r2 =>
 (some r2.1))))
 (some 3)))))
 (some 10))
 (brE (r0.2.1==true)
 (brE (z1w q1hx)
 (brE (z1z q1hx)
 (some 4)
 (brE (z1s q1hz)
 (some 1)
 (brE (z1t t_N)
 (brE (z1v t_N)
 (some 3)
 (gL qaz q1hy<|
 ((z1u q1hv q1hy q1hw q1hx q1hz t_N depth).bind fun r2 =>
 (some r2.1))))
 (some 3))))
 (some 4))
 (brE (z1s q1hz)
 (some 1)
 (brE (z1t t_N)
 (brE (z1v t_N)
 (some 3)
 (gL qaz q1hy<|
 ((z1u q1hv q1hy q1hw q1hx q1hz t_N depth).bind fun r2 =>
 (some r2.1))))
 (some 3))))))
 (some 5))
 (some 5))
 (brE ((!r0.2.2)==true)
 (brE (t_N != 0)
 (some 5)
 (brE (r0.1==true)
 (brE (z1x q1hw)
 (brE (z1y q1hw)
 (some 10)
 (brE (r0.2.1==true)
 (brE (z1w q1hx)
 (brE (z1z q1hx)
 (some 4)
 (brE (z1s q1hz)
 (some 1)
 (brE (z1t t_N)
 (brE (z1v t_N)
 (some 3)
 (gL qaz q1hy<|
 ((z1u q1hv q1hy q1hw q1hx q1hz t_N depth).bind fun r2 =>
 (some r2.1))))
 (some 3))))
 (some 4))
 (brE (z1s q1hz)
 (some 1)
 (brE (z1t t_N)
 (brE (z1v t_N)
 (some 3)
 (gL qaz q1hy<|
 ((z1u q1hv q1hy q1hw q1hx q1hz t_N depth).bind fun r2 =>
 (some r2.1))))
 (some 3)))))
 (some 10))
 (brE (r0.2.1==true)
 (brE (z1w q1hx)
 (brE (z1z q1hx)
 (some 4)
 (brE (z1s q1hz)
 (some 1)
 (brE (z1t t_N)
 (brE (z1v t_N)
 (some 3)
 (gL qaz q1hy<|
 ((z1u q1hv q1hy q1hw q1hx q1hz t_N depth).bind fun r2 =>
 (some r2.1))))
 (some 3))))
 (some 4))
 (brE (z1s q1hz)
 (some 1)
 (brE (z1t t_N)
 (brE (z1v t_N)
 (some 3)
 (gL qaz q1hy<|
 ((z1u q1hv q1hy q1hw q1hx q1hz t_N depth).bind fun r2 =>
 (some r2.1))))
 (some 3))))))
 (brE (r0.1==true)
 (brE (z1x q1hw)
 (brE (z1y q1hw)
 (some 10)
 (brE (r0.2.1==true)
 (brE (z1w q1hx)
 (brE (z1z q1hx)
 (some 4)
 (brE (z1s q1hz)
 (some 1)
 (brE (z1t t_N)
 (brE (z1v t_N)
 (some 3)
 (gL qaz q1hy<|
 ((z1u q1hv q1hy q1hw q1hx q1hz t_N depth).bind fun r2 =>
 (some r2.1))))
 (some 3))))
 (some 4))
 (brE (z1s q1hz)
 (some 1)
 (brE (z1t t_N)
 (brE (z1v t_N)
 (some 3)
 (gL qaz q1hy<|
 ((z1u q1hv q1hy q1hw q1hx q1hz t_N depth).bind fun r2 =>
 (some r2.1))))
 (some 3)))))
 (some 10))
 (brE (r0.2.1==true)
 (brE (z1w q1hx)
 (brE (z1z q1hx)
 (some 4)
 (brE (z1s q1hz)
 (some 1)
 (brE (z1t t_N)
 (brE (z1v t_N)
 (some 3)
 (gL qaz q1hy<|
 ((z1u q1hv q1hy q1hw q1hx q1hz t_N depth).bind fun r2 =>
 (some r2.1))))
 (some 3))))
 (some 4))
 (brE (z1s q1hz)
 (some 1)
 (brE (z1t t_N)
 (brE (z1v t_N)
 (some 3)
 (gL qaz q1hy<|
 ((z1u q1hv q1hy q1hw q1hx q1hz t_N depth).bind fun r2 =>
 (some r2.1))))
 (some 3)))))))
 (some 5))
 (brE ((!r0.2.1)==true)
 (brE ((q1hx != 0)==false)
 (brE ((!(q1hz.toList==(ByteArray.toList ⟨#[]⟩)))==false)
 (brE ((!r0.2.2)==true)
 (brE (t_N != 0)
 (some 5)
 (brE (r0.1==true)
 (brE (z1x q1hw)
 (brE (z1y q1hw)
 (some 10)
 (brE (r0.2.1==true)
 (brE (z1w q1hx)
 (brE (z1z q1hx)
 (some 4)
 (brE (z1s q1hz)
 (some 1)
 (brE (z1t t_N)
 (brE (z1v t_N)
 (some 3)
 (gL qaz q1hy<|
 ((z1u q1hv q1hy q1hw q1hx q1hz t_N depth).bind fun r2 =>
 (some r2.1))))
 (some 3))))
 (some 4))
 (brE (z1s q1hz)
 (some 1)
 (brE (z1t t_N)
 (brE (z1v t_N)
 (some 3)
 (gL qaz q1hy<|
 ((z1u q1hv q1hy q1hw q1hx q1hz t_N depth).bind fun r2 =>
 (some r2.1))))
 (some 3)))))
 (some 10))
 (brE (r0.2.1==true)
 (brE (z1w q1hx)
 (brE (z1z q1hx)
 (some 4)
 (brE (z1s q1hz)
 (some 1)
 (brE (z1t t_N)
 (brE (z1v t_N)
 (some 3)
 (gL qaz q1hy<|
 ((z1u q1hv q1hy q1hw q1hx q1hz t_N depth).bind fun r2 =>
 (some r2.1))))
 (some 3))))
 (some 4))
 (brE (z1s q1hz)
 (some 1)
 (brE (z1t t_N)
 (brE (z1v t_N)
 (some 3)
 (gL qaz q1hy<|
 ((z1u q1hv q1hy q1hw q1hx q1hz t_N depth).bind fun r2 =>
 (some r2.1))))
 (some 3))))))
 (brE (r0.1==true)
 (brE (z1x q1hw)
 (brE (z1y q1hw)
 (some 10)
 (brE (r0.2.1==true)
 (brE (z1w q1hx)
 (brE (z1z q1hx)
 (some 4)
 (brE (z1s q1hz)
 (some 1)
 (brE (z1t t_N)
 (brE (z1v t_N)
 (some 3)
 (gL qaz q1hy<|
 ((z1u q1hv q1hy q1hw q1hx q1hz t_N depth).bind fun r2 =>
 (some r2.1))))
 (some 3))))
 (some 4))
 (brE (z1s q1hz)
 (some 1)
 (brE (z1t t_N)
 (brE (z1v t_N)
 (some 3)
 (gL qaz q1hy<|
 ((z1u q1hv q1hy q1hw q1hx q1hz t_N depth).bind fun r2 =>
 (some r2.1))))
 (some 3)))))
 (some 10))
 (brE (r0.2.1==true)
 (brE (z1w q1hx)
 (brE (z1z q1hx)
 (some 4)
 (brE (z1s q1hz)
 (some 1)
 (brE (z1t t_N)
 (brE (z1v t_N)
 (some 3)
 (gL qaz q1hy<|
 ((z1u q1hv q1hy q1hw q1hx q1hz t_N depth).bind fun r2 =>
 (some r2.1))))
 (some 3))))
 (some 4))
 (brE (z1s q1hz)
 (some 1)
 (brE (z1t t_N)
 (brE (z1v t_N)
 (some 3)
 (gL qaz q1hy<|
 ((z1u q1hv q1hy q1hw q1hx q1hz t_N depth).bind fun r2 =>
 (some r2.1))))
 (some 3))))))
 (some 5))
 (some 5))
 (brE ((!r0.2.2)==true)
 (brE (t_N != 0)
 (some 5)
 (brE (r0.1==true)
 (brE (z1x q1hw)
 (brE (z1y q1hw)
 (some 10)
 (brE (r0.2.1==true)
 (brE (z1w q1hx)
 (brE (z1z q1hx)
 (some 4)
 (brE (z1s q1hz)
 (some 1)
 (brE (z1t t_N)
 (brE (z1v t_N)
 (some 3)
 (gL qaz q1hy<|
 ((z1u q1hv q1hy q1hw q1hx q1hz t_N depth).bind fun r2 =>
 (some r2.1))))
 (some 3))))
 (some 4))
 (brE (z1s q1hz)
 (some 1)
 (brE (z1t t_N)
 (brE (z1v t_N)
 (some 3)
 (gL qaz q1hy<|
 ((z1u q1hv q1hy q1hw q1hx q1hz t_N depth).bind fun r2 =>
 (some r2.1))))
 (some 3)))))
 (some 10))
 (brE (r0.2.1==true)
 (brE (z1w q1hx)
 (brE (z1z q1hx)
 (some 4)
 (brE (z1s q1hz)
 (some 1)
 (brE (z1t t_N)
 (brE (z1v t_N)
 (some 3)
 (gL qaz q1hy<|
 ((z1u q1hv q1hy q1hw q1hx q1hz t_N depth).bind fun r2 =>
 (some r2.1))))
 (some 3))))
 (some 4))
 (brE (z1s q1hz)
 (some 1)
 (brE (z1t t_N)
 (brE (z1v t_N)
 (some 3)
 (gL qaz q1hy<|
 ((z1u q1hv q1hy q1hw q1hx q1hz t_N depth).bind fun r2 =>
 (some r2.1))))
 (some 3))))))
 (brE (r0.1==true)
 (brE (z1x q1hw)
 (brE (z1y q1hw)
 (some 10)
 (brE (r0.2.1==true)
 (brE (z1w q1hx)
 (brE (z1z q1hx)
 (some 4)
 (brE (z1s q1hz)
 (some 1)
 (brE (z1t t_N)
 (brE (z1v t_N)
 (some 3)
 (gL qaz q1hy<|
 ((z1u q1hv q1hy q1hw q1hx q1hz t_N depth).bind fun r2 =>
 (some r2.1))))
 (some 3))))
 (some 4))
 (brE (z1s q1hz)
 (some 1)
 (brE (z1t t_N)
 (brE (z1v t_N)
 (some 3)
 (gL qaz q1hy<|
 ((z1u q1hv q1hy q1hw q1hx q1hz t_N depth).bind fun r2 =>
 (some r2.1))))
 (some 3)))))
 (some 10))
 (brE (r0.2.1==true)
 (brE (z1w q1hx)
 (brE (z1z q1hx)
 (some 4)
 (brE (z1s q1hz)
 (some 1)
 (brE (z1t t_N)
 (brE (z1v t_N)
 (some 3)
 (gL qaz q1hy<|
 ((z1u q1hv q1hy q1hw q1hx q1hz t_N depth).bind fun r2 =>
 (some r2.1))))
 (some 3))))
 (some 4))
 (brE (z1s q1hz)
 (some 1)
 (brE (z1t t_N)
 (brE (z1v t_N)
 (some 3)
 (gL qaz q1hy<|
 ((z1u q1hv q1hy q1hw q1hx q1hz t_N depth).bind fun r2 =>
 (some r2.1))))
 (some 3))))))))))))
 (some 4))))
theorem q1d8 {q1hv q1hy q1hw q1hx q1hz t_N depth r} (h:q1dp q1hv q1hy q1hw q1hx q1hz t_N depth=some r):q1do q1hv q1hy q1hw q1hx q1hz t_N depth=some r :=
 qjn (es:=q1k9) (hs:=[]) [q1da] Tryz.func102 rfl (by kernel_rfl) rfl (by kernel_rfl) (by kernel_rfl) trivial ⟨⟨_,rfl,rfl⟩,trivial⟩ (by kernel_rfl) h
def q1cz:=(qrd z41 (qrf z3w))
def q1d0:Cod (V×List B) Int:=z47
def q1d3 (r_Kind r_Test_Kind:Int) (q19z:L48) (q19x:BA) (q19y:Int) (q1a0:BA) (q19w:Int) (r_Then r_Else:L50) (r_Act:Int) (q19v q1a1:BA) (r_N depth:Int):=fS Tryz.prog lv X0 79 q1cz q1d0 ((r_Kind,r_Test_Kind,q19z,q19x,q19y,q1a0,q19w,r_Then,r_Else,r_Act,q19v,q1a1,r_N),depth)
def q1d4 (r_Kind r_Test_Kind:Int) (q19z:L48) (q19x:BA) (q19y:Int) (q1a0:BA) (q19w:Int) (r_Then r_Else:L50) (r_Act:Int) (q19v q1a1:BA) (r_N depth:Int):Oq Int :=
 (brE (decide (depth>8))
 (some 5)
 (brE ((decide (r_Kind<1))==false)
 (brE (decide (r_Kind>4))
 (some 4)
 (brE (r_Kind != 1)
 (gL qaz q19z<|
 (gL qb1 r_Then<|
 (gL qb1 r_Else<|
 ((q1cx r_Kind r_Test_Kind (dL qaz q19z) q19x q19y q1a0 q19w (dL qb1 r_Then) (dL qb1 r_Else) r_Act q19v q1a1 r_N).bind fun r0 =>
 (some r0)))))
 (brE ((r_Act != 0)==false)
 (brE ((!(q19v.toList==(ByteArray.toList ⟨#[]⟩)))==false)
 (brE ((!(q1a1.toList==(ByteArray.toList ⟨#[]⟩)))==false)
 (brE (r_N != 0)
 (some 5)
 (gL qaz q19z<|
 ((q1do r_Test_Kind (dL qaz q19z) q19x q19y q1a0 q19w 1).bind fun r0 =>
 (some r0))))
 (some 5))
 (some 5))
 (some 5))))
 (some 4)))
theorem q1d2 {r_Kind r_Test_Kind q19z q19x q19y q1a0 q19w r_Then r_Else r_Act q19v q1a1 r_N depth r} (h:q1d4 r_Kind r_Test_Kind q19z q19x q19y q1a0 q19w r_Then r_Else r_Act q19v q1a1 r_N depth=some r):q1d3 r_Kind r_Test_Kind q19z q19x q19y q1a0 q19w r_Then r_Else r_Act q19v q1a1 r_N depth=some r :=
 qjn (es:=q1k9) (hs:=[]) [] Tryz.func79 rfl (by kernel_rfl) rfl (by kernel_rfl) (by kernel_rfl) trivial trivial (by kernel_rfl) h
def q1d1:=entS Tryz.prog lv X0 79 [] q1cz q1d0 (fun x=>q1d3 x.1.1 x.1.2.1 x.1.2.2.1 x.1.2.2.2.1 x.1.2.2.2.2.1 x.1.2.2.2.2.2.1 x.1.2.2.2.2.2.2.1 x.1.2.2.2.2.2.2.2.1 x.1.2.2.2.2.2.2.2.2.1 x.1.2.2.2.2.2.2.2.2.2.1 x.1.2.2.2.2.2.2.2.2.2.2.1 x.1.2.2.2.2.2.2.2.2.2.2.2.1 x.1.2.2.2.2.2.2.2.2.2.2.2.2 x.2) (fun _ _ h=>qjm h)
def q1k8:=q1d1::q1k9
def qaw:EC (List S50) where
 enc x:=[.sl (qb1.encL x)]
 dec c:=qb1.decL (slOf (c.getD 0 .ne))
 is c:=isE [.sl] 0 c&&qb1.isL (slOf (c.getD 0 .ne))
 enc_dec h:=by
  simp only [Bool.and_eq_true] at h
  have h0:=q9x h.1
  simp only [decE,decC] at h0
  simp only [EC.encL_decL _ h.2]
  exact h0
 dec_enc x:=by simp [slOf]
 is_enc x:=by simp [isE,isK,slOf]
theorem enc_22 (x:(List S50)):qaw.enc x=[.sl (qb1.encL x)]:=rfl
theorem q47 (xs:List (List S50)) (n:Nat):slOf (((qaw.encL xs).getD n []).getD 0 .ne)=qb1.encL (xs.getD n (qaw.dec [])):=by
 by_cases h:n<xs.length
 ·simp only [EC.getD_lt _ _ h];simp [enc_22,h,slOf,List.getD_eq_getElem?_getD]
 ·simp only [EC.getD_ge _ _ (Nat.not_lt.1 h)];simp [Nat.not_lt.1 h,qaw,slOf,List.getD_eq_getElem?_getD,EC.decL,EC.encL]
def q1cb:=(qrf z43)
abbrev z3y:=(qv4 (bBox (qrf (vFn 78 (qrd (vPtr 0 0) (qrf (vPtr 1 0)))))))
def q1c9:=sLS [0,1,2,3] (qrd z43 (qrd z3w (qrd (vPtr 0 0) (qrf (vPtr 1 0))))) (qrd (qv4 (bBox (qrf z3w))) (qrf z3y)) [false,false] [0,1] (by decide) (fun _=>rfl)
def q1c8:SC ((Int×Int)×(Int×(Unit×Unit))):=sLS [0] (qrf (vAgg (qrd (vC (cInt .i64)) (qrf (vC (cInt .i64)))))) (qrd (qv4 (bBox (qrf (vC (cInt .i64))))) (qrf (qv4 (bBox (qrf (vFn 78 (qrd (vPtr 0 0) (qrf (vPtr 1 0))))))))) [false,false] [0,1] (by decide) (fun _=>rfl)
def q1c7:HC ((Int×Int)×((Int×Int)×(Int×(Unit×Unit)))):=hPair (vAgg (qrd (vC (cInt .i64)) (qrf (vC (cInt .i64))))) q1c8
def q1bo (l:L50) (depth b0:Int):=hS Tryz.prog lv X0 78 q1c9 q1c7 ((l,depth,(),()),(b0,((),())))
def q1bp:=hentS Tryz.prog lv X0 78 [0,1,4,1,1,1,2,3,0,0,3,3,1,0,1,1,1,1,1,1,6,78,2,3,0,0,3,1,0,0,1] q1c9 q1c7 (fun x=>q1bo x.1.1 x.1.2.1 x.2.1) (fun _ _ h=>qnm h)
def qpl:=q1bp::[]
abbrev z45:=(qrd (qv4 (bBox (qrf z3w))) (qrd z3y (qrd (qv4 (bBox z3z)) (qrf (qv4 (bRow qaw))))))
def q1bx:=sLS [1,2,3,6,13,14,15,36,37,38] (qrd z3w (qrd (vPtr 0 0) (qrd (vPtr 1 0) (qrd (vPtr 2 0) (qrd z43 (qrd z3w (qrd z3w (qrd (vRow 3) z3z)))))))) z45 [false,false,false,false] [0,1] (by decide) (fun _=>rfl)
def q1bw:=sLS [1,2,3,6,13,14,15,36,37,38,39] (qrd z3w (qrd (vPtr 0 0) (qrd (vPtr 1 0) (qrd (vPtr 2 0) (qrd z43 (qrd z3w (qrd z3w (qrd (vRow 3) z40)))))))) z45 [false,false,false,false] [0,1] (by decide) (fun _=>rfl)
abbrev z44:=(qrd (qv4 (bBox z3z)) (qrd (qv4 (bBox (qrf z3w))) (qrf (qv4 (bBox (qrf (vFn 78 (qrd (vPtr 1 0) (qrf (vPtr 2 0))))))))))
def q1bv:=sLS [6] (qrf (vPtr 0 0)) z44 [false,false,false] [1,2] (by decide) (fun _=>rfl)
def q1bu:=oOr 1 q1bv (oAt 4 q1bw) (fun x=>(by decide:(4:Nat)≠1))
def q1br (depth:Int) (t13:L50) (t14 t15:Int) (t36:Nat) (t37 t38:Int) (b0 b2 b2_1:Int) (b3:(List L50)):=lS Tryz.prog lv X0 78 53 (qnb (cdF Tryz.f78) 11) q1bx q1bu ((depth,(),(),(),t13,t14,t15,t36,t37,t38),(b0,((),()),(b2,b2_1),b3))
def q1by (depth:Int) (t13:L50) (t14 t15:Int) (t36:Nat) (t37 t38:Int) (b0 b2 b2_1:Int) (b3:(List L50)):Oq ((Unit×((Int×Int)×Int×(Unit×Unit)))⊕((Int×Unit×Unit×Unit×L50×Int×Int×Nat×Int×Int×Bool)×(Int×(Unit×Unit)×(Int×Int)×(List L50)))) :=
 (brE (decide (t38<t37))
 (gdE ((p0 t38)&&(decide (t38<((t36:Nat):Int))))<|
 (gdE ((decide ((Int.toNat t38)<(lN qaw b3)))&&((List.length (List.getD (EC.encL qaw b3) (Int.toNat t38) []))==1))<|
 (gdE (isP [K1.sl] 0 (List.getD (EC.encL qaw b3) (Int.toNat t38) []))<|
 (gdE (EC.isL qb1 (slOf (List.getD (List.getD (EC.encL qaw b3) (Int.toNat t38) []) 0 C.ne)))<|
 ((q1bo (uL qb1 (List.getD (List.getD (EC.encL qaw b3) (Int.toNat t38) []) 0 C.ne)) (wI depth) b0).bind fun r0 =>
 ((q5v r0.1.1 r0.1.2).bind fun r1 =>
 (brE r1
 (some (.inl ((),((r0.1.1,r0.1.2),(r0.2.2.1,((),()))))))
 (gL qb1 t13<|
 (gL qaw b3<|
 (q1br depth (dL qb1 t13) t14 t15 t36 t37 (wI t38) r0.2.2.1 b2 b2_1 (dL qaw b3)))))))))))
 (gL qb1 t13<|
 (gL qaw b3<|
 (some (.inr ((depth,((),((),((),((dL qb1 t13),(t14,(t15,(t36,(t37,(t38,false)))))))))),(b0,(((),()),((b2,b2_1),(dL qaw b3))))))))))
theorem q1bt {depth t13 t14 t15 t36 t37 t38 b0 b2 b2_1 b3 r} (h:q1by depth t13 t14 t15 t36 t37 t38 b0 b2 b2_1 b3=some r):q1br depth t13 t14 t15 t36 t37 t38 b0 b2 b2_1 b3=some r :=
 qrh (es:=q1k8) (hs:=qpl) [] (by kernel_rfl) trivial trivial (by kernel_rfl) h
def q1bs:=qs5 Tryz.prog lv X0 11 (qnb (cdF Tryz.f78) 11) q1bx q1bu (fun x=>q1br x.1.1 x.1.2.2.2.2.1 x.1.2.2.2.2.2.1 x.1.2.2.2.2.2.2.1 x.1.2.2.2.2.2.2.2.1 x.1.2.2.2.2.2.2.2.2.1 x.1.2.2.2.2.2.2.2.2.2 x.2.1 x.2.2.2.1.1 x.2.2.2.1.2 x.2.2.2.2) (fun _ _ h=>qrg h)
abbrev z48:=(qrd (qv4 (bBox (qrf z3w))) (qrd z3y (qrf (qv4 (bBox z3z)))))
def q1c5:=sLS [1,2,3,6,13,14,15] (qrd z3w (qrd (vPtr 0 0) (qrd (vPtr 1 0) (qrd (vPtr 2 0) (qrd z43 z3z))))) z48 [false,false,false] [0,1] (by decide) (fun _=>rfl)
def q1c4:=sLS [1,2,3,6,13,14,15,16] (qrd z3w (qrd (vPtr 0 0) (qrd (vPtr 1 0) (qrd (vPtr 2 0) (qrd z43 z40))))) z48 [false,false,false] [0,1] (by decide) (fun _=>rfl)
def q1c3:=sLS [6] (qrf (vPtr 0 0)) z44 [false,false,false] [1,2] (by decide) (fun _=>rfl)
def q1c2:=oOr 1 q1c3 (oAt 2 q1c4) (fun x=>(by decide:(2:Nat)≠1))
def q1bz (depth:Int) (t13:L50) (t14 t15:Int) (b0 b2 b2_1:Int):=lS Tryz.prog lv X0 78 53 (qnb (cdF Tryz.f78) 2) q1c5 q1c2 ((depth,(),(),(),t13,t14,t15),(b0,((),()),(b2,b2_1)))
abbrev z22 (t13:L50) (t15:Int):=(List.getD (EC.encL qb1 t13) (Int.toNat t15) [])
def q1c6 (depth:Int) (t13:L50) (t14 t15:Int) (b0 b2 b2_1:Int):Oq ((Unit×((Int×Int)×Int×(Unit×Unit)))⊕((Int×Unit×Unit×Unit×L50×Int×Int×Bool)×(Int×(Unit×Unit)×(Int×Int)))) :=
 (brE (decide (t15<t14))
 (gdE (p0 t15)<|
 (gdE (eC qb1 t13 t15 [(K1.int Go.IntKind.i64),(K1.int Go.IntKind.i64),K1.sl,K1.str,(K1.int Go.IntKind.i64),K1.str,(K1.int Go.IntKind.i64),K1.sl,K1.sl,(K1.int Go.IntKind.i64),K1.str,K1.str,(K1.int Go.IntKind.i64)])<|
 (brE (b0==100)
 ((q61 2 (-1)).bind fun r0 =>
 (some (.inl ((),((r0.1,r0.2),(b0,((),())))))))
 (gdE (EC.isL qaz (slOf (List.getD (z22 t13 t15) 2 C.ne)))<|
 (gdE (EC.isL qb1 (slOf (List.getD (z22 t13 t15) 7 C.ne)))<|
 (gdE (EC.isL qb1 (slOf (List.getD (z22 t13 t15) 8 C.ne)))<|
 ((q1d3 (qqd (List.getD (z22 t13 t15) 0 C.ne)) (qqd (List.getD (z22 t13 t15) 1 C.ne)) (uL qaz (List.getD (z22 t13 t15) 2 C.ne)) (q1gu (List.getD (z22 t13 t15) 3 C.ne)) (qqd (List.getD (z22 t13 t15) 4 C.ne)) (q1gu (List.getD (z22 t13 t15) 5 C.ne)) (qqd (List.getD (z22 t13 t15) 6 C.ne)) (uL qb1 (List.getD (z22 t13 t15) 7 C.ne)) (uL qb1 (List.getD (z22 t13 t15) 8 C.ne)) (qqd (List.getD (z22 t13 t15) 9 C.ne)) (q1gu (List.getD (z22 t13 t15) 10 C.ne)) (q1gu (List.getD (z22 t13 t15) 11 C.ne)) (qqd (List.getD (z22 t13 t15) 12 C.ne)) depth).bind fun r0 =>
 (brE (r0 != 0)
 ((q61 r0 b0).bind fun r1 =>
 (some (.inl ((),((r1.1,r1.2),(b0,((),())))))))
 (gL qb1 t13<|
 (gdE (EC.isL qaw [[(C.sl (slOf (List.getD (z22 t13 t15) 7 C.ne)))],[(C.sl (slOf (List.getD (z22 t13 t15) 8 C.ne)))]])<|
 (Option.bind (q1br depth (dL qb1 t13) t14 t15 2 ((2:Nat):Int) 0 (wI b0) b2 b2_1 (EC.decL qaw [[(C.sl (slOf (List.getD (z22 t13 t15) 7 C.ne)))],[(C.sl (slOf (List.getD (z22 t13 t15) 8 C.ne)))]])) fun r1 =>
 (Sum.elim (fun r2=>(some (.inl ((),((r2.2.1.1,r2.2.1.2),(r2.2.2.1,((),())))))))
 (fun r2=>(gdE (EC.isL qb1 (EC.encL qb1 r2.1.2.2.2.2.1))<|
 (q1bz r2.1.1 (dL qb1 r2.1.2.2.2.2.1) r2.1.2.2.2.2.2.1 (wI r2.1.2.2.2.2.2.2.1) r2.2.1 r2.2.2.2.1.1 r2.2.2.2.1.2))) r1))))))))))))
 (gL qb1 t13<|
 (some (.inr ((depth,((),((),((),((dL qb1 t13),(t14,(t15,false))))))),(b0,(((),()),(b2,b2_1))))))))
theorem q1c1 {depth t13 t14 t15 b0 b2 b2_1 r} (h:q1c6 depth t13 t14 t15 b0 b2 b2_1=some r):q1bz depth t13 t14 t15 b0 b2 b2_1=some r :=
 qrh (es:=q1k8) (hs:=qpl) [q1bs] (by kernel_rfl) ⟨⟨_,rfl,rfl⟩,trivial⟩ trivial (by kernel_rfl) h
def q1c0:=qs5 Tryz.prog lv X0 2 (qnb (cdF Tryz.f78) 2) q1c5 q1c2 (fun x=>q1bz x.1.1 x.1.2.2.2.2.1 x.1.2.2.2.2.2.1 x.1.2.2.2.2.2.2 x.2.1 x.2.2.2.1 x.2.2.2.2) (fun _ _ h=>qrg h)
def q1ca (l:L50) (depth b0:Int):Oq ((Int×Int)×((Int×Int)×(Int×(Unit×Unit)))) :=
 (gL qb1 l<|
 ((q1bz depth (dL qb1 l) (lN qb1 l:Int) 0 b0 0 0).bind fun r0 =>
 (Sum.elim (fun r1=>(some ((r1.2.1.1,r1.2.1.2),((r1.2.1.1,r1.2.1.2),(r1.2.2.1,((),()))))))
 (fun r1=>(Option.bind q72 fun r2 =>
 (some ((r2.1,r2.2),((r2.1,r2.2),(r1.2.1,((),()))))))) r0)))
theorem q1bq {l depth b0 r} (h:q1ca l depth b0=some r):q1bo l depth b0=some r :=
 qnn (fn:=Tryz.f78) (es:=q1k8) (hs:=qpl) [q1c0] (by kernel_rfl) rfl (by kernel_rfl) ⟨⟨_,rfl,rfl⟩,trivial⟩ trivial (by kernel_rfl) h
def q1cc:Cod (V×List B) (Int×Int):=(cFstU (cPair (vAgg z3z) qre))
def q1cf (s:L50):=fS Tryz.prog lv X0 60 q1cb q1cc s
def q1cg (s:L50):Oq (Int×Int) :=
 (gL qb1 s<|
 ((q1bo (dL qb1 s) 1 0).bind fun r0 =>
 (some (r0.1.1,r0.1.2))))
theorem q1ce {s r} (h:q1cg s=some r):q1cf s=some r :=
 qjn (es:=q1k8) (hs:=qpl) [] Tryz.func60 rfl (by kernel_rfl) rfl (by kernel_rfl) (by kernel_rfl) trivial trivial (by kernel_rfl) h
def q1cd:=entS Tryz.prog lv X0 60 [] q1cb q1cc (fun x=>q1cf x) (fun _ _ h=>qjm h)
def q1k4:=q1cd::q1k8
end
end Go.Proofs.YtokahibbkdbndaaGreatDoor
