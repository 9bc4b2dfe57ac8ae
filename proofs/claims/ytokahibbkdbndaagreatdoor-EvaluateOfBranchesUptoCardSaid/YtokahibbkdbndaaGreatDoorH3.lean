/- Functions of the program as plain functions: made by program from the machine. -/
import Derived.Test.YtokahibbkdbndaaGreatDoorH2
namespace Go.Proofs.YtokahibbkdbndaaGreatDoor
open Go.RowKit
set_option maxRecDepth 100000
noncomputable section
structure S48 where
 Kind:Int
 Tests:(List S48)
 Name:ByteArray
 Pattern:Int
 Text:ByteArray
 N:Int
mutual
def en48:S48→List C
 |⟨a0,a1,a2,a3,a4,a5⟩=>[.int .i64 a0,.sl (en48L a1),.str a2,.int .i64 a3,.str a4,.int .i64 a5]
def en48L:List S48→List (List C)
 |[]=>[]
 |x::xs=>en48 x::en48L xs
end
theorem q9j:∀ xs,en48L xs=xs.map en48
 |[]=>rfl
 |x::xs=>by rw [en48L,q9j xs];rfl
mutual
theorem q9k:∀ {x y:S48},en48 x=en48 y→x=y
 |⟨a0,a1,a2,a3,a4,a5⟩,⟨b0,b1,b2,b3,b4,b5⟩,h=>by
  simp only [en48,List.cons.injEq,C.int.injEq,C.sl.injEq,C.str.injEq,true_and,and_true] at h
  obtain ⟨h0,h1,h2,h3,h4,h5⟩:=h
  have h1:=q9i h1
  subst h0 h1 h2 h3 h4 h5
  rfl
theorem q9i:∀ {xs ys:List S48},en48L xs=en48L ys→xs=ys
 |[],[],_=>rfl
 |[],_::_,h=>by simp [en48L] at h
 |_::_,[],h=>by simp [en48L] at h
 |x::xs,y::ys,h=>by
  simp only [en48L,List.cons.injEq] at h
  rw [q9k h.1,q9i h.2]
end
open Classical in
def q26p:EC S48 where
 enc:=en48
 dec c:=if h:∃ x,en48 x=c then h.choose else ⟨q273 .ne,([]:(List S48)),q27s .ne,q273 .ne,q27s .ne,q273 .ne⟩
 is c:=decide (∃ x,en48 x=c)
 enc_dec {c} h:=by
  have h2:∃ x,en48 x=c:=by simpa using h
  rw [dif_pos h2]
  exact h2.choose_spec
 dec_enc x:=by
  have h2:∃ y,en48 y=en48 x:=⟨x,rfl⟩
  rw [dif_pos h2]
  exact q9k h2.choose_spec
 is_enc x:=by simp
theorem q26x (x:S48):q26p.enc x=[.int .i64 x.Kind,.sl (q26p.encL x.Tests),.str x.Name,.int .i64 x.Pattern,.str x.Text,.int .i64 x.N]:=by
 cases x
 show en48 _=_
 simp only [en48,q9j]
 rfl
theorem q8u:q26p.dec []=(⟨q273 .ne,([]:(List S48)),q27s .ne,q273 .ne,q27s .ne,q273 .ne⟩:S48):=by
 refine dif_neg ?_
 rintro ⟨⟨a0,a1,a2,a3,a4,a5⟩,h⟩
 simp [en48] at h
theorem q276 (xs:List S48) (n:Nat):isE [.int .i64,.sl,.str,.int .i64,.str,.int .i64] 0 ((q26p.encL xs).getD n [])=decide (n<xs.length):=by
 by_cases h:n<xs.length
 ·simp only [EC.getD_lt _ _ h];simp [q26x,isE,isK,h]
 ·simp only [EC.getD_ge _ _ (Nat.not_lt.1 h)];simp [isE,isK,h]
theorem q3v (xs:List S48) (n:Nat):q273 (((q26p.encL xs).getD n []).getD 0 .ne)=(xs.getD n (q26p.dec [])).Kind:=by
 by_cases h:n<xs.length
 ·simp only [EC.getD_lt _ _ h];simp [q26x,h,q273,List.getD_eq_getElem?_getD]
 ·simp only [EC.getD_ge _ _ (Nat.not_lt.1 h)];simp [Nat.not_lt.1 h,q8u,q27s,q273,List.getD_eq_getElem?_getD]
theorem q3w (xs:List S48) (n:Nat):slOf (((q26p.encL xs).getD n []).getD 1 .ne)=q26p.encL (xs.getD n (q26p.dec [])).Tests:=by
 by_cases h:n<xs.length
 ·simp only [EC.getD_lt _ _ h];simp [q26x,h,slOf,List.getD_eq_getElem?_getD]
 ·simp only [EC.getD_ge _ _ (Nat.not_lt.1 h)];simp [Nat.not_lt.1 h,q8u,q27s,q273,slOf,List.getD_eq_getElem?_getD,EC.encL]
theorem q3x (xs:List S48) (n:Nat):q27s (((q26p.encL xs).getD n []).getD 2 .ne)=(xs.getD n (q26p.dec [])).Name:=by
 by_cases h:n<xs.length
 ·simp only [EC.getD_lt _ _ h];simp [q26x,h,q27s,List.getD_eq_getElem?_getD]
 ·simp only [EC.getD_ge _ _ (Nat.not_lt.1 h)];simp [Nat.not_lt.1 h,q8u,q27s,q273,List.getD_eq_getElem?_getD]
theorem q3y (xs:List S48) (n:Nat):q273 (((q26p.encL xs).getD n []).getD 3 .ne)=(xs.getD n (q26p.dec [])).Pattern:=by
 by_cases h:n<xs.length
 ·simp only [EC.getD_lt _ _ h];simp [q26x,h,q273,List.getD_eq_getElem?_getD]
 ·simp only [EC.getD_ge _ _ (Nat.not_lt.1 h)];simp [Nat.not_lt.1 h,q8u,q27s,q273,List.getD_eq_getElem?_getD]
theorem q3z (xs:List S48) (n:Nat):q27s (((q26p.encL xs).getD n []).getD 4 .ne)=(xs.getD n (q26p.dec [])).Text:=by
 by_cases h:n<xs.length
 ·simp only [EC.getD_lt _ _ h];simp [q26x,h,q27s,List.getD_eq_getElem?_getD]
 ·simp only [EC.getD_ge _ _ (Nat.not_lt.1 h)];simp [Nat.not_lt.1 h,q8u,q27s,q273,List.getD_eq_getElem?_getD]
theorem q40 (xs:List S48) (n:Nat):q273 (((q26p.encL xs).getD n []).getD 5 .ne)=(xs.getD n (q26p.dec [])).N:=by
 by_cases h:n<xs.length
 ·simp only [EC.getD_lt _ _ h];simp [q26x,h,q273,List.getD_eq_getElem?_getD]
 ·simp only [EC.getD_ge _ _ (Nat.not_lt.1 h)];simp [Nat.not_lt.1 h,q8u,q27s,q273,List.getD_eq_getElem?_getD]
structure S50 where
 Kind:Int
 Test_Kind:Int
 Test_Tests:(List S48)
 Test_Name:ByteArray
 Test_Pattern:Int
 Test_Text:ByteArray
 Test_N:Int
 Then:(List S50)
 Else:(List S50)
 Act:Int
 Name:ByteArray
 Text:ByteArray
 N:Int
mutual
def en50:S50→List C
 |⟨a0,a1,a2,a3,a4,a5,a6,a7,a8,a9,a10,a11,a12⟩=>[.int .i64 a0,.int .i64 a1,.sl (q26p.encL a2),.str a3,.int .i64 a4,.str a5,.int .i64 a6,.sl (en50L a7),.sl (en50L a8),.int .i64 a9,.str a10,.str a11,.int .i64 a12]
def en50L:List S50→List (List C)
 |[]=>[]
 |x::xs=>en50 x::en50L xs
end
theorem q9m:∀ xs,en50L xs=xs.map en50
 |[]=>rfl
 |x::xs=>by rw [en50L,q9m xs];rfl
mutual
theorem q9n:∀ {x y:S50},en50 x=en50 y→x=y
 |⟨a0,a1,a2,a3,a4,a5,a6,a7,a8,a9,a10,a11,a12⟩,⟨b0,b1,b2,b3,b4,b5,b6,b7,b8,b9,b10,b11,b12⟩,h=>by
  simp only [en50,List.cons.injEq,C.int.injEq,C.sl.injEq,C.str.injEq,true_and,and_true] at h
  obtain ⟨h0,h1,h2,h3,h4,h5,h6,h7,h8,h9,h10,h11,h12⟩:=h
  have h2:a2=b2:=by have q:=congrArg q26p.decL h2;simpa only [EC.decL_encL] using q
  have h7:=q9l h7
  have h8:=q9l h8
  subst h0 h1 h2 h3 h4 h5 h6 h7 h8 h9 h10 h11 h12
  rfl
theorem q9l:∀ {xs ys:List S50},en50L xs=en50L ys→xs=ys
 |[],[],_=>rfl
 |[],_::_,h=>by simp [en50L] at h
 |_::_,[],h=>by simp [en50L] at h
 |x::xs,y::ys,h=>by
  simp only [en50L,List.cons.injEq] at h
  rw [q9n h.1,q9l h.2]
end
open Classical in
def q26r:EC S50 where
 enc:=en50
 dec c:=if h:∃ x,en50 x=c then h.choose else ⟨q273 .ne,q273 .ne,([]:(List S48)),q27s .ne,q273 .ne,q27s .ne,q273 .ne,([]:(List S50)),([]:(List S50)),q273 .ne,q27s .ne,q27s .ne,q273 .ne⟩
 is c:=decide (∃ x,en50 x=c)
 enc_dec {c} h:=by
  have h2:∃ x,en50 x=c:=by simpa using h
  rw [dif_pos h2]
  exact h2.choose_spec
 dec_enc x:=by
  have h2:∃ y,en50 y=en50 x:=⟨x,rfl⟩
  rw [dif_pos h2]
  exact q9n h2.choose_spec
 is_enc x:=by simp
theorem q26y (x:S50):q26r.enc x=[.int .i64 x.Kind,.int .i64 x.Test_Kind,.sl (q26p.encL x.Test_Tests),.str x.Test_Name,.int .i64 x.Test_Pattern,.str x.Test_Text,.int .i64 x.Test_N,.sl (q26r.encL x.Then),.sl (q26r.encL x.Else),.int .i64 x.Act,.str x.Name,.str x.Text,.int .i64 x.N]:=by
 cases x
 show en50 _=_
 simp only [en50,q9m]
 rfl
theorem q8v:q26r.dec []=(⟨q273 .ne,q273 .ne,([]:(List S48)),q27s .ne,q273 .ne,q27s .ne,q273 .ne,([]:(List S50)),([]:(List S50)),q273 .ne,q27s .ne,q27s .ne,q273 .ne⟩:S50):=by
 refine dif_neg ?_
 rintro ⟨⟨a0,a1,a2,a3,a4,a5,a6,a7,a8,a9,a10,a11,a12⟩,h⟩
 simp [en50] at h
theorem q277 (xs:List S50) (n:Nat):isE [.int .i64,.int .i64,.sl,.str,.int .i64,.str,.int .i64,.sl,.sl,.int .i64,.str,.str,.int .i64] 0 ((q26r.encL xs).getD n [])=decide (n<xs.length):=by
 by_cases h:n<xs.length
 ·simp only [EC.getD_lt _ _ h];simp [q26y,isE,isK,h]
 ·simp only [EC.getD_ge _ _ (Nat.not_lt.1 h)];simp [isE,isK,h]
theorem q41 (xs:List S50) (n:Nat):q273 (((q26r.encL xs).getD n []).getD 0 .ne)=(xs.getD n (q26r.dec [])).Kind:=by
 by_cases h:n<xs.length
 ·simp only [EC.getD_lt _ _ h];simp [q26y,h,q273,List.getD_eq_getElem?_getD]
 ·simp only [EC.getD_ge _ _ (Nat.not_lt.1 h)];simp [Nat.not_lt.1 h,q8v,q27s,q273,List.getD_eq_getElem?_getD]
theorem q42 (xs:List S50) (n:Nat):q273 (((q26r.encL xs).getD n []).getD 1 .ne)=(xs.getD n (q26r.dec [])).Test_Kind:=by
 by_cases h:n<xs.length
 ·simp only [EC.getD_lt _ _ h];simp [q26y,h,q273,List.getD_eq_getElem?_getD]
 ·simp only [EC.getD_ge _ _ (Nat.not_lt.1 h)];simp [Nat.not_lt.1 h,q8v,q27s,q273,List.getD_eq_getElem?_getD]
theorem q46 (xs:List S50) (n:Nat):slOf (((q26r.encL xs).getD n []).getD 2 .ne)=q26p.encL (xs.getD n (q26r.dec [])).Test_Tests:=by
 by_cases h:n<xs.length
 ·simp only [EC.getD_lt _ _ h];simp [q26y,h,slOf,List.getD_eq_getElem?_getD]
 ·simp only [EC.getD_ge _ _ (Nat.not_lt.1 h)];simp [Nat.not_lt.1 h,q8v,q27s,q273,slOf,List.getD_eq_getElem?_getD,EC.encL]
theorem q47 (xs:List S50) (n:Nat):q27s (((q26r.encL xs).getD n []).getD 3 .ne)=(xs.getD n (q26r.dec [])).Test_Name:=by
 by_cases h:n<xs.length
 ·simp only [EC.getD_lt _ _ h];simp [q26y,h,q27s,List.getD_eq_getElem?_getD]
 ·simp only [EC.getD_ge _ _ (Nat.not_lt.1 h)];simp [Nat.not_lt.1 h,q8v,q27s,q273,List.getD_eq_getElem?_getD]
theorem q48 (xs:List S50) (n:Nat):q273 (((q26r.encL xs).getD n []).getD 4 .ne)=(xs.getD n (q26r.dec [])).Test_Pattern:=by
 by_cases h:n<xs.length
 ·simp only [EC.getD_lt _ _ h];simp [q26y,h,q273,List.getD_eq_getElem?_getD]
 ·simp only [EC.getD_ge _ _ (Nat.not_lt.1 h)];simp [Nat.not_lt.1 h,q8v,q27s,q273,List.getD_eq_getElem?_getD]
theorem q49 (xs:List S50) (n:Nat):q27s (((q26r.encL xs).getD n []).getD 5 .ne)=(xs.getD n (q26r.dec [])).Test_Text:=by
 by_cases h:n<xs.length
 ·simp only [EC.getD_lt _ _ h];simp [q26y,h,q27s,List.getD_eq_getElem?_getD]
 ·simp only [EC.getD_ge _ _ (Nat.not_lt.1 h)];simp [Nat.not_lt.1 h,q8v,q27s,q273,List.getD_eq_getElem?_getD]
theorem q4a (xs:List S50) (n:Nat):q273 (((q26r.encL xs).getD n []).getD 6 .ne)=(xs.getD n (q26r.dec [])).Test_N:=by
 by_cases h:n<xs.length
 ·simp only [EC.getD_lt _ _ h];simp [q26y,h,q273,List.getD_eq_getElem?_getD]
 ·simp only [EC.getD_ge _ _ (Nat.not_lt.1 h)];simp [Nat.not_lt.1 h,q8v,q27s,q273,List.getD_eq_getElem?_getD]
theorem q4b (xs:List S50) (n:Nat):slOf (((q26r.encL xs).getD n []).getD 7 .ne)=q26r.encL (xs.getD n (q26r.dec [])).Then:=by
 by_cases h:n<xs.length
 ·simp only [EC.getD_lt _ _ h];simp [q26y,h,slOf,List.getD_eq_getElem?_getD]
 ·simp only [EC.getD_ge _ _ (Nat.not_lt.1 h)];simp [Nat.not_lt.1 h,q8v,q27s,q273,slOf,List.getD_eq_getElem?_getD,EC.encL]
theorem q4c (xs:List S50) (n:Nat):slOf (((q26r.encL xs).getD n []).getD 8 .ne)=q26r.encL (xs.getD n (q26r.dec [])).Else:=by
 by_cases h:n<xs.length
 ·simp only [EC.getD_lt _ _ h];simp [q26y,h,slOf,List.getD_eq_getElem?_getD]
 ·simp only [EC.getD_ge _ _ (Nat.not_lt.1 h)];simp [Nat.not_lt.1 h,q8v,q27s,q273,slOf,List.getD_eq_getElem?_getD,EC.encL]
theorem q4d (xs:List S50) (n:Nat):q273 (((q26r.encL xs).getD n []).getD 9 .ne)=(xs.getD n (q26r.dec [])).Act:=by
 by_cases h:n<xs.length
 ·simp only [EC.getD_lt _ _ h];simp [q26y,h,q273,List.getD_eq_getElem?_getD]
 ·simp only [EC.getD_ge _ _ (Nat.not_lt.1 h)];simp [Nat.not_lt.1 h,q8v,q27s,q273,List.getD_eq_getElem?_getD]
theorem q43 (xs:List S50) (n:Nat):q27s (((q26r.encL xs).getD n []).getD 10 .ne)=(xs.getD n (q26r.dec [])).Name:=by
 by_cases h:n<xs.length
 ·simp only [EC.getD_lt _ _ h];simp [q26y,h,q27s,List.getD_eq_getElem?_getD]
 ·simp only [EC.getD_ge _ _ (Nat.not_lt.1 h)];simp [Nat.not_lt.1 h,q8v,q27s,q273,List.getD_eq_getElem?_getD]
theorem q44 (xs:List S50) (n:Nat):q27s (((q26r.encL xs).getD n []).getD 11 .ne)=(xs.getD n (q26r.dec [])).Text:=by
 by_cases h:n<xs.length
 ·simp only [EC.getD_lt _ _ h];simp [q26y,h,q27s,List.getD_eq_getElem?_getD]
 ·simp only [EC.getD_ge _ _ (Nat.not_lt.1 h)];simp [Nat.not_lt.1 h,q8v,q27s,q273,List.getD_eq_getElem?_getD]
theorem q45 (xs:List S50) (n:Nat):q273 (((q26r.encL xs).getD n []).getD 12 .ne)=(xs.getD n (q26r.dec [])).N:=by
 by_cases h:n<xs.length
 ·simp only [EC.getD_lt _ _ h];simp [q26y,h,q273,List.getD_eq_getElem?_getD]
 ·simp only [EC.getD_ge _ _ (Nat.not_lt.1 h)];simp [Nat.not_lt.1 h,q8v,q27s,q273,List.getD_eq_getElem?_getD]
def qte:=(q27b (vC (cSl q26r)))
def qtf:Cod (V × List B) Int:=(cFstU (cPair (vC (cInt .i64)) q27a))
def qtp (s:(List S50)):Option Int:=fS Tryz.prog lv X0 73 qte qtf s
def qtg:=entS Tryz.prog lv X0 73 [] qte qtf (fun x=>qtp x) (fun _ _ h=>qf1 h)
def q10i:=qtg::q10c
def qtn:=sLS [3,6,7,8] (q279 (vC (cInt .i64)) (q279 (vC (cSl q26r)) (q279 (vC (cInt .i64)) (q27b (vC (cInt .i64)))))) q27a [] [] (by decide) (fun _=>rfl)
def qtm:=sLS [3,6,7,8,9] (q279 (vC (cInt .i64)) (q279 (vC (cSl q26r)) (q279 (vC (cInt .i64)) (q279 (vC (cInt .i64)) (q27b (vC cBool)))))) q27a [] [] (by decide) (fun _=>rfl)
def qtl:=oAt 2 qtm
def qti (n:Int) (t6:(List S50)) (t7:Int) (t8:Int):Option ((Int × (List S50) × Int × Int × Bool) × Unit):=lS Tryz.prog lv X0 73 24 (q270 (cdF Tryz.f73) 3) qtn qtl ((n,t6,t7,t8),())
def qto (n:Int) (t6:(List S50)) (t7:Int) (t8:Int):Option ((Int × (List S50) × Int × Int × Bool) × Unit) :=
 (brE (decide (t8<t7))
 (gdE (decide (0≤t8)) <|
 (gdE ((decide ((Int.toNat t8)<(List.length (EC.encL q26r t6))))&&(isE [(K1.int Go.IntKind.i64),(K1.int Go.IntKind.i64),K1.sl,K1.str,(K1.int Go.IntKind.i64),K1.str,(K1.int Go.IntKind.i64),K1.sl,K1.sl,(K1.int Go.IntKind.i64),K1.str,K1.str,(K1.int Go.IntKind.i64)] 0 (List.getD (EC.encL q26r t6) (Int.toNat t8) []))) <|
 (gdE (EC.isL q26r (slOf (List.getD (List.getD (EC.encL q26r t6) (Int.toNat t8) []) 7 C.ne))) <|
 (Option.bind (qtp (EC.decL q26r (slOf (List.getD (List.getD (EC.encL q26r t6) (Int.toNat t8) []) 7 C.ne)))) fun r0 =>
 (gdE (EC.isL q26r (slOf (List.getD (List.getD (EC.encL q26r t6) (Int.toNat t8) []) 8 C.ne))) <|
 (Option.bind (qtp (EC.decL q26r (slOf (List.getD (List.getD (EC.encL q26r t6) (Int.toNat t8) []) 8 C.ne)))) fun r1 =>
 (gdE (EC.isL q26r (EC.encL q26r t6)) <|
 (qti (IntKind.wrap .i64 (n+(IntKind.wrap .i64 ((IntKind.wrap .i64 (1+r0))+r1)))) (EC.decL q26r (EC.encL q26r t6)) t7 (IntKind.wrap .i64 (t8+1))))))))))
 (gdE (EC.isL q26r (EC.encL q26r t6)) <|
 (some ((n,((EC.decL q26r (EC.encL q26r t6)),(t7,(t8,false)))),()))))
theorem qtk {n} {t6} {t7} {t8} {r} (h:qto n t6 t7 t8=some r):qti n t6 t7 t8=some r :=
 qm5 (es:=q10i) (hs:=[]) [] (by kernel_rfl) trivial trivial (by kernel_rfl) h
def qtj:=q27d Tryz.prog lv X0 3 (q270 (cdF Tryz.f73) 3) qtn qtl (fun x=>qti x.1.1 x.1.2.1 x.1.2.2.1 x.1.2.2.2) (fun _ _ h=>qm4 h)
def qtq (s:(List S50)):Option Int :=
 (gdE (EC.isL q26r (EC.encL q26r s)) <|
 (Option.bind (qti 0 (EC.decL q26r (EC.encL q26r s)) (List.length (EC.encL q26r s):Int) 0) fun r0 =>
 (some r0.1.1)))
theorem qth {s} {r} (h:qtq s=some r):qtp s=some r :=
 qf2 (es:=q10i) (hs:=[]) [qtj] Tryz.func73 rfl (by kernel_rfl) rfl (by kernel_rfl) (by kernel_rfl) ⟨⟨_,rfl,rfl⟩,trivial⟩ trivial (by kernel_rfl) h
def qur:=(q27b (vAgg (q279 (vC (cInt .i64)) (q279 (vC (cSl q26p)) (q279 (vC cStr) (q279 (vC (cInt .i64)) (q279 (vC cStr) (q27b (vC (cInt .i64))))))))))
def qus:Cod (V × List B) Bool:=(cFstU (cPair (vC cBool) q27a))
def quv (t_Kind:Int) (t_Tests:(List S48)) (t_Name:ByteArray) (t_Pattern:Int) (t_Text:ByteArray) (t_N:Int):Option Bool:=fS Tryz.prog lv X0 126 qur qus (t_Kind,t_Tests,t_Name,t_Pattern,t_Text,t_N)
def quw (t_Kind:Int) (t_Tests:(List S48)) (t_Name:ByteArray) (t_Pattern:Int) (t_Text:ByteArray) (t_N:Int):Option Bool :=
 (brE ((t_Kind==0)==true)
 (brE (((List.length (EC.encL q26p t_Tests):Int)==0)==true)
 (brE (((ByteArray.toList t_Name)==(ByteArray.toList ⟨#[]⟩))==true)
 (brE ((t_Pattern==0)==true)
 (brE (((ByteArray.toList t_Text)==(ByteArray.toList ⟨#[]⟩))==true)
 (some (t_N==0))
 (some false))
 (some false))
 (some false))
 (some false))
 (some false))
theorem quu {t_Kind} {t_Tests} {t_Name} {t_Pattern} {t_Text} {t_N} {r} (h:quw t_Kind t_Tests t_Name t_Pattern t_Text t_N=some r):quv t_Kind t_Tests t_Name t_Pattern t_Text t_N=some r :=
 qf2 (es:=q10i) (hs:=[]) [] Tryz.func126 rfl (by kernel_rfl) rfl (by kernel_rfl) (by kernel_rfl) trivial trivial (by kernel_rfl) h
def qut:=entS Tryz.prog lv X0 126 [] qur qus (fun x=>quv x.1 x.2.1 x.2.2.1 x.2.2.2.1 x.2.2.2.2.1 x.2.2.2.2.2) (fun _ _ h=>qf1 h)
def q10l:=qut::q10i
def qvu:=(q27b (vC (cInt .i64)))
def qvv:Cod (V × List B) Bool:=(cFstU (cPair (vC cBool) q27a))
def qvy (act:Int):Option Bool:=fS Tryz.prog lv X0 127 qvu qvv act
def qvz (act:Int):Option Bool :=
 (brE ((act==2)==false)
 (brE ((act==4)==false)
 (brE ((act==5)==false)
 (some (act==7))
 (some true))
 (some true))
 (some true))
theorem qvx {act} {r} (h:qvz act=some r):qvy act=some r :=
 qf2 (es:=q10l) (hs:=[]) [] Tryz.func127 rfl (by kernel_rfl) rfl (by kernel_rfl) (by kernel_rfl) trivial trivial (by kernel_rfl) h
def qvw:=entS Tryz.prog lv X0 127 [] qvu qvv (fun x=>qvy x) (fun _ _ h=>qf1 h)
def q10p:=qvw::q10l
def qw0:=(q27b (vC (cInt .i64)))
def qw1:Cod (V × List B) (Bool × Bool × Bool):=(cFstU (cPair (vTup (q279 (vC cBool) (q279 (vC cBool) (q27b (vC cBool))))) q27a))
def qw4 (kind:Int):Option (Bool × Bool × Bool):=fS Tryz.prog lv X0 129 qw0 qw1 kind
def qw5 (kind:Int):Option (Bool × Bool × Bool) :=
 (brE (kind==5)
 (some (true,(true,false)))
 (brE (kind==6)
 (some (false,(true,false)))
 (brE (kind==7)
 (some (false,(true,false)))
 (brE (kind==8)
 (some (false,(false,true)))
 (brE (kind==9)
 (some (true,(false,false)))
 (some (false,(false,false))))))))
theorem qw3 {kind} {r} (h:qw5 kind=some r):qw4 kind=some r :=
 qf2 (es:=q10p) (hs:=[]) [] Tryz.func129 rfl (by kernel_rfl) rfl (by kernel_rfl) (by kernel_rfl) trivial trivial (by kernel_rfl) h
def qw2:=entS Tryz.prog lv X0 129 [] qw0 qw1 (fun x=>qw4 x) (fun _ _ h=>qf1 h)
def q10q:=qw2::q10p
def quk:=(q27b (vAgg (q279 (vC (cInt .i64)) (q279 (vC (cSl q26p)) (q279 (vC cStr) (q279 (vC (cInt .i64)) (q279 (vC cStr) (q27b (vC (cInt .i64))))))))))
def qul:Cod (V × List B) Bool:=(cFstU (cPair (vC cBool) q27a))
def qup (t_Kind:Int) (t_Tests:(List S48)) (t_Name:ByteArray) (t_Pattern:Int) (t_Text:ByteArray) (t_N:Int):Option Bool:=fS Tryz.prog lv X0 130 quk qul (t_Kind,t_Tests,t_Name,t_Pattern,t_Text,t_N)
def quq (t_Kind:Int) (t_Tests:(List S48)) (t_Name:ByteArray) (t_Pattern:Int) (t_Text:ByteArray) (t_N:Int):Option Bool :=
 (brE (t_Kind==2)
 (some ((List.length (EC.encL q26p t_Tests):Int)==1))
 (brE (t_Kind==3)
 (brE ((decide ((List.length (EC.encL q26p t_Tests):Int) ≥ 1))==true)
 (some (decide ((List.length (EC.encL q26p t_Tests):Int)≤60)))
 (some false))
 (brE (t_Kind==4)
 (brE ((decide ((List.length (EC.encL q26p t_Tests):Int) ≥ 1))==true)
 (some (decide ((List.length (EC.encL q26p t_Tests):Int)≤60)))
 (some false))
 (some ((List.length (EC.encL q26p t_Tests):Int)==0)))))
theorem qun {t_Kind} {t_Tests} {t_Name} {t_Pattern} {t_Text} {t_N} {r} (h:quq t_Kind t_Tests t_Name t_Pattern t_Text t_N=some r):qup t_Kind t_Tests t_Name t_Pattern t_Text t_N=some r :=
 qf2 (es:=q10q) (hs:=[]) [] Tryz.func130 rfl (by kernel_rfl) rfl (by kernel_rfl) (by kernel_rfl) trivial trivial (by kernel_rfl) h
def qum:=entS Tryz.prog lv X0 130 [] quk qul (fun x=>qup x.1 x.2.1 x.2.2.1 x.2.2.2.1 x.2.2.2.2.1 x.2.2.2.2.2) (fun _ _ h=>qf1 h)
def q10k:=qum::q10q
structure S45 where
 Kind:Int
 Text:ByteArray
 N:Int
def q26o:EC S45 where
 enc x:=[.int .i64 x.Kind,.str x.Text,.int .i64 x.N]
 dec c:=⟨q273 (c.getD 0 .ne),q27s (c.getD 1 .ne),q273 (c.getD 2 .ne)⟩
 is c:=isE [.int .i64,.str,.int .i64] 0 c
 enc_dec h:=q8r h
 dec_enc x:=by rfl
 is_enc x:=by simp [isE,isK]
theorem enc_45 (x:S45):q26o.enc x=[.int .i64 x.Kind,.str x.Text,.int .i64 x.N]:=rfl
theorem q275 (xs:List S45) (n:Nat):isE [.int .i64,.str,.int .i64] 0 ((q26o.encL xs).getD n [])=decide (n<xs.length):=by
 by_cases h:n<xs.length
 ·simp only [EC.getD_lt _ _ h];simp [enc_45,isE,isK,h]
 ·simp only [EC.getD_ge _ _ (Nat.not_lt.1 h)];simp [isE,isK,h]
theorem q3u (xs:List S45) (n:Nat):q273 (((q26o.encL xs).getD n []).getD 0 .ne)=(xs.getD n (q26o.dec [])).Kind:=by
 by_cases h:n<xs.length
 ·simp only [EC.getD_lt _ _ h];simp [enc_45,h,q273,List.getD_eq_getElem?_getD]
 ·simp only [EC.getD_ge _ _ (Nat.not_lt.1 h)];simp [Nat.not_lt.1 h,q26o,q27s,q273,List.getD_eq_getElem?_getD]
theorem q12s (xs:List S45) (n:Nat):q27s (((q26o.encL xs).getD n []).getD 1 .ne)=(xs.getD n (q26o.dec [])).Text:=by
 by_cases h:n<xs.length
 ·simp only [EC.getD_lt _ _ h];simp [enc_45,h,q27s,List.getD_eq_getElem?_getD]
 ·simp only [EC.getD_ge _ _ (Nat.not_lt.1 h)];simp [Nat.not_lt.1 h,q26o,q27s,q273,List.getD_eq_getElem?_getD]
theorem q12t (xs:List S45) (n:Nat):q273 (((q26o.encL xs).getD n []).getD 2 .ne)=(xs.getD n (q26o.dec [])).N:=by
 by_cases h:n<xs.length
 ·simp only [EC.getD_lt _ _ h];simp [enc_45,h,q273,List.getD_eq_getElem?_getD]
 ·simp only [EC.getD_ge _ _ (Nat.not_lt.1 h)];simp [Nat.not_lt.1 h,q26o,q27s,q273,List.getD_eq_getElem?_getD]
theorem lit_45 (a0:Int) (a1:ByteArray) (a2:Int):([.int .i64 a0,.str a1,.int .i64 a2]:List C)=q26o.enc (⟨a0,a1,a2⟩:S45):=rfl
theorem q269 (xs:List S45) (a0:Int) (a1:ByteArray) (a2:Int):q26o.encL xs++[[.int .i64 a0,.str a1,.int .i64 a2]]=q26o.encL (xs++[(⟨a0,a1,a2⟩:S45)]):=by rw [lit_45];simp [EC.encL]
theorem q267 (xs:List S45):(q26o.encL xs).all (fun (el:List C)=>el.length==3)=true:=by induction xs with|nil=>rfl|cons x xs ih=>first|(simp [EC.encL,enc_45];done)|simpa [EC.encL,enc_45] using ih
def qby:=(q27b (vC (cSl q26o)))
def qc8:=sLS [5,6,7] (q279 (vC (cSl q26o)) (q279 (vC (cInt .i64)) (q27b (vC (cInt .i64))))) q27a [] [] (by decide) (fun _=>rfl)
def qc7:=sLS [5,6,7,8] (q279 (vC (cSl q26o)) (q279 (vC (cInt .i64)) (q279 (vC (cInt .i64)) (q27b (vC cBool))))) q27a [] [] (by decide) (fun _=>rfl)
def qc6:=sLS [2] (q27b (vC cBool)) q27a [] [] (by decide) (fun _=>rfl)
def qc5:=oOr 1 qc6 (oAt 2 qc7) (fun x=>(by decide:(2:Nat)≠1))
def qc2 (t5:(List S45)) (t6:Int) (t7:Int):Option ((Bool × Unit) ⊕ (((List S45) × Int × Int × Bool) × Unit)):=lS Tryz.prog lv X0 54 20 (q270 (cdF Tryz.f54) 2) qc8 qc5 ((t5,t6,t7),())
def qc9 (t5:(List S45)) (t6:Int) (t7:Int):Option ((Bool × Unit) ⊕ (((List S45) × Int × Int × Bool) × Unit)) :=
 (brE (decide (t7<t6))
 (gdE (decide (0≤t7)) <|
 (gdE ((decide ((Int.toNat t7)<(List.length (EC.encL q26o t5))))&&(isE [(K1.int Go.IntKind.i64),K1.str,(K1.int Go.IntKind.i64)] 0 (List.getD (EC.encL q26o t5) (Int.toNat t7) []))) <|
 (brE (((q273 (List.getD (List.getD (EC.encL q26o t5) (Int.toNat t7) []) 0 C.ne)) != 6)==true)
 (brE ((q273 (List.getD (List.getD (EC.encL q26o t5) (Int.toNat t7) []) 0 C.ne)) != 7)
 (some (.inl (true,())))
 (gdE (EC.isL q26o (EC.encL q26o t5)) <|
 (qc2 (EC.decL q26o (EC.encL q26o t5)) t6 (IntKind.wrap .i64 (t7+1)))))
 (gdE (EC.isL q26o (EC.encL q26o t5)) <|
 (qc2 (EC.decL q26o (EC.encL q26o t5)) t6 (IntKind.wrap .i64 (t7+1)))))))
 (gdE (EC.isL q26o (EC.encL q26o t5)) <|
 (some (.inr (((EC.decL q26o (EC.encL q26o t5)),(t6,(t7,false))),())))))
theorem qc4 {t5} {t6} {t7} {r} (h:qc9 t5 t6 t7=some r):qc2 t5 t6 t7=some r :=
 qm5 (es:=q10k) (hs:=[]) [] (by kernel_rfl) trivial trivial (by kernel_rfl) h
def qc3:=q27d Tryz.prog lv X0 2 (q270 (cdF Tryz.f54) 2) qc8 qc5 (fun x=>qc2 x.1.1 x.1.2.1 x.1.2.2) (fun _ _ h=>qm4 h)
def qbz:Cod (V × List B) Bool:=(cFstU (cPair (vC cBool) q27a))
def qca (l:(List S45)):Option Bool:=fS Tryz.prog lv X0 54 qby qbz l
def qcb (l:(List S45)):Option Bool :=
 (gdE (EC.isL q26o (EC.encL q26o l)) <|
 (Option.bind (qc2 (EC.decL q26o (EC.encL q26o l)) (List.length (EC.encL q26o l):Int) 0) fun r0 =>
 (Sum.elim (fun r1=>(some r1.1))
 (fun r1=>(some false)) r0)))
theorem qc1 {l} {r} (h:qcb l=some r):qca l=some r :=
 qf2 (es:=q10k) (hs:=[]) [qc3] Tryz.func54 rfl (by kernel_rfl) rfl (by kernel_rfl) (by kernel_rfl) ⟨⟨_,rfl,rfl⟩,trivial⟩ trivial (by kernel_rfl) h
def qc0:=entS Tryz.prog lv X0 54 [] qby qbz (fun x=>qca x) (fun _ _ h=>qf1 h)
def qzt:=qc0::q10k
def qw6:=(q27b (vC (cInt .u8)))
def qw7:Cod (V × List B) Bool:=(cFstU (cPair (vC cBool) q27a))
def qwa (c:Int):Option Bool:=fS Tryz.prog lv X0 151 qw6 qw7 c
def qwb (c:Int):Option Bool :=
 (brE ((decide (c ≥ 97))==true)
 (brE ((decide (c≤122))==false)
 (brE ((decide (c ≥ 48))==true)
 (some (decide (c≤57)))
 (some false))
 (some true))
 (brE ((decide (c ≥ 48))==true)
 (some (decide (c≤57)))
 (some false)))
theorem qw9 {c} {r} (h:qwb c=some r):qwa c=some r :=
 qf2 (es:=qzt) (hs:=[]) [] Tryz.func151 rfl (by kernel_rfl) rfl (by kernel_rfl) (by kernel_rfl) trivial trivial (by kernel_rfl) h
def qw8:=entS Tryz.prog lv X0 151 [] qw6 qw7 (fun x=>qwa x) (fun _ _ h=>qf1 h)
def q10s:=qw8::qzt
def q2w:Cod (List V) (ByteArray × Unit):=(q279 (vC cStr) (q27b (vFn 151 q27a)))
def q36:=sLS [0,1,7,8] (q279 (vC cStr) (q279 (vFn 151 q27a) (q279 (vC (cInt .i64)) (q27b (vC (cInt .i64)))))) q27a [] [] (by decide) (fun _=>rfl)
def q35:=sLS [0,1,7,8,9] (q279 (vC cStr) (q279 (vFn 151 q27a) (q279 (vC (cInt .i64)) (q279 (vC (cInt .i64)) (q27b (vC cBool)))))) q27a [] [] (by decide) (fun _=>rfl)
def q34:=sLS [4] (q27b (vC cBool)) q27a [] [] (by decide) (fun _=>rfl)
def q33:=oOr 1 q34 (oAt 2 q35) (fun x=>(by decide:(2:Nat)≠1))
def q30 (s:ByteArray) (t7:Int) (t8:Int):Option ((Bool × Unit) ⊕ ((ByteArray × Unit × Int × Int × Bool) × Unit)):=lS Tryz.prog lv X0 84 18 (q270 (cdF Tryz.f84) 2) q36 q33 ((s,(),t7,t8),())
def q37 (s:ByteArray) (t7:Int) (t8:Int):Option ((Bool × Unit) ⊕ ((ByteArray × Unit × Int × Int × Bool) × Unit)) :=
 (brE (decide (t8<t7))
 (gdE ((decide (0≤t8))&&(decide ((Int.toNat t8)<(ByteArray.size s)))) <|
 (Option.bind (qwa (((UInt8.toNat (Array.getD (ByteArray.data s) (Int.toNat t8) (0:UInt8))):Nat):Int)) fun r0 =>
 (brE (!r0)
 (some (.inl (false,())))
 (q30 s t7 (IntKind.wrap .i64 (t8+1))))))
 (some (.inr ((s,((),(t7,(t8,false)))),()))))
theorem q32 {s} {t7} {t8} {r} (h:q37 s t7 t8=some r):q30 s t7 t8=some r :=
 qm5 (es:=q10s) (hs:=[]) [] (by kernel_rfl) trivial trivial (by kernel_rfl) h
def q31:=q27d Tryz.prog lv X0 2 (q270 (cdF Tryz.f84) 2) q36 q33 (fun x=>q30 x.1.1 x.1.2.2.1 x.1.2.2.2) (fun _ _ h=>qm4 h)
def q2x:Cod (V × List B) Bool:=(cFstU (cPair (vC cBool) q27a))
def q39 (s:ByteArray):Option Bool:=fS Tryz.prog lv X0 84 q2w q2x (s,())
def q3a (s:ByteArray):Option Bool :=
 (Option.bind (q30 s (s.size:Int) 0) fun r0 =>
 (Sum.elim (fun r1=>(some r1.1))
 (fun r1=>(some true)) r0))
theorem q2z {s} {r} (h:q3a s=some r):q39 s=some r :=
 qf2 (es:=q10s) (hs:=[]) [q31] Tryz.func84 rfl (by kernel_rfl) rfl (by kernel_rfl) (by kernel_rfl) ⟨⟨_,rfl,rfl⟩,trivial⟩ trivial (by kernel_rfl) h
def q2y:=entS Tryz.prog lv X0 84 [151] q2w q2x (fun x=>q39 x.1) (fun _ _ h=>qf1 h)
def qza:=q2y::q10s
def qwc:=(q27b (vC cStr))
def qwd:Cod (V × List B) Bool:=(cFstU (cPair (vC cBool) q27a))
def qwg (s:ByteArray):Option Bool:=fS Tryz.prog lv X0 128 qwc qwd s
def qwh (s:ByteArray):Option Bool :=
 (brE ((!((ByteArray.toList s)==(ByteArray.toList ⟨#[]⟩)))==true)
 (brE ((decide ((s.size:Int)≤60))==true)
 (Option.bind (q39 s) fun r0 =>
 (brE (r0==true)
 (gdE ((decide ((0:Int)≤0))&&(decide ((Int.toNat 0)<(ByteArray.size s)))) <|
 (some (decide ((((UInt8.toNat (Array.getD (ByteArray.data s) (Int.toNat 0) (0:UInt8))):Nat):Int) > 57))))
 (some false)))
 (some false))
 (some false))
theorem qwf {s} {r} (h:qwh s=some r):qwg s=some r :=
 qf2 (es:=qza) (hs:=[]) [] Tryz.func128 rfl (by kernel_rfl) rfl (by kernel_rfl) (by kernel_rfl) trivial trivial (by kernel_rfl) h
def qwe:=entS Tryz.prog lv X0 128 [] qwc qwd (fun x=>qwg x) (fun _ _ h=>qf1 h)
def q10r:=qwe::qza
def qux:=(q27b (vAgg (q279 (vC (cInt .i64)) (q279 (vC (cInt .i64)) (q279 (vC (cSl q26p)) (q279 (vC cStr) (q279 (vC (cInt .i64)) (q279 (vC cStr) (q279 (vC (cInt .i64)) (q279 (vC (cSl q26r)) (q279 (vC (cSl q26r)) (q279 (vC (cInt .i64)) (q279 (vC cStr) (q279 (vC cStr) (q27b (vC (cInt .i64)))))))))))))))))
def quy:Cod (V × List B) Int:=(cFstU (cPair (vC (cInt .i64)) q27a))
def qv1 (r_Kind:Int) (r_Test_Kind:Int) (r_Test_Tests:(List S48)) (r_Test_Name:ByteArray) (r_Test_Pattern:Int) (r_Test_Text:ByteArray) (r_Test_N:Int) (r_Then:(List S50)) (r_Else:(List S50)) (r_Act:Int) (r_Name:ByteArray) (r_Text:ByteArray) (r_N:Int):Option Int:=fS Tryz.prog lv X0 101 qux quy (r_Kind,r_Test_Kind,r_Test_Tests,r_Test_Name,r_Test_Pattern,r_Test_Text,r_Test_N,r_Then,r_Else,r_Act,r_Name,r_Text,r_N)
def qv2 (r_Kind:Int) (r_Test_Kind:Int) (r_Test_Tests:(List S48)) (r_Test_Name:ByteArray) (r_Test_Pattern:Int) (r_Test_Text:ByteArray) (r_Test_N:Int) (r_Then:(List S50)) (r_Else:(List S50)) (r_Act:Int) (r_Name:ByteArray) (r_Text:ByteArray) (r_N:Int):Option Int :=
 (gdE (EC.isL q26p (EC.encL q26p r_Test_Tests)) <|
 (Option.bind (quv r_Test_Kind (EC.decL q26p (EC.encL q26p r_Test_Tests)) r_Test_Name r_Test_Pattern r_Test_Text r_Test_N) fun r0 =>
 (brE ((!r0)==false)
 (brE ((decide ((IntKind.wrap .i64 ((List.length (EC.encL q26r r_Then):Int)+(List.length (EC.encL q26r r_Else):Int))) > 0))==false)
 (brE ((!(r_Kind==2))==true)
 (brE ((r_Act != 0)==false)
 (brE ((r_N != 0)==false)
 (brE ((r_Kind != 3)==true)
 (brE ((!((ByteArray.toList r_Name)==(ByteArray.toList ⟨#[]⟩)))==false)
 (brE ((r_Kind==4)==true)
 (brE (!((ByteArray.toList r_Text)==(ByteArray.toList ⟨#[]⟩)))
 (some 5)
 (brE ((r_Kind==2)==true)
 (brE ((decide (r_Act<1))==false)
 (brE (decide (r_Act > 7))
 (some 4)
 (brE ((r_Kind==2)==true)
 (Option.bind (qvy r_Act) fun r1 =>
 (brE ((!r1)==true)
 (brE ((!((ByteArray.toList r_Text)==(ByteArray.toList ⟨#[]⟩)))==false)
 (brE ((r_Act != 6)==true)
 (brE (r_N != 0)
 (some 5)
 (brE ((r_Kind==3)==true)
 (Option.bind (qwg r_Name) fun r2 =>
 (brE (!r2)
 (some 10)
 (brE (decide ((r_Text.size:Int) > 200))
 (some 1)
 (brE ((decide (r_N<0))==false)
 (brE (decide (r_N > 63))
 (some 3)
 (some 0))
 (some 3)))))
 (brE (decide ((r_Text.size:Int) > 200))
 (some 1)
 (brE ((decide (r_N<0))==false)
 (brE (decide (r_N > 63))
 (some 3)
 (some 0))
 (some 3)))))
 (brE ((r_Kind==3)==true)
 (Option.bind (qwg r_Name) fun r2 =>
 (brE (!r2)
 (some 10)
 (brE (decide ((r_Text.size:Int) > 200))
 (some 1)
 (brE ((decide (r_N<0))==false)
 (brE (decide (r_N > 63))
 (some 3)
 (some 0))
 (some 3)))))
 (brE (decide ((r_Text.size:Int) > 200))
 (some 1)
 (brE ((decide (r_N<0))==false)
 (brE (decide (r_N > 63))
 (some 3)
 (some 0))
 (some 3)))))
 (some 5))
 (brE ((r_Act != 6)==true)
 (brE (r_N != 0)
 (some 5)
 (brE ((r_Kind==3)==true)
 (Option.bind (qwg r_Name) fun r2 =>
 (brE (!r2)
 (some 10)
 (brE (decide ((r_Text.size:Int) > 200))
 (some 1)
 (brE ((decide (r_N<0))==false)
 (brE (decide (r_N > 63))
 (some 3)
 (some 0))
 (some 3)))))
 (brE (decide ((r_Text.size:Int) > 200))
 (some 1)
 (brE ((decide (r_N<0))==false)
 (brE (decide (r_N > 63))
 (some 3)
 (some 0))
 (some 3)))))
 (brE ((r_Kind==3)==true)
 (Option.bind (qwg r_Name) fun r2 =>
 (brE (!r2)
 (some 10)
 (brE (decide ((r_Text.size:Int) > 200))
 (some 1)
 (brE ((decide (r_N<0))==false)
 (brE (decide (r_N > 63))
 (some 3)
 (some 0))
 (some 3)))))
 (brE (decide ((r_Text.size:Int) > 200))
 (some 1)
 (brE ((decide (r_N<0))==false)
 (brE (decide (r_N > 63))
 (some 3)
 (some 0))
 (some 3)))))))
 (brE ((r_Kind==3)==true)
 (Option.bind (qwg r_Name) fun r1 =>
 (brE (!r1)
 (some 10)
 (brE (decide ((r_Text.size:Int) > 200))
 (some 1)
 (brE ((decide (r_N<0))==false)
 (brE (decide (r_N > 63))
 (some 3)
 (some 0))
 (some 3)))))
 (brE (decide ((r_Text.size:Int) > 200))
 (some 1)
 (brE ((decide (r_N<0))==false)
 (brE (decide (r_N > 63))
 (some 3)
 (some 0))
 (some 3))))))
 (some 4))
 (brE ((r_Kind==2)==true)
 (Option.bind (qvy r_Act) fun r1 =>
 (brE ((!r1)==true)
 (brE ((!((ByteArray.toList r_Text)==(ByteArray.toList ⟨#[]⟩)))==false)
 (brE ((r_Act != 6)==true)
 (brE (r_N != 0)
 (some 5)
 (brE ((r_Kind==3)==true)
 (Option.bind (qwg r_Name) fun r2 =>
 (brE (!r2)
 (some 10)
 (brE (decide ((r_Text.size:Int) > 200))
 (some 1)
 (brE ((decide (r_N<0))==false)
 (brE (decide (r_N > 63))
 (some 3)
 (some 0))
 (some 3)))))
 (brE (decide ((r_Text.size:Int) > 200))
 (some 1)
 (brE ((decide (r_N<0))==false)
 (brE (decide (r_N > 63))
 (some 3)
 (some 0))
 (some 3)))))
 (brE ((r_Kind==3)==true)
 (Option.bind (qwg r_Name) fun r2 =>
 (brE (!r2)
 (some 10)
 (brE (decide ((r_Text.size:Int) > 200))
 (some 1)
 (brE ((decide (r_N<0))==false)
 (brE (decide (r_N > 63))
 (some 3)
 (some 0))
 (some 3)))))
 (brE (decide ((r_Text.size:Int) > 200))
 (some 1)
 (brE ((decide (r_N<0))==false)
 (brE (decide (r_N > 63))
 (some 3)
 (some 0))
 (some 3)))))
 (some 5))
 (brE ((r_Act != 6)==true)
 (brE (r_N != 0)
 (some 5)
 (brE ((r_Kind==3)==true)
 (Option.bind (qwg r_Name) fun r2 =>
 (brE (!r2)
 (some 10)
 (brE (decide ((r_Text.size:Int) > 200))
 (some 1)
 (brE ((decide (r_N<0))==false)
 (brE (decide (r_N > 63))
 (some 3)
 (some 0))
 (some 3)))))
 (brE (decide ((r_Text.size:Int) > 200))
 (some 1)
 (brE ((decide (r_N<0))==false)
 (brE (decide (r_N > 63))
 (some 3)
 (some 0))
 (some 3)))))
 (brE ((r_Kind==3)==true)
 (Option.bind (qwg r_Name) fun r2 =>
 (brE (!r2)
 (some 10)
 (brE (decide ((r_Text.size:Int) > 200))
 (some 1)
 (brE ((decide (r_N<0))==false)
 (brE (decide (r_N > 63))
 (some 3)
 (some 0))
 (some 3)))))
 (brE (decide ((r_Text.size:Int) > 200))
 (some 1)
 (brE ((decide (r_N<0))==false)
 (brE (decide (r_N > 63))
 (some 3)
 (some 0))
 (some 3)))))))
 (brE ((r_Kind==3)==true)
 (Option.bind (qwg r_Name) fun r1 =>
 (brE (!r1)
 (some 10)
 (brE (decide ((r_Text.size:Int) > 200))
 (some 1)
 (brE ((decide (r_N<0))==false)
 (brE (decide (r_N > 63))
 (some 3)
 (some 0))
 (some 3)))))
 (brE (decide ((r_Text.size:Int) > 200))
 (some 1)
 (brE ((decide (r_N<0))==false)
 (brE (decide (r_N > 63))
 (some 3)
 (some 0))
 (some 3)))))))
 (brE ((r_Kind==2)==true)
 (brE ((decide (r_Act<1))==false)
 (brE (decide (r_Act > 7))
 (some 4)
 (brE ((r_Kind==2)==true)
 (Option.bind (qvy r_Act) fun r1 =>
 (brE ((!r1)==true)
 (brE ((!((ByteArray.toList r_Text)==(ByteArray.toList ⟨#[]⟩)))==false)
 (brE ((r_Act != 6)==true)
 (brE (r_N != 0)
 (some 5)
 (brE ((r_Kind==3)==true)
 (Option.bind (qwg r_Name) fun r2 =>
 (brE (!r2)
 (some 10)
 (brE (decide ((r_Text.size:Int) > 200))
 (some 1)
 (brE ((decide (r_N<0))==false)
 (brE (decide (r_N > 63))
 (some 3)
 (some 0))
 (some 3)))))
 (brE (decide ((r_Text.size:Int) > 200))
 (some 1)
 (brE ((decide (r_N<0))==false)
 (brE (decide (r_N > 63))
 (some 3)
 (some 0))
 (some 3)))))
 (brE ((r_Kind==3)==true)
 (Option.bind (qwg r_Name) fun r2 =>
 (brE (!r2)
 (some 10)
 (brE (decide ((r_Text.size:Int) > 200))
 (some 1)
 (brE ((decide (r_N<0))==false)
 (brE (decide (r_N > 63))
 (some 3)
 (some 0))
 (some 3)))))
 (brE (decide ((r_Text.size:Int) > 200))
 (some 1)
 (brE ((decide (r_N<0))==false)
 (brE (decide (r_N > 63))
 (some 3)
 (some 0))
 (some 3)))))
 (some 5))
 (brE ((r_Act != 6)==true)
 (brE (r_N != 0)
 (some 5)
 (brE ((r_Kind==3)==true)
 (Option.bind (qwg r_Name) fun r2 =>
 (brE (!r2)
 (some 10)
 (brE (decide ((r_Text.size:Int) > 200))
 (some 1)
 (brE ((decide (r_N<0))==false)
 (brE (decide (r_N > 63))
 (some 3)
 (some 0))
 (some 3)))))
 (brE (decide ((r_Text.size:Int) > 200))
 (some 1)
 (brE ((decide (r_N<0))==false)
 (brE (decide (r_N > 63))
 (some 3)
 (some 0))
 (some 3)))))
 (brE ((r_Kind==3)==true)
 (Option.bind (qwg r_Name) fun r2 =>
 (brE (!r2)
 (some 10)
 (brE (decide ((r_Text.size:Int) > 200))
 (some 1)
 (brE ((decide (r_N<0))==false)
 (brE (decide (r_N > 63))
 (some 3)
 (some 0))
 (some 3)))))
 (brE (decide ((r_Text.size:Int) > 200))
 (some 1)
 (brE ((decide (r_N<0))==false)
 (brE (decide (r_N > 63))
 (some 3)
 (some 0))
 (some 3)))))))
 (brE ((r_Kind==3)==true)
 (Option.bind (qwg r_Name) fun r1 =>
 (brE (!r1)
 (some 10)
 (brE (decide ((r_Text.size:Int) > 200))
 (some 1)
 (brE ((decide (r_N<0))==false)
 (brE (decide (r_N > 63))
 (some 3)
 (some 0))
 (some 3)))))
 (brE (decide ((r_Text.size:Int) > 200))
 (some 1)
 (brE ((decide (r_N<0))==false)
 (brE (decide (r_N > 63))
 (some 3)
 (some 0))
 (some 3))))))
 (some 4))
 (brE ((r_Kind==2)==true)
 (Option.bind (qvy r_Act) fun r1 =>
 (brE ((!r1)==true)
 (brE ((!((ByteArray.toList r_Text)==(ByteArray.toList ⟨#[]⟩)))==false)
 (brE ((r_Act != 6)==true)
 (brE (r_N != 0)
 (some 5)
 (brE ((r_Kind==3)==true)
 (Option.bind (qwg r_Name) fun r2 =>
 (brE (!r2)
 (some 10)
 (brE (decide ((r_Text.size:Int) > 200))
 (some 1)
 (brE ((decide (r_N<0))==false)
 (brE (decide (r_N > 63))
 (some 3)
 (some 0))
 (some 3)))))
 (brE (decide ((r_Text.size:Int) > 200))
 (some 1)
 (brE ((decide (r_N<0))==false)
 (brE (decide (r_N > 63))
 (some 3)
 (some 0))
 (some 3)))))
 (brE ((r_Kind==3)==true)
 (Option.bind (qwg r_Name) fun r2 =>
 (brE (!r2)
 (some 10)
 (brE (decide ((r_Text.size:Int) > 200))
 (some 1)
 (brE ((decide (r_N<0))==false)
 (brE (decide (r_N > 63))
 (some 3)
 (some 0))
 (some 3)))))
 (brE (decide ((r_Text.size:Int) > 200))
 (some 1)
 (brE ((decide (r_N<0))==false)
 (brE (decide (r_N > 63))
 (some 3)
 (some 0))
 (some 3)))))
 (some 5))
 (brE ((r_Act != 6)==true)
 (brE (r_N != 0)
 (some 5)
 (brE ((r_Kind==3)==true)
 (Option.bind (qwg r_Name) fun r2 =>
 (brE (!r2)
 (some 10)
 (brE (decide ((r_Text.size:Int) > 200))
 (some 1)
 (brE ((decide (r_N<0))==false)
 (brE (decide (r_N > 63))
 (some 3)
 (some 0))
 (some 3)))))
 (brE (decide ((r_Text.size:Int) > 200))
 (some 1)
 (brE ((decide (r_N<0))==false)
 (brE (decide (r_N > 63))
 (some 3)
 (some 0))
 (some 3)))))
 (brE ((r_Kind==3)==true)
 (Option.bind (qwg r_Name) fun r2 =>
 (brE (!r2)
 (some 10)
 (brE (decide ((r_Text.size:Int) > 200))
 (some 1)
 (brE ((decide (r_N<0))==false)
 (brE (decide (r_N > 63))
 (some 3)
 (some 0))
 (some 3)))))
 (brE (decide ((r_Text.size:Int) > 200))
 (some 1)
 (brE ((decide (r_N<0))==false)
 (brE (decide (r_N > 63))
 (some 3)
 (some 0))
 (some 3)))))))
 (brE ((r_Kind==3)==true)
 (Option.bind (qwg r_Name) fun r1 =>
 (brE (!r1)
 (some 10)
 (brE (decide ((r_Text.size:Int) > 200))
 (some 1)
 (brE ((decide (r_N<0))==false)
 (brE (decide (r_N > 63))
 (some 3)
 (some 0))
 (some 3)))))
 (brE (decide ((r_Text.size:Int) > 200))
 (some 1)
 (brE ((decide (r_N<0))==false)
 (brE (decide (r_N > 63))
 (some 3)
 (some 0))
 (some 3)))))))
 (some 5))
 (brE ((r_Kind==4)==true)
 (brE (!((ByteArray.toList r_Text)==(ByteArray.toList ⟨#[]⟩)))
 (some 5)
 (brE ((r_Kind==2)==true)
 (brE ((decide (r_Act<1))==false)
 (brE (decide (r_Act > 7))
 (some 4)
 (brE ((r_Kind==2)==true)
 (Option.bind (qvy r_Act) fun r1 =>
 (brE ((!r1)==true)
 (brE ((!((ByteArray.toList r_Text)==(ByteArray.toList ⟨#[]⟩)))==false)
 (brE ((r_Act != 6)==true)
 (brE (r_N != 0)
 (some 5)
 (brE ((r_Kind==3)==true)
 (Option.bind (qwg r_Name) fun r2 =>
 (brE (!r2)
 (some 10)
 (brE (decide ((r_Text.size:Int) > 200))
 (some 1)
 (brE ((decide (r_N<0))==false)
 (brE (decide (r_N > 63))
 (some 3)
 (some 0))
 (some 3)))))
 (brE (decide ((r_Text.size:Int) > 200))
 (some 1)
 (brE ((decide (r_N<0))==false)
 (brE (decide (r_N > 63))
 (some 3)
 (some 0))
 (some 3)))))
 (brE ((r_Kind==3)==true)
 (Option.bind (qwg r_Name) fun r2 =>
 (brE (!r2)
 (some 10)
 (brE (decide ((r_Text.size:Int) > 200))
 (some 1)
 (brE ((decide (r_N<0))==false)
 (brE (decide (r_N > 63))
 (some 3)
 (some 0))
 (some 3)))))
 (brE (decide ((r_Text.size:Int) > 200))
 (some 1)
 (brE ((decide (r_N<0))==false)
 (brE (decide (r_N > 63))
 (some 3)
 (some 0))
 (some 3)))))
 (some 5))
 (brE ((r_Act != 6)==true)
 (brE (r_N != 0)
 (some 5)
 (brE ((r_Kind==3)==true)
 (Option.bind (qwg r_Name) fun r2 =>
 (brE (!r2)
 (some 10)
 (brE (decide ((r_Text.size:Int) > 200))
 (some 1)
 (brE ((decide (r_N<0))==false)
 (brE (decide (r_N > 63))
 (some 3)
 (some 0))
 (some 3)))))
 (brE (decide ((r_Text.size:Int) > 200))
 (some 1)
 (brE ((decide (r_N<0))==false)
 (brE (decide (r_N > 63))
 (some 3)
 (some 0))
 (some 3)))))
 (brE ((r_Kind==3)==true)
 (Option.bind (qwg r_Name) fun r2 =>
 (brE (!r2)
 (some 10)
 (brE (decide ((r_Text.size:Int) > 200))
 (some 1)
 (brE ((decide (r_N<0))==false)
 (brE (decide (r_N > 63))
 (some 3)
 (some 0))
 (some 3)))))
 (brE (decide ((r_Text.size:Int) > 200))
 (some 1)
 (brE ((decide (r_N<0))==false)
 (brE (decide (r_N > 63))
 (some 3)
 (some 0))
 (some 3)))))))
 (brE ((r_Kind==3)==true)
 (Option.bind (qwg r_Name) fun r1 =>
 (brE (!r1)
 (some 10)
 (brE (decide ((r_Text.size:Int) > 200))
 (some 1)
 (brE ((decide (r_N<0))==false)
 (brE (decide (r_N > 63))
 (some 3)
 (some 0))
 (some 3)))))
 (brE (decide ((r_Text.size:Int) > 200))
 (some 1)
 (brE ((decide (r_N<0))==false)
 (brE (decide (r_N > 63))
 (some 3)
 (some 0))
 (some 3))))))
 (some 4))
 (brE ((r_Kind==2)==true)
 (Option.bind (qvy r_Act) fun r1 =>
 (brE ((!r1)==true)
 (brE ((!((ByteArray.toList r_Text)==(ByteArray.toList ⟨#[]⟩)))==false)
 (brE ((r_Act != 6)==true)
 (brE (r_N != 0)
 (some 5)
 (brE ((r_Kind==3)==true)
 (Option.bind (qwg r_Name) fun r2 =>
 (brE (!r2)
 (some 10)
 (brE (decide ((r_Text.size:Int) > 200))
 (some 1)
 (brE ((decide (r_N<0))==false)
 (brE (decide (r_N > 63))
 (some 3)
 (some 0))
 (some 3)))))
 (brE (decide ((r_Text.size:Int) > 200))
 (some 1)
 (brE ((decide (r_N<0))==false)
 (brE (decide (r_N > 63))
 (some 3)
 (some 0))
 (some 3)))))
 (brE ((r_Kind==3)==true)
 (Option.bind (qwg r_Name) fun r2 =>
 (brE (!r2)
 (some 10)
 (brE (decide ((r_Text.size:Int) > 200))
 (some 1)
 (brE ((decide (r_N<0))==false)
 (brE (decide (r_N > 63))
 (some 3)
 (some 0))
 (some 3)))))
 (brE (decide ((r_Text.size:Int) > 200))
 (some 1)
 (brE ((decide (r_N<0))==false)
 (brE (decide (r_N > 63))
 (some 3)
 (some 0))
 (some 3)))))
 (some 5))
 (brE ((r_Act != 6)==true)
 (brE (r_N != 0)
 (some 5)
 (brE ((r_Kind==3)==true)
 (Option.bind (qwg r_Name) fun r2 =>
 (brE (!r2)
 (some 10)
 (brE (decide ((r_Text.size:Int) > 200))
 (some 1)
 (brE ((decide (r_N<0))==false)
 (brE (decide (r_N > 63))
 (some 3)
 (some 0))
 (some 3)))))
 (brE (decide ((r_Text.size:Int) > 200))
 (some 1)
 (brE ((decide (r_N<0))==false)
 (brE (decide (r_N > 63))
 (some 3)
 (some 0))
 (some 3)))))
 (brE ((r_Kind==3)==true)
 (Option.bind (qwg r_Name) fun r2 =>
 (brE (!r2)
 (some 10)
 (brE (decide ((r_Text.size:Int) > 200))
 (some 1)
 (brE ((decide (r_N<0))==false)
 (brE (decide (r_N > 63))
 (some 3)
 (some 0))
 (some 3)))))
 (brE (decide ((r_Text.size:Int) > 200))
 (some 1)
 (brE ((decide (r_N<0))==false)
 (brE (decide (r_N > 63))
 (some 3)
 (some 0))
 (some 3)))))))
 (brE ((r_Kind==3)==true)
 (Option.bind (qwg r_Name) fun r1 =>
 (brE (!r1)
 (some 10)
 (brE (decide ((r_Text.size:Int) > 200))
 (some 1)
 (brE ((decide (r_N<0))==false)
 (brE (decide (r_N > 63))
 (some 3)
 (some 0))
 (some 3)))))
 (brE (decide ((r_Text.size:Int) > 200))
 (some 1)
 (brE ((decide (r_N<0))==false)
 (brE (decide (r_N > 63))
 (some 3)
 (some 0))
 (some 3)))))))
 (brE ((r_Kind==2)==true)
 (brE ((decide (r_Act<1))==false)
 (brE (decide (r_Act > 7))
 (some 4)
 (brE ((r_Kind==2)==true)
 (Option.bind (qvy r_Act) fun r1 =>
 (brE ((!r1)==true)
 (brE ((!((ByteArray.toList r_Text)==(ByteArray.toList ⟨#[]⟩)))==false)
 (brE ((r_Act != 6)==true)
 (brE (r_N != 0)
 (some 5)
 (brE ((r_Kind==3)==true)
 (Option.bind (qwg r_Name) fun r2 =>
 (brE (!r2)
 (some 10)
 (brE (decide ((r_Text.size:Int) > 200))
 (some 1)
 (brE ((decide (r_N<0))==false)
 (brE (decide (r_N > 63))
 (some 3)
 (some 0))
 (some 3)))))
 (brE (decide ((r_Text.size:Int) > 200))
 (some 1)
 (brE ((decide (r_N<0))==false)
 (brE (decide (r_N > 63))
 (some 3)
 (some 0))
 (some 3)))))
 (brE ((r_Kind==3)==true)
 (Option.bind (qwg r_Name) fun r2 =>
 (brE (!r2)
 (some 10)
 (brE (decide ((r_Text.size:Int) > 200))
 (some 1)
 (brE ((decide (r_N<0))==false)
 (brE (decide (r_N > 63))
 (some 3)
 (some 0))
 (some 3)))))
 (brE (decide ((r_Text.size:Int) > 200))
 (some 1)
 (brE ((decide (r_N<0))==false)
 (brE (decide (r_N > 63))
 (some 3)
 (some 0))
 (some 3)))))
 (some 5))
 (brE ((r_Act != 6)==true)
 (brE (r_N != 0)
 (some 5)
 (brE ((r_Kind==3)==true)
 (Option.bind (qwg r_Name) fun r2 =>
 (brE (!r2)
 (some 10)
 (brE (decide ((r_Text.size:Int) > 200))
 (some 1)
 (brE ((decide (r_N<0))==false)
 (brE (decide (r_N > 63))
 (some 3)
 (some 0))
 (some 3)))))
 (brE (decide ((r_Text.size:Int) > 200))
 (some 1)
 (brE ((decide (r_N<0))==false)
 (brE (decide (r_N > 63))
 (some 3)
 (some 0))
 (some 3)))))
 (brE ((r_Kind==3)==true)
 (Option.bind (qwg r_Name) fun r2 =>
 (brE (!r2)
 (some 10)
 (brE (decide ((r_Text.size:Int) > 200))
 (some 1)
 (brE ((decide (r_N<0))==false)
 (brE (decide (r_N > 63))
 (some 3)
 (some 0))
 (some 3)))))
 (brE (decide ((r_Text.size:Int) > 200))
 (some 1)
 (brE ((decide (r_N<0))==false)
 (brE (decide (r_N > 63))
 (some 3)
 (some 0))
 (some 3)))))))
 (brE ((r_Kind==3)==true)
 (Option.bind (qwg r_Name) fun r1 =>
 (brE (!r1)
 (some 10)
 (brE (decide ((r_Text.size:Int) > 200))
 (some 1)
 (brE ((decide (r_N<0))==false)
 (brE (decide (r_N > 63))
 (some 3)
 (some 0))
 (some 3)))))
 (brE (decide ((r_Text.size:Int) > 200))
 (some 1)
 (brE ((decide (r_N<0))==false)
 (brE (decide (r_N > 63))
 (some 3)
 (some 0))
 (some 3))))))
 (some 4))
 (brE ((r_Kind==2)==true)
 (Option.bind (qvy r_Act) fun r1 =>
 (brE ((!r1)==true)
 (brE ((!((ByteArray.toList r_Text)==(ByteArray.toList ⟨#[]⟩)))==false)
 (brE ((r_Act != 6)==true)
 (brE (r_N != 0)
 (some 5)
 (brE ((r_Kind==3)==true)
 (Option.bind (qwg r_Name) fun r2 =>
 (brE (!r2)
 (some 10)
 (brE (decide ((r_Text.size:Int) > 200))
 (some 1)
 (brE ((decide (r_N<0))==false)
 (brE (decide (r_N > 63))
 (some 3)
 (some 0))
 (some 3)))))
 (brE (decide ((r_Text.size:Int) > 200))
 (some 1)
 (brE ((decide (r_N<0))==false)
 (brE (decide (r_N > 63))
 (some 3)
 (some 0))
 (some 3)))))
 (brE ((r_Kind==3)==true)
 (Option.bind (qwg r_Name) fun r2 =>
 (brE (!r2)
 (some 10)
 (brE (decide ((r_Text.size:Int) > 200))
 (some 1)
 (brE ((decide (r_N<0))==false)
 (brE (decide (r_N > 63))
 (some 3)
 (some 0))
 (some 3)))))
 (brE (decide ((r_Text.size:Int) > 200))
 (some 1)
 (brE ((decide (r_N<0))==false)
 (brE (decide (r_N > 63))
 (some 3)
 (some 0))
 (some 3)))))
 (some 5))
 (brE ((r_Act != 6)==true)
 (brE (r_N != 0)
 (some 5)
 (brE ((r_Kind==3)==true)
 (Option.bind (qwg r_Name) fun r2 =>
 (brE (!r2)
 (some 10)
 (brE (decide ((r_Text.size:Int) > 200))
 (some 1)
 (brE ((decide (r_N<0))==false)
 (brE (decide (r_N > 63))
 (some 3)
 (some 0))
 (some 3)))))
 (brE (decide ((r_Text.size:Int) > 200))
 (some 1)
 (brE ((decide (r_N<0))==false)
 (brE (decide (r_N > 63))
 (some 3)
 (some 0))
 (some 3)))))
 (brE ((r_Kind==3)==true)
 (Option.bind (qwg r_Name) fun r2 =>
 (brE (!r2)
 (some 10)
 (brE (decide ((r_Text.size:Int) > 200))
 (some 1)
 (brE ((decide (r_N<0))==false)
 (brE (decide (r_N > 63))
 (some 3)
 (some 0))
 (some 3)))))
 (brE (decide ((r_Text.size:Int) > 200))
 (some 1)
 (brE ((decide (r_N<0))==false)
 (brE (decide (r_N > 63))
 (some 3)
 (some 0))
 (some 3)))))))
 (brE ((r_Kind==3)==true)
 (Option.bind (qwg r_Name) fun r1 =>
 (brE (!r1)
 (some 10)
 (brE (decide ((r_Text.size:Int) > 200))
 (some 1)
 (brE ((decide (r_N<0))==false)
 (brE (decide (r_N > 63))
 (some 3)
 (some 0))
 (some 3)))))
 (brE (decide ((r_Text.size:Int) > 200))
 (some 1)
 (brE ((decide (r_N<0))==false)
 (brE (decide (r_N > 63))
 (some 3)
 (some 0))
 (some 3))))))))
 (some 5))
 (some 5))
 (brE ((r_Kind != 3)==true)
 (brE ((!((ByteArray.toList r_Name)==(ByteArray.toList ⟨#[]⟩)))==false)
 (brE ((r_Kind==4)==true)
 (brE (!((ByteArray.toList r_Text)==(ByteArray.toList ⟨#[]⟩)))
 (some 5)
 (brE ((r_Kind==2)==true)
 (brE ((decide (r_Act<1))==false)
 (brE (decide (r_Act > 7))
 (some 4)
 (brE ((r_Kind==2)==true)
 (Option.bind (qvy r_Act) fun r1 =>
 (brE ((!r1)==true)
 (brE ((!((ByteArray.toList r_Text)==(ByteArray.toList ⟨#[]⟩)))==false)
 (brE ((r_Act != 6)==true)
 (brE (r_N != 0)
 (some 5)
 (brE ((r_Kind==3)==true)
 (Option.bind (qwg r_Name) fun r2 =>
 (brE (!r2)
 (some 10)
 (brE (decide ((r_Text.size:Int) > 200))
 (some 1)
 (brE ((decide (r_N<0))==false)
 (brE (decide (r_N > 63))
 (some 3)
 (some 0))
 (some 3)))))
 (brE (decide ((r_Text.size:Int) > 200))
 (some 1)
 (brE ((decide (r_N<0))==false)
 (brE (decide (r_N > 63))
 (some 3)
 (some 0))
 (some 3)))))
 (brE ((r_Kind==3)==true)
 (Option.bind (qwg r_Name) fun r2 =>
 (brE (!r2)
 (some 10)
 (brE (decide ((r_Text.size:Int) > 200))
 (some 1)
 (brE ((decide (r_N<0))==false)
 (brE (decide (r_N > 63))
 (some 3)
 (some 0))
 (some 3)))))
 (brE (decide ((r_Text.size:Int) > 200))
 (some 1)
 (brE ((decide (r_N<0))==false)
 (brE (decide (r_N > 63))
 (some 3)
 (some 0))
 (some 3)))))
 (some 5))
 (brE ((r_Act != 6)==true)
 (brE (r_N != 0)
 (some 5)
 (brE ((r_Kind==3)==true)
 (Option.bind (qwg r_Name) fun r2 =>
 (brE (!r2)
 (some 10)
 (brE (decide ((r_Text.size:Int) > 200))
 (some 1)
 (brE ((decide (r_N<0))==false)
 (brE (decide (r_N > 63))
 (some 3)
 (some 0))
 (some 3)))))
 (brE (decide ((r_Text.size:Int) > 200))
 (some 1)
 (brE ((decide (r_N<0))==false)
 (brE (decide (r_N > 63))
 (some 3)
 (some 0))
 (some 3)))))
 (brE ((r_Kind==3)==true)
 (Option.bind (qwg r_Name) fun r2 =>
 (brE (!r2)
 (some 10)
 (brE (decide ((r_Text.size:Int) > 200))
 (some 1)
 (brE ((decide (r_N<0))==false)
 (brE (decide (r_N > 63))
 (some 3)
 (some 0))
 (some 3)))))
 (brE (decide ((r_Text.size:Int) > 200))
 (some 1)
 (brE ((decide (r_N<0))==false)
 (brE (decide (r_N > 63))
 (some 3)
 (some 0))
 (some 3)))))))
 (brE ((r_Kind==3)==true)
 (Option.bind (qwg r_Name) fun r1 =>
 (brE (!r1)
 (some 10)
 (brE (decide ((r_Text.size:Int) > 200))
 (some 1)
 (brE ((decide (r_N<0))==false)
 (brE (decide (r_N > 63))
 (some 3)
 (some 0))
 (some 3)))))
 (brE (decide ((r_Text.size:Int) > 200))
 (some 1)
 (brE ((decide (r_N<0))==false)
 (brE (decide (r_N > 63))
 (some 3)
 (some 0))
 (some 3))))))
 (some 4))
 (brE ((r_Kind==2)==true)
 (Option.bind (qvy r_Act) fun r1 =>
 (brE ((!r1)==true)
 (brE ((!((ByteArray.toList r_Text)==(ByteArray.toList ⟨#[]⟩)))==false)
 (brE ((r_Act != 6)==true)
 (brE (r_N != 0)
 (some 5)
 (brE ((r_Kind==3)==true)
 (Option.bind (qwg r_Name) fun r2 =>
 (brE (!r2)
 (some 10)
 (brE (decide ((r_Text.size:Int) > 200))
 (some 1)
 (brE ((decide (r_N<0))==false)
 (brE (decide (r_N > 63))
 (some 3)
 (some 0))
 (some 3)))))
 (brE (decide ((r_Text.size:Int) > 200))
 (some 1)
 (brE ((decide (r_N<0))==false)
 (brE (decide (r_N > 63))
 (some 3)
 (some 0))
 (some 3)))))
 (brE ((r_Kind==3)==true)
 (Option.bind (qwg r_Name) fun r2 =>
 (brE (!r2)
 (some 10)
 (brE (decide ((r_Text.size:Int) > 200))
 (some 1)
 (brE ((decide (r_N<0))==false)
 (brE (decide (r_N > 63))
 (some 3)
 (some 0))
 (some 3)))))
 (brE (decide ((r_Text.size:Int) > 200))
 (some 1)
 (brE ((decide (r_N<0))==false)
 (brE (decide (r_N > 63))
 (some 3)
 (some 0))
 (some 3)))))
 (some 5))
 (brE ((r_Act != 6)==true)
 (brE (r_N != 0)
 (some 5)
 (brE ((r_Kind==3)==true)
 (Option.bind (qwg r_Name) fun r2 =>
 (brE (!r2)
 (some 10)
 (brE (decide ((r_Text.size:Int) > 200))
 (some 1)
 (brE ((decide (r_N<0))==false)
 (brE (decide (r_N > 63))
 (some 3)
 (some 0))
 (some 3)))))
 (brE (decide ((r_Text.size:Int) > 200))
 (some 1)
 (brE ((decide (r_N<0))==false)
 (brE (decide (r_N > 63))
 (some 3)
 (some 0))
 (some 3)))))
 (brE ((r_Kind==3)==true)
 (Option.bind (qwg r_Name) fun r2 =>
 (brE (!r2)
 (some 10)
 (brE (decide ((r_Text.size:Int) > 200))
 (some 1)
 (brE ((decide (r_N<0))==false)
 (brE (decide (r_N > 63))
 (some 3)
 (some 0))
 (some 3)))))
 (brE (decide ((r_Text.size:Int) > 200))
 (some 1)
 (brE ((decide (r_N<0))==false)
 (brE (decide (r_N > 63))
 (some 3)
 (some 0))
 (some 3)))))))
 (brE ((r_Kind==3)==true)
 (Option.bind (qwg r_Name) fun r1 =>
 (brE (!r1)
 (some 10)
 (brE (decide ((r_Text.size:Int) > 200))
 (some 1)
 (brE ((decide (r_N<0))==false)
 (brE (decide (r_N > 63))
 (some 3)
 (some 0))
 (some 3)))))
 (brE (decide ((r_Text.size:Int) > 200))
 (some 1)
 (brE ((decide (r_N<0))==false)
 (brE (decide (r_N > 63))
 (some 3)
 (some 0))
 (some 3)))))))
 (brE ((r_Kind==2)==true)
 (brE ((decide (r_Act<1))==false)
 (brE (decide (r_Act > 7))
 (some 4)
 (brE ((r_Kind==2)==true)
 (Option.bind (qvy r_Act) fun r1 =>
 (brE ((!r1)==true)
 (brE ((!((ByteArray.toList r_Text)==(ByteArray.toList ⟨#[]⟩)))==false)
 (brE ((r_Act != 6)==true)
 (brE (r_N != 0)
 (some 5)
 (brE ((r_Kind==3)==true)
 (Option.bind (qwg r_Name) fun r2 =>
 (brE (!r2)
 (some 10)
 (brE (decide ((r_Text.size:Int) > 200))
 (some 1)
 (brE ((decide (r_N<0))==false)
 (brE (decide (r_N > 63))
 (some 3)
 (some 0))
 (some 3)))))
 (brE (decide ((r_Text.size:Int) > 200))
 (some 1)
 (brE ((decide (r_N<0))==false)
 (brE (decide (r_N > 63))
 (some 3)
 (some 0))
 (some 3)))))
 (brE ((r_Kind==3)==true)
 (Option.bind (qwg r_Name) fun r2 =>
 (brE (!r2)
 (some 10)
 (brE (decide ((r_Text.size:Int) > 200))
 (some 1)
 (brE ((decide (r_N<0))==false)
 (brE (decide (r_N > 63))
 (some 3)
 (some 0))
 (some 3)))))
 (brE (decide ((r_Text.size:Int) > 200))
 (some 1)
 (brE ((decide (r_N<0))==false)
 (brE (decide (r_N > 63))
 (some 3)
 (some 0))
 (some 3)))))
 (some 5))
 (brE ((r_Act != 6)==true)
 (brE (r_N != 0)
 (some 5)
 (brE ((r_Kind==3)==true)
 (Option.bind (qwg r_Name) fun r2 =>
 (brE (!r2)
 (some 10)
 (brE (decide ((r_Text.size:Int) > 200))
 (some 1)
 (brE ((decide (r_N<0))==false)
 (brE (decide (r_N > 63))
 (some 3)
 (some 0))
 (some 3)))))
 (brE (decide ((r_Text.size:Int) > 200))
 (some 1)
 (brE ((decide (r_N<0))==false)
 (brE (decide (r_N > 63))
 (some 3)
 (some 0))
 (some 3)))))
 (brE ((r_Kind==3)==true)
 (Option.bind (qwg r_Name) fun r2 =>
 (brE (!r2)
 (some 10)
 (brE (decide ((r_Text.size:Int) > 200))
 (some 1)
 (brE ((decide (r_N<0))==false)
 (brE (decide (r_N > 63))
 (some 3)
 (some 0))
 (some 3)))))
 (brE (decide ((r_Text.size:Int) > 200))
 (some 1)
 (brE ((decide (r_N<0))==false)
 (brE (decide (r_N > 63))
 (some 3)
 (some 0))
 (some 3)))))))
 (brE ((r_Kind==3)==true)
 (Option.bind (qwg r_Name) fun r1 =>
 (brE (!r1)
 (some 10)
 (brE (decide ((r_Text.size:Int) > 200))
 (some 1)
 (brE ((decide (r_N<0))==false)
 (brE (decide (r_N > 63))
 (some 3)
 (some 0))
 (some 3)))))
 (brE (decide ((r_Text.size:Int) > 200))
 (some 1)
 (brE ((decide (r_N<0))==false)
 (brE (decide (r_N > 63))
 (some 3)
 (some 0))
 (some 3))))))
 (some 4))
 (brE ((r_Kind==2)==true)
 (Option.bind (qvy r_Act) fun r1 =>
 (brE ((!r1)==true)
 (brE ((!((ByteArray.toList r_Text)==(ByteArray.toList ⟨#[]⟩)))==false)
 (brE ((r_Act != 6)==true)
 (brE (r_N != 0)
 (some 5)
 (brE ((r_Kind==3)==true)
 (Option.bind (qwg r_Name) fun r2 =>
 (brE (!r2)
 (some 10)
 (brE (decide ((r_Text.size:Int) > 200))
 (some 1)
 (brE ((decide (r_N<0))==false)
 (brE (decide (r_N > 63))
 (some 3)
 (some 0))
 (some 3)))))
 (brE (decide ((r_Text.size:Int) > 200))
 (some 1)
 (brE ((decide (r_N<0))==false)
 (brE (decide (r_N > 63))
 (some 3)
 (some 0))
 (some 3)))))
 (brE ((r_Kind==3)==true)
 (Option.bind (qwg r_Name) fun r2 =>
 (brE (!r2)
 (some 10)
 (brE (decide ((r_Text.size:Int) > 200))
 (some 1)
 (brE ((decide (r_N<0))==false)
 (brE (decide (r_N > 63))
 (some 3)
 (some 0))
 (some 3)))))
 (brE (decide ((r_Text.size:Int) > 200))
 (some 1)
 (brE ((decide (r_N<0))==false)
 (brE (decide (r_N > 63))
 (some 3)
 (some 0))
 (some 3)))))
 (some 5))
 (brE ((r_Act != 6)==true)
 (brE (r_N != 0)
 (some 5)
 (brE ((r_Kind==3)==true)
 (Option.bind (qwg r_Name) fun r2 =>
 (brE (!r2)
 (some 10)
 (brE (decide ((r_Text.size:Int) > 200))
 (some 1)
 (brE ((decide (r_N<0))==false)
 (brE (decide (r_N > 63))
 (some 3)
 (some 0))
 (some 3)))))
 (brE (decide ((r_Text.size:Int) > 200))
 (some 1)
 (brE ((decide (r_N<0))==false)
 (brE (decide (r_N > 63))
 (some 3)
 (some 0))
 (some 3)))))
 (brE ((r_Kind==3)==true)
 (Option.bind (qwg r_Name) fun r2 =>
 (brE (!r2)
 (some 10)
 (brE (decide ((r_Text.size:Int) > 200))
 (some 1)
 (brE ((decide (r_N<0))==false)
 (brE (decide (r_N > 63))
 (some 3)
 (some 0))
 (some 3)))))
 (brE (decide ((r_Text.size:Int) > 200))
 (some 1)
 (brE ((decide (r_N<0))==false)
 (brE (decide (r_N > 63))
 (some 3)
 (some 0))
 (some 3)))))))
 (brE ((r_Kind==3)==true)
 (Option.bind (qwg r_Name) fun r1 =>
 (brE (!r1)
 (some 10)
 (brE (decide ((r_Text.size:Int) > 200))
 (some 1)
 (brE ((decide (r_N<0))==false)
 (brE (decide (r_N > 63))
 (some 3)
 (some 0))
 (some 3)))))
 (brE (decide ((r_Text.size:Int) > 200))
 (some 1)
 (brE ((decide (r_N<0))==false)
 (brE (decide (r_N > 63))
 (some 3)
 (some 0))
 (some 3)))))))
 (some 5))
 (brE ((r_Kind==4)==true)
 (brE (!((ByteArray.toList r_Text)==(ByteArray.toList ⟨#[]⟩)))
 (some 5)
 (brE ((r_Kind==2)==true)
 (brE ((decide (r_Act<1))==false)
 (brE (decide (r_Act > 7))
 (some 4)
 (brE ((r_Kind==2)==true)
 (Option.bind (qvy r_Act) fun r1 =>
 (brE ((!r1)==true)
 (brE ((!((ByteArray.toList r_Text)==(ByteArray.toList ⟨#[]⟩)))==false)
 (brE ((r_Act != 6)==true)
 (brE (r_N != 0)
 (some 5)
 (brE ((r_Kind==3)==true)
 (Option.bind (qwg r_Name) fun r2 =>
 (brE (!r2)
 (some 10)
 (brE (decide ((r_Text.size:Int) > 200))
 (some 1)
 (brE ((decide (r_N<0))==false)
 (brE (decide (r_N > 63))
 (some 3)
 (some 0))
 (some 3)))))
 (brE (decide ((r_Text.size:Int) > 200))
 (some 1)
 (brE ((decide (r_N<0))==false)
 (brE (decide (r_N > 63))
 (some 3)
 (some 0))
 (some 3)))))
 (brE ((r_Kind==3)==true)
 (Option.bind (qwg r_Name) fun r2 =>
 (brE (!r2)
 (some 10)
 (brE (decide ((r_Text.size:Int) > 200))
 (some 1)
 (brE ((decide (r_N<0))==false)
 (brE (decide (r_N > 63))
 (some 3)
 (some 0))
 (some 3)))))
 (brE (decide ((r_Text.size:Int) > 200))
 (some 1)
 (brE ((decide (r_N<0))==false)
 (brE (decide (r_N > 63))
 (some 3)
 (some 0))
 (some 3)))))
 (some 5))
 (brE ((r_Act != 6)==true)
 (brE (r_N != 0)
 (some 5)
 (brE ((r_Kind==3)==true)
 (Option.bind (qwg r_Name) fun r2 =>
 (brE (!r2)
 (some 10)
 (brE (decide ((r_Text.size:Int) > 200))
 (some 1)
 (brE ((decide (r_N<0))==false)
 (brE (decide (r_N > 63))
 (some 3)
 (some 0))
 (some 3)))))
 (brE (decide ((r_Text.size:Int) > 200))
 (some 1)
 (brE ((decide (r_N<0))==false)
 (brE (decide (r_N > 63))
 (some 3)
 (some 0))
 (some 3)))))
 (brE ((r_Kind==3)==true)
 (Option.bind (qwg r_Name) fun r2 =>
 (brE (!r2)
 (some 10)
 (brE (decide ((r_Text.size:Int) > 200))
 (some 1)
 (brE ((decide (r_N<0))==false)
 (brE (decide (r_N > 63))
 (some 3)
 (some 0))
 (some 3)))))
 (brE (decide ((r_Text.size:Int) > 200))
 (some 1)
 (brE ((decide (r_N<0))==false)
 (brE (decide (r_N > 63))
 (some 3)
 (some 0))
 (some 3)))))))
 (brE ((r_Kind==3)==true)
 (Option.bind (qwg r_Name) fun r1 =>
 (brE (!r1)
 (some 10)
 (brE (decide ((r_Text.size:Int) > 200))
 (some 1)
 (brE ((decide (r_N<0))==false)
 (brE (decide (r_N > 63))
 (some 3)
 (some 0))
 (some 3)))))
 (brE (decide ((r_Text.size:Int) > 200))
 (some 1)
 (brE ((decide (r_N<0))==false)
 (brE (decide (r_N > 63))
 (some 3)
 (some 0))
 (some 3))))))
 (some 4))
 (brE ((r_Kind==2)==true)
 (Option.bind (qvy r_Act) fun r1 =>
 (brE ((!r1)==true)
 (brE ((!((ByteArray.toList r_Text)==(ByteArray.toList ⟨#[]⟩)))==false)
 (brE ((r_Act != 6)==true)
 (brE (r_N != 0)
 (some 5)
 (brE ((r_Kind==3)==true)
 (Option.bind (qwg r_Name) fun r2 =>
 (brE (!r2)
 (some 10)
 (brE (decide ((r_Text.size:Int) > 200))
 (some 1)
 (brE ((decide (r_N<0))==false)
 (brE (decide (r_N > 63))
 (some 3)
 (some 0))
 (some 3)))))
 (brE (decide ((r_Text.size:Int) > 200))
 (some 1)
 (brE ((decide (r_N<0))==false)
 (brE (decide (r_N > 63))
 (some 3)
 (some 0))
 (some 3)))))
 (brE ((r_Kind==3)==true)
 (Option.bind (qwg r_Name) fun r2 =>
 (brE (!r2)
 (some 10)
 (brE (decide ((r_Text.size:Int) > 200))
 (some 1)
 (brE ((decide (r_N<0))==false)
 (brE (decide (r_N > 63))
 (some 3)
 (some 0))
 (some 3)))))
 (brE (decide ((r_Text.size:Int) > 200))
 (some 1)
 (brE ((decide (r_N<0))==false)
 (brE (decide (r_N > 63))
 (some 3)
 (some 0))
 (some 3)))))
 (some 5))
 (brE ((r_Act != 6)==true)
 (brE (r_N != 0)
 (some 5)
 (brE ((r_Kind==3)==true)
 (Option.bind (qwg r_Name) fun r2 =>
 (brE (!r2)
 (some 10)
 (brE (decide ((r_Text.size:Int) > 200))
 (some 1)
 (brE ((decide (r_N<0))==false)
 (brE (decide (r_N > 63))
 (some 3)
 (some 0))
 (some 3)))))
 (brE (decide ((r_Text.size:Int) > 200))
 (some 1)
 (brE ((decide (r_N<0))==false)
 (brE (decide (r_N > 63))
 (some 3)
 (some 0))
 (some 3)))))
 (brE ((r_Kind==3)==true)
 (Option.bind (qwg r_Name) fun r2 =>
 (brE (!r2)
 (some 10)
 (brE (decide ((r_Text.size:Int) > 200))
 (some 1)
 (brE ((decide (r_N<0))==false)
 (brE (decide (r_N > 63))
 (some 3)
 (some 0))
 (some 3)))))
 (brE (decide ((r_Text.size:Int) > 200))
 (some 1)
 (brE ((decide (r_N<0))==false)
 (brE (decide (r_N > 63))
 (some 3)
 (some 0))
 (some 3)))))))
 (brE ((r_Kind==3)==true)
 (Option.bind (qwg r_Name) fun r1 =>
 (brE (!r1)
 (some 10)
 (brE (decide ((r_Text.size:Int) > 200))
 (some 1)
 (brE ((decide (r_N<0))==false)
 (brE (decide (r_N > 63))
 (some 3)
 (some 0))
 (some 3)))))
 (brE (decide ((r_Text.size:Int) > 200))
 (some 1)
 (brE ((decide (r_N<0))==false)
 (brE (decide (r_N > 63))
 (some 3)
 (some 0))
 (some 3)))))))
 (brE ((r_Kind==2)==true)
 (brE ((decide (r_Act<1))==false)
 (brE (decide (r_Act > 7))
 (some 4)
 (brE ((r_Kind==2)==true)
 (Option.bind (qvy r_Act) fun r1 =>
 (brE ((!r1)==true)
 (brE ((!((ByteArray.toList r_Text)==(ByteArray.toList ⟨#[]⟩)))==false)
 (brE ((r_Act != 6)==true)
 (brE (r_N != 0)
 (some 5)
 (brE ((r_Kind==3)==true)
 (Option.bind (qwg r_Name) fun r2 =>
 (brE (!r2)
 (some 10)
 (brE (decide ((r_Text.size:Int) > 200))
 (some 1)
 (brE ((decide (r_N<0))==false)
 (brE (decide (r_N > 63))
 (some 3)
 (some 0))
 (some 3)))))
 (brE (decide ((r_Text.size:Int) > 200))
 (some 1)
 (brE ((decide (r_N<0))==false)
 (brE (decide (r_N > 63))
 (some 3)
 (some 0))
 (some 3)))))
 (brE ((r_Kind==3)==true)
 (Option.bind (qwg r_Name) fun r2 =>
 (brE (!r2)
 (some 10)
 (brE (decide ((r_Text.size:Int) > 200))
 (some 1)
 (brE ((decide (r_N<0))==false)
 (brE (decide (r_N > 63))
 (some 3)
 (some 0))
 (some 3)))))
 (brE (decide ((r_Text.size:Int) > 200))
 (some 1)
 (brE ((decide (r_N<0))==false)
 (brE (decide (r_N > 63))
 (some 3)
 (some 0))
 (some 3)))))
 (some 5))
 (brE ((r_Act != 6)==true)
 (brE (r_N != 0)
 (some 5)
 (brE ((r_Kind==3)==true)
 (Option.bind (qwg r_Name) fun r2 =>
 (brE (!r2)
 (some 10)
 (brE (decide ((r_Text.size:Int) > 200))
 (some 1)
 (brE ((decide (r_N<0))==false)
 (brE (decide (r_N > 63))
 (some 3)
 (some 0))
 (some 3)))))
 (brE (decide ((r_Text.size:Int) > 200))
 (some 1)
 (brE ((decide (r_N<0))==false)
 (brE (decide (r_N > 63))
 (some 3)
 (some 0))
 (some 3)))))
 (brE ((r_Kind==3)==true)
 (Option.bind (qwg r_Name) fun r2 =>
 (brE (!r2)
 (some 10)
 (brE (decide ((r_Text.size:Int) > 200))
 (some 1)
 (brE ((decide (r_N<0))==false)
 (brE (decide (r_N > 63))
 (some 3)
 (some 0))
 (some 3)))))
 (brE (decide ((r_Text.size:Int) > 200))
 (some 1)
 (brE ((decide (r_N<0))==false)
 (brE (decide (r_N > 63))
 (some 3)
 (some 0))
 (some 3)))))))
 (brE ((r_Kind==3)==true)
 (Option.bind (qwg r_Name) fun r1 =>
 (brE (!r1)
 (some 10)
 (brE (decide ((r_Text.size:Int) > 200))
 (some 1)
 (brE ((decide (r_N<0))==false)
 (brE (decide (r_N > 63))
 (some 3)
 (some 0))
 (some 3)))))
 (brE (decide ((r_Text.size:Int) > 200))
 (some 1)
 (brE ((decide (r_N<0))==false)
 (brE (decide (r_N > 63))
 (some 3)
 (some 0))
 (some 3))))))
 (some 4))
 (brE ((r_Kind==2)==true)
 (Option.bind (qvy r_Act) fun r1 =>
 (brE ((!r1)==true)
 (brE ((!((ByteArray.toList r_Text)==(ByteArray.toList ⟨#[]⟩)))==false)
 (brE ((r_Act != 6)==true)
 (brE (r_N != 0)
 (some 5)
 (brE ((r_Kind==3)==true)
 (Option.bind (qwg r_Name) fun r2 =>
 (brE (!r2)
 (some 10)
 (brE (decide ((r_Text.size:Int) > 200))
 (some 1)
 (brE ((decide (r_N<0))==false)
 (brE (decide (r_N > 63))
 (some 3)
 (some 0))
 (some 3)))))
 (brE (decide ((r_Text.size:Int) > 200))
 (some 1)
 (brE ((decide (r_N<0))==false)
 (brE (decide (r_N > 63))
 (some 3)
 (some 0))
 (some 3)))))
 (brE ((r_Kind==3)==true)
 (Option.bind (qwg r_Name) fun r2 =>
 (brE (!r2)
 (some 10)
 (brE (decide ((r_Text.size:Int) > 200))
 (some 1)
 (brE ((decide (r_N<0))==false)
 (brE (decide (r_N > 63))
 (some 3)
 (some 0))
 (some 3)))))
 (brE (decide ((r_Text.size:Int) > 200))
 (some 1)
 (brE ((decide (r_N<0))==false)
 (brE (decide (r_N > 63))
 (some 3)
 (some 0))
 (some 3)))))
 (some 5))
 (brE ((r_Act != 6)==true)
 (brE (r_N != 0)
 (some 5)
 (brE ((r_Kind==3)==true)
 (Option.bind (qwg r_Name) fun r2 =>
 (brE (!r2)
 (some 10)
 (brE (decide ((r_Text.size:Int) > 200))
 (some 1)
 (brE ((decide (r_N<0))==false)
 (brE (decide (r_N > 63))
 (some 3)
 (some 0))
 (some 3)))))
 (brE (decide ((r_Text.size:Int) > 200))
 (some 1)
 (brE ((decide (r_N<0))==false)
 (brE (decide (r_N > 63))
 (some 3)
 (some 0))
 (some 3)))))
 (brE ((r_Kind==3)==true)
 (Option.bind (qwg r_Name) fun r2 =>
 (brE (!r2)
 (some 10)
 (brE (decide ((r_Text.size:Int) > 200))
 (some 1)
 (brE ((decide (r_N<0))==false)
 (brE (decide (r_N > 63))
 (some 3)
 (some 0))
 (some 3)))))
 (brE (decide ((r_Text.size:Int) > 200))
 (some 1)
 (brE ((decide (r_N<0))==false)
 (brE (decide (r_N > 63))
 (some 3)
 (some 0))
 (some 3)))))))
 (brE ((r_Kind==3)==true)
 (Option.bind (qwg r_Name) fun r1 =>
 (brE (!r1)
 (some 10)
 (brE (decide ((r_Text.size:Int) > 200))
 (some 1)
 (brE ((decide (r_N<0))==false)
 (brE (decide (r_N > 63))
 (some 3)
 (some 0))
 (some 3)))))
 (brE (decide ((r_Text.size:Int) > 200))
 (some 1)
 (brE ((decide (r_N<0))==false)
 (brE (decide (r_N > 63))
 (some 3)
 (some 0))
 (some 3)))))))))
 (some 5))
 (some 5))))
theorem qv0 {r_Kind} {r_Test_Kind} {r_Test_Tests} {r_Test_Name} {r_Test_Pattern} {r_Test_Text} {r_Test_N} {r_Then} {r_Else} {r_Act} {r_Name} {r_Text} {r_N} {r} (h:qv2 r_Kind r_Test_Kind r_Test_Tests r_Test_Name r_Test_Pattern r_Test_Text r_Test_N r_Then r_Else r_Act r_Name r_Text r_N=some r):qv1 r_Kind r_Test_Kind r_Test_Tests r_Test_Name r_Test_Pattern r_Test_Text r_Test_N r_Then r_Else r_Act r_Name r_Text r_N=some r :=
 qf2 (es:=q10r) (hs:=[]) [] Tryz.func101 rfl (by kernel_rfl) rfl (by kernel_rfl) (by kernel_rfl) trivial trivial (by kernel_rfl) h
def quz:=entS Tryz.prog lv X0 101 [] qux quy (fun x=>qv1 x.1 x.2.1 x.2.2.1 x.2.2.2.1 x.2.2.2.2.1 x.2.2.2.2.2.1 x.2.2.2.2.2.2.1 x.2.2.2.2.2.2.2.1 x.2.2.2.2.2.2.2.2.1 x.2.2.2.2.2.2.2.2.2.1 x.2.2.2.2.2.2.2.2.2.2.1 x.2.2.2.2.2.2.2.2.2.2.2.1 x.2.2.2.2.2.2.2.2.2.2.2.2) (fun _ _ h=>qf1 h)
def q10m:=quz::q10r
def qv9:=(q279 (vAgg (q279 (vC (cInt .i64)) (q279 (vC (cSl q26p)) (q279 (vC cStr) (q279 (vC (cInt .i64)) (q279 (vC cStr) (q27b (vC (cInt .i64))))))))) (q27b (vC (cInt .i64))))
def qva:Cod (V × List B) Int:=(cFstU (cPair (vC (cInt .i64)) q27a))
def qvs (t_Kind:Int) (t_Tests:(List S48)) (t_Name:ByteArray) (t_Pattern:Int) (t_Text:ByteArray) (t_N:Int) (depth:Int):Option Int:=fS Tryz.prog lv X0 102 qv9 qva ((t_Kind,t_Tests,t_Name,t_Pattern,t_Text,t_N),depth)
def qvb:=entS Tryz.prog lv X0 102 [] qv9 qva (fun x=>qvs x.1.1 x.1.2.1 x.1.2.2.1 x.1.2.2.2.1 x.1.2.2.2.2.1 x.1.2.2.2.2.2 x.2) (fun _ _ h=>qf1 h)
def q10o:=qvb::q10m
def qvq:=sLS [1,105,106,107] (q279 (vC (cInt .i64)) (q279 (vC (cSl q26p)) (q279 (vC (cInt .i64)) (q27b (vC (cInt .i64)))))) q27a [] [] (by decide) (fun _=>rfl)
def qvp:=sLS [1,105,106,107,108] (q279 (vC (cInt .i64)) (q279 (vC (cSl q26p)) (q279 (vC (cInt .i64)) (q279 (vC (cInt .i64)) (q27b (vC cBool)))))) q27a [] [] (by decide) (fun _=>rfl)
def qvo:=sLS [4] (q27b (vC (cInt .i64))) q27a [] [] (by decide) (fun _=>rfl)
def qvn:=oOr 1 qvo (oAt 3 qvp) (fun x=>(by decide:(3:Nat)≠1))
def qvk (depth:Int) (t105:(List S48)) (t106:Int) (t107:Int):Option ((Int × Unit) ⊕ ((Int × (List S48) × Int × Int × Bool) × Unit)):=lS Tryz.prog lv X0 102 119 (q270 (cdF Tryz.f102) 19) qvq qvn ((depth,t105,t106,t107),())
def qvr (depth:Int) (t105:(List S48)) (t106:Int) (t107:Int):Option ((Int × Unit) ⊕ ((Int × (List S48) × Int × Int × Bool) × Unit)) :=
 (brE (decide (t107<t106))
 (gdE (decide (0≤t107)) <|
 (gdE ((decide ((Int.toNat t107)<(List.length (EC.encL q26p t105))))&&(isE [(K1.int Go.IntKind.i64),K1.sl,K1.str,(K1.int Go.IntKind.i64),K1.str,(K1.int Go.IntKind.i64)] 0 (List.getD (EC.encL q26p t105) (Int.toNat t107) []))) <|
 (gdE (EC.isL q26p (slOf (List.getD (List.getD (EC.encL q26p t105) (Int.toNat t107) []) 1 C.ne))) <|
 (Option.bind (qvs (q273 (List.getD (List.getD (EC.encL q26p t105) (Int.toNat t107) []) 0 C.ne)) (EC.decL q26p (slOf (List.getD (List.getD (EC.encL q26p t105) (Int.toNat t107) []) 1 C.ne))) (q27s (List.getD (List.getD (EC.encL q26p t105) (Int.toNat t107) []) 2 C.ne)) (q273 (List.getD (List.getD (EC.encL q26p t105) (Int.toNat t107) []) 3 C.ne)) (q27s (List.getD (List.getD (EC.encL q26p t105) (Int.toNat t107) []) 4 C.ne)) (q273 (List.getD (List.getD (EC.encL q26p t105) (Int.toNat t107) []) 5 C.ne)) (IntKind.wrap .i64 (depth+1))) fun r0 =>
 (brE (r0 != 0)
 (some (.inl (r0,())))
 (gdE (EC.isL q26p (EC.encL q26p t105)) <|
 (qvk depth (EC.decL q26p (EC.encL q26p t105)) t106 (IntKind.wrap .i64 (t107+1)))))))))
 (gdE (EC.isL q26p (EC.encL q26p t105)) <|
 (some (.inr ((depth,((EC.decL q26p (EC.encL q26p t105)),(t106,(t107,false)))),())))))
theorem qvm {depth} {t105} {t106} {t107} {r} (h:qvr depth t105 t106 t107=some r):qvk depth t105 t106 t107=some r :=
 qm5 (es:=q10o) (hs:=[]) [] (by kernel_rfl) trivial trivial (by kernel_rfl) h
def qvl:=q27d Tryz.prog lv X0 19 (q270 (cdF Tryz.f102) 19) qvq qvn (fun x=>qvk x.1.1 x.1.2.1 x.1.2.2.1 x.1.2.2.2) (fun _ _ h=>qm4 h)
def qvi:=sLS [1,2] (q279 (vC (cInt .i64)) (q27b (vPtr 0 0))) (q27b (q27g (bBox (q279 (vC (cInt .i64)) (q279 (vC (cSl q26p)) (q279 (vC cStr) (q279 (vC (cInt .i64)) (q279 (vC cStr) (q27b (vC (cInt .i64))))))))))) [false] [] (by decide) (fun _=>rfl)
def qvh:=sLS [4] (q27b (vC (cInt .i64))) q27a [] [] (by decide) (fun _=>rfl)
def qvg:=oAt 1 qvh
def qvd (depth:Int) (b0:Int) (b0_1:(List S48)) (b0_2:ByteArray) (b0_3:Int) (b0_4:ByteArray) (b0_5:Int):Option (Int × Unit):=gS Tryz.prog lv X0 102 119 (q271 (cdF Tryz.f102) 18) qvi qvg ((depth,()),(b0,b0_1,b0_2,b0_3,b0_4,b0_5))
def qvj (depth:Int) (b0:Int) (b0_1:(List S48)) (b0_2:ByteArray) (b0_3:Int) (b0_4:ByteArray) (b0_5:Int):Option (Int × Unit) :=
 (gdE (EC.isL q26p (EC.encL q26p b0_1)) <|
 (Option.bind (qvk depth (EC.decL q26p (EC.encL q26p b0_1)) (List.length (EC.encL q26p b0_1):Int) 0) fun r0 =>
 (Sum.elim (fun r1=>(some (r1.1,())))
 (fun r1=>(some (0,()))) r0)))
theorem qvf {depth} {b0} {b0_1} {b0_2} {b0_3} {b0_4} {b0_5} {r} (h:qvj depth b0 b0_1 b0_2 b0_3 b0_4 b0_5=some r):qvd depth b0 b0_1 b0_2 b0_3 b0_4 b0_5=some r :=
 qih (es:=q10o) (hs:=[]) [qvl] (by kernel_rfl) ⟨⟨_,rfl,rfl⟩,trivial⟩ trivial (by kernel_rfl) h
def qve:=gentS Tryz.prog lv X0 18 (q271 (cdF Tryz.f102) 18) (by kernel_rfl) qvi qvg (fun x=>qvd x.1.1 x.2.1 x.2.2.1 x.2.2.2.1 x.2.2.2.2.1 x.2.2.2.2.2.1 x.2.2.2.2.2.2) (fun _ _ h=>qig h)
def qvt (t_Kind:Int) (t_Tests:(List S48)) (t_Name:ByteArray) (t_Pattern:Int) (t_Text:ByteArray) (t_N:Int) (depth:Int):Option Int :=
 (Option.bind (qw4 t_Kind) fun r0 =>
 (brE (decide (depth > 8))
 (some 5)
 (brE ((decide (t_Kind<1))==false)
 (brE (decide (t_Kind > 9))
 (some 4)
 (gdE (EC.isL q26p (EC.encL q26p t_Tests)) <|
 (Option.bind (qup t_Kind (EC.decL q26p (EC.encL q26p t_Tests)) t_Name t_Pattern t_Text t_N) fun r1 =>
 (brE (!r1)
 (some 5)
 (brE ((!r0.1)==true)
 (brE ((!((ByteArray.toList t_Name)==(ByteArray.toList ⟨#[]⟩)))==false)
 (brE ((!r0.2.1)==true)
 (brE ((t_Pattern != 0)==false)
 (brE ((!((ByteArray.toList t_Text)==(ByteArray.toList ⟨#[]⟩)))==false)
 (brE ((!r0.2.2)==true)
 (brE (t_N != 0)
 (some 5)
 (brE (r0.1==true)
 (brE (((ByteArray.toList t_Name)==(ByteArray.toList ⟨#[]⟩))==false)
 (brE (decide ((t_Name.size:Int) > 60))
 (some 10)
 (brE (r0.2.1==true)
 (brE ((decide (t_Pattern<1))==false)
 (brE (decide (t_Pattern > 3))
 (some 4)
 (brE (decide ((t_Text.size:Int) > 200))
 (some 1)
 (brE ((decide (t_N<0))==false)
 (brE (decide (t_N > 1000000))
 (some 3)
 (gdE (EC.isL q26p (EC.encL q26p t_Tests)) <|
 (Option.bind (qvd depth t_Kind (EC.decL q26p (EC.encL q26p t_Tests)) t_Name t_Pattern t_Text t_N) fun r2 =>
 (some r2.1))))
 (some 3))))
 (some 4))
 (brE (decide ((t_Text.size:Int) > 200))
 (some 1)
 (brE ((decide (t_N<0))==false)
 (brE (decide (t_N > 1000000))
 (some 3)
 (gdE (EC.isL q26p (EC.encL q26p t_Tests)) <|
 (Option.bind (qvd depth t_Kind (EC.decL q26p (EC.encL q26p t_Tests)) t_Name t_Pattern t_Text t_N) fun r2 =>
 (some r2.1))))
 (some 3)))))
 (some 10))
 (brE (r0.2.1==true)
 (brE ((decide (t_Pattern<1))==false)
 (brE (decide (t_Pattern > 3))
 (some 4)
 (brE (decide ((t_Text.size:Int) > 200))
 (some 1)
 (brE ((decide (t_N<0))==false)
 (brE (decide (t_N > 1000000))
 (some 3)
 (gdE (EC.isL q26p (EC.encL q26p t_Tests)) <|
 (Option.bind (qvd depth t_Kind (EC.decL q26p (EC.encL q26p t_Tests)) t_Name t_Pattern t_Text t_N) fun r2 =>
 (some r2.1))))
 (some 3))))
 (some 4))
 (brE (decide ((t_Text.size:Int) > 200))
 (some 1)
 (brE ((decide (t_N<0))==false)
 (brE (decide (t_N > 1000000))
 (some 3)
 (gdE (EC.isL q26p (EC.encL q26p t_Tests)) <|
 (Option.bind (qvd depth t_Kind (EC.decL q26p (EC.encL q26p t_Tests)) t_Name t_Pattern t_Text t_N) fun r2 =>
 (some r2.1))))
 (some 3))))))
 (brE (r0.1==true)
 (brE (((ByteArray.toList t_Name)==(ByteArray.toList ⟨#[]⟩))==false)
 (brE (decide ((t_Name.size:Int) > 60))
 (some 10)
 (brE (r0.2.1==true)
 (brE ((decide (t_Pattern<1))==false)
 (brE (decide (t_Pattern > 3))
 (some 4)
 (brE (decide ((t_Text.size:Int) > 200))
 (some 1)
 (brE ((decide (t_N<0))==false)
 (brE (decide (t_N > 1000000))
 (some 3)
 (gdE (EC.isL q26p (EC.encL q26p t_Tests)) <|
 (Option.bind (qvd depth t_Kind (EC.decL q26p (EC.encL q26p t_Tests)) t_Name t_Pattern t_Text t_N) fun r2 =>
 (some r2.1))))
 (some 3))))
 (some 4))
 (brE (decide ((t_Text.size:Int) > 200))
 (some 1)
 (brE ((decide (t_N<0))==false)
 (brE (decide (t_N > 1000000))
 (some 3)
 (gdE (EC.isL q26p (EC.encL q26p t_Tests)) <|
 (Option.bind (qvd depth t_Kind (EC.decL q26p (EC.encL q26p t_Tests)) t_Name t_Pattern t_Text t_N) fun r2 =>
 (some r2.1))))
 (some 3)))))
 (some 10))
 (brE (r0.2.1==true)
 (brE ((decide (t_Pattern<1))==false)
 (brE (decide (t_Pattern > 3))
 (some 4)
 (brE (decide ((t_Text.size:Int) > 200))
 (some 1)
 (brE ((decide (t_N<0))==false)
 (brE (decide (t_N > 1000000))
 (some 3)
 (gdE (EC.isL q26p (EC.encL q26p t_Tests)) <|
 (Option.bind (qvd depth t_Kind (EC.decL q26p (EC.encL q26p t_Tests)) t_Name t_Pattern t_Text t_N) fun r2 =>
 (some r2.1))))
 (some 3))))
 (some 4))
 (brE (decide ((t_Text.size:Int) > 200))
 (some 1)
 (brE ((decide (t_N<0))==false)
 (brE (decide (t_N > 1000000))
 (some 3)
 (gdE (EC.isL q26p (EC.encL q26p t_Tests)) <|
 (Option.bind (qvd depth t_Kind (EC.decL q26p (EC.encL q26p t_Tests)) t_Name t_Pattern t_Text t_N) fun r2 =>
 (some r2.1))))
 (some 3))))))
 (some 5))
 (some 5))
 (brE ((!r0.2.2)==true)
 (brE (t_N != 0)
 (some 5)
 (brE (r0.1==true)
 (brE (((ByteArray.toList t_Name)==(ByteArray.toList ⟨#[]⟩))==false)
 (brE (decide ((t_Name.size:Int) > 60))
 (some 10)
 (brE (r0.2.1==true)
 (brE ((decide (t_Pattern<1))==false)
 (brE (decide (t_Pattern > 3))
 (some 4)
 (brE (decide ((t_Text.size:Int) > 200))
 (some 1)
 (brE ((decide (t_N<0))==false)
 (brE (decide (t_N > 1000000))
 (some 3)
 (gdE (EC.isL q26p (EC.encL q26p t_Tests)) <|
 (Option.bind (qvd depth t_Kind (EC.decL q26p (EC.encL q26p t_Tests)) t_Name t_Pattern t_Text t_N) fun r2 =>
 (some r2.1))))
 (some 3))))
 (some 4))
 (brE (decide ((t_Text.size:Int) > 200))
 (some 1)
 (brE ((decide (t_N<0))==false)
 (brE (decide (t_N > 1000000))
 (some 3)
 (gdE (EC.isL q26p (EC.encL q26p t_Tests)) <|
 (Option.bind (qvd depth t_Kind (EC.decL q26p (EC.encL q26p t_Tests)) t_Name t_Pattern t_Text t_N) fun r2 =>
 (some r2.1))))
 (some 3)))))
 (some 10))
 (brE (r0.2.1==true)
 (brE ((decide (t_Pattern<1))==false)
 (brE (decide (t_Pattern > 3))
 (some 4)
 (brE (decide ((t_Text.size:Int) > 200))
 (some 1)
 (brE ((decide (t_N<0))==false)
 (brE (decide (t_N > 1000000))
 (some 3)
 (gdE (EC.isL q26p (EC.encL q26p t_Tests)) <|
 (Option.bind (qvd depth t_Kind (EC.decL q26p (EC.encL q26p t_Tests)) t_Name t_Pattern t_Text t_N) fun r2 =>
 (some r2.1))))
 (some 3))))
 (some 4))
 (brE (decide ((t_Text.size:Int) > 200))
 (some 1)
 (brE ((decide (t_N<0))==false)
 (brE (decide (t_N > 1000000))
 (some 3)
 (gdE (EC.isL q26p (EC.encL q26p t_Tests)) <|
 (Option.bind (qvd depth t_Kind (EC.decL q26p (EC.encL q26p t_Tests)) t_Name t_Pattern t_Text t_N) fun r2 =>
 (some r2.1))))
 (some 3))))))
 (brE (r0.1==true)
 (brE (((ByteArray.toList t_Name)==(ByteArray.toList ⟨#[]⟩))==false)
 (brE (decide ((t_Name.size:Int) > 60))
 (some 10)
 (brE (r0.2.1==true)
 (brE ((decide (t_Pattern<1))==false)
 (brE (decide (t_Pattern > 3))
 (some 4)
 (brE (decide ((t_Text.size:Int) > 200))
 (some 1)
 (brE ((decide (t_N<0))==false)
 (brE (decide (t_N > 1000000))
 (some 3)
 (gdE (EC.isL q26p (EC.encL q26p t_Tests)) <|
 (Option.bind (qvd depth t_Kind (EC.decL q26p (EC.encL q26p t_Tests)) t_Name t_Pattern t_Text t_N) fun r2 =>
 (some r2.1))))
 (some 3))))
 (some 4))
 (brE (decide ((t_Text.size:Int) > 200))
 (some 1)
 (brE ((decide (t_N<0))==false)
 (brE (decide (t_N > 1000000))
 (some 3)
 (gdE (EC.isL q26p (EC.encL q26p t_Tests)) <|
 (Option.bind (qvd depth t_Kind (EC.decL q26p (EC.encL q26p t_Tests)) t_Name t_Pattern t_Text t_N) fun r2 =>
 (some r2.1))))
 (some 3)))))
 (some 10))
 (brE (r0.2.1==true)
 (brE ((decide (t_Pattern<1))==false)
 (brE (decide (t_Pattern > 3))
 (some 4)
 (brE (decide ((t_Text.size:Int) > 200))
 (some 1)
 (brE ((decide (t_N<0))==false)
 (brE (decide (t_N > 1000000))
 (some 3)
 (gdE (EC.isL q26p (EC.encL q26p t_Tests)) <|
 (Option.bind (qvd depth t_Kind (EC.decL q26p (EC.encL q26p t_Tests)) t_Name t_Pattern t_Text t_N) fun r2 =>
 (some r2.1))))
 (some 3))))
 (some 4))
 (brE (decide ((t_Text.size:Int) > 200))
 (some 1)
 (brE ((decide (t_N<0))==false)
 (brE (decide (t_N > 1000000))
 (some 3)
 (gdE (EC.isL q26p (EC.encL q26p t_Tests)) <|
 (Option.bind (qvd depth t_Kind (EC.decL q26p (EC.encL q26p t_Tests)) t_Name t_Pattern t_Text t_N) fun r2 =>
 (some r2.1))))
 (some 3)))))))
 (some 5))
 (brE ((!r0.2.1)==true)
 (brE ((t_Pattern != 0)==false)
 (brE ((!((ByteArray.toList t_Text)==(ByteArray.toList ⟨#[]⟩)))==false)
 (brE ((!r0.2.2)==true)
 (brE (t_N != 0)
 (some 5)
 (brE (r0.1==true)
 (brE (((ByteArray.toList t_Name)==(ByteArray.toList ⟨#[]⟩))==false)
 (brE (decide ((t_Name.size:Int) > 60))
 (some 10)
 (brE (r0.2.1==true)
 (brE ((decide (t_Pattern<1))==false)
 (brE (decide (t_Pattern > 3))
 (some 4)
 (brE (decide ((t_Text.size:Int) > 200))
 (some 1)
 (brE ((decide (t_N<0))==false)
 (brE (decide (t_N > 1000000))
 (some 3)
 (gdE (EC.isL q26p (EC.encL q26p t_Tests)) <|
 (Option.bind (qvd depth t_Kind (EC.decL q26p (EC.encL q26p t_Tests)) t_Name t_Pattern t_Text t_N) fun r2 =>
 (some r2.1))))
 (some 3))))
 (some 4))
 (brE (decide ((t_Text.size:Int) > 200))
 (some 1)
 (brE ((decide (t_N<0))==false)
 (brE (decide (t_N > 1000000))
 (some 3)
 (gdE (EC.isL q26p (EC.encL q26p t_Tests)) <|
 (Option.bind (qvd depth t_Kind (EC.decL q26p (EC.encL q26p t_Tests)) t_Name t_Pattern t_Text t_N) fun r2 =>
 (some r2.1))))
 (some 3)))))
 (some 10))
 (brE (r0.2.1==true)
 (brE ((decide (t_Pattern<1))==false)
 (brE (decide (t_Pattern > 3))
 (some 4)
 (brE (decide ((t_Text.size:Int) > 200))
 (some 1)
 (brE ((decide (t_N<0))==false)
 (brE (decide (t_N > 1000000))
 (some 3)
 (gdE (EC.isL q26p (EC.encL q26p t_Tests)) <|
 (Option.bind (qvd depth t_Kind (EC.decL q26p (EC.encL q26p t_Tests)) t_Name t_Pattern t_Text t_N) fun r2 =>
 (some r2.1))))
 (some 3))))
 (some 4))
 (brE (decide ((t_Text.size:Int) > 200))
 (some 1)
 (brE ((decide (t_N<0))==false)
 (brE (decide (t_N > 1000000))
 (some 3)
 (gdE (EC.isL q26p (EC.encL q26p t_Tests)) <|
 (Option.bind (qvd depth t_Kind (EC.decL q26p (EC.encL q26p t_Tests)) t_Name t_Pattern t_Text t_N) fun r2 =>
 (some r2.1))))
 (some 3))))))
 (brE (r0.1==true)
 (brE (((ByteArray.toList t_Name)==(ByteArray.toList ⟨#[]⟩))==false)
 (brE (decide ((t_Name.size:Int) > 60))
 (some 10)
 (brE (r0.2.1==true)
 (brE ((decide (t_Pattern<1))==false)
 (brE (decide (t_Pattern > 3))
 (some 4)
 (brE (decide ((t_Text.size:Int) > 200))
 (some 1)
 (brE ((decide (t_N<0))==false)
 (brE (decide (t_N > 1000000))
 (some 3)
 (gdE (EC.isL q26p (EC.encL q26p t_Tests)) <|
 (Option.bind (qvd depth t_Kind (EC.decL q26p (EC.encL q26p t_Tests)) t_Name t_Pattern t_Text t_N) fun r2 =>
 (some r2.1))))
 (some 3))))
 (some 4))
 (brE (decide ((t_Text.size:Int) > 200))
 (some 1)
 (brE ((decide (t_N<0))==false)
 (brE (decide (t_N > 1000000))
 (some 3)
 (gdE (EC.isL q26p (EC.encL q26p t_Tests)) <|
 (Option.bind (qvd depth t_Kind (EC.decL q26p (EC.encL q26p t_Tests)) t_Name t_Pattern t_Text t_N) fun r2 =>
 (some r2.1))))
 (some 3)))))
 (some 10))
 (brE (r0.2.1==true)
 (brE ((decide (t_Pattern<1))==false)
 (brE (decide (t_Pattern > 3))
 (some 4)
 (brE (decide ((t_Text.size:Int) > 200))
 (some 1)
 (brE ((decide (t_N<0))==false)
 (brE (decide (t_N > 1000000))
 (some 3)
 (gdE (EC.isL q26p (EC.encL q26p t_Tests)) <|
 (Option.bind (qvd depth t_Kind (EC.decL q26p (EC.encL q26p t_Tests)) t_Name t_Pattern t_Text t_N) fun r2 =>
 (some r2.1))))
 (some 3))))
 (some 4))
 (brE (decide ((t_Text.size:Int) > 200))
 (some 1)
 (brE ((decide (t_N<0))==false)
 (brE (decide (t_N > 1000000))
 (some 3)
 (gdE (EC.isL q26p (EC.encL q26p t_Tests)) <|
 (Option.bind (qvd depth t_Kind (EC.decL q26p (EC.encL q26p t_Tests)) t_Name t_Pattern t_Text t_N) fun r2 =>
 (some r2.1))))
 (some 3))))))
 (some 5))
 (some 5))
 (brE ((!r0.2.2)==true)
 (brE (t_N != 0)
 (some 5)
 (brE (r0.1==true)
 (brE (((ByteArray.toList t_Name)==(ByteArray.toList ⟨#[]⟩))==false)
 (brE (decide ((t_Name.size:Int) > 60))
 (some 10)
 (brE (r0.2.1==true)
 (brE ((decide (t_Pattern<1))==false)
 (brE (decide (t_Pattern > 3))
 (some 4)
 (brE (decide ((t_Text.size:Int) > 200))
 (some 1)
 (brE ((decide (t_N<0))==false)
 (brE (decide (t_N > 1000000))
 (some 3)
 (gdE (EC.isL q26p (EC.encL q26p t_Tests)) <|
 (Option.bind (qvd depth t_Kind (EC.decL q26p (EC.encL q26p t_Tests)) t_Name t_Pattern t_Text t_N) fun r2 =>
 (some r2.1))))
 (some 3))))
 (some 4))
 (brE (decide ((t_Text.size:Int) > 200))
 (some 1)
 (brE ((decide (t_N<0))==false)
 (brE (decide (t_N > 1000000))
 (some 3)
 (gdE (EC.isL q26p (EC.encL q26p t_Tests)) <|
 (Option.bind (qvd depth t_Kind (EC.decL q26p (EC.encL q26p t_Tests)) t_Name t_Pattern t_Text t_N) fun r2 =>
 (some r2.1))))
 (some 3)))))
 (some 10))
 (brE (r0.2.1==true)
 (brE ((decide (t_Pattern<1))==false)
 (brE (decide (t_Pattern > 3))
 (some 4)
 (brE (decide ((t_Text.size:Int) > 200))
 (some 1)
 (brE ((decide (t_N<0))==false)
 (brE (decide (t_N > 1000000))
 (some 3)
 (gdE (EC.isL q26p (EC.encL q26p t_Tests)) <|
 (Option.bind (qvd depth t_Kind (EC.decL q26p (EC.encL q26p t_Tests)) t_Name t_Pattern t_Text t_N) fun r2 =>
 (some r2.1))))
 (some 3))))
 (some 4))
 (brE (decide ((t_Text.size:Int) > 200))
 (some 1)
 (brE ((decide (t_N<0))==false)
 (brE (decide (t_N > 1000000))
 (some 3)
 (gdE (EC.isL q26p (EC.encL q26p t_Tests)) <|
 (Option.bind (qvd depth t_Kind (EC.decL q26p (EC.encL q26p t_Tests)) t_Name t_Pattern t_Text t_N) fun r2 =>
 (some r2.1))))
 (some 3))))))
 (brE (r0.1==true)
 (brE (((ByteArray.toList t_Name)==(ByteArray.toList ⟨#[]⟩))==false)
 (brE (decide ((t_Name.size:Int) > 60))
 (some 10)
 (brE (r0.2.1==true)
 (brE ((decide (t_Pattern<1))==false)
 (brE (decide (t_Pattern > 3))
 (some 4)
 (brE (decide ((t_Text.size:Int) > 200))
 (some 1)
 (brE ((decide (t_N<0))==false)
 (brE (decide (t_N > 1000000))
 (some 3)
 (gdE (EC.isL q26p (EC.encL q26p t_Tests)) <|
 (Option.bind (qvd depth t_Kind (EC.decL q26p (EC.encL q26p t_Tests)) t_Name t_Pattern t_Text t_N) fun r2 =>
 (some r2.1))))
 (some 3))))
 (some 4))
 (brE (decide ((t_Text.size:Int) > 200))
 (some 1)
 (brE ((decide (t_N<0))==false)
 (brE (decide (t_N > 1000000))
 (some 3)
 (gdE (EC.isL q26p (EC.encL q26p t_Tests)) <|
 (Option.bind (qvd depth t_Kind (EC.decL q26p (EC.encL q26p t_Tests)) t_Name t_Pattern t_Text t_N) fun r2 =>
 (some r2.1))))
 (some 3)))))
 (some 10))
 (brE (r0.2.1==true)
 (brE ((decide (t_Pattern<1))==false)
 (brE (decide (t_Pattern > 3))
 (some 4)
 (brE (decide ((t_Text.size:Int) > 200))
 (some 1)
 (brE ((decide (t_N<0))==false)
 (brE (decide (t_N > 1000000))
 (some 3)
 (gdE (EC.isL q26p (EC.encL q26p t_Tests)) <|
 (Option.bind (qvd depth t_Kind (EC.decL q26p (EC.encL q26p t_Tests)) t_Name t_Pattern t_Text t_N) fun r2 =>
 (some r2.1))))
 (some 3))))
 (some 4))
 (brE (decide ((t_Text.size:Int) > 200))
 (some 1)
 (brE ((decide (t_N<0))==false)
 (brE (decide (t_N > 1000000))
 (some 3)
 (gdE (EC.isL q26p (EC.encL q26p t_Tests)) <|
 (Option.bind (qvd depth t_Kind (EC.decL q26p (EC.encL q26p t_Tests)) t_Name t_Pattern t_Text t_N) fun r2 =>
 (some r2.1))))
 (some 3))))))))))))
 (some 4))))
theorem qvc {t_Kind} {t_Tests} {t_Name} {t_Pattern} {t_Text} {t_N} {depth} {r} (h:qvt t_Kind t_Tests t_Name t_Pattern t_Text t_N depth=some r):qvs t_Kind t_Tests t_Name t_Pattern t_Text t_N depth=some r :=
 qf2 (es:=q10o) (hs:=[]) [qve] Tryz.func102 rfl (by kernel_rfl) rfl (by kernel_rfl) (by kernel_rfl) trivial ⟨⟨_,rfl,rfl⟩,trivial⟩ (by kernel_rfl) h
def qv3:=(q279 (vAgg (q279 (vC (cInt .i64)) (q279 (vC (cInt .i64)) (q279 (vC (cSl q26p)) (q279 (vC cStr) (q279 (vC (cInt .i64)) (q279 (vC cStr) (q279 (vC (cInt .i64)) (q279 (vC (cSl q26r)) (q279 (vC (cSl q26r)) (q279 (vC (cInt .i64)) (q279 (vC cStr) (q279 (vC cStr) (q27b (vC (cInt .i64)))))))))))))))) (q27b (vC (cInt .i64))))
def qv4:Cod (V × List B) Int:=(cFstU (cPair (vC (cInt .i64)) q27a))
def qv7 (r_Kind:Int) (r_Test_Kind:Int) (r_Test_Tests:(List S48)) (r_Test_Name:ByteArray) (r_Test_Pattern:Int) (r_Test_Text:ByteArray) (r_Test_N:Int) (r_Then:(List S50)) (r_Else:(List S50)) (r_Act:Int) (r_Name:ByteArray) (r_Text:ByteArray) (r_N:Int) (depth:Int):Option Int:=fS Tryz.prog lv X0 79 qv3 qv4 ((r_Kind,r_Test_Kind,r_Test_Tests,r_Test_Name,r_Test_Pattern,r_Test_Text,r_Test_N,r_Then,r_Else,r_Act,r_Name,r_Text,r_N),depth)
def qv8 (r_Kind:Int) (r_Test_Kind:Int) (r_Test_Tests:(List S48)) (r_Test_Name:ByteArray) (r_Test_Pattern:Int) (r_Test_Text:ByteArray) (r_Test_N:Int) (r_Then:(List S50)) (r_Else:(List S50)) (r_Act:Int) (r_Name:ByteArray) (r_Text:ByteArray) (r_N:Int) (depth:Int):Option Int :=
 (brE (decide (depth > 8))
 (some 5)
 (brE ((decide (r_Kind<1))==false)
 (brE (decide (r_Kind > 4))
 (some 4)
 (brE (r_Kind != 1)
 (gdE (EC.isL q26p (EC.encL q26p r_Test_Tests)) <|
 (gdE (EC.isL q26r (EC.encL q26r r_Then)) <|
 (gdE (EC.isL q26r (EC.encL q26r r_Else)) <|
 (Option.bind (qv1 r_Kind r_Test_Kind (EC.decL q26p (EC.encL q26p r_Test_Tests)) r_Test_Name r_Test_Pattern r_Test_Text r_Test_N (EC.decL q26r (EC.encL q26r r_Then)) (EC.decL q26r (EC.encL q26r r_Else)) r_Act r_Name r_Text r_N) fun r0 =>
 (some r0)))))
 (brE ((r_Act != 0)==false)
 (brE ((!((ByteArray.toList r_Name)==(ByteArray.toList ⟨#[]⟩)))==false)
 (brE ((!((ByteArray.toList r_Text)==(ByteArray.toList ⟨#[]⟩)))==false)
 (brE (r_N != 0)
 (some 5)
 (gdE (EC.isL q26p (EC.encL q26p r_Test_Tests)) <|
 (Option.bind (qvs r_Test_Kind (EC.decL q26p (EC.encL q26p r_Test_Tests)) r_Test_Name r_Test_Pattern r_Test_Text r_Test_N 1) fun r0 =>
 (some r0))))
 (some 5))
 (some 5))
 (some 5))))
 (some 4)))
theorem qv6 {r_Kind} {r_Test_Kind} {r_Test_Tests} {r_Test_Name} {r_Test_Pattern} {r_Test_Text} {r_Test_N} {r_Then} {r_Else} {r_Act} {r_Name} {r_Text} {r_N} {depth} {r} (h:qv8 r_Kind r_Test_Kind r_Test_Tests r_Test_Name r_Test_Pattern r_Test_Text r_Test_N r_Then r_Else r_Act r_Name r_Text r_N depth=some r):qv7 r_Kind r_Test_Kind r_Test_Tests r_Test_Name r_Test_Pattern r_Test_Text r_Test_N r_Then r_Else r_Act r_Name r_Text r_N depth=some r :=
 qf2 (es:=q10o) (hs:=[]) [] Tryz.func79 rfl (by kernel_rfl) rfl (by kernel_rfl) (by kernel_rfl) trivial trivial (by kernel_rfl) h
def qv5:=entS Tryz.prog lv X0 79 [] qv3 qv4 (fun x=>qv7 x.1.1 x.1.2.1 x.1.2.2.1 x.1.2.2.2.1 x.1.2.2.2.2.1 x.1.2.2.2.2.2.1 x.1.2.2.2.2.2.2.1 x.1.2.2.2.2.2.2.2.1 x.1.2.2.2.2.2.2.2.2.1 x.1.2.2.2.2.2.2.2.2.2.1 x.1.2.2.2.2.2.2.2.2.2.2.1 x.1.2.2.2.2.2.2.2.2.2.2.2.1 x.1.2.2.2.2.2.2.2.2.2.2.2.2 x.2) (fun _ _ h=>qf1 h)
def q10n:=qv5::q10o
def q26m:EC (List S50) where
 enc x:=[.sl (q26r.encL x)]
 dec c:=q26r.decL (slOf (c.getD 0 .ne))
 is c:=isE [.sl] 0 c&&q26r.isL (slOf (c.getD 0 .ne))
 enc_dec h:=by
  simp only [Bool.and_eq_true] at h
  have h0:=q8r h.1
  simp only [decE,decC] at h0
  simp only [EC.encL_decL _ h.2]
  exact h0
 dec_enc x:=by simp [slOf]
 is_enc x:=by simp [isE,isK,slOf]
theorem enc_22 (x:(List S50)):q26m.enc x=[.sl (q26r.encL x)]:=rfl
theorem q3t (xs:List (List S50)) (n:Nat):slOf (((q26m.encL xs).getD n []).getD 0 .ne)=q26r.encL (xs.getD n (q26m.dec [])):=by
 by_cases h:n<xs.length
 ·simp only [EC.getD_lt _ _ h];simp [enc_22,h,slOf,List.getD_eq_getElem?_getD]
 ·simp only [EC.getD_ge _ _ (Nat.not_lt.1 h)];simp [Nat.not_lt.1 h,q26m,slOf,List.getD_eq_getElem?_getD,EC.decL,EC.encL]
def que:=(q27b (vC (cSl q26r)))
def quc:=sLS [0,1,2,3] (q279 (vC (cSl q26r)) (q279 (vC (cInt .i64)) (q279 (vPtr 0 0) (q27b (vPtr 1 0))))) (q279 (q27g (bBox (q27b (vC (cInt .i64))))) (q27b (q27g (bBox (q27b (vFn 78 (q279 (vPtr 0 0) (q27b (vPtr 1 0))))))))) [false,false] [0,1] (by decide) (fun _=>rfl)
def qub:SC ((Int × Int) × (Int × (Unit × Unit))):=sLS [0] (q27b (vAgg (q279 (vC (cInt .i64)) (q27b (vC (cInt .i64)))))) (q279 (q27g (bBox (q27b (vC (cInt .i64))))) (q27b (q27g (bBox (q27b (vFn 78 (q279 (vPtr 0 0) (q27b (vPtr 1 0))))))))) [false,false] [0,1] (by decide) (fun _=>rfl)
def qua:HC ((Int × Int) × ((Int × Int) × (Int × (Unit × Unit)))):=hPair (vAgg (q279 (vC (cInt .i64)) (q27b (vC (cInt .i64))))) qub
def qtr (l:(List S50)) (depth:Int) (b0:Int):Option ((Int × Int) × ((Int × Int) × (Int × (Unit × Unit)))):=hS Tryz.prog lv X0 78 quc qua ((l,depth,(),()),(b0,((),())))
def qts:=hentS Tryz.prog lv X0 78 [0,1,4,1,1,1,2,3,0,0,3,3,1,0,1,1,1,1,1,1,6,78,2,3,0,0,3,1,0,0,1] quc qua (fun x=>qtr x.1.1 x.1.2.1 x.2.1) (fun _ _ h=>qir h)
def qkk:=qts::[]
def qu0:=sLS [1,2,3,6,13,14,15,36,37,38] (q279 (vC (cInt .i64)) (q279 (vPtr 0 0) (q279 (vPtr 1 0) (q279 (vPtr 2 0) (q279 (vC (cSl q26r)) (q279 (vC (cInt .i64)) (q279 (vC (cInt .i64)) (q279 (vRow 3) (q279 (vC (cInt .i64)) (q27b (vC (cInt .i64)))))))))))) (q279 (q27g (bBox (q27b (vC (cInt .i64))))) (q279 (q27g (bBox (q27b (vFn 78 (q279 (vPtr 0 0) (q27b (vPtr 1 0))))))) (q279 (q27g (bBox (q279 (vC (cInt .i64)) (q27b (vC (cInt .i64)))))) (q27b (q27g (bRow q26m)))))) [false,false,false,false] [0,1] (by decide) (fun _=>rfl)
def qtz:=sLS [1,2,3,6,13,14,15,36,37,38,39] (q279 (vC (cInt .i64)) (q279 (vPtr 0 0) (q279 (vPtr 1 0) (q279 (vPtr 2 0) (q279 (vC (cSl q26r)) (q279 (vC (cInt .i64)) (q279 (vC (cInt .i64)) (q279 (vRow 3) (q279 (vC (cInt .i64)) (q279 (vC (cInt .i64)) (q27b (vC cBool)))))))))))) (q279 (q27g (bBox (q27b (vC (cInt .i64))))) (q279 (q27g (bBox (q27b (vFn 78 (q279 (vPtr 0 0) (q27b (vPtr 1 0))))))) (q279 (q27g (bBox (q279 (vC (cInt .i64)) (q27b (vC (cInt .i64)))))) (q27b (q27g (bRow q26m)))))) [false,false,false,false] [0,1] (by decide) (fun _=>rfl)
def qty:=sLS [6] (q27b (vPtr 0 0)) (q279 (q27g (bBox (q279 (vC (cInt .i64)) (q27b (vC (cInt .i64)))))) (q279 (q27g (bBox (q27b (vC (cInt .i64))))) (q27b (q27g (bBox (q27b (vFn 78 (q279 (vPtr 1 0) (q27b (vPtr 2 0)))))))))) [false,false,false] [1,2] (by decide) (fun _=>rfl)
def qtx:=oOr 1 qty (oAt 4 qtz) (fun x=>(by decide:(4:Nat)≠1))
def qtu (depth:Int) (t13:(List S50)) (t14:Int) (t15:Int) (t36:Nat) (t37:Int) (t38:Int) (b0:Int) (b2:Int) (b2_1:Int) (b3:(List (List S50))):Option ((Unit × ((Int × Int) × Int × (Unit × Unit))) ⊕ ((Int × Unit × Unit × Unit × (List S50) × Int × Int × Nat × Int × Int × Bool) × (Int × (Unit × Unit) × (Int × Int) × (List (List S50))))):=lS Tryz.prog lv X0 78 53 (q270 (cdF Tryz.f78) 11) qu0 qtx ((depth,(),(),(),t13,t14,t15,t36,t37,t38),(b0,((),()),(b2,b2_1),b3))
def qu1 (depth:Int) (t13:(List S50)) (t14:Int) (t15:Int) (t36:Nat) (t37:Int) (t38:Int) (b0:Int) (b2:Int) (b2_1:Int) (b3:(List (List S50))):Option ((Unit × ((Int × Int) × Int × (Unit × Unit))) ⊕ ((Int × Unit × Unit × Unit × (List S50) × Int × Int × Nat × Int × Int × Bool) × (Int × (Unit × Unit) × (Int × Int) × (List (List S50))))) :=
 (brE (decide (t38<t37))
 (gdE ((decide (0≤t38))&&(decide (t38<((t36:Nat):Int)))) <|
 (gdE ((decide ((Int.toNat t38)<(List.length (EC.encL q26m b3))))&&((List.length (List.getD (EC.encL q26m b3) (Int.toNat t38) []))==1)) <|
 (gdE (isP [K1.sl] 0 (List.getD (EC.encL q26m b3) (Int.toNat t38) [])) <|
 (gdE (EC.isL q26r (slOf (List.getD (List.getD (EC.encL q26m b3) (Int.toNat t38) []) 0 C.ne))) <|
 (Option.bind (qtr (EC.decL q26r (slOf (List.getD (List.getD (EC.encL q26m b3) (Int.toNat t38) []) 0 C.ne))) (IntKind.wrap .i64 (depth+1)) b0) fun r0 =>
 (Option.bind (q57 r0.1.1 r0.1.2) fun r1 =>
 (brE r1
 (some (.inl ((),((r0.1.1,r0.1.2),(r0.2.2.1,((),()))))))
 (gdE (EC.isL q26r (EC.encL q26r t13)) <|
 (gdE (EC.isL q26m (EC.encL q26m b3)) <|
 (qtu depth (EC.decL q26r (EC.encL q26r t13)) t14 t15 t36 t37 (IntKind.wrap .i64 (t38+1)) r0.2.2.1 b2 b2_1 (EC.decL q26m (EC.encL q26m b3))))))))))))
 (gdE (EC.isL q26r (EC.encL q26r t13)) <|
 (gdE (EC.isL q26m (EC.encL q26m b3)) <|
 (some (.inr ((depth,((),((),((),((EC.decL q26r (EC.encL q26r t13)),(t14,(t15,(t36,(t37,(t38,false)))))))))),(b0,(((),()),((b2,b2_1),(EC.decL q26m (EC.encL q26m b3)))))))))))
theorem qtw {depth} {t13} {t14} {t15} {t36} {t37} {t38} {b0} {b2} {b2_1} {b3} {r} (h:qu1 depth t13 t14 t15 t36 t37 t38 b0 b2 b2_1 b3=some r):qtu depth t13 t14 t15 t36 t37 t38 b0 b2 b2_1 b3=some r :=
 qm5 (es:=q10n) (hs:=qkk) [] (by kernel_rfl) trivial trivial (by kernel_rfl) h
def qtv:=q27d Tryz.prog lv X0 11 (q270 (cdF Tryz.f78) 11) qu0 qtx (fun x=>qtu x.1.1 x.1.2.2.2.2.1 x.1.2.2.2.2.2.1 x.1.2.2.2.2.2.2.1 x.1.2.2.2.2.2.2.2.1 x.1.2.2.2.2.2.2.2.2.1 x.1.2.2.2.2.2.2.2.2.2 x.2.1 x.2.2.2.1.1 x.2.2.2.1.2 x.2.2.2.2) (fun _ _ h=>qm4 h)
def qu8:=sLS [1,2,3,6,13,14,15] (q279 (vC (cInt .i64)) (q279 (vPtr 0 0) (q279 (vPtr 1 0) (q279 (vPtr 2 0) (q279 (vC (cSl q26r)) (q279 (vC (cInt .i64)) (q27b (vC (cInt .i64))))))))) (q279 (q27g (bBox (q27b (vC (cInt .i64))))) (q279 (q27g (bBox (q27b (vFn 78 (q279 (vPtr 0 0) (q27b (vPtr 1 0))))))) (q27b (q27g (bBox (q279 (vC (cInt .i64)) (q27b (vC (cInt .i64))))))))) [false,false,false] [0,1] (by decide) (fun _=>rfl)
def qu7:=sLS [1,2,3,6,13,14,15,16] (q279 (vC (cInt .i64)) (q279 (vPtr 0 0) (q279 (vPtr 1 0) (q279 (vPtr 2 0) (q279 (vC (cSl q26r)) (q279 (vC (cInt .i64)) (q279 (vC (cInt .i64)) (q27b (vC cBool))))))))) (q279 (q27g (bBox (q27b (vC (cInt .i64))))) (q279 (q27g (bBox (q27b (vFn 78 (q279 (vPtr 0 0) (q27b (vPtr 1 0))))))) (q27b (q27g (bBox (q279 (vC (cInt .i64)) (q27b (vC (cInt .i64))))))))) [false,false,false] [0,1] (by decide) (fun _=>rfl)
def qu6:=sLS [6] (q27b (vPtr 0 0)) (q279 (q27g (bBox (q279 (vC (cInt .i64)) (q27b (vC (cInt .i64)))))) (q279 (q27g (bBox (q27b (vC (cInt .i64))))) (q27b (q27g (bBox (q27b (vFn 78 (q279 (vPtr 1 0) (q27b (vPtr 2 0)))))))))) [false,false,false] [1,2] (by decide) (fun _=>rfl)
def qu5:=oOr 1 qu6 (oAt 2 qu7) (fun x=>(by decide:(2:Nat)≠1))
def qu2 (depth:Int) (t13:(List S50)) (t14:Int) (t15:Int) (b0:Int) (b2:Int) (b2_1:Int):Option ((Unit × ((Int × Int) × Int × (Unit × Unit))) ⊕ ((Int × Unit × Unit × Unit × (List S50) × Int × Int × Bool) × (Int × (Unit × Unit) × (Int × Int)))):=lS Tryz.prog lv X0 78 53 (q270 (cdF Tryz.f78) 2) qu8 qu5 ((depth,(),(),(),t13,t14,t15),(b0,((),()),(b2,b2_1)))
def qu9 (depth:Int) (t13:(List S50)) (t14:Int) (t15:Int) (b0:Int) (b2:Int) (b2_1:Int):Option ((Unit × ((Int × Int) × Int × (Unit × Unit))) ⊕ ((Int × Unit × Unit × Unit × (List S50) × Int × Int × Bool) × (Int × (Unit × Unit) × (Int × Int)))) :=
 (brE (decide (t15<t14))
 (gdE (decide (0≤t15)) <|
 (gdE ((decide ((Int.toNat t15)<(List.length (EC.encL q26r t13))))&&(isE [(K1.int Go.IntKind.i64),(K1.int Go.IntKind.i64),K1.sl,K1.str,(K1.int Go.IntKind.i64),K1.str,(K1.int Go.IntKind.i64),K1.sl,K1.sl,(K1.int Go.IntKind.i64),K1.str,K1.str,(K1.int Go.IntKind.i64)] 0 (List.getD (EC.encL q26r t13) (Int.toNat t15) []))) <|
 (brE (b0==100)
 (Option.bind (q5d 2 (-1)) fun r0 =>
 (some (.inl ((),((r0.1,r0.2),(b0,((),())))))))
 (gdE (EC.isL q26p (slOf (List.getD (List.getD (EC.encL q26r t13) (Int.toNat t15) []) 2 C.ne))) <|
 (gdE (EC.isL q26r (slOf (List.getD (List.getD (EC.encL q26r t13) (Int.toNat t15) []) 7 C.ne))) <|
 (gdE (EC.isL q26r (slOf (List.getD (List.getD (EC.encL q26r t13) (Int.toNat t15) []) 8 C.ne))) <|
 (Option.bind (qv7 (q273 (List.getD (List.getD (EC.encL q26r t13) (Int.toNat t15) []) 0 C.ne)) (q273 (List.getD (List.getD (EC.encL q26r t13) (Int.toNat t15) []) 1 C.ne)) (EC.decL q26p (slOf (List.getD (List.getD (EC.encL q26r t13) (Int.toNat t15) []) 2 C.ne))) (q27s (List.getD (List.getD (EC.encL q26r t13) (Int.toNat t15) []) 3 C.ne)) (q273 (List.getD (List.getD (EC.encL q26r t13) (Int.toNat t15) []) 4 C.ne)) (q27s (List.getD (List.getD (EC.encL q26r t13) (Int.toNat t15) []) 5 C.ne)) (q273 (List.getD (List.getD (EC.encL q26r t13) (Int.toNat t15) []) 6 C.ne)) (EC.decL q26r (slOf (List.getD (List.getD (EC.encL q26r t13) (Int.toNat t15) []) 7 C.ne))) (EC.decL q26r (slOf (List.getD (List.getD (EC.encL q26r t13) (Int.toNat t15) []) 8 C.ne))) (q273 (List.getD (List.getD (EC.encL q26r t13) (Int.toNat t15) []) 9 C.ne)) (q27s (List.getD (List.getD (EC.encL q26r t13) (Int.toNat t15) []) 10 C.ne)) (q27s (List.getD (List.getD (EC.encL q26r t13) (Int.toNat t15) []) 11 C.ne)) (q273 (List.getD (List.getD (EC.encL q26r t13) (Int.toNat t15) []) 12 C.ne)) depth) fun r0 =>
 (brE (r0 != 0)
 (Option.bind (q5d r0 b0) fun r1 =>
 (some (.inl ((),((r1.1,r1.2),(b0,((),())))))))
 (gdE (EC.isL q26r (EC.encL q26r t13)) <|
 (gdE (EC.isL q26m [[(C.sl (slOf (List.getD (List.getD (EC.encL q26r t13) (Int.toNat t15) []) 7 C.ne)))],[(C.sl (slOf (List.getD (List.getD (EC.encL q26r t13) (Int.toNat t15) []) 8 C.ne)))]]) <|
 (Option.bind (qtu depth (EC.decL q26r (EC.encL q26r t13)) t14 t15 2 ((2:Nat):Int) 0 (IntKind.wrap .i64 (b0+1)) b2 b2_1 (EC.decL q26m [[(C.sl (slOf (List.getD (List.getD (EC.encL q26r t13) (Int.toNat t15) []) 7 C.ne)))],[(C.sl (slOf (List.getD (List.getD (EC.encL q26r t13) (Int.toNat t15) []) 8 C.ne)))]])) fun r1 =>
 (Sum.elim (fun r2=>(some (.inl ((),((r2.2.1.1,r2.2.1.2),(r2.2.2.1,((),())))))))
 (fun r2=>(gdE (EC.isL q26r (EC.encL q26r r2.1.2.2.2.2.1)) <|
 (qu2 r2.1.1 (EC.decL q26r (EC.encL q26r r2.1.2.2.2.2.1)) r2.1.2.2.2.2.2.1 (IntKind.wrap .i64 (r2.1.2.2.2.2.2.2.1+1)) r2.2.1 r2.2.2.2.1.1 r2.2.2.2.1.2))) r1))))))))))))
 (gdE (EC.isL q26r (EC.encL q26r t13)) <|
 (some (.inr ((depth,((),((),((),((EC.decL q26r (EC.encL q26r t13)),(t14,(t15,false))))))),(b0,(((),()),(b2,b2_1))))))))
theorem qu4 {depth} {t13} {t14} {t15} {b0} {b2} {b2_1} {r} (h:qu9 depth t13 t14 t15 b0 b2 b2_1=some r):qu2 depth t13 t14 t15 b0 b2 b2_1=some r :=
 qm5 (es:=q10n) (hs:=qkk) [qtv] (by kernel_rfl) ⟨⟨_,rfl,rfl⟩,trivial⟩ trivial (by kernel_rfl) h
def qu3:=q27d Tryz.prog lv X0 2 (q270 (cdF Tryz.f78) 2) qu8 qu5 (fun x=>qu2 x.1.1 x.1.2.2.2.2.1 x.1.2.2.2.2.2.1 x.1.2.2.2.2.2.2 x.2.1 x.2.2.2.1 x.2.2.2.2) (fun _ _ h=>qm4 h)
def qud (l:(List S50)) (depth:Int) (b0:Int):Option ((Int × Int) × ((Int × Int) × (Int × (Unit × Unit)))) :=
 (gdE (EC.isL q26r (EC.encL q26r l)) <|
 (Option.bind (qu2 depth (EC.decL q26r (EC.encL q26r l)) (List.length (EC.encL q26r l):Int) 0 b0 0 0) fun r0 =>
 (Sum.elim (fun r1=>(some ((r1.2.1.1,r1.2.1.2),((r1.2.1.1,r1.2.1.2),(r1.2.2.1,((),()))))))
 (fun r1=>(Option.bind q6e fun r2 =>
 (some ((r2.1,r2.2),((r2.1,r2.2),(r1.2.1,((),()))))))) r0)))
theorem qtt {l} {depth} {b0} {r} (h:qud l depth b0=some r):qtr l depth b0=some r :=
 qis (fn:=Tryz.f78) (es:=q10n) (hs:=qkk) [qu3] (by kernel_rfl) rfl (by kernel_rfl) ⟨⟨_,rfl,rfl⟩,trivial⟩ trivial (by kernel_rfl) h
def quf:Cod (V × List B) (Int × Int):=(cFstU (cPair (vAgg (q279 (vC (cInt .i64)) (q27b (vC (cInt .i64))))) q27a))
def qui (s:(List S50)):Option (Int × Int):=fS Tryz.prog lv X0 60 que quf s
def quj (s:(List S50)):Option (Int × Int) :=
 (gdE (EC.isL q26r (EC.encL q26r s)) <|
 (Option.bind (qtr (EC.decL q26r (EC.encL q26r s)) 1 0) fun r0 =>
 (some (r0.1.1,r0.1.2))))
theorem quh {s} {r} (h:quj s=some r):qui s=some r :=
 qf2 (es:=q10n) (hs:=qkk) [] Tryz.func60 rfl (by kernel_rfl) rfl (by kernel_rfl) (by kernel_rfl) trivial trivial (by kernel_rfl) h
def qug:=entS Tryz.prog lv X0 60 [] que quf (fun x=>qui x) (fun _ _ h=>qf1 h)
def q10j:=qug::q10n
end
end Go.Proofs.YtokahibbkdbndaaGreatDoor
