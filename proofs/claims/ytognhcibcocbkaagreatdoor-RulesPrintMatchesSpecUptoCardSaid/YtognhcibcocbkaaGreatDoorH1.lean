/- Functions of the program as plain functions: made by program from the machine. -/
import Derived.Test.YtognhcibcocbkaaGreatDoorGB
namespace Go.Proofs.YtognhcibcocbkaaGreatDoor
open Go.RowKit
abbrev gL {τ β:Type} (e:EC τ) (l:List τ) (x:Option β):Option β:=gdE (EC.isL e (EC.encL e l)) x
abbrev dL {τ:Type} (e:EC τ) (l:List τ):List τ:=EC.decL e (EC.encL e l)
abbrev lN {τ:Type} (e:EC τ) (l:List τ):Nat:=List.length (EC.encL e l)
abbrev eC {τ:Type} (e:EC τ) (l:List τ) (i:Int) (k:List K1):Bool:=(decide ((Int.toNat i)<(List.length (EC.encL e l))))&&(isE k 0 (List.getD (EC.encL e l) (Int.toNat i) []))
abbrev wI (i:Int):Int:=IntKind.wrap .i64 (i+1)
abbrev p0 (i:Int):Bool:=decide (0≤i)
abbrev aL (l:List (List C)) (n:Nat):Bool:=List.all l (fun (el:(List C))=>((List.length el)==n))
abbrev dQ (n k:Nat):Bool:=decide ((((n+(n / 4))+192)*k)≤281474976710656)
abbrev dM (n:Nat):Bool:=decide (n≤9223372036854775807)
abbrev uL {τ:Type} (e:EC τ) (c:C):List τ:=EC.decL e (slOf c)
abbrev LB:=List ByteArray
abbrev BA:=ByteArray
abbrev Oq:=Option
set_option maxRecDepth 100000
noncomputable section
structure S57 where
 Kind:Int
 Tests:(List S57)
 Name:ByteArray
 Pattern:Int
 Text:ByteArray
 N:Int
abbrev L57:=List S57
mutual
def en57:S57→List C
 |⟨a0,a1,a2,a3,a4,a5⟩=>[.int .i64 a0,.sl (en57L a1),.str a2,.int .i64 a3,.str a4,.int .i64 a5]
def en57L:List S57→List (List C)
 |[]=>[]
 |x::xs=>en57 x::en57L xs
end
theorem q5u:∀ xs,en57L xs=xs.map en57
 |[]=>rfl
 |x::xs=>by rw [en57L,q5u xs];rfl
mutual
theorem q5v:∀ {x y:S57},en57 x=en57 y→x=y
 |⟨a0,a1,a2,a3,a4,a5⟩,⟨b0,b1,b2,b3,b4,b5⟩,h=>by
  simp only [en57,List.cons.injEq,C.int.injEq,C.sl.injEq,C.str.injEq,true_and,and_true] at h
  obtain ⟨h0,h1,h2,h3,h4,h5⟩:=h
  have h1:=q5t h1
  subst h0 h1 h2 h3 h4 h5
  rfl
theorem q5t:∀ {xs ys:List S57},en57L xs=en57L ys→xs=ys
 |[],[],_=>rfl
 |[],_::_,h=>by simp [en57L] at h
 |_::_,[],h=>by simp [en57L] at h
 |x::xs,y::ys,h=>by
  simp only [en57L,List.cons.injEq] at h
  rw [q5v h.1,q5t h.2]
end
open Classical in
def q5k:EC S57 where
 enc:=en57
 dec c:=if h:∃ x,en57 x=c then h.choose else ⟨q9n .ne,([]:(List S57)),qss .ne,q9n .ne,qss .ne,q9n .ne⟩
 is c:=decide (∃ x,en57 x=c)
 enc_dec {c} h:=by
  have h2:∃ x,en57 x=c:=by simpa using h
  rw [dif_pos h2]
  exact h2.choose_spec
 dec_enc x:=by
  have h2:∃ y,en57 y=en57 x:=⟨x,rfl⟩
  rw [dif_pos h2]
  exact q5v h2.choose_spec
 is_enc x:=by simp
theorem q5z (x:S57):q5k.enc x=[.int .i64 x.Kind,.sl (q5k.encL x.Tests),.str x.Name,.int .i64 x.Pattern,.str x.Text,.int .i64 x.N]:=by
 cases x
 show en57 _=_
 simp only [en57,q5u]
 rfl
theorem q53:q5k.dec []=(⟨q9n .ne,([]:(List S57)),qss .ne,q9n .ne,qss .ne,q9n .ne⟩:S57):=by
 refine dif_neg ?_
 rintro ⟨⟨a0,a1,a2,a3,a4,a5⟩,h⟩
 simp [en57] at h
theorem qwf (xs:List S57) (n:Nat):isE [.int .i64,.sl,.str,.int .i64,.str,.int .i64] 0 ((q5k.encL xs).getD n [])=decide (n<xs.length):=by
 by_cases h:n<xs.length
 ·simp only [EC.getD_lt _ _ h];simp [q5z,isE,isK,h]
 ·simp only [EC.getD_ge _ _ (Nat.not_lt.1 h)];simp [isE,isK,h]
theorem q21 (xs:List S57) (n:Nat):q9n (((q5k.encL xs).getD n []).getD 0 .ne)=(xs.getD n (q5k.dec [])).Kind:=by
 by_cases h:n<xs.length
 ·simp only [EC.getD_lt _ _ h];simp [q5z,h,q9n,List.getD_eq_getElem?_getD]
 ·simp only [EC.getD_ge _ _ (Nat.not_lt.1 h)];simp [Nat.not_lt.1 h,q53,qss,q9n,List.getD_eq_getElem?_getD]
theorem q22 (xs:List S57) (n:Nat):slOf (((q5k.encL xs).getD n []).getD 1 .ne)=q5k.encL (xs.getD n (q5k.dec [])).Tests:=by
 by_cases h:n<xs.length
 ·simp only [EC.getD_lt _ _ h];simp [q5z,h,slOf,List.getD_eq_getElem?_getD]
 ·simp only [EC.getD_ge _ _ (Nat.not_lt.1 h)];simp [Nat.not_lt.1 h,q53,qss,q9n,slOf,List.getD_eq_getElem?_getD,EC.encL]
theorem q23 (xs:List S57) (n:Nat):qss (((q5k.encL xs).getD n []).getD 2 .ne)=(xs.getD n (q5k.dec [])).Name:=by
 by_cases h:n<xs.length
 ·simp only [EC.getD_lt _ _ h];simp [q5z,h,qss,List.getD_eq_getElem?_getD]
 ·simp only [EC.getD_ge _ _ (Nat.not_lt.1 h)];simp [Nat.not_lt.1 h,q53,qss,q9n,List.getD_eq_getElem?_getD]
theorem q24 (xs:List S57) (n:Nat):q9n (((q5k.encL xs).getD n []).getD 3 .ne)=(xs.getD n (q5k.dec [])).Pattern:=by
 by_cases h:n<xs.length
 ·simp only [EC.getD_lt _ _ h];simp [q5z,h,q9n,List.getD_eq_getElem?_getD]
 ·simp only [EC.getD_ge _ _ (Nat.not_lt.1 h)];simp [Nat.not_lt.1 h,q53,qss,q9n,List.getD_eq_getElem?_getD]
theorem q25 (xs:List S57) (n:Nat):qss (((q5k.encL xs).getD n []).getD 4 .ne)=(xs.getD n (q5k.dec [])).Text:=by
 by_cases h:n<xs.length
 ·simp only [EC.getD_lt _ _ h];simp [q5z,h,qss,List.getD_eq_getElem?_getD]
 ·simp only [EC.getD_ge _ _ (Nat.not_lt.1 h)];simp [Nat.not_lt.1 h,q53,qss,q9n,List.getD_eq_getElem?_getD]
theorem q26 (xs:List S57) (n:Nat):q9n (((q5k.encL xs).getD n []).getD 5 .ne)=(xs.getD n (q5k.dec [])).N:=by
 by_cases h:n<xs.length
 ·simp only [EC.getD_lt _ _ h];simp [q5z,h,q9n,List.getD_eq_getElem?_getD]
 ·simp only [EC.getD_ge _ _ (Nat.not_lt.1 h)];simp [Nat.not_lt.1 h,q53,qss,q9n,List.getD_eq_getElem?_getD]
structure S59 where
 Kind:Int
 Test_Kind:Int
 Test_Tests:(List S57)
 Test_Name:ByteArray
 Test_Pattern:Int
 Test_Text:ByteArray
 Test_N:Int
 Then:(List S59)
 Else:(List S59)
 Act:Int
 Name:ByteArray
 Text:ByteArray
 N:Int
abbrev L59:=List S59
mutual
def en59:S59→List C
 |⟨a0,a1,a2,a3,a4,a5,a6,a7,a8,a9,a10,a11,a12⟩=>[.int .i64 a0,.int .i64 a1,.sl (q5k.encL a2),.str a3,.int .i64 a4,.str a5,.int .i64 a6,.sl (en59L a7),.sl (en59L a8),.int .i64 a9,.str a10,.str a11,.int .i64 a12]
def en59L:List S59→List (List C)
 |[]=>[]
 |x::xs=>en59 x::en59L xs
end
theorem q5x:∀ xs,en59L xs=xs.map en59
 |[]=>rfl
 |x::xs=>by rw [en59L,q5x xs];rfl
mutual
theorem q5y:∀ {x y:S59},en59 x=en59 y→x=y
 |⟨a0,a1,a2,a3,a4,a5,a6,a7,a8,a9,a10,a11,a12⟩,⟨b0,b1,b2,b3,b4,b5,b6,b7,b8,b9,b10,b11,b12⟩,h=>by
  simp only [en59,List.cons.injEq,C.int.injEq,C.sl.injEq,C.str.injEq,true_and,and_true] at h
  obtain ⟨h0,h1,h2,h3,h4,h5,h6,h7,h8,h9,h10,h11,h12⟩:=h
  have h2:a2=b2:=by have q:=congrArg q5k.decL h2;simpa only [EC.decL_encL] using q
  have h7:=q5w h7
  have h8:=q5w h8
  subst h0 h1 h2 h3 h4 h5 h6 h7 h8 h9 h10 h11 h12
  rfl
theorem q5w:∀ {xs ys:List S59},en59L xs=en59L ys→xs=ys
 |[],[],_=>rfl
 |[],_::_,h=>by simp [en59L] at h
 |_::_,[],h=>by simp [en59L] at h
 |x::xs,y::ys,h=>by
  simp only [en59L,List.cons.injEq] at h
  rw [q5y h.1,q5w h.2]
end
open Classical in
def q5l:EC S59 where
 enc:=en59
 dec c:=if h:∃ x,en59 x=c then h.choose else ⟨q9n .ne,q9n .ne,([]:(List S57)),qss .ne,q9n .ne,qss .ne,q9n .ne,([]:(List S59)),([]:(List S59)),q9n .ne,qss .ne,qss .ne,q9n .ne⟩
 is c:=decide (∃ x,en59 x=c)
 enc_dec {c} h:=by
  have h2:∃ x,en59 x=c:=by simpa using h
  rw [dif_pos h2]
  exact h2.choose_spec
 dec_enc x:=by
  have h2:∃ y,en59 y=en59 x:=⟨x,rfl⟩
  rw [dif_pos h2]
  exact q5y h2.choose_spec
 is_enc x:=by simp
theorem q60 (x:S59):q5l.enc x=[.int .i64 x.Kind,.int .i64 x.Test_Kind,.sl (q5k.encL x.Test_Tests),.str x.Test_Name,.int .i64 x.Test_Pattern,.str x.Test_Text,.int .i64 x.Test_N,.sl (q5l.encL x.Then),.sl (q5l.encL x.Else),.int .i64 x.Act,.str x.Name,.str x.Text,.int .i64 x.N]:=by
 cases x
 show en59 _=_
 simp only [en59,q5x]
 rfl
theorem q54:q5l.dec []=(⟨q9n .ne,q9n .ne,([]:(List S57)),qss .ne,q9n .ne,qss .ne,q9n .ne,([]:(List S59)),([]:(List S59)),q9n .ne,qss .ne,qss .ne,q9n .ne⟩:S59):=by
 refine dif_neg ?_
 rintro ⟨⟨a0,a1,a2,a3,a4,a5,a6,a7,a8,a9,a10,a11,a12⟩,h⟩
 simp [en59] at h
theorem q9u (xs:List S59) (n:Nat):isE [.int .i64,.int .i64,.sl,.str,.int .i64,.str,.int .i64,.sl,.sl,.int .i64,.str,.str,.int .i64] 0 ((q5l.encL xs).getD n [])=decide (n<xs.length):=by
 by_cases h:n<xs.length
 ·simp only [EC.getD_lt _ _ h];simp [q60,isE,isK,h]
 ·simp only [EC.getD_ge _ _ (Nat.not_lt.1 h)];simp [isE,isK,h]
theorem q27 (xs:List S59) (n:Nat):q9n (((q5l.encL xs).getD n []).getD 0 .ne)=(xs.getD n (q5l.dec [])).Kind:=by
 by_cases h:n<xs.length
 ·simp only [EC.getD_lt _ _ h];simp [q60,h,q9n,List.getD_eq_getElem?_getD]
 ·simp only [EC.getD_ge _ _ (Nat.not_lt.1 h)];simp [Nat.not_lt.1 h,q54,qss,q9n,List.getD_eq_getElem?_getD]
theorem q28 (xs:List S59) (n:Nat):q9n (((q5l.encL xs).getD n []).getD 1 .ne)=(xs.getD n (q5l.dec [])).Test_Kind:=by
 by_cases h:n<xs.length
 ·simp only [EC.getD_lt _ _ h];simp [q60,h,q9n,List.getD_eq_getElem?_getD]
 ·simp only [EC.getD_ge _ _ (Nat.not_lt.1 h)];simp [Nat.not_lt.1 h,q54,qss,q9n,List.getD_eq_getElem?_getD]
theorem q2c (xs:List S59) (n:Nat):slOf (((q5l.encL xs).getD n []).getD 2 .ne)=q5k.encL (xs.getD n (q5l.dec [])).Test_Tests:=by
 by_cases h:n<xs.length
 ·simp only [EC.getD_lt _ _ h];simp [q60,h,slOf,List.getD_eq_getElem?_getD]
 ·simp only [EC.getD_ge _ _ (Nat.not_lt.1 h)];simp [Nat.not_lt.1 h,q54,qss,q9n,slOf,List.getD_eq_getElem?_getD,EC.encL]
theorem q2d (xs:List S59) (n:Nat):qss (((q5l.encL xs).getD n []).getD 3 .ne)=(xs.getD n (q5l.dec [])).Test_Name:=by
 by_cases h:n<xs.length
 ·simp only [EC.getD_lt _ _ h];simp [q60,h,qss,List.getD_eq_getElem?_getD]
 ·simp only [EC.getD_ge _ _ (Nat.not_lt.1 h)];simp [Nat.not_lt.1 h,q54,qss,q9n,List.getD_eq_getElem?_getD]
theorem q2e (xs:List S59) (n:Nat):q9n (((q5l.encL xs).getD n []).getD 4 .ne)=(xs.getD n (q5l.dec [])).Test_Pattern:=by
 by_cases h:n<xs.length
 ·simp only [EC.getD_lt _ _ h];simp [q60,h,q9n,List.getD_eq_getElem?_getD]
 ·simp only [EC.getD_ge _ _ (Nat.not_lt.1 h)];simp [Nat.not_lt.1 h,q54,qss,q9n,List.getD_eq_getElem?_getD]
theorem q2f (xs:List S59) (n:Nat):qss (((q5l.encL xs).getD n []).getD 5 .ne)=(xs.getD n (q5l.dec [])).Test_Text:=by
 by_cases h:n<xs.length
 ·simp only [EC.getD_lt _ _ h];simp [q60,h,qss,List.getD_eq_getElem?_getD]
 ·simp only [EC.getD_ge _ _ (Nat.not_lt.1 h)];simp [Nat.not_lt.1 h,q54,qss,q9n,List.getD_eq_getElem?_getD]
theorem q2g (xs:List S59) (n:Nat):q9n (((q5l.encL xs).getD n []).getD 6 .ne)=(xs.getD n (q5l.dec [])).Test_N:=by
 by_cases h:n<xs.length
 ·simp only [EC.getD_lt _ _ h];simp [q60,h,q9n,List.getD_eq_getElem?_getD]
 ·simp only [EC.getD_ge _ _ (Nat.not_lt.1 h)];simp [Nat.not_lt.1 h,q54,qss,q9n,List.getD_eq_getElem?_getD]
theorem q2h (xs:List S59) (n:Nat):slOf (((q5l.encL xs).getD n []).getD 7 .ne)=q5l.encL (xs.getD n (q5l.dec [])).Then:=by
 by_cases h:n<xs.length
 ·simp only [EC.getD_lt _ _ h];simp [q60,h,slOf,List.getD_eq_getElem?_getD]
 ·simp only [EC.getD_ge _ _ (Nat.not_lt.1 h)];simp [Nat.not_lt.1 h,q54,qss,q9n,slOf,List.getD_eq_getElem?_getD,EC.encL]
theorem q2i (xs:List S59) (n:Nat):slOf (((q5l.encL xs).getD n []).getD 8 .ne)=q5l.encL (xs.getD n (q5l.dec [])).Else:=by
 by_cases h:n<xs.length
 ·simp only [EC.getD_lt _ _ h];simp [q60,h,slOf,List.getD_eq_getElem?_getD]
 ·simp only [EC.getD_ge _ _ (Nat.not_lt.1 h)];simp [Nat.not_lt.1 h,q54,qss,q9n,slOf,List.getD_eq_getElem?_getD,EC.encL]
theorem q2j (xs:List S59) (n:Nat):q9n (((q5l.encL xs).getD n []).getD 9 .ne)=(xs.getD n (q5l.dec [])).Act:=by
 by_cases h:n<xs.length
 ·simp only [EC.getD_lt _ _ h];simp [q60,h,q9n,List.getD_eq_getElem?_getD]
 ·simp only [EC.getD_ge _ _ (Nat.not_lt.1 h)];simp [Nat.not_lt.1 h,q54,qss,q9n,List.getD_eq_getElem?_getD]
theorem q29 (xs:List S59) (n:Nat):qss (((q5l.encL xs).getD n []).getD 10 .ne)=(xs.getD n (q5l.dec [])).Name:=by
 by_cases h:n<xs.length
 ·simp only [EC.getD_lt _ _ h];simp [q60,h,qss,List.getD_eq_getElem?_getD]
 ·simp only [EC.getD_ge _ _ (Nat.not_lt.1 h)];simp [Nat.not_lt.1 h,q54,qss,q9n,List.getD_eq_getElem?_getD]
theorem q2a (xs:List S59) (n:Nat):qss (((q5l.encL xs).getD n []).getD 11 .ne)=(xs.getD n (q5l.dec [])).Text:=by
 by_cases h:n<xs.length
 ·simp only [EC.getD_lt _ _ h];simp [q60,h,qss,List.getD_eq_getElem?_getD]
 ·simp only [EC.getD_ge _ _ (Nat.not_lt.1 h)];simp [Nat.not_lt.1 h,q54,qss,q9n,List.getD_eq_getElem?_getD]
theorem q2b (xs:List S59) (n:Nat):q9n (((q5l.encL xs).getD n []).getD 12 .ne)=(xs.getD n (q5l.dec [])).N:=by
 by_cases h:n<xs.length
 ·simp only [EC.getD_lt _ _ h];simp [q60,h,q9n,List.getD_eq_getElem?_getD]
 ·simp only [EC.getD_ge _ _ (Nat.not_lt.1 h)];simp [Nat.not_lt.1 h,q54,qss,q9n,List.getD_eq_getElem?_getD]
def q34:Cod (List V) Unit:=qai
abbrev z1g:=(vC (cInt .i64))
abbrev z1i:=(qah z1g (qaj z1g))
def q35:Cod (V×List B) (Int×Int):=(cFstU (cPair (vAgg z1i) qai))
def q38 :=fS Tryz.prog lv X0 22 q34 q35 ()
def q39 :Oq (Int×Int) :=
 (some (0,0))
theorem q37 {r} (h:q39 =some r):q38 =some r :=
 q6x (es:=tab0) (hs:=[]) [] Tryz.func22 rfl (by kernel_rfl) rfl (by kernel_rfl) (by kernel_rfl) trivial trivial (by kernel_rfl) h
def q36:=entS Tryz.prog lv X0 22 [] q34 q35 (fun x=>q38 ) (fun _ _ h=>q6w h)
def qtg:=q36::tab0
def q2y:=z1i
def q2z:Cod (V×List B) (Int×Int):=(cFstU (cPair (vAgg z1i) qai))
def q32 (code at_:Int):=fS Tryz.prog lv X0 18 q2y q2z (code,at_)
def q33 (code at_:Int):Oq (Int×Int) :=
 (some (code,at_))
theorem q31 {code at_ r} (h:q33 code at_=some r):q32 code at_=some r :=
 q6x (es:=qtg) (hs:=[]) [] Tryz.func18 rfl (by kernel_rfl) rfl (by kernel_rfl) (by kernel_rfl) trivial trivial (by kernel_rfl) h
def q30:=entS Tryz.prog lv X0 18 [] q2y q2z (fun x=>q32 x.1 x.2) (fun _ _ h=>q6w h)
def qtf:=q30::qtg
def q2s:=(qaj (vAgg z1i))
abbrev z1l:=(cFstU (cPair (vC cBool) (qai (ρ:=B))))
def q2t:Cod (V×List B) Bool:=z1l
def q2w (f_Code f_Index:Int):=fS Tryz.prog lv X0 21 q2s q2t (f_Code,f_Index)
def q2x (f_Code f_Index:Int):Oq Bool :=
 (some (f_Code != 0))
theorem q2v {f_Code f_Index r} (h:q2x f_Code f_Index=some r):q2w f_Code f_Index=some r :=
 q6x (es:=qtf) (hs:=[]) [] Tryz.func21 rfl (by kernel_rfl) rfl (by kernel_rfl) (by kernel_rfl) trivial trivial (by kernel_rfl) h
def q2u:=entS Tryz.prog lv X0 21 [] q2s q2t (fun x=>q2w x.1 x.2) (fun _ _ h=>q6w h)
def qte:=q2u::qtf
abbrev z1o:=(vC (cSl q5l))
def qxy:=(qaj z1o)
def qxz:Cod (V×List B) Int:=(cFstU (cPair z1g qai))
def qy9 (s:L59):=fS Tryz.prog lv X0 17 qxy qxz s
def qy0:=entS Tryz.prog lv X0 17 [] qxy qxz (fun x=>qy9 x) (fun _ _ h=>q6w h)
def q16p:=qy0::qte
def qy7:=sLS [0,3,4] (qah z1o z1i) qai [] [] (by decide) (fun _=>rfl)
abbrev z1m:=(qah z1g (qah z1g (qaj (vC cBool))))
def qy6:=sLS [0,3,4,10] (qah z1o z1m) qai [] [] (by decide) (fun _=>rfl)
def qy5:=oAt 2 qy6
def qy2 (s:L59) (n i:Int):=lS Tryz.prog lv X0 17 29 (q8l (cdF Tryz.f17) 3) qy7 qy5 ((s,n,i),())
def qy8 (s:L59) (n i:Int):Oq ((L59×Int×Int×Bool)×Unit) :=
 (brE (decide (i<(lN q5l s:Int)))
 (gdE (p0 i)<|
 (gdE (eC q5l s i [(K1.int Go.IntKind.i64),(K1.int Go.IntKind.i64),K1.sl,K1.str,(K1.int Go.IntKind.i64),K1.str,(K1.int Go.IntKind.i64),K1.sl,K1.sl,(K1.int Go.IntKind.i64),K1.str,K1.str,(K1.int Go.IntKind.i64)])<|
 (gdE (EC.isL q5l (slOf (List.getD (List.getD (EC.encL q5l s) (Int.toNat i) []) 7 C.ne)))<|
 ((qy9 (uL q5l (List.getD (List.getD (EC.encL q5l s) (Int.toNat i) []) 7 C.ne))).bind fun r0 =>
 (gdE (p0 i)<|
 (gdE (eC q5l s i [(K1.int Go.IntKind.i64),(K1.int Go.IntKind.i64),K1.sl,K1.str,(K1.int Go.IntKind.i64),K1.str,(K1.int Go.IntKind.i64),K1.sl,K1.sl,(K1.int Go.IntKind.i64),K1.str,K1.str,(K1.int Go.IntKind.i64)])<|
 (gdE (EC.isL q5l (slOf (List.getD (List.getD (EC.encL q5l s) (Int.toNat i) []) 8 C.ne)))<|
 ((qy9 (uL q5l (List.getD (List.getD (EC.encL q5l s) (Int.toNat i) []) 8 C.ne))).bind fun r1 =>
 (gL q5l s<|
 (qy2 (dL q5l s) (IntKind.wrap .i64 (n+(IntKind.wrap .i64 (r0+r1)))) (wI i)))))))))))
 (gL q5l s<|
 (some (((dL q5l s),(n,(i,false))),()))))
theorem qy4 {s n i r} (h:qy8 s n i=some r):qy2 s n i=some r :=
 qal (es:=q16p) (hs:=[]) [] (by kernel_rfl) trivial trivial (by kernel_rfl) h
def qy3:=qb9 Tryz.prog lv X0 3 (q8l (cdF Tryz.f17) 3) qy7 qy5 (fun x=>qy2 x.1.1 x.1.2.1 x.1.2.2) (fun _ _ h=>qak h)
def qya (s:L59):Oq Int :=
 (gL q5l s<|
 ((qy2 (dL q5l s) (lN q5l s:Int) 0).bind fun r0 =>
 (some r0.1.2.1)))
theorem qy1 {s r} (h:qya s=some r):qy9 s=some r :=
 q6x (es:=q16p) (hs:=[]) [qy3] Tryz.func17 rfl (by kernel_rfl) rfl (by kernel_rfl) (by kernel_rfl) ⟨⟨_,rfl,rfl⟩,trivial⟩ trivial (by kernel_rfl) h
abbrev z1h:=(qah z1g (qah (vC (cSl q5k)) (qah (vC cStr) (qah z1g (qah (vC cStr) (qaj z1g))))))
def qiv:=(qaj (vAgg z1h))
def qiw:Cod (V×List B) Bool:=z1l
def qiz (qt6:Int) (qt9:L57) (qt7:BA) (qt8:Int) (qta:BA) (t_N:Int):=fS Tryz.prog lv X0 69 qiv qiw (qt6,qt9,qt7,qt8,qta,t_N)
def qj0 (qt6:Int) (qt9:L57) (qt7:BA) (qt8:Int) (qta:BA) (t_N:Int):Oq Bool :=
 (brE ((qt6==0)==true)
 (brE (((lN q5k qt9:Int)==0)==true)
 (brE ((qt7.toList==(ByteArray.toList ⟨#[]⟩))==true)
 (brE ((qt8==0)==true)
 (brE ((qta.toList==(ByteArray.toList ⟨#[]⟩))==true)
 (some (t_N==0))
 (some false))
 (some false))
 (some false))
 (some false))
 (some false))
theorem qiy {qt6 qt9 qt7 qt8 qta t_N r} (h:qj0 qt6 qt9 qt7 qt8 qta t_N=some r):qiz qt6 qt9 qt7 qt8 qta t_N=some r :=
 q6x (es:=q16p) (hs:=[]) [] Tryz.func69 rfl (by kernel_rfl) rfl (by kernel_rfl) (by kernel_rfl) trivial trivial (by kernel_rfl) h
def qix:=entS Tryz.prog lv X0 69 [] qiv qiw (fun x=>qiz x.1 x.2.1 x.2.2.1 x.2.2.2.1 x.2.2.2.2.1 x.2.2.2.2.2) (fun _ _ h=>q6w h)
def qtr:=qix::q16p
def qpx:=(qaj z1g)
def qpy:Cod (V×List B) Bool:=z1l
def qq1 (act:Int):=fS Tryz.prog lv X0 65 qpx qpy act
def qq2 (act:Int):Oq Bool :=
 (brE ((act==2)==false)
 (brE ((act==4)==false)
 (brE ((act==5)==false)
 (some (act==7))
 (some true))
 (some true))
 (some true))
theorem qq0 {act r} (h:qq2 act=some r):qq1 act=some r :=
 q6x (es:=qtr) (hs:=[]) [] Tryz.func65 rfl (by kernel_rfl) rfl (by kernel_rfl) (by kernel_rfl) trivial trivial (by kernel_rfl) h
def qpz:=entS Tryz.prog lv X0 65 [] qpx qpy (fun x=>qq1 x) (fun _ _ h=>q6w h)
def qu0:=qpz::qtr
def qq3:=(qaj z1g)
def qq4:Cod (V×List B) (Bool×Bool×Bool):=(cFstU (cPair (vTup (qah (vC cBool) (qah (vC cBool) (qaj (vC cBool))))) qai))
def qq7 (kind:Int):=fS Tryz.prog lv X0 71 qq3 qq4 kind
def qq8 (kind:Int):Oq (Bool×Bool×Bool) :=
 (brE (kind==5)
 (some (true,(true,false)))
 (brE (kind==6)
 (some (false,(true,false)))
 (brE (kind==7)
 (some (false,(true,false)))
 (brE (kind==8)
 (some (false,(false,true)))
 (brE (kind==9)
 (some (true,(false,false)))
 (some (false,(false,false))))))))
theorem qq6 {kind r} (h:qq8 kind=some r):qq7 kind=some r :=
 q6x (es:=qu0) (hs:=[]) [] Tryz.func71 rfl (by kernel_rfl) rfl (by kernel_rfl) (by kernel_rfl) trivial trivial (by kernel_rfl) h
def qq5:=entS Tryz.prog lv X0 71 [] qq3 qq4 (fun x=>qq7 x) (fun _ _ h=>q6w h)
def qu1:=qq5::qu0
def qic:=(qaj (vAgg z1h))
def qid:Cod (V×List B) Bool:=z1l
def qig (qt6:Int) (qt9:L57) (qt7:BA) (qt8:Int) (qta:BA) (t_N:Int):=fS Tryz.prog lv X0 72 qic qid (qt6,qt9,qt7,qt8,qta,t_N)
def qih (qt6:Int) (qt9:L57) (qt7:BA) (qt8:Int) (qta:BA) (t_N:Int):Oq Bool :=
 (brE (qt6==2)
 (some ((lN q5k qt9:Int)==1))
 (brE (qt6==3)
 (brE ((decide ((lN q5k qt9:Int)≥1))==true)
 (some (decide ((lN q5k qt9:Int)≤60)))
 (some false))
 (brE (qt6==4)
 (brE ((decide ((lN q5k qt9:Int)≥1))==true)
 (some (decide ((lN q5k qt9:Int)≤60)))
 (some false))
 (some ((lN q5k qt9:Int)==0)))))
theorem qif {qt6 qt9 qt7 qt8 qta t_N r} (h:qih qt6 qt9 qt7 qt8 qta t_N=some r):qig qt6 qt9 qt7 qt8 qta t_N=some r :=
 q6x (es:=qu1) (hs:=[]) [] Tryz.func72 rfl (by kernel_rfl) rfl (by kernel_rfl) (by kernel_rfl) trivial trivial (by kernel_rfl) h
def qie:=entS Tryz.prog lv X0 72 [] qic qid (fun x=>qig x.1 x.2.1 x.2.2.1 x.2.2.2.1 x.2.2.2.2.1 x.2.2.2.2.2) (fun _ _ h=>q6w h)
def qto:=qie::qu1
def qq9:=(qaj (vC (cInt .u8)))
def qqa:Cod (V×List B) Bool:=z1l
def qqd (c:Int):=fS Tryz.prog lv X0 92 qq9 qqa c
def qqe (c:Int):Oq Bool :=
 (brE ((decide (c≥97))==true)
 (brE ((decide (c≤122))==false)
 (brE ((decide (c≥48))==true)
 (some (decide (c≤57)))
 (some false))
 (some true))
 (brE ((decide (c≥48))==true)
 (some (decide (c≤57)))
 (some false)))
theorem qqc {c r} (h:qqe c=some r):qqd c=some r :=
 q6x (es:=qto) (hs:=[]) [] Tryz.func92 rfl (by kernel_rfl) rfl (by kernel_rfl) (by kernel_rfl) trivial trivial (by kernel_rfl) h
def qqb:=entS Tryz.prog lv X0 92 [] qq9 qqa (fun x=>qqd x) (fun _ _ h=>q6w h)
def qu3:=qqb::qto
def q19:Cod (List V) (ByteArray×Unit):=(qah (vC cStr) (qaj (vFn 92 qai)))
def q1j:=sLS [0,1,7,8] (qah (vC cStr) (qah (vFn 92 qai) z1i)) qai [] [] (by decide) (fun _=>rfl)
def q1i:=sLS [0,1,7,8,9] (qah (vC cStr) (qah (vFn 92 qai) z1m)) qai [] [] (by decide) (fun _=>rfl)
def q1h:=sLS [4] (qaj (vC cBool)) qai [] [] (by decide) (fun _=>rfl)
def q1g:=oOr 1 q1h (oAt 2 q1i) (fun x=>(by decide:(2:Nat)≠1))
def q1d (s:BA) (t7 t8:Int):=lS Tryz.prog lv X0 93 18 (q8l (cdF Tryz.f93) 2) q1j q1g ((s,(),t7,t8),())
def q1k (s:BA) (t7 t8:Int):Oq ((Bool×Unit)⊕((BA×Unit×Int×Int×Bool)×Unit)) :=
 (brE (decide (t8<t7))
 (gdE ((p0 t8)&&(decide ((Int.toNat t8)<s.size)))<|
 ((qqd (((UInt8.toNat (Array.getD s.data (Int.toNat t8) (0:UInt8))):Nat):Int)).bind fun r0 =>
 (brE (!r0)
 (some (.inl (false,())))
 (q1d s t7 (wI t8)))))
 (some (.inr ((s,((),(t7,(t8,false)))),()))))
theorem q1f {s t7 t8 r} (h:q1k s t7 t8=some r):q1d s t7 t8=some r :=
 qal (es:=qu3) (hs:=[]) [] (by kernel_rfl) trivial trivial (by kernel_rfl) h
def q1e:=qb9 Tryz.prog lv X0 2 (q8l (cdF Tryz.f93) 2) q1j q1g (fun x=>q1d x.1.1 x.1.2.2.1 x.1.2.2.2) (fun _ _ h=>qak h)
def q1a:Cod (V×List B) Bool:=z1l
def q1m (s:BA):=fS Tryz.prog lv X0 93 q19 q1a (s,())
def q1n (s:BA):Oq Bool :=
 ((q1d s (s.size:Int) 0).bind fun r0 =>
 (Sum.elim (fun r1=>(some r1.1))
 (fun r1=>(some true)) r0))
theorem q1c {s r} (h:q1n s=some r):q1m s=some r :=
 q6x (es:=qu3) (hs:=[]) [q1e] Tryz.func93 rfl (by kernel_rfl) rfl (by kernel_rfl) (by kernel_rfl) ⟨⟨_,rfl,rfl⟩,trivial⟩ trivial (by kernel_rfl) h
def q1b:=entS Tryz.prog lv X0 93 [92] q19 q1a (fun x=>q1m x.1) (fun _ _ h=>q6w h)
def qtd:=q1b::qu3
def qqf:=(qaj (vC cStr))
def qqg:Cod (V×List B) Bool:=z1l
def qqj (s:BA):=fS Tryz.prog lv X0 70 qqf qqg s
def qqk (s:BA):Oq Bool :=
 (brE ((!(s.toList==(ByteArray.toList ⟨#[]⟩)))==true)
 (brE ((decide ((s.size:Int)≤60))==true)
 ((q1m s).bind fun r0 =>
 (brE (r0==true)
 (gdE ((decide ((0:Int)≤0))&&(decide ((Int.toNat 0)<s.size)))<|
 (some (decide ((((UInt8.toNat (Array.getD s.data (Int.toNat 0) (0:UInt8))):Nat):Int)>57))))
 (some false)))
 (some false))
 (some false))
theorem qqi {s r} (h:qqk s=some r):qqj s=some r :=
 q6x (es:=qtd) (hs:=[]) [] Tryz.func70 rfl (by kernel_rfl) rfl (by kernel_rfl) (by kernel_rfl) trivial trivial (by kernel_rfl) h
def qqh:=entS Tryz.prog lv X0 70 [] qqf qqg (fun x=>qqj x) (fun _ _ h=>q6w h)
def qu2:=qqh::qtd
abbrev z1k:=(vAgg (qah z1g (qah z1g (qah (vC (cSl q5k)) (qah (vC cStr) (qah z1g (qah (vC cStr) (qah z1g (qah (vC (cSl q5l)) (qah (vC (cSl q5l)) (qah z1g (qah (vC cStr) (qah (vC cStr) (qaj z1g))))))))))))))
def qp0:=(qaj z1k)
def qp1:Cod (V×List B) Int:=(cFstU (cPair z1g qai))
def qp4 (r_Kind r_Test_Kind:Int) (qfz:L57) (qfx:BA) (qfy:Int) (qg0:BA) (qfw:Int) (r_Then r_Else:L59) (r_Act:Int) (qfv qg1:BA) (r_N:Int):=fS Tryz.prog lv X0 50 qp0 qp1 (r_Kind,r_Test_Kind,qfz,qfx,qfy,qg0,qfw,r_Then,r_Else,r_Act,qfv,qg1,r_N)
abbrev z6 (qg1:BA):=(decide ((qg1.size:Int)>200))
abbrev z7 (r_N:Int):=((decide (r_N<0))==false)
abbrev z8 (qfv:BA):=(qqj qfv)
abbrev za (qg1:BA):=((!(qg1.toList==(ByteArray.toList ⟨#[]⟩)))==false)
abbrev zb (r_Act:Int):=((decide (r_Act<1))==false)
def qp5 (r_Kind r_Test_Kind:Int) (qfz:L57) (qfx:BA) (qfy:Int) (qg0:BA) (qfw:Int) (r_Then r_Else:L59) (r_Act:Int) (qfv qg1:BA) (r_N:Int):Oq Int :=
 (gL q5k qfz<|
 ((qiz r_Test_Kind (dL q5k qfz) qfx qfy qg0 qfw).bind fun r0 =>
 (brE ((!r0)==false)
 (brE ((decide ((IntKind.wrap .i64 ((lN q5l r_Then:Int)+(lN q5l r_Else:Int)))>0))==false)
 (brE ((!(r_Kind==2))==true)
 (brE ((r_Act != 0)==false)
 (brE ((r_N != 0)==false)
 (brE ((r_Kind != 3)==true)
 (brE ((!(qfv.toList==(ByteArray.toList ⟨#[]⟩)))==false)
 (brE ((r_Kind==4)==true)
 (brE (!(qg1.toList==(ByteArray.toList ⟨#[]⟩)))
 (some 5)
 (brE ((r_Kind==2)==true)
 (brE (zb r_Act)
 (brE (decide (r_Act>7))
 (some 4)
 (brE ((r_Kind==2)==true)
 ((qq1 r_Act).bind fun r1 =>
 (brE ((!r1)==true)
 (brE (za qg1)
 (brE ((r_Act != 6)==true)
 (brE (r_N != 0)
 (some 5)
 (brE ((r_Kind==3)==true)
 ((z8 qfv).bind fun r2 =>
 (brE (!r2)
 (some 10)
 (brE (z6 qg1)
 (some 1)
 (brE (z7 r_N)
 (brE (decide (r_N>63))
 (some 3)
 (some 0))
 (some 3)))))
 (brE (z6 qg1)
 (some 1)
 (brE (z7 r_N)
 (brE (decide (r_N>63))
 (some 3)
 (some 0))
 (some 3)))))
 (brE ((r_Kind==3)==true)
 ((z8 qfv).bind fun r2 =>
 (brE (!r2)
 (some 10)
 (brE (z6 qg1)
 (some 1)
 (brE (z7 r_N)
 (brE (decide (r_N>63))
 (some 3)
 (some 0))
 (some 3)))))
 (brE (z6 qg1)
 (some 1)
 (brE (z7 r_N)
 (brE (decide (r_N>63))
 (some 3)
 (some 0))
 (some 3)))))
 (some 5))
 (brE ((r_Act != 6)==true)
 (brE (r_N != 0)
 (some 5)
 (brE ((r_Kind==3)==true)
 ((z8 qfv).bind fun r2 =>
 (brE (!r2)
 (some 10)
 (brE (z6 qg1)
 (some 1)
 (brE (z7 r_N)
 (brE (decide (r_N>63))
 (some 3)
 (some 0))
 (some 3)))))
 (brE (z6 qg1)
 (some 1)
 (brE (z7 r_N)
 (brE (decide (r_N>63))
 (some 3)
 (some 0))
 (some 3)))))
 (brE ((r_Kind==3)==true)
 ((z8 qfv).bind fun r2 =>
 (brE (!r2)
 (some 10)
 (brE (z6 qg1)
 (some 1)
 (brE (z7 r_N)
 (brE (decide (r_N>63))
 (some 3)
 (some 0))
 (some 3)))))
 (brE (z6 qg1)
 (some 1)
 (brE (z7 r_N)
 (brE (decide (r_N>63))
 (some 3)
 (some 0))
 (some 3)))))))
 (brE ((r_Kind==3)==true)
 ((z8 qfv).bind fun r1 =>
 (brE (!r1)
 (some 10)
 (brE (z6 qg1)
 (some 1)
 (brE (z7 r_N)
 (brE (decide (r_N>63))
 (some 3)
 (some 0))
 (some 3)))))
 (brE (z6 qg1)
 (some 1)
 (brE (z7 r_N)
 (brE (decide (r_N>63))
 (some 3)
 (some 0))
 (some 3))))))
 (some 4))
 (brE ((r_Kind==2)==true)
 ((qq1 r_Act).bind fun r1 =>
 (brE ((!r1)==true)
 (brE (za qg1)
 (brE ((r_Act != 6)==true)
 (brE (r_N != 0)
 (some 5)
 (brE ((r_Kind==3)==true)
 ((z8 qfv).bind fun r2 =>
 (brE (!r2)
 (some 10)
 (brE (z6 qg1)
 (some 1)
 (brE (z7 r_N)
 (brE (decide (r_N>63))
 (some 3)
 (some 0))
 (some 3)))))
 (brE (z6 qg1)
 (some 1)
 (brE (z7 r_N)
 (brE (decide (r_N>63))
 (some 3)
 (some 0))
 (some 3)))))
 (brE ((r_Kind==3)==true)
 ((z8 qfv).bind fun r2 =>
 (brE (!r2)
 (some 10)
 (brE (z6 qg1)
 (some 1)
 (brE (z7 r_N)
 (brE (decide (r_N>63))
 (some 3)
 (some 0))
 (some 3)))))
 (brE (z6 qg1)
 (some 1)
 (brE (z7 r_N)
 (brE (decide (r_N>63))
 (some 3)
 (some 0))
 (some 3)))))
 (some 5))
 (brE ((r_Act != 6)==true)
 (brE (r_N != 0)
 (some 5)
 (brE ((r_Kind==3)==true)
 ((z8 qfv).bind fun r2 =>
 (brE (!r2)
 (some 10)
 (brE (z6 qg1)
 (some 1)
 (brE (z7 r_N)
 (brE (decide (r_N>63))
 (some 3)
 (some 0))
 (some 3)))))
 (brE (z6 qg1)
 (some 1)
 (brE (z7 r_N)
 (brE (decide (r_N>63))
 (some 3)
 (some 0))
 (some 3)))))
 (brE ((r_Kind==3)==true)
 ((z8 qfv).bind fun r2 =>
 (brE (!r2)
 (some 10)
 (brE (z6 qg1)
 (some 1)
 (brE (z7 r_N)
 (brE (decide (r_N>63))
 (some 3)
 (some 0))
 (some 3)))))
 (brE (z6 qg1)
 (some 1)
 (brE (z7 r_N)
 (brE (decide (r_N>63))
 (some 3)
 (some 0))
 (some 3)))))))
 (brE ((r_Kind==3)==true)
 ((z8 qfv).bind fun r1 =>
 (brE (!r1)
 (some 10)
 (brE (z6 qg1)
 (some 1)
 (brE (z7 r_N)
 (brE (decide (r_N>63))
 (some 3)
 (some 0))
 (some 3)))))
 (brE (z6 qg1)
 (some 1)
 (brE (z7 r_N)
 (brE (decide (r_N>63))
 (some 3)
 (some 0))
 (some 3)))))))
 (brE ((r_Kind==2)==true)
 (brE (zb r_Act)
 (brE (decide (r_Act>7))
 (some 4)
 (brE ((r_Kind==2)==true)
 ((qq1 r_Act).bind fun r1 =>
 (brE ((!r1)==true)
 (brE (za qg1)
 (brE ((r_Act != 6)==true)
 (brE (r_N != 0)
 (some 5)
 (brE ((r_Kind==3)==true)
 ((z8 qfv).bind fun r2 =>
 (brE (!r2)
 (some 10)
 (brE (z6 qg1)
 (some 1)
 (brE (z7 r_N)
 (brE (decide (r_N>63))
 (some 3)
 (some 0))
 (some 3)))))
 (brE (z6 qg1)
 (some 1)
 (brE (z7 r_N)
 (brE (decide (r_N>63))
 (some 3)
 (some 0))
 (some 3)))))
 (brE ((r_Kind==3)==true)
 ((z8 qfv).bind fun r2 =>
 (brE (!r2)
 (some 10)
 (brE (z6 qg1)
 (some 1)
 (brE (z7 r_N)
 (brE (decide (r_N>63))
 (some 3)
 (some 0))
 (some 3)))))
 (brE (z6 qg1)
 (some 1)
 (brE (z7 r_N)
 (brE (decide (r_N>63))
 (some 3)
 (some 0))
 (some 3)))))
 (some 5))
 (brE ((r_Act != 6)==true)
 (brE (r_N != 0)
 (some 5)
 (brE ((r_Kind==3)==true)
 ((z8 qfv).bind fun r2 =>
 (brE (!r2)
 (some 10)
 (brE (z6 qg1)
 (some 1)
 (brE (z7 r_N)
 (brE (decide (r_N>63))
 (some 3)
 (some 0))
 (some 3)))))
 (brE (z6 qg1)
 (some 1)
 (brE (z7 r_N)
 (brE (decide (r_N>63))
 (some 3)
 (some 0))
 (some 3)))))
 (brE ((r_Kind==3)==true)
 ((z8 qfv).bind fun r2 =>
 (brE (!r2)
 (some 10)
 (brE (z6 qg1)
 (some 1)
 (brE (z7 r_N)
 (brE (decide (r_N>63))
 (some 3)
 (some 0))
 (some 3)))))
 (brE (z6 qg1)
 (some 1)
 (brE (z7 r_N)
 (brE (decide (r_N>63))
 (some 3)
 (some 0))
 (some 3)))))))
 (brE ((r_Kind==3)==true)
 ((z8 qfv).bind fun r1 =>
 (brE (!r1)
 (some 10)
 (brE (z6 qg1)
 (some 1)
 (brE (z7 r_N)
 (brE (decide (r_N>63))
 (some 3)
 (some 0))
 (some 3)))))
 (brE (z6 qg1)
 (some 1)
 (brE (z7 r_N)
 (brE (decide (r_N>63))
 (some 3)
 (some 0))
 (some 3))))))
 (some 4))
 (brE ((r_Kind==2)==true)
 ((qq1 r_Act).bind fun r1 =>
 (brE ((!r1)==true)
 (brE (za qg1)
 (brE ((r_Act != 6)==true)
 (brE (r_N != 0)
 (some 5)
 (brE ((r_Kind==3)==true)
 ((z8 qfv).bind fun r2 =>
 (brE (!r2)
 (some 10)
 (brE (z6 qg1)
 (some 1)
 (brE (z7 r_N)
 (brE (decide (r_N>63))
 (some 3)
 (some 0))
 (some 3)))))
 (brE (z6 qg1)
 (some 1)
 (brE (z7 r_N)
 (brE (decide (r_N>63))
 (some 3)
 (some 0))
 (some 3)))))
 (brE ((r_Kind==3)==true)
 ((z8 qfv).bind fun r2 =>
 (brE (!r2)
 (some 10)
 (brE (z6 qg1)
 (some 1)
 (brE (z7 r_N)
 (brE (decide (r_N>63))
 (some 3)
 (some 0))
 (some 3)))))
 (brE (z6 qg1)
 (some 1)
 (brE (z7 r_N)
 (brE (decide (r_N>63))
 (some 3)
 (some 0))
 (some 3)))))
 (some 5))
 (brE ((r_Act != 6)==true)
 (brE (r_N != 0)
 (some 5)
 (brE ((r_Kind==3)==true)
 ((z8 qfv).bind fun r2 =>
 (brE (!r2)
 (some 10)
 (brE (z6 qg1)
 (some 1)
 (brE (z7 r_N)
 (brE (decide (r_N>63))
 (some 3)
 (some 0))
 (some 3)))))
 (brE (z6 qg1)
 (some 1)
 (brE (z7 r_N)
 (brE (decide (r_N>63))
 (some 3)
 (some 0))
 (some 3)))))
 (brE ((r_Kind==3)==true)
 ((z8 qfv).bind fun r2 =>
 (brE (!r2)
 (some 10)
 (brE (z6 qg1)
 (some 1)
 (brE (z7 r_N)
 (brE (decide (r_N>63))
 (some 3)
 (some 0))
 (some 3)))))
 (brE (z6 qg1)
 (some 1)
 (brE (z7 r_N)
 (brE (decide (r_N>63))
 (some 3)
 (some 0))
 (some 3)))))))
 (brE ((r_Kind==3)==true)
 ((z8 qfv).bind fun r1 =>
 (brE (!r1)
 (some 10)
 (brE (z6 qg1)
 (some 1)
 (brE (z7 r_N)
 (brE (decide (r_N>63))
 (some 3)
 (some 0))
 (some 3)))))
 (brE (z6 qg1)
 (some 1)
 (brE (z7 r_N)
 (brE (decide (r_N>63))
 (some 3)
 (some 0))
 (some 3)))))))
 (some 5))
 (brE ((r_Kind==4)==true)
 (brE (!(qg1.toList==(ByteArray.toList ⟨#[]⟩)))
 (some 5)
 (brE ((r_Kind==2)==true)
 (brE (zb r_Act)
 (brE (decide (r_Act>7))
 (some 4)
 (brE ((r_Kind==2)==true)
 ((qq1 r_Act).bind fun r1 =>
 (brE ((!r1)==true)
 (brE (za qg1)
 (brE ((r_Act != 6)==true)
 (brE (r_N != 0)
 (some 5)
 (brE ((r_Kind==3)==true)
 ((z8 qfv).bind fun r2 =>
 (brE (!r2)
 (some 10)
 (brE (z6 qg1)
 (some 1)
 (brE (z7 r_N)
 (brE (decide (r_N>63))
 (some 3)
 (some 0))
 (some 3)))))
 (brE (z6 qg1)
 (some 1)
 (brE (z7 r_N)
 (brE (decide (r_N>63))
 (some 3)
 (some 0))
 (some 3)))))
 (brE ((r_Kind==3)==true)
 ((z8 qfv).bind fun r2 =>
 (brE (!r2)
 (some 10)
 (brE (z6 qg1)
 (some 1)
 (brE (z7 r_N)
 (brE (decide (r_N>63))
 (some 3)
 (some 0))
 (some 3)))))
 (brE (z6 qg1)
 (some 1)
 (brE (z7 r_N)
 (brE (decide (r_N>63))
 (some 3)
 (some 0))
 (some 3)))))
 (some 5))
 (brE ((r_Act != 6)==true)
 (brE (r_N != 0)
 (some 5)
 (brE ((r_Kind==3)==true)
 ((z8 qfv).bind fun r2 =>
 (brE (!r2)
 (some 10)
 (brE (z6 qg1)
 (some 1)
 (brE (z7 r_N)
 (brE (decide (r_N>63))
 (some 3)
 (some 0))
 (some 3)))))
 (brE (z6 qg1)
 (some 1)
 (brE (z7 r_N)
 (brE (decide (r_N>63))
 (some 3)
 (some 0))
 (some 3)))))
 (brE ((r_Kind==3)==true)
 ((z8 qfv).bind fun r2 =>
 (brE (!r2)
 (some 10)
 (brE (z6 qg1)
 (some 1)
 (brE (z7 r_N)
 (brE (decide (r_N>63))
 (some 3)
 (some 0))
 (some 3)))))
 (brE (z6 qg1)
 (some 1)
 (brE (z7 r_N)
 (brE (decide (r_N>63))
 (some 3)
 (some 0))
 (some 3)))))))
 (brE ((r_Kind==3)==true)
 ((z8 qfv).bind fun r1 =>
 (brE (!r1)
 (some 10)
 (brE (z6 qg1)
 (some 1)
 (brE (z7 r_N)
 (brE (decide (r_N>63))
 (some 3)
 (some 0))
 (some 3)))))
 (brE (z6 qg1)
 (some 1)
 (brE (z7 r_N)
 (brE (decide (r_N>63))
 (some 3)
 (some 0))
 (some 3))))))
 (some 4))
 (brE ((r_Kind==2)==true)
 ((qq1 r_Act).bind fun r1 =>
 (brE ((!r1)==true)
 (brE (za qg1)
 (brE ((r_Act != 6)==true)
 (brE (r_N != 0)
 (some 5)
 (brE ((r_Kind==3)==true)
 ((z8 qfv).bind fun r2 =>
 (brE (!r2)
 (some 10)
 (brE (z6 qg1)
 (some 1)
 (brE (z7 r_N)
 (brE (decide (r_N>63))
 (some 3)
 (some 0))
 (some 3)))))
 (brE (z6 qg1)
 (some 1)
 (brE (z7 r_N)
 (brE (decide (r_N>63))
 (some 3)
 (some 0))
 (some 3)))))
 (brE ((r_Kind==3)==true)
 ((z8 qfv).bind fun r2 =>
 (brE (!r2)
 (some 10)
 (brE (z6 qg1)
 (some 1)
 (brE (z7 r_N)
 (brE (decide (r_N>63))
 (some 3)
 (some 0))
 (some 3)))))
 (brE (z6 qg1)
 (some 1)
 (brE (z7 r_N)
 (brE (decide (r_N>63))
 (some 3)
 (some 0))
 (some 3)))))
 (some 5))
 (brE ((r_Act != 6)==true)
 (brE (r_N != 0)
 (some 5)
 (brE ((r_Kind==3)==true)
 ((z8 qfv).bind fun r2 =>
 (brE (!r2)
 (some 10)
 (brE (z6 qg1)
 (some 1)
 (brE (z7 r_N)
 (brE (decide (r_N>63))
 (some 3)
 (some 0))
 (some 3)))))
 (brE (z6 qg1)
 (some 1)
 (brE (z7 r_N)
 (brE (decide (r_N>63))
 (some 3)
 (some 0))
 (some 3)))))
 (brE ((r_Kind==3)==true)
 ((z8 qfv).bind fun r2 =>
 (brE (!r2)
 (some 10)
 (brE (z6 qg1)
 (some 1)
 (brE (z7 r_N)
 (brE (decide (r_N>63))
 (some 3)
 (some 0))
 (some 3)))))
 (brE (z6 qg1)
 (some 1)
 (brE (z7 r_N)
 (brE (decide (r_N>63))
 (some 3)
 (some 0))
 (some 3)))))))
 (brE ((r_Kind==3)==true)
 ((z8 qfv).bind fun r1 =>
 (brE (!r1)
 (some 10)
 (brE (z6 qg1)
 (some 1)
 (brE (z7 r_N)
 (brE (decide (r_N>63))
 (some 3)
 (some 0))
 (some 3)))))
 (brE (z6 qg1)
 (some 1)
 (brE (z7 r_N)
 (brE (decide (r_N>63))
 (some 3)
 (some 0))
 (some 3)))))))
 (brE ((r_Kind==2)==true)
 (brE (zb r_Act)
 (brE (decide (r_Act>7))
 (some 4)
 (brE ((r_Kind==2)==true)
 ((qq1 r_Act).bind fun r1 =>
 (brE ((!r1)==true)
 (brE (za qg1)
 (brE ((r_Act != 6)==true)
 (brE (r_N != 0)
 (some 5)
 (brE ((r_Kind==3)==true)
 ((z8 qfv).bind fun r2 =>
 (brE (!r2)
 (some 10)
 (brE (z6 qg1)
 (some 1)
 (brE (z7 r_N)
 (brE (decide (r_N>63))
 (some 3)
 (some 0))
 (some 3)))))
 (brE (z6 qg1)
 (some 1)
 (brE (z7 r_N)
 (brE (decide (r_N>63))
 (some 3)
 (some 0))
 (some 3)))))
 (brE ((r_Kind==3)==true)
 ((z8 qfv).bind fun r2 =>
 (brE (!r2)
 (some 10)
 (brE (z6 qg1)
 (some 1)
 (brE (z7 r_N)
 (brE (decide (r_N>63))
 (some 3)
 (some 0))
 (some 3)))))
 (brE (z6 qg1)
 (some 1)
 (brE (z7 r_N)
 (brE (decide (r_N>63))
 (some 3)
 (some 0))
 (some 3)))))
 (some 5))
 (brE ((r_Act != 6)==true)
 (brE (r_N != 0)
 (some 5)
 (brE ((r_Kind==3)==true)
 ((z8 qfv).bind fun r2 =>
 (brE (!r2)
 (some 10)
 (brE (z6 qg1)
 (some 1)
 (brE (z7 r_N)
 (brE (decide (r_N>63))
 (some 3)
 (some 0))
 (some 3)))))
 (brE (z6 qg1)
 (some 1)
 (brE (z7 r_N)
 (brE (decide (r_N>63))
 (some 3)
 (some 0))
 (some 3)))))
 (brE ((r_Kind==3)==true)
 ((z8 qfv).bind fun r2 =>
 (brE (!r2)
 (some 10)
 (brE (z6 qg1)
 (some 1)
 (brE (z7 r_N)
 (brE (decide (r_N>63))
 (some 3)
 (some 0))
 (some 3)))))
 (brE (z6 qg1)
 (some 1)
 (brE (z7 r_N)
 (brE (decide (r_N>63))
 (some 3)
 (some 0))
 (some 3)))))))
 (brE ((r_Kind==3)==true)
 ((z8 qfv).bind fun r1 =>
 (brE (!r1)
 (some 10)
 (brE (z6 qg1)
 (some 1)
 (brE (z7 r_N)
 (brE (decide (r_N>63))
 (some 3)
 (some 0))
 (some 3)))))
 (brE (z6 qg1)
 (some 1)
 (brE (z7 r_N)
 (brE (decide (r_N>63))
 (some 3)
 (some 0))
 (some 3))))))
 (some 4))
 (brE ((r_Kind==2)==true)
 ((qq1 r_Act).bind fun r1 =>
 (brE ((!r1)==true)
 (brE (za qg1)
 (brE ((r_Act != 6)==true)
 (brE (r_N != 0)
 (some 5)
 (brE ((r_Kind==3)==true)
 ((z8 qfv).bind fun r2 =>
 (brE (!r2)
 (some 10)
 (brE (z6 qg1)
 (some 1)
 (brE (z7 r_N)
 (brE (decide (r_N>63))
 (some 3)
 (some 0))
 (some 3)))))
 (brE (z6 qg1)
 (some 1)
 (brE (z7 r_N)
 (brE (decide (r_N>63))
 (some 3)
 (some 0))
 (some 3)))))
 (brE ((r_Kind==3)==true)
 ((z8 qfv).bind fun r2 =>
 (brE (!r2)
 (some 10)
 (brE (z6 qg1)
 (some 1)
 (brE (z7 r_N)
 (brE (decide (r_N>63))
 (some 3)
 (some 0))
 (some 3)))))
 (brE (z6 qg1)
 (some 1)
 (brE (z7 r_N)
 (brE (decide (r_N>63))
 (some 3)
 (some 0))
 (some 3)))))
 (some 5))
 (brE ((r_Act != 6)==true)
 (brE (r_N != 0)
 (some 5)
 (brE ((r_Kind==3)==true)
 ((z8 qfv).bind fun r2 =>
 (brE (!r2)
 (some 10)
 (brE (z6 qg1)
 (some 1)
 (brE (z7 r_N)
 (brE (decide (r_N>63))
 (some 3)
 (some 0))
 (some 3)))))
 (brE (z6 qg1)
 (some 1)
 (brE (z7 r_N)
 (brE (decide (r_N>63))
 (some 3)
 (some 0))
 (some 3)))))
 (brE ((r_Kind==3)==true)
 ((z8 qfv).bind fun r2 =>
 (brE (!r2)
 (some 10)
 (brE (z6 qg1)
 (some 1)
 (brE (z7 r_N)
 (brE (decide (r_N>63))
 (some 3)
 (some 0))
 (some 3)))))
 (brE (z6 qg1)
 (some 1)
 (brE (z7 r_N)
 (brE (decide (r_N>63))
 (some 3)
 (some 0))
 (some 3)))))))
 (brE ((r_Kind==3)==true)
 ((z8 qfv).bind fun r1 =>
 (brE (!r1)
 (some 10)
 (brE (z6 qg1)
 (some 1)
 (brE (z7 r_N)
 (brE (decide (r_N>63))
 (some 3)
 (some 0))
 (some 3)))))
 (brE (z6 qg1)
 (some 1)
 (brE (z7 r_N)
 (brE (decide (r_N>63))
 (some 3)
 (some 0))
 (some 3))))))))
 (some 5))
 (some 5))
 (brE ((r_Kind != 3)==true)
 (brE ((!(qfv.toList==(ByteArray.toList ⟨#[]⟩)))==false)
 (brE ((r_Kind==4)==true)
 (brE (!(qg1.toList==(ByteArray.toList ⟨#[]⟩)))
 (some 5)
 (brE ((r_Kind==2)==true)
 (brE (zb r_Act)
 (brE (decide (r_Act>7))
 (some 4)
 (brE ((r_Kind==2)==true)
 ((qq1 r_Act).bind fun r1 =>
 (brE ((!r1)==true)
 (brE (za qg1)
 (brE ((r_Act != 6)==true)
 (brE (r_N != 0)
 (some 5)
 (brE ((r_Kind==3)==true)
 ((z8 qfv).bind fun r2 =>
 (brE (!r2)
 (some 10)
 (brE (z6 qg1)
 (some 1)
 (brE (z7 r_N)
 (brE (decide (r_N>63))
 (some 3)
 (some 0))
 (some 3)))))
 (brE (z6 qg1)
 (some 1)
 (brE (z7 r_N)
 (brE (decide (r_N>63))
 (some 3)
 (some 0))
 (some 3)))))
 (brE ((r_Kind==3)==true)
 ((z8 qfv).bind fun r2 =>
 (brE (!r2)
 (some 10)
 (brE (z6 qg1)
 (some 1)
 (brE (z7 r_N)
 (brE (decide (r_N>63))
 (some 3)
 (some 0))
 (some 3)))))
 (brE (z6 qg1)
 (some 1)
 (brE (z7 r_N)
 (brE (decide (r_N>63))
 (some 3)
 (some 0))
 (some 3)))))
 (some 5))
 (brE ((r_Act != 6)==true)
 (brE (r_N != 0)
 (some 5)
 (brE ((r_Kind==3)==true)
 ((z8 qfv).bind fun r2 =>
 (brE (!r2)
 (some 10)
 (brE (z6 qg1)
 (some 1)
 (brE (z7 r_N)
 (brE (decide (r_N>63))
 (some 3)
 (some 0))
 (some 3)))))
 (brE (z6 qg1)
 (some 1)
 (brE (z7 r_N)
 (brE (decide (r_N>63))
 (some 3)
 (some 0))
 (some 3)))))
 (brE ((r_Kind==3)==true)
 ((z8 qfv).bind fun r2 =>
 (brE (!r2)
 (some 10)
 (brE (z6 qg1)
 (some 1)
 (brE (z7 r_N)
 (brE (decide (r_N>63))
 (some 3)
 (some 0))
 (some 3)))))
 (brE (z6 qg1)
 (some 1)
 (brE (z7 r_N)
 (brE (decide (r_N>63))
 (some 3)
 (some 0))
 (some 3)))))))
 (brE ((r_Kind==3)==true)
 ((z8 qfv).bind fun r1 =>
 (brE (!r1)
 (some 10)
 (brE (z6 qg1)
 (some 1)
 (brE (z7 r_N)
 (brE (decide (r_N>63))
 (some 3)
 (some 0))
 (some 3)))))
 (brE (z6 qg1)
 (some 1)
 (brE (z7 r_N)
 (brE (decide (r_N>63))
 (some 3)
 (some 0))
 (some 3))))))
 (some 4))
 (brE ((r_Kind==2)==true)
 ((qq1 r_Act).bind fun r1 =>
 (brE ((!r1)==true)
 (brE (za qg1)
 (brE ((r_Act != 6)==true)
 (brE (r_N != 0)
 (some 5)
 (brE ((r_Kind==3)==true)
 ((z8 qfv).bind fun r2 =>
 (brE (!r2)
 (some 10)
 (brE (z6 qg1)
 (some 1)
 (brE (z7 r_N)
 (brE (decide (r_N>63))
 (some 3)
 (some 0))
 (some 3)))))
 (brE (z6 qg1)
 (some 1)
 (brE (z7 r_N)
 (brE (decide (r_N>63))
 (some 3)
 (some 0))
 (some 3)))))
 (brE ((r_Kind==3)==true)
 ((z8 qfv).bind fun r2 =>
 (brE (!r2)
 (some 10)
 (brE (z6 qg1)
 (some 1)
 (brE (z7 r_N)
 (brE (decide (r_N>63))
 (some 3)
 (some 0))
 (some 3)))))
 (brE (z6 qg1)
 (some 1)
 (brE (z7 r_N)
 (brE (decide (r_N>63))
 (some 3)
 (some 0))
 (some 3)))))
 (some 5))
 (brE ((r_Act != 6)==true)
 (brE (r_N != 0)
 (some 5)
 (brE ((r_Kind==3)==true)
 ((z8 qfv).bind fun r2 =>
 (brE (!r2)
 (some 10)
 (brE (z6 qg1)
 (some 1)
 (brE (z7 r_N)
 (brE (decide (r_N>63))
 (some 3)
 (some 0))
 (some 3)))))
 (brE (z6 qg1)
 (some 1)
 (brE (z7 r_N)
 (brE (decide (r_N>63))
 (some 3)
 (some 0))
 (some 3)))))
 (brE ((r_Kind==3)==true)
 ((z8 qfv).bind fun r2 =>
 (brE (!r2)
 (some 10)
 (brE (z6 qg1)
 (some 1)
 (brE (z7 r_N)
 (brE (decide (r_N>63))
 (some 3)
 (some 0))
 (some 3)))))
 (brE (z6 qg1)
 (some 1)
 (brE (z7 r_N)
 (brE (decide (r_N>63))
 (some 3)
 (some 0))
 (some 3)))))))
 (brE ((r_Kind==3)==true)
 ((z8 qfv).bind fun r1 =>
 (brE (!r1)
 (some 10)
 (brE (z6 qg1)
 (some 1)
 (brE (z7 r_N)
 (brE (decide (r_N>63))
 (some 3)
 (some 0))
 (some 3)))))
 (brE (z6 qg1)
 (some 1)
 (brE (z7 r_N)
 (brE (decide (r_N>63))
 (some 3)
 (some 0))
 (some 3)))))))
 (brE ((r_Kind==2)==true)
 (brE (zb r_Act)
 (brE (decide (r_Act>7))
 (some 4)
 (brE ((r_Kind==2)==true)
 ((qq1 r_Act).bind fun r1 =>
 (brE ((!r1)==true)
 (brE (za qg1)
 (brE ((r_Act != 6)==true)
 (brE (r_N != 0)
 (some 5)
 (brE ((r_Kind==3)==true)
 ((z8 qfv).bind fun r2 =>
 (brE (!r2)
 (some 10)
 (brE (z6 qg1)
 (some 1)
 (brE (z7 r_N)
 (brE (decide (r_N>63))
 (some 3)
 (some 0))
 (some 3)))))
 (brE (z6 qg1)
 (some 1)
 (brE (z7 r_N)
 (brE (decide (r_N>63))
 (some 3)
 (some 0))
 (some 3)))))
 (brE ((r_Kind==3)==true)
 ((z8 qfv).bind fun r2 =>
 (brE (!r2)
 (some 10)
 (brE (z6 qg1)
 (some 1)
 (brE (z7 r_N)
 (brE (decide (r_N>63))
 (some 3)
 (some 0))
 (some 3)))))
 (brE (z6 qg1)
 (some 1)
 (brE (z7 r_N)
 (brE (decide (r_N>63))
 (some 3)
 (some 0))
 (some 3)))))
 (some 5))
 (brE ((r_Act != 6)==true)
 (brE (r_N != 0)
 (some 5)
 (brE ((r_Kind==3)==true)
 ((z8 qfv).bind fun r2 =>
 (brE (!r2)
 (some 10)
 (brE (z6 qg1)
 (some 1)
 (brE (z7 r_N)
 (brE (decide (r_N>63))
 (some 3)
 (some 0))
 (some 3)))))
 (brE (z6 qg1)
 (some 1)
 (brE (z7 r_N)
 (brE (decide (r_N>63))
 (some 3)
 (some 0))
 (some 3)))))
 (brE ((r_Kind==3)==true)
 ((z8 qfv).bind fun r2 =>
 (brE (!r2)
 (some 10)
 (brE (z6 qg1)
 (some 1)
 (brE (z7 r_N)
 (brE (decide (r_N>63))
 (some 3)
 (some 0))
 (some 3)))))
 (brE (z6 qg1)
 (some 1)
 (brE (z7 r_N)
 (brE (decide (r_N>63))
 (some 3)
 (some 0))
 (some 3)))))))
 (brE ((r_Kind==3)==true)
 ((z8 qfv).bind fun r1 =>
 (brE (!r1)
 (some 10)
 (brE (z6 qg1)
 (some 1)
 (brE (z7 r_N)
 (brE (decide (r_N>63))
 (some 3)
 (some 0))
 (some 3)))))
 (brE (z6 qg1)
 (some 1)
 (brE (z7 r_N)
 (brE (decide (r_N>63))
 (some 3)
 (some 0))
 (some 3))))))
 (some 4))
 (brE ((r_Kind==2)==true)
 ((qq1 r_Act).bind fun r1 =>
 (brE ((!r1)==true)
 (brE (za qg1)
 (brE ((r_Act != 6)==true)
 (brE (r_N != 0)
 (some 5)
 (brE ((r_Kind==3)==true)
 ((z8 qfv).bind fun r2 =>
 (brE (!r2)
 (some 10)
 (brE (z6 qg1)
 (some 1)
 (brE (z7 r_N)
 (brE (decide (r_N>63))
 (some 3)
 (some 0))
 (some 3)))))
 (brE (z6 qg1)
 (some 1)
 (brE (z7 r_N)
 (brE (decide (r_N>63))
 (some 3)
 (some 0))
 (some 3)))))
 (brE ((r_Kind==3)==true)
 ((z8 qfv).bind fun r2 =>
 (brE (!r2)
 (some 10)
 (brE (z6 qg1)
 (some 1)
 (brE (z7 r_N)
 (brE (decide (r_N>63))
 (some 3)
 (some 0))
 (some 3)))))
 (brE (z6 qg1)
 (some 1)
 (brE (z7 r_N)
 (brE (decide (r_N>63))
 (some 3)
 (some 0))
 (some 3)))))
 (some 5))
 (brE ((r_Act != 6)==true)
 (brE (r_N != 0)
 (some 5)
 (brE ((r_Kind==3)==true)
 ((z8 qfv).bind fun r2 =>
 (brE (!r2)
 (some 10)
 (brE (z6 qg1)
 (some 1)
 (brE (z7 r_N)
 (brE (decide (r_N>63))
 (some 3)
 (some 0))
 (some 3)))))
 (brE (z6 qg1)
 (some 1)
 (brE (z7 r_N)
 (brE (decide (r_N>63))
 (some 3)
 (some 0))
 (some 3)))))
 (brE ((r_Kind==3)==true)
 ((z8 qfv).bind fun r2 =>
 (brE (!r2)
 (some 10)
 (brE (z6 qg1)
 (some 1)
 (brE (z7 r_N)
 (brE (decide (r_N>63))
 (some 3)
 (some 0))
 (some 3)))))
 (brE (z6 qg1)
 (some 1)
 (brE (z7 r_N)
 (brE (decide (r_N>63))
 (some 3)
 (some 0))
 (some 3)))))))
 (brE ((r_Kind==3)==true)
 ((z8 qfv).bind fun r1 =>
 (brE (!r1)
 (some 10)
 (brE (z6 qg1)
 (some 1)
 (brE (z7 r_N)
 (brE (decide (r_N>63))
 (some 3)
 (some 0))
 (some 3)))))
 (brE (z6 qg1)
 (some 1)
 (brE (z7 r_N)
 (brE (decide (r_N>63))
 (some 3)
 (some 0))
 (some 3)))))))
 (some 5))
 (brE ((r_Kind==4)==true)
 (brE (!(qg1.toList==(ByteArray.toList ⟨#[]⟩)))
 (some 5)
 (brE ((r_Kind==2)==true)
 (brE (zb r_Act)
 (brE (decide (r_Act>7))
 (some 4)
 (brE ((r_Kind==2)==true)
 ((qq1 r_Act).bind fun r1 =>
 (brE ((!r1)==true)
 (brE (za qg1)
 (brE ((r_Act != 6)==true)
 (brE (r_N != 0)
 (some 5)
 (brE ((r_Kind==3)==true)
 ((z8 qfv).bind fun r2 =>
 (brE (!r2)
 (some 10)
 (brE (z6 qg1)
 (some 1)
 (brE (z7 r_N)
 (brE (decide (r_N>63))
 (some 3)
 (some 0))
 (some 3)))))
 (brE (z6 qg1)
 (some 1)
 (brE (z7 r_N)
 (brE (decide (r_N>63))
 (some 3)
 (some 0))
 (some 3)))))
 (brE ((r_Kind==3)==true)
 ((z8 qfv).bind fun r2 =>
 (brE (!r2)
 (some 10)
 (brE (z6 qg1)
 (some 1)
 (brE (z7 r_N)
 (brE (decide (r_N>63))
 (some 3)
 (some 0))
 (some 3)))))
 (brE (z6 qg1)
 (some 1)
 (brE (z7 r_N)
 (brE (decide (r_N>63))
 (some 3)
 (some 0))
 (some 3)))))
 (some 5))
 (brE ((r_Act != 6)==true)
 (brE (r_N != 0)
 (some 5)
 (brE ((r_Kind==3)==true)
 ((z8 qfv).bind fun r2 =>
 (brE (!r2)
 (some 10)
 (brE (z6 qg1)
 (some 1)
 (brE (z7 r_N)
 (brE (decide (r_N>63))
 (some 3)
 (some 0))
 (some 3)))))
 (brE (z6 qg1)
 (some 1)
 (brE (z7 r_N)
 (brE (decide (r_N>63))
 (some 3)
 (some 0))
 (some 3)))))
 (brE ((r_Kind==3)==true)
 ((z8 qfv).bind fun r2 =>
 (brE (!r2)
 (some 10)
 (brE (z6 qg1)
 (some 1)
 (brE (z7 r_N)
 (brE (decide (r_N>63))
 (some 3)
 (some 0))
 (some 3)))))
 (brE (z6 qg1)
 (some 1)
 (brE (z7 r_N)
 (brE (decide (r_N>63))
 (some 3)
 (some 0))
 (some 3)))))))
 (brE ((r_Kind==3)==true)
 ((z8 qfv).bind fun r1 =>
 (brE (!r1)
 (some 10)
 (brE (z6 qg1)
 (some 1)
 (brE (z7 r_N)
 (brE (decide (r_N>63))
 (some 3)
 (some 0))
 (some 3)))))
 (brE (z6 qg1)
 (some 1)
 (brE (z7 r_N)
 (brE (decide (r_N>63))
 (some 3)
 (some 0))
 (some 3))))))
 (some 4))
 (brE ((r_Kind==2)==true)
 ((qq1 r_Act).bind fun r1 =>
 (brE ((!r1)==true)
 (brE (za qg1)
 (brE ((r_Act != 6)==true)
 (brE (r_N != 0)
 (some 5)
 (brE ((r_Kind==3)==true)
 ((z8 qfv).bind fun r2 =>
 (brE (!r2)
 (some 10)
 (brE (z6 qg1)
 (some 1)
 (brE (z7 r_N)
 (brE (decide (r_N>63))
 (some 3)
 (some 0))
 (some 3)))))
 (brE (z6 qg1)
 (some 1)
 (brE (z7 r_N)
 (brE (decide (r_N>63))
 (some 3)
 (some 0))
 (some 3)))))
 (brE ((r_Kind==3)==true)
 ((z8 qfv).bind fun r2 =>
 (brE (!r2)
 (some 10)
 (brE (z6 qg1)
 (some 1)
 (brE (z7 r_N)
 (brE (decide (r_N>63))
 (some 3)
 (some 0))
 (some 3)))))
 (brE (z6 qg1)
 (some 1)
 (brE (z7 r_N)
 (brE (decide (r_N>63))
 (some 3)
 (some 0))
 (some 3)))))
 (some 5))
 (brE ((r_Act != 6)==true)
 (brE (r_N != 0)
 (some 5)
 (brE ((r_Kind==3)==true)
 ((z8 qfv).bind fun r2 =>
 (brE (!r2)
 (some 10)
 (brE (z6 qg1)
 (some 1)
 (brE (z7 r_N)
 (brE (decide (r_N>63))
 (some 3)
 (some 0))
 (some 3)))))
 (brE (z6 qg1)
 (some 1)
 (brE (z7 r_N)
 (brE (decide (r_N>63))
 (some 3)
 (some 0))
 (some 3)))))
 (brE ((r_Kind==3)==true)
 ((z8 qfv).bind fun r2 =>
 (brE (!r2)
 (some 10)
 (brE (z6 qg1)
 (some 1)
 (brE (z7 r_N)
 (brE (decide (r_N>63))
 (some 3)
 (some 0))
 (some 3)))))
 (brE (z6 qg1)
 (some 1)
 (brE (z7 r_N)
 (brE (decide (r_N>63))
 (some 3)
 (some 0))
 (some 3)))))))
 (brE ((r_Kind==3)==true)
 ((z8 qfv).bind fun r1 =>
 (brE (!r1)
 (some 10)
 (brE (z6 qg1)
 (some 1)
 (brE (z7 r_N)
 (brE (decide (r_N>63))
 (some 3)
 (some 0))
 (some 3)))))
 (brE (z6 qg1)
 (some 1)
 (brE (z7 r_N)
 (brE (decide (r_N>63))
 (some 3)
 (some 0))
 (some 3)))))))
 (brE ((r_Kind==2)==true)
 (brE (zb r_Act)
 (brE (decide (r_Act>7))
 (some 4)
 (brE ((r_Kind==2)==true)
 ((qq1 r_Act).bind fun r1 =>
 (brE ((!r1)==true)
 (brE (za qg1)
 (brE ((r_Act != 6)==true)
 (brE (r_N != 0)
 (some 5)
 (brE ((r_Kind==3)==true)
 ((z8 qfv).bind fun r2 =>
 (brE (!r2)
 (some 10)
 (brE (z6 qg1)
 (some 1)
 (brE (z7 r_N)
 (brE (decide (r_N>63))
 (some 3)
 (some 0))
 (some 3)))))
 (brE (z6 qg1)
 (some 1)
 (brE (z7 r_N)
 (brE (decide (r_N>63))
 (some 3)
 (some 0))
 (some 3)))))
 (brE ((r_Kind==3)==true)
 ((z8 qfv).bind fun r2 =>
 (brE (!r2)
 (some 10)
 (brE (z6 qg1)
 (some 1)
 (brE (z7 r_N)
 (brE (decide (r_N>63))
 (some 3)
 (some 0))
 (some 3)))))
 (brE (z6 qg1)
 (some 1)
 (brE (z7 r_N)
 (brE (decide (r_N>63))
 (some 3)
 (some 0))
 (some 3)))))
 (some 5))
 (brE ((r_Act != 6)==true)
 (brE (r_N != 0)
 (some 5)
 (brE ((r_Kind==3)==true)
 ((z8 qfv).bind fun r2 =>
 (brE (!r2)
 (some 10)
 (brE (z6 qg1)
 (some 1)
 (brE (z7 r_N)
 (brE (decide (r_N>63))
 (some 3)
 (some 0))
 (some 3)))))
 (brE (z6 qg1)
 (some 1)
 (brE (z7 r_N)
 (brE (decide (r_N>63))
 (some 3)
 (some 0))
 (some 3)))))
 (brE ((r_Kind==3)==true)
 ((z8 qfv).bind fun r2 =>
 (brE (!r2)
 (some 10)
 (brE (z6 qg1)
 (some 1)
 (brE (z7 r_N)
 (brE (decide (r_N>63))
 (some 3)
 (some 0))
 (some 3)))))
 (brE (z6 qg1)
 (some 1)
 (brE (z7 r_N)
 (brE (decide (r_N>63))
 (some 3)
 (some 0))
 (some 3)))))))
 (brE ((r_Kind==3)==true)
 ((z8 qfv).bind fun r1 =>
 (brE (!r1)
 (some 10)
 (brE (z6 qg1)
 (some 1)
 (brE (z7 r_N)
 (brE (decide (r_N>63))
 (some 3)
 (some 0))
 (some 3)))))
 (brE (z6 qg1)
 (some 1)
 (brE (z7 r_N)
 (brE (decide (r_N>63))
 (some 3)
 (some 0))
 (some 3))))))
 (some 4))
 (brE ((r_Kind==2)==true)
 ((qq1 r_Act).bind fun r1 =>
 (brE ((!r1)==true)
 (brE (za qg1)
 (brE ((r_Act != 6)==true)
 (brE (r_N != 0)
 (some 5)
 (brE ((r_Kind==3)==true)
 ((z8 qfv).bind fun r2 =>
 (brE (!r2)
 (some 10)
 (brE (z6 qg1)
 (some 1)
 (brE (z7 r_N)
 (brE (decide (r_N>63))
 (some 3)
 (some 0))
 (some 3)))))
 (brE (z6 qg1)
 (some 1)
 (brE (z7 r_N)
 (brE (decide (r_N>63))
 (some 3)
 (some 0))
 (some 3)))))
 (brE ((r_Kind==3)==true)
 ((z8 qfv).bind fun r2 =>
 (brE (!r2)
 (some 10)
 (brE (z6 qg1)
 (some 1)
 (brE (z7 r_N)
 (brE (decide (r_N>63))
 (some 3)
 (some 0))
 (some 3)))))
 (brE (z6 qg1)
 (some 1)
 (brE (z7 r_N)
 (brE (decide (r_N>63))
 (some 3)
 (some 0))
 (some 3)))))
 (some 5))
 (brE ((r_Act != 6)==true)
 (brE (r_N != 0)
 (some 5)
 (brE ((r_Kind==3)==true)
 ((z8 qfv).bind fun r2 =>
 (brE (!r2)
 (some 10)
 (brE (z6 qg1)
 (some 1)
 (brE (z7 r_N)
 (brE (decide (r_N>63))
 (some 3)
 (some 0))
 (some 3)))))
 (brE (z6 qg1)
 (some 1)
 (brE (z7 r_N)
 (brE (decide (r_N>63))
 (some 3)
 (some 0))
 (some 3)))))
 (brE ((r_Kind==3)==true)
 ((z8 qfv).bind fun r2 =>
 (brE (!r2)
 (some 10)
 (brE (z6 qg1)
 (some 1)
 (brE (z7 r_N)
 (brE (decide (r_N>63))
 (some 3)
 (some 0))
 (some 3)))))
 (brE (z6 qg1)
 (some 1)
 (brE (z7 r_N)
 (brE (decide (r_N>63))
 (some 3)
 (some 0))
 (some 3)))))))
 (brE ((r_Kind==3)==true)
 ((z8 qfv).bind fun r1 =>
 (brE (!r1)
 (some 10)
 (brE (z6 qg1)
 (some 1)
 (brE (z7 r_N)
 (brE (decide (r_N>63))
 (some 3)
 (some 0))
 (some 3)))))
 (brE (z6 qg1)
 (some 1)
 (brE (z7 r_N)
 (brE (decide (r_N>63))
 (some 3)
 (some 0))
 (some 3)))))))))
 (some 5))
 (some 5))))
theorem qp3 {r_Kind r_Test_Kind qfz qfx qfy qg0 qfw r_Then r_Else r_Act qfv qg1 r_N r} (h:qp5 r_Kind r_Test_Kind qfz qfx qfy qg0 qfw r_Then r_Else r_Act qfv qg1 r_N=some r):qp4 r_Kind r_Test_Kind qfz qfx qfy qg0 qfw r_Then r_Else r_Act qfv qg1 r_N=some r :=
 q6x (es:=qu2) (hs:=[]) [] Tryz.func50 rfl (by kernel_rfl) rfl (by kernel_rfl) (by kernel_rfl) trivial trivial (by kernel_rfl) h
def qp2:=entS Tryz.prog lv X0 50 [] qp0 qp1 (fun x=>qp4 x.1 x.2.1 x.2.2.1 x.2.2.2.1 x.2.2.2.2.1 x.2.2.2.2.2.1 x.2.2.2.2.2.2.1 x.2.2.2.2.2.2.2.1 x.2.2.2.2.2.2.2.2.1 x.2.2.2.2.2.2.2.2.2.1 x.2.2.2.2.2.2.2.2.2.2.1 x.2.2.2.2.2.2.2.2.2.2.2.1 x.2.2.2.2.2.2.2.2.2.2.2.2) (fun _ _ h=>q6w h)
def qtx:=qp2::qu2
def qpc:=(qah (vAgg z1h) (qaj z1g))
def qpd:Cod (V×List B) Int:=(cFstU (cPair z1g qai))
def qpv (qt6:Int) (qt9:L57) (qt7:BA) (qt8:Int) (qta:BA) (t_N depth:Int):=fS Tryz.prog lv X0 51 qpc qpd ((qt6,qt9,qt7,qt8,qta,t_N),depth)
def qpe:=entS Tryz.prog lv X0 51 [] qpc qpd (fun x=>qpv x.1.1 x.1.2.1 x.1.2.2.1 x.1.2.2.2.1 x.1.2.2.2.2.1 x.1.2.2.2.2.2 x.2) (fun _ _ h=>q6w h)
def qtz:=qpe::qtx
def qpt:=sLS [1,105,106,107] (qah z1g (qah (vC (cSl q5k)) z1i)) qai [] [] (by decide) (fun _=>rfl)
def qps:=sLS [1,105,106,107,108] (qah z1g (qah (vC (cSl q5k)) z1m)) qai [] [] (by decide) (fun _=>rfl)
def qpr:=sLS [4] (qaj z1g) qai [] [] (by decide) (fun _=>rfl)
def qpq:=oOr 1 qpr (oAt 3 qps) (fun x=>(by decide:(3:Nat)≠1))
def qpn (depth:Int) (t105:L57) (t106 t107:Int):=lS Tryz.prog lv X0 51 119 (q8l (cdF Tryz.f51) 19) qpt qpq ((depth,t105,t106,t107),())
abbrev zd (t105:L57) (t107:Int):=(List.getD (EC.encL q5k t105) (Int.toNat t107) [])
def qpu (depth:Int) (t105:L57) (t106 t107:Int):Oq ((Int×Unit)⊕((Int×L57×Int×Int×Bool)×Unit)) :=
 (brE (decide (t107<t106))
 (gdE (p0 t107)<|
 (gdE (eC q5k t105 t107 [(K1.int Go.IntKind.i64),K1.sl,K1.str,(K1.int Go.IntKind.i64),K1.str,(K1.int Go.IntKind.i64)])<|
 (gdE (EC.isL q5k (slOf (List.getD (zd t105 t107) 1 C.ne)))<|
 ((qpv (q9n (List.getD (zd t105 t107) 0 C.ne)) (uL q5k (List.getD (zd t105 t107) 1 C.ne)) (qss (List.getD (zd t105 t107) 2 C.ne)) (q9n (List.getD (zd t105 t107) 3 C.ne)) (qss (List.getD (zd t105 t107) 4 C.ne)) (q9n (List.getD (zd t105 t107) 5 C.ne)) (wI depth)).bind fun r0 =>
 (brE (r0 != 0)
 (some (.inl (r0,())))
 (gL q5k t105<|
 (qpn depth (dL q5k t105) t106 (wI t107))))))))
 (gL q5k t105<|
 (some (.inr ((depth,((dL q5k t105),(t106,(t107,false)))),())))))
theorem qpp {depth t105 t106 t107 r} (h:qpu depth t105 t106 t107=some r):qpn depth t105 t106 t107=some r :=
 qal (es:=qtz) (hs:=[]) [] (by kernel_rfl) trivial trivial (by kernel_rfl) h
def qpo:=qb9 Tryz.prog lv X0 19 (q8l (cdF Tryz.f51) 19) qpt qpq (fun x=>qpn x.1.1 x.1.2.1 x.1.2.2.1 x.1.2.2.2) (fun _ _ h=>qak h)
def qpl:=sLS [1,2] (qah z1g (qaj (vPtr 0 0))) (qaj (qd1 (bBox z1h))) [false] [] (by decide) (fun _=>rfl)
def qpk:=sLS [4] (qaj z1g) qai [] [] (by decide) (fun _=>rfl)
def qpj:=oAt 1 qpk
def qpg (depth b0:Int) (b0_1:L57) (b0_2:BA) (b0_3:Int) (b0_4:BA) (b0_5:Int):=gS Tryz.prog lv X0 51 119 (q8m (cdF Tryz.f51) 18) qpl qpj ((depth,()),(b0,b0_1,b0_2,b0_3,b0_4,b0_5))
def qpm (depth b0:Int) (b0_1:L57) (b0_2:BA) (b0_3:Int) (b0_4:BA) (b0_5:Int):Oq (Int×Unit) :=
 (gL q5k b0_1<|
 ((qpn depth (dL q5k b0_1) (lN q5k b0_1:Int) 0).bind fun r0 =>
 (Sum.elim (fun r1=>(some (r1.1,())))
 (fun r1=>(some (0,()))) r0)))
theorem qpi {depth b0 b0_1 b0_2 b0_3 b0_4 b0_5 r} (h:qpm depth b0 b0_1 b0_2 b0_3 b0_4 b0_5=some r):qpg depth b0 b0_1 b0_2 b0_3 b0_4 b0_5=some r :=
 q8f (es:=qtz) (hs:=[]) [qpo] (by kernel_rfl) ⟨⟨_,rfl,rfl⟩,trivial⟩ trivial (by kernel_rfl) h
def qph:=gentS Tryz.prog lv X0 18 (q8m (cdF Tryz.f51) 18) (by kernel_rfl) qpl qpj (fun x=>qpg x.1.1 x.2.1 x.2.2.1 x.2.2.2.1 x.2.2.2.2.1 x.2.2.2.2.2.1 x.2.2.2.2.2.2) (fun _ _ h=>q8e h)
abbrev ze (qta:BA):=(decide ((qta.size:Int)>200))
abbrev zg (t_N:Int):=((decide (t_N<0))==false)
abbrev zh (qt6:Int) (qt9:L57) (qt7:BA) (qt8:Int) (qta:BA) (t_N depth:Int):=(qpg depth qt6 (dL q5k qt9) qt7 qt8 qta t_N)
abbrev zi (t_N:Int):=(decide (t_N>1000000))
abbrev zj (qt8:Int):=((decide (qt8<1))==false)
abbrev zk (qt7:BA):=((qt7.toList==(ByteArray.toList ⟨#[]⟩))==false)
abbrev zm (qt7:BA):=(decide ((qt7.size:Int)>60))
abbrev zn (qt8:Int):=(decide (qt8>3))
def qpw (qt6:Int) (qt9:L57) (qt7:BA) (qt8:Int) (qta:BA) (t_N depth:Int):Oq Int :=
 ((qq7 qt6).bind fun r0 =>
 (brE (decide (depth>8))
 (some 5)
 (brE ((decide (qt6<1))==false)
 (brE (decide (qt6>9))
 (some 4)
 (gL q5k qt9<|
 ((qig qt6 (dL q5k qt9) qt7 qt8 qta t_N).bind fun r1 =>
 (brE (!r1)
 (some 5)
 (brE ((!r0.1)==true)
 (brE ((!(qt7.toList==(ByteArray.toList ⟨#[]⟩)))==false)
 (brE ((!r0.2.1)==true)
 (brE ((qt8 != 0)==false)
 (brE ((!(qta.toList==(ByteArray.toList ⟨#[]⟩)))==false)
 (brE ((!r0.2.2)==true)
 (brE (t_N != 0)
 (some 5)
 (brE (r0.1==true)
 (brE (zk qt7)
 (brE (zm qt7)
 (some 10)
 (brE (r0.2.1==true)
 (brE (zj qt8)
 (brE (zn qt8)
 (some 4)
 (brE (ze qta)
 (some 1)
 (brE (zg t_N)
 (brE (zi t_N)
 (some 3)
 (gL q5k qt9<|
 ((zh qt6 qt9 qt7 qt8 qta t_N depth).bind fun r2 =>
 (some r2.1))))
 (some 3))))
 (some 4))
 (brE (ze qta)
 (some 1)
 (brE (zg t_N)
 (brE (zi t_N)
 (some 3)
 (gL q5k qt9<|
 ((zh qt6 qt9 qt7 qt8 qta t_N depth).bind fun r2 =>
 (some r2.1))))
 (some 3)))))
 (some 10))
 (brE (r0.2.1==true)
 (brE (zj qt8)
 (brE (zn qt8)
 (some 4)
 (brE (ze qta)
 (some 1)
 (brE (zg t_N)
 (brE (zi t_N)
 (some 3)
 (gL q5k qt9<|
 ((zh qt6 qt9 qt7 qt8 qta t_N depth).bind fun r2 =>
 (some r2.1))))
 (some 3))))
 (some 4))
 (brE (ze qta)
 (some 1)
 (brE (zg t_N)
 (brE (zi t_N)
 (some 3)
 (gL q5k qt9<|
 ((zh qt6 qt9 qt7 qt8 qta t_N depth).bind fun r2 =>
 (some r2.1))))
 (some 3))))))
 (brE (r0.1==true)
 (brE (zk qt7)
 (brE (zm qt7)
 (some 10)
 (brE (r0.2.1==true)
 (brE (zj qt8)
 (brE (zn qt8)
 (some 4)
 (brE (ze qta)
 (some 1)
 (brE (zg t_N)
 (brE (zi t_N)
 (some 3)
 (gL q5k qt9<|
 ((zh qt6 qt9 qt7 qt8 qta t_N depth).bind fun r2 =>
 (some r2.1))))
 (some 3))))
 (some 4))
 (brE (ze qta)
 (some 1)
 (brE (zg t_N)
 (brE (zi t_N)
 (some 3)
 (gL q5k qt9<|
 ((zh qt6 qt9 qt7 qt8 qta t_N depth).bind fun r2 =>
 (some r2.1))))
 (some 3)))))
 (some 10))
 (brE (r0.2.1==true)
 (brE (zj qt8)
 (brE (zn qt8)
 (some 4)
 (brE (ze qta)
 (some 1)
 (brE (zg t_N)
 (brE (zi t_N)
 (some 3)
 (gL q5k qt9<|
 ((zh qt6 qt9 qt7 qt8 qta t_N depth).bind fun r2 =>
 (some r2.1))))
 (some 3))))
 (some 4))
 (brE (ze qta)
 (some 1)
 (brE (zg t_N)
 (brE (zi t_N)
 (some 3)
 (gL q5k qt9<|
 ((zh qt6 qt9 qt7 qt8 qta t_N depth).bind fun r2 =>
 (some r2.1))))
 (some 3))))))
 (some 5))
 (some 5))
 (brE ((!r0.2.2)==true)
 (brE (t_N != 0)
 (some 5)
 (brE (r0.1==true)
 (brE (zk qt7)
 (brE (zm qt7)
 (some 10)
 (brE (r0.2.1==true)
 (brE (zj qt8)
 (brE (zn qt8)
 (some 4)
 (brE (ze qta)
 (some 1)
 (brE (zg t_N)
 (brE (zi t_N)
 (some 3)
 (gL q5k qt9<|
 ((zh qt6 qt9 qt7 qt8 qta t_N depth).bind fun r2 =>
 (some r2.1))))
 (some 3))))
 (some 4))
 (brE (ze qta)
 (some 1)
 (brE (zg t_N)
 (brE (zi t_N)
 (some 3)
 (gL q5k qt9<|
 ((zh qt6 qt9 qt7 qt8 qta t_N depth).bind fun r2 =>
 (some r2.1))))
 (some 3)))))
 (some 10))
 (brE (r0.2.1==true)
 (brE (zj qt8)
 (brE (zn qt8)
 (some 4)
 (brE (ze qta)
 (some 1)
 (brE (zg t_N)
 (brE (zi t_N)
 (some 3)
 (gL q5k qt9<|
 ((zh qt6 qt9 qt7 qt8 qta t_N depth).bind fun r2 =>
 (some r2.1))))
 (some 3))))
 (some 4))
 (brE (ze qta)
 (some 1)
 (brE (zg t_N)
 (brE (zi t_N)
 (some 3)
 (gL q5k qt9<|
 ((zh qt6 qt9 qt7 qt8 qta t_N depth).bind fun r2 =>
 (some r2.1))))
 (some 3))))))
 (brE (r0.1==true)
 (brE (zk qt7)
 (brE (zm qt7)
 (some 10)
 (brE (r0.2.1==true)
 (brE (zj qt8)
 (brE (zn qt8)
 (some 4)
 (brE (ze qta)
 (some 1)
 (brE (zg t_N)
 (brE (zi t_N)
 (some 3)
 (gL q5k qt9<|
 ((zh qt6 qt9 qt7 qt8 qta t_N depth).bind fun r2 =>
 (some r2.1))))
 (some 3))))
 (some 4))
 (brE (ze qta)
 (some 1)
 (brE (zg t_N)
 (brE (zi t_N)
 (some 3)
 (gL q5k qt9<|
 ((zh qt6 qt9 qt7 qt8 qta t_N depth).bind fun r2 =>
 (some r2.1))))
 (some 3)))))
 (some 10))
 (brE (r0.2.1==true)
 (brE (zj qt8)
 (brE (zn qt8)
 (some 4)
 (brE (ze qta)
 (some 1)
 (brE (zg t_N)
 (brE (zi t_N)
 (some 3)
 (gL q5k qt9<|
 ((zh qt6 qt9 qt7 qt8 qta t_N depth).bind fun r2 =>
 (some r2.1))))
 (some 3))))
 (some 4))
 (brE (ze qta)
 (some 1)
 (brE (zg t_N)
 (brE (zi t_N)
 (some 3)
 (gL q5k qt9<|
 ((zh qt6 qt9 qt7 qt8 qta t_N depth).bind fun r2 =>
 (some r2.1))))
 (some 3)))))))
 (some 5))
 (brE ((!r0.2.1)==true)
 (brE ((qt8 != 0)==false)
 (brE ((!(qta.toList==(ByteArray.toList ⟨#[]⟩)))==false)
 (brE ((!r0.2.2)==true)
 (brE (t_N != 0)
 (some 5)
 (brE (r0.1==true)
 (brE (zk qt7)
 (brE (zm qt7)
 (some 10)
 (brE (r0.2.1==true)
 (brE (zj qt8)
 (brE (zn qt8)
 (some 4)
 (brE (ze qta)
 (some 1)
 (brE (zg t_N)
 (brE (zi t_N)
 (some 3)
 (gL q5k qt9<|
 ((zh qt6 qt9 qt7 qt8 qta t_N depth).bind fun r2 =>
 (some r2.1))))
 (some 3))))
 (some 4))
 (brE (ze qta)
 (some 1)
 (brE (zg t_N)
 (brE (zi t_N)
 (some 3)
 (gL q5k qt9<|
 ((zh qt6 qt9 qt7 qt8 qta t_N depth).bind fun r2 =>
 (some r2.1))))
 (some 3)))))
 (some 10))
 (brE (r0.2.1==true)
 (brE (zj qt8)
 (brE (zn qt8)
 (some 4)
 (brE (ze qta)
 (some 1)
 (brE (zg t_N)
 (brE (zi t_N)
 (some 3)
 (gL q5k qt9<|
 ((zh qt6 qt9 qt7 qt8 qta t_N depth).bind fun r2 =>
 (some r2.1))))
 (some 3))))
 (some 4))
 (brE (ze qta)
 (some 1)
 (brE (zg t_N)
 (brE (zi t_N)
 (some 3)
 (gL q5k qt9<|
 ((zh qt6 qt9 qt7 qt8 qta t_N depth).bind fun r2 =>
 (some r2.1))))
 (some 3))))))
 (brE (r0.1==true)
 (brE (zk qt7)
 (brE (zm qt7)
 (some 10)
 (brE (r0.2.1==true)
 (brE (zj qt8)
 (brE (zn qt8)
 (some 4)
 (brE (ze qta)
 (some 1)
 (brE (zg t_N)
 (brE (zi t_N)
 (some 3)
 (gL q5k qt9<|
 ((zh qt6 qt9 qt7 qt8 qta t_N depth).bind fun r2 =>
 (some r2.1))))
 (some 3))))
 (some 4))
 (brE (ze qta)
 (some 1)
 (brE (zg t_N)
 (brE (zi t_N)
 (some 3)
 (gL q5k qt9<|
 ((zh qt6 qt9 qt7 qt8 qta t_N depth).bind fun r2 =>
 (some r2.1))))
 (some 3)))))
 (some 10))
 (brE (r0.2.1==true)
 (brE (zj qt8)
 (brE (zn qt8)
 (some 4)
 (brE (ze qta)
 (some 1)
 (brE (zg t_N)
 (brE (zi t_N)
 (some 3)
 (gL q5k qt9<|
 ((zh qt6 qt9 qt7 qt8 qta t_N depth).bind fun r2 =>
 (some r2.1))))
 (some 3))))
 (some 4))
 (brE (ze qta)
 (some 1)
 (brE (zg t_N)
 (brE (zi t_N)
 (some 3)
 (gL q5k qt9<|
 ((zh qt6 qt9 qt7 qt8 qta t_N depth).bind fun r2 =>
 (some r2.1))))
 (some 3))))))
 (some 5))
 (some 5))
 (brE ((!r0.2.2)==true)
 (brE (t_N != 0)
 (some 5)
 (brE (r0.1==true)
 (brE (zk qt7)
 (brE (zm qt7)
 (some 10)
 (brE (r0.2.1==true)
 (brE (zj qt8)
 (brE (zn qt8)
 (some 4)
 (brE (ze qta)
 (some 1)
 (brE (zg t_N)
 (brE (zi t_N)
 (some 3)
 (gL q5k qt9<|
 ((zh qt6 qt9 qt7 qt8 qta t_N depth).bind fun r2 =>
 (some r2.1))))
 (some 3))))
 (some 4))
 (brE (ze qta)
 (some 1)
 (brE (zg t_N)
 (brE (zi t_N)
 (some 3)
 (gL q5k qt9<|
 ((zh qt6 qt9 qt7 qt8 qta t_N depth).bind fun r2 =>
 (some r2.1))))
 (some 3)))))
 (some 10))
 (brE (r0.2.1==true)
 (brE (zj qt8)
 (brE (zn qt8)
 (some 4)
 (brE (ze qta)
 (some 1)
 (brE (zg t_N)
 (brE (zi t_N)
 (some 3)
 (gL q5k qt9<|
 ((zh qt6 qt9 qt7 qt8 qta t_N depth).bind fun r2 =>
 (some r2.1))))
 (some 3))))
 (some 4))
 (brE (ze qta)
 (some 1)
 (brE (zg t_N)
 (brE (zi t_N)
 (some 3)
 (gL q5k qt9<|
 ((zh qt6 qt9 qt7 qt8 qta t_N depth).bind fun r2 =>
 (some r2.1))))
 (some 3))))))
 (brE (r0.1==true)
 (brE (zk qt7)
 (brE (zm qt7)
 (some 10)
 (brE (r0.2.1==true)
 (brE (zj qt8)
 (brE (zn qt8)
 (some 4)
 (brE (ze qta)
 (some 1)
 (brE (zg t_N)
 (brE (zi t_N)
 (some 3)
 (gL q5k qt9<|
 ((zh qt6 qt9 qt7 qt8 qta t_N depth).bind fun r2 =>
 (some r2.1))))
 (some 3))))
 (some 4))
 (brE (ze qta)
 (some 1)
 (brE (zg t_N)
 (brE (zi t_N)
 (some 3)
 (gL q5k qt9<|
 ((zh qt6 qt9 qt7 qt8 qta t_N depth).bind fun r2 =>
 (some r2.1))))
 (some 3)))))
 (some 10))
 (brE (r0.2.1==true)
 (brE (zj qt8)
 (brE (zn qt8)
 (some 4)
 (brE (ze qta)
 (some 1)
 (brE (zg t_N)
 (brE (zi t_N)
 (some 3)
 (gL q5k qt9<|
 ((zh qt6 qt9 qt7 qt8 qta t_N depth).bind fun r2 =>
 (some r2.1))))
 (some 3))))
 (some 4))
 (brE (ze qta)
 (some 1)
 (brE (zg t_N)
 (brE (zi t_N)
 (some 3)
 (gL q5k qt9<|
 ((zh qt6 qt9 qt7 qt8 qta t_N depth).bind fun r2 =>
 (some r2.1))))
 (some 3))))))))))))
 (some 4))))
theorem qpf {qt6 qt9 qt7 qt8 qta t_N depth r} (h:qpw qt6 qt9 qt7 qt8 qta t_N depth=some r):qpv qt6 qt9 qt7 qt8 qta t_N depth=some r :=
 q6x (es:=qtz) (hs:=[]) [qph] Tryz.func51 rfl (by kernel_rfl) rfl (by kernel_rfl) (by kernel_rfl) trivial ⟨⟨_,rfl,rfl⟩,trivial⟩ (by kernel_rfl) h
def qp6:=(qah z1k (qaj z1g))
def qp7:Cod (V×List B) Int:=(cFstU (cPair z1g qai))
def qpa (r_Kind r_Test_Kind:Int) (qfz:L57) (qfx:BA) (qfy:Int) (qg0:BA) (qfw:Int) (r_Then r_Else:L59) (r_Act:Int) (qfv qg1:BA) (r_N depth:Int):=fS Tryz.prog lv X0 31 qp6 qp7 ((r_Kind,r_Test_Kind,qfz,qfx,qfy,qg0,qfw,r_Then,r_Else,r_Act,qfv,qg1,r_N),depth)
def qpb (r_Kind r_Test_Kind:Int) (qfz:L57) (qfx:BA) (qfy:Int) (qg0:BA) (qfw:Int) (r_Then r_Else:L59) (r_Act:Int) (qfv qg1:BA) (r_N depth:Int):Oq Int :=
 (brE (decide (depth>8))
 (some 5)
 (brE ((decide (r_Kind<1))==false)
 (brE (decide (r_Kind>4))
 (some 4)
 (brE (r_Kind != 1)
 (gL q5k qfz<|
 (gL q5l r_Then<|
 (gL q5l r_Else<|
 ((qp4 r_Kind r_Test_Kind (dL q5k qfz) qfx qfy qg0 qfw (dL q5l r_Then) (dL q5l r_Else) r_Act qfv qg1 r_N).bind fun r0 =>
 (some r0)))))
 (brE ((r_Act != 0)==false)
 (brE ((!(qfv.toList==(ByteArray.toList ⟨#[]⟩)))==false)
 (brE ((!(qg1.toList==(ByteArray.toList ⟨#[]⟩)))==false)
 (brE (r_N != 0)
 (some 5)
 (gL q5k qfz<|
 ((qpv r_Test_Kind (dL q5k qfz) qfx qfy qg0 qfw 1).bind fun r0 =>
 (some r0))))
 (some 5))
 (some 5))
 (some 5))))
 (some 4)))
theorem qp9 {r_Kind r_Test_Kind qfz qfx qfy qg0 qfw r_Then r_Else r_Act qfv qg1 r_N depth r} (h:qpb r_Kind r_Test_Kind qfz qfx qfy qg0 qfw r_Then r_Else r_Act qfv qg1 r_N depth=some r):qpa r_Kind r_Test_Kind qfz qfx qfy qg0 qfw r_Then r_Else r_Act qfv qg1 r_N depth=some r :=
 q6x (es:=qtz) (hs:=[]) [] Tryz.func31 rfl (by kernel_rfl) rfl (by kernel_rfl) (by kernel_rfl) trivial trivial (by kernel_rfl) h
def qp8:=entS Tryz.prog lv X0 31 [] qp6 qp7 (fun x=>qpa x.1.1 x.1.2.1 x.1.2.2.1 x.1.2.2.2.1 x.1.2.2.2.2.1 x.1.2.2.2.2.2.1 x.1.2.2.2.2.2.2.1 x.1.2.2.2.2.2.2.2.1 x.1.2.2.2.2.2.2.2.2.1 x.1.2.2.2.2.2.2.2.2.2.1 x.1.2.2.2.2.2.2.2.2.2.2.1 x.1.2.2.2.2.2.2.2.2.2.2.2.1 x.1.2.2.2.2.2.2.2.2.2.2.2.2 x.2) (fun _ _ h=>q6w h)
def qty:=qp8::qtz
def q5i:EC (List S59) where
 enc x:=[.sl (q5l.encL x)]
 dec c:=q5l.decL (slOf (c.getD 0 .ne))
 is c:=isE [.sl] 0 c&&q5l.isL (slOf (c.getD 0 .ne))
 enc_dec h:=by
  simp only [Bool.and_eq_true] at h
  have h0:=q4x h.1
  simp only [decE,decC] at h0
  simp only [EC.encL_decL _ h.2]
  exact h0
 dec_enc x:=by simp [slOf]
 is_enc x:=by simp [isE,isK,slOf]
theorem enc_22 (x:(List S59)):q5i.enc x=[.sl (q5l.encL x)]:=rfl
theorem q20 (xs:List (List S59)) (n:Nat):slOf (((q5i.encL xs).getD n []).getD 0 .ne)=q5l.encL (xs.getD n (q5i.dec [])):=by
 by_cases h:n<xs.length
 ·simp only [EC.getD_lt _ _ h];simp [enc_22,h,slOf,List.getD_eq_getElem?_getD]
 ·simp only [EC.getD_ge _ _ (Nat.not_lt.1 h)];simp [Nat.not_lt.1 h,q5i,slOf,List.getD_eq_getElem?_getD,EC.decL,EC.encL]
def qi0:=(qaj z1o)
abbrev z1j:=(qd1 (bBox (qaj (vFn 30 (qah (vPtr 0 0) (qaj (vPtr 1 0)))))))
def qhy:=sLS [0,1,2,3] (qah z1o (qah z1g (qah (vPtr 0 0) (qaj (vPtr 1 0))))) (qah (qd1 (bBox (qaj z1g))) (qaj z1j)) [false,false] [0,1] (by decide) (fun _=>rfl)
def qhx:SC ((Int×Int)×(Int×(Unit×Unit))):=sLS [0] (qaj (vAgg (qah (vC (cInt .i64)) (qaj (vC (cInt .i64)))))) (qah (qd1 (bBox (qaj (vC (cInt .i64))))) (qaj (qd1 (bBox (qaj (vFn 30 (qah (vPtr 0 0) (qaj (vPtr 1 0))))))))) [false,false] [0,1] (by decide) (fun _=>rfl)
def qhw:HC ((Int×Int)×((Int×Int)×(Int×(Unit×Unit)))):=hPair (vAgg (qah (vC (cInt .i64)) (qaj (vC (cInt .i64))))) qhx
def qhd (l:L59) (depth b0:Int):=hS Tryz.prog lv X0 30 qhy qhw ((l,depth,(),()),(b0,((),())))
def qhe:=hentS Tryz.prog lv X0 30 [0,1,4,1,1,1,2,3,0,0,3,3,1,0,1,1,1,1,1,1,6,30,2,3,0,0,3,1,0,0,1] qhy qhw (fun x=>qhd x.1.1 x.1.2.1 x.2.1) (fun _ _ h=>q8p h)
def q92:=qhe::[]
abbrev z1p:=(qah (qd1 (bBox (qaj z1g))) (qah z1j (qah (qd1 (bBox z1i)) (qaj (qd1 (bRow q5i))))))
def qhm:=sLS [1,2,3,6,13,14,15,36,37,38] (qah z1g (qah (vPtr 0 0) (qah (vPtr 1 0) (qah (vPtr 2 0) (qah z1o (qah z1g (qah z1g (qah (vRow 3) z1i)))))))) z1p [false,false,false,false] [0,1] (by decide) (fun _=>rfl)
def qhl:=sLS [1,2,3,6,13,14,15,36,37,38,39] (qah z1g (qah (vPtr 0 0) (qah (vPtr 1 0) (qah (vPtr 2 0) (qah z1o (qah z1g (qah z1g (qah (vRow 3) z1m)))))))) z1p [false,false,false,false] [0,1] (by decide) (fun _=>rfl)
abbrev z1n:=(qah (qd1 (bBox z1i)) (qah (qd1 (bBox (qaj z1g))) (qaj (qd1 (bBox (qaj (vFn 30 (qah (vPtr 1 0) (qaj (vPtr 2 0))))))))))
def qhk:=sLS [6] (qaj (vPtr 0 0)) z1n [false,false,false] [1,2] (by decide) (fun _=>rfl)
def qhj:=oOr 1 qhk (oAt 4 qhl) (fun x=>(by decide:(4:Nat)≠1))
def qhg (depth:Int) (t13:L59) (t14 t15:Int) (t36:Nat) (t37 t38:Int) (b0 b2 b2_1:Int) (b3:(List L59)):=lS Tryz.prog lv X0 30 53 (q8l (cdF Tryz.f30) 11) qhm qhj ((depth,(),(),(),t13,t14,t15,t36,t37,t38),(b0,((),()),(b2,b2_1),b3))
def qhn (depth:Int) (t13:L59) (t14 t15:Int) (t36:Nat) (t37 t38:Int) (b0 b2 b2_1:Int) (b3:(List L59)):Oq ((Unit×((Int×Int)×Int×(Unit×Unit)))⊕((Int×Unit×Unit×Unit×L59×Int×Int×Nat×Int×Int×Bool)×(Int×(Unit×Unit)×(Int×Int)×(List L59)))) :=
 (brE (decide (t38<t37))
 (gdE ((p0 t38)&&(decide (t38<((t36:Nat):Int))))<|
 (gdE ((decide ((Int.toNat t38)<(lN q5i b3)))&&((List.length (List.getD (EC.encL q5i b3) (Int.toNat t38) []))==1))<|
 (gdE (isP [K1.sl] 0 (List.getD (EC.encL q5i b3) (Int.toNat t38) []))<|
 (gdE (EC.isL q5l (slOf (List.getD (List.getD (EC.encL q5i b3) (Int.toNat t38) []) 0 C.ne)))<|
 ((qhd (uL q5l (List.getD (List.getD (EC.encL q5i b3) (Int.toNat t38) []) 0 C.ne)) (wI depth) b0).bind fun r0 =>
 ((q2w r0.1.1 r0.1.2).bind fun r1 =>
 (brE r1
 (some (.inl ((),((r0.1.1,r0.1.2),(r0.2.2.1,((),()))))))
 (gL q5l t13<|
 (gL q5i b3<|
 (qhg depth (dL q5l t13) t14 t15 t36 t37 (wI t38) r0.2.2.1 b2 b2_1 (dL q5i b3)))))))))))
 (gL q5l t13<|
 (gL q5i b3<|
 (some (.inr ((depth,((),((),((),((dL q5l t13),(t14,(t15,(t36,(t37,(t38,false)))))))))),(b0,(((),()),((b2,b2_1),(dL q5i b3))))))))))
theorem qhi {depth t13 t14 t15 t36 t37 t38 b0 b2 b2_1 b3 r} (h:qhn depth t13 t14 t15 t36 t37 t38 b0 b2 b2_1 b3=some r):qhg depth t13 t14 t15 t36 t37 t38 b0 b2 b2_1 b3=some r :=
 qal (es:=qty) (hs:=q92) [] (by kernel_rfl) trivial trivial (by kernel_rfl) h
def qhh:=qb9 Tryz.prog lv X0 11 (q8l (cdF Tryz.f30) 11) qhm qhj (fun x=>qhg x.1.1 x.1.2.2.2.2.1 x.1.2.2.2.2.2.1 x.1.2.2.2.2.2.2.1 x.1.2.2.2.2.2.2.2.1 x.1.2.2.2.2.2.2.2.2.1 x.1.2.2.2.2.2.2.2.2.2 x.2.1 x.2.2.2.1.1 x.2.2.2.1.2 x.2.2.2.2) (fun _ _ h=>qak h)
abbrev z1q:=(qah (qd1 (bBox (qaj z1g))) (qah z1j (qaj (qd1 (bBox z1i)))))
def qhu:=sLS [1,2,3,6,13,14,15] (qah z1g (qah (vPtr 0 0) (qah (vPtr 1 0) (qah (vPtr 2 0) (qah z1o z1i))))) z1q [false,false,false] [0,1] (by decide) (fun _=>rfl)
def qht:=sLS [1,2,3,6,13,14,15,16] (qah z1g (qah (vPtr 0 0) (qah (vPtr 1 0) (qah (vPtr 2 0) (qah z1o z1m))))) z1q [false,false,false] [0,1] (by decide) (fun _=>rfl)
def qhs:=sLS [6] (qaj (vPtr 0 0)) z1n [false,false,false] [1,2] (by decide) (fun _=>rfl)
def qhr:=oOr 1 qhs (oAt 2 qht) (fun x=>(by decide:(2:Nat)≠1))
def qho (depth:Int) (t13:L59) (t14 t15:Int) (b0 b2 b2_1:Int):=lS Tryz.prog lv X0 30 53 (q8l (cdF Tryz.f30) 2) qhu qhr ((depth,(),(),(),t13,t14,t15),(b0,((),()),(b2,b2_1)))
abbrev zo (t13:L59) (t15:Int):=(List.getD (EC.encL q5l t13) (Int.toNat t15) [])
def qhv (depth:Int) (t13:L59) (t14 t15:Int) (b0 b2 b2_1:Int):Oq ((Unit×((Int×Int)×Int×(Unit×Unit)))⊕((Int×Unit×Unit×Unit×L59×Int×Int×Bool)×(Int×(Unit×Unit)×(Int×Int)))) :=
 (brE (decide (t15<t14))
 (gdE (p0 t15)<|
 (gdE (eC q5l t13 t15 [(K1.int Go.IntKind.i64),(K1.int Go.IntKind.i64),K1.sl,K1.str,(K1.int Go.IntKind.i64),K1.str,(K1.int Go.IntKind.i64),K1.sl,K1.sl,(K1.int Go.IntKind.i64),K1.str,K1.str,(K1.int Go.IntKind.i64)])<|
 (brE (b0==100)
 ((q32 2 (-1)).bind fun r0 =>
 (some (.inl ((),((r0.1,r0.2),(b0,((),())))))))
 (gdE (EC.isL q5k (slOf (List.getD (zo t13 t15) 2 C.ne)))<|
 (gdE (EC.isL q5l (slOf (List.getD (zo t13 t15) 7 C.ne)))<|
 (gdE (EC.isL q5l (slOf (List.getD (zo t13 t15) 8 C.ne)))<|
 ((qpa (q9n (List.getD (zo t13 t15) 0 C.ne)) (q9n (List.getD (zo t13 t15) 1 C.ne)) (uL q5k (List.getD (zo t13 t15) 2 C.ne)) (qss (List.getD (zo t13 t15) 3 C.ne)) (q9n (List.getD (zo t13 t15) 4 C.ne)) (qss (List.getD (zo t13 t15) 5 C.ne)) (q9n (List.getD (zo t13 t15) 6 C.ne)) (uL q5l (List.getD (zo t13 t15) 7 C.ne)) (uL q5l (List.getD (zo t13 t15) 8 C.ne)) (q9n (List.getD (zo t13 t15) 9 C.ne)) (qss (List.getD (zo t13 t15) 10 C.ne)) (qss (List.getD (zo t13 t15) 11 C.ne)) (q9n (List.getD (zo t13 t15) 12 C.ne)) depth).bind fun r0 =>
 (brE (r0 != 0)
 ((q32 r0 b0).bind fun r1 =>
 (some (.inl ((),((r1.1,r1.2),(b0,((),())))))))
 (gL q5l t13<|
 (gdE (EC.isL q5i [[(C.sl (slOf (List.getD (zo t13 t15) 7 C.ne)))],[(C.sl (slOf (List.getD (zo t13 t15) 8 C.ne)))]])<|
 (Option.bind (qhg depth (dL q5l t13) t14 t15 2 ((2:Nat):Int) 0 (wI b0) b2 b2_1 (EC.decL q5i [[(C.sl (slOf (List.getD (zo t13 t15) 7 C.ne)))],[(C.sl (slOf (List.getD (zo t13 t15) 8 C.ne)))]])) fun r1 =>
 (Sum.elim (fun r2=>(some (.inl ((),((r2.2.1.1,r2.2.1.2),(r2.2.2.1,((),())))))))
 (fun r2=>(gdE (EC.isL q5l (EC.encL q5l r2.1.2.2.2.2.1))<|
 (qho r2.1.1 (dL q5l r2.1.2.2.2.2.1) r2.1.2.2.2.2.2.1 (wI r2.1.2.2.2.2.2.2.1) r2.2.1 r2.2.2.2.1.1 r2.2.2.2.1.2))) r1))))))))))))
 (gL q5l t13<|
 (some (.inr ((depth,((),((),((),((dL q5l t13),(t14,(t15,false))))))),(b0,(((),()),(b2,b2_1))))))))
theorem qhq {depth t13 t14 t15 b0 b2 b2_1 r} (h:qhv depth t13 t14 t15 b0 b2 b2_1=some r):qho depth t13 t14 t15 b0 b2 b2_1=some r :=
 qal (es:=qty) (hs:=q92) [qhh] (by kernel_rfl) ⟨⟨_,rfl,rfl⟩,trivial⟩ trivial (by kernel_rfl) h
def qhp:=qb9 Tryz.prog lv X0 2 (q8l (cdF Tryz.f30) 2) qhu qhr (fun x=>qho x.1.1 x.1.2.2.2.2.1 x.1.2.2.2.2.2.1 x.1.2.2.2.2.2.2 x.2.1 x.2.2.2.1 x.2.2.2.2) (fun _ _ h=>qak h)
def qhz (l:L59) (depth b0:Int):Oq ((Int×Int)×((Int×Int)×(Int×(Unit×Unit)))) :=
 (gL q5l l<|
 ((qho depth (dL q5l l) (lN q5l l:Int) 0 b0 0 0).bind fun r0 =>
 (Sum.elim (fun r1=>(some ((r1.2.1.1,r1.2.1.2),((r1.2.1.1,r1.2.1.2),(r1.2.2.1,((),()))))))
 (fun r1=>(Option.bind q38 fun r2 =>
 (some ((r2.1,r2.2),((r2.1,r2.2),(r1.2.1,((),()))))))) r0)))
theorem qhf {l depth b0 r} (h:qhz l depth b0=some r):qhd l depth b0=some r :=
 q8q (fn:=Tryz.f30) (es:=qty) (hs:=q92) [qhp] (by kernel_rfl) rfl (by kernel_rfl) (by kernel_rfl) ⟨⟨_,rfl,rfl⟩,trivial⟩ trivial (by kernel_rfl) h
def qi1:Cod (V×List B) (Int×Int):=(cFstU (cPair (vAgg z1i) qai))
def qi4 (s:L59):=fS Tryz.prog lv X0 14 qi0 qi1 s
def qi5 (s:L59):Oq (Int×Int) :=
 (gL q5l s<|
 ((qhd (dL q5l s) 1 0).bind fun r0 =>
 (some (r0.1.1,r0.1.2))))
theorem qi3 {s r} (h:qi5 s=some r):qi4 s=some r :=
 q6x (es:=qty) (hs:=q92) [] Tryz.func14 rfl (by kernel_rfl) rfl (by kernel_rfl) (by kernel_rfl) trivial trivial (by kernel_rfl) h
def qi2:=entS Tryz.prog lv X0 14 [] qi0 qi1 (fun x=>qi4 x) (fun _ _ h=>q6w h)
def qtm:=qi2::qty
end
end Go.Proofs.YtognhcibcocbkaaGreatDoor
