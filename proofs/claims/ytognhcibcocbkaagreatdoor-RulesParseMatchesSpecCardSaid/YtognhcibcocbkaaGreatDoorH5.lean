/- Functions of the program as plain functions: made by program from the machine. -/
import Derived.Test.YtognhcibcocbkaaGreatDoorZ23
namespace Go.Proofs.YtognhcibcocbkaaGreatDoor
open Go.RowKit
set_option maxRecDepth 100000
noncomputable section
structure S53 where
 Kind:Int
 Text:ByteArray
 At:Int
abbrev L53:=List S53
def q5s:EC S53 where
 enc x:=[.int .u8 x.Kind,.str x.Text,.int .i64 x.At]
 dec c:=⟨qa0 (c.getD 0 .ne),q135 (c.getD 1 .ne),qa0 (c.getD 2 .ne)⟩
 is c:=isE [.int .u8,.str,.int .i64] 0 c
 enc_dec h:=q57 h
 dec_enc x:=by rfl
 is_enc x:=by simp [isE,isK]
theorem q65 (x:S53):q5s.enc x=[.int .u8 x.Kind,.str x.Text,.int .i64 x.At]:=rfl
theorem qa9 (xs:List S53) (n:Nat):isE [.int .u8,.str,.int .i64] 0 ((q5s.encL xs).getD n [])=decide (n<xs.length):=by
 by_cases h:n<xs.length
 ·simp only [EC.getD_lt _ _ h];simp [q65,isE,isK,h]
 ·simp only [EC.getD_ge _ _ (Nat.not_lt.1 h)];simp [isE,isK,h]
theorem q27 (xs:List S53) (n:Nat):qa0 (((q5s.encL xs).getD n []).getD 0 .ne)=(xs.getD n (q5s.dec [])).Kind:=by
 by_cases h:n<xs.length
 ·simp only [EC.getD_lt _ _ h];simp [q65,h,q135,qa0,q3v,slOf,List.getD_eq_getElem?_getD]
 ·simp only [EC.getD_ge _ _ (Nat.not_lt.1 h)];simp [Nat.not_lt.1 h,q5s,q135,qa0,q3v,slOf,List.getD_eq_getElem?_getD,EC.decL,EC.encL]
theorem q28 (xs:List S53) (n:Nat):q135 (((q5s.encL xs).getD n []).getD 1 .ne)=(xs.getD n (q5s.dec [])).Text:=by
 by_cases h:n<xs.length
 ·simp only [EC.getD_lt _ _ h];simp [q65,h,q135,qa0,q3v,slOf,List.getD_eq_getElem?_getD]
 ·simp only [EC.getD_ge _ _ (Nat.not_lt.1 h)];simp [Nat.not_lt.1 h,q5s,q135,qa0,q3v,slOf,List.getD_eq_getElem?_getD,EC.decL,EC.encL]
theorem q29 (xs:List S53) (n:Nat):qa0 (((q5s.encL xs).getD n []).getD 2 .ne)=(xs.getD n (q5s.dec [])).At:=by
 by_cases h:n<xs.length
 ·simp only [EC.getD_lt _ _ h];simp [q65,h,q135,qa0,q3v,slOf,List.getD_eq_getElem?_getD]
 ·simp only [EC.getD_ge _ _ (Nat.not_lt.1 h)];simp [Nat.not_lt.1 h,q5s,q135,qa0,q3v,slOf,List.getD_eq_getElem?_getD,EC.decL,EC.encL]
theorem lit_53 (a0:Int) (a1:ByteArray) (a2:Int):([.int .u8 a0,.str a1,.int .i64 a2]:List C)=q5s.enc (⟨a0,a1,a2⟩:S53):=rfl
theorem q20 (xs:List S53) (a0:Int) (a1:ByteArray) (a2:Int):q5s.encL xs++[[.int .u8 a0,.str a1,.int .i64 a2]]=q5s.encL (xs++[(⟨a0,a1,a2⟩:S53)]):=by rw [lit_53];simp [EC.encL]
theorem q1k (xs:List S53):(q5s.encL xs).all (fun (el:List C)=>el.length==3)=true:=by induction xs with|nil=>rfl|cons x xs ih=>first|(simp [EC.encL,q65];done)|simpa [EC.encL,q65] using ih
def qmj:=(qb9 (vC cStr))
abbrev z2c:=(vC (cInt .i64))
abbrev z2g:=(qb9 (qdm (bRow q5s)))
abbrev z2h:=(qb7 (vC cStr) (qb7 (vRow 0) (qb7 z2c (qb7 z2c (qb7 (vC cStr) (qb9 (vC cBool)))))))
def qms:=sLS [0,3,4,6,8,9] z2h z2g [false] [] (by decide) (fun _=>rfl)
def qmr:=sLS [0,3,4,6,8,9] z2h z2g [false] [] (by decide) (fun _=>rfl)
def qmq:=oAt 0 qmr
def qmn (text:BA) (out:Nat) (i from_:Int) (s:BA) (bad:Bool) (b0:L53):=gS Tryz.prog lv X0 23 147 (q8y (cdF Tryz.f23) 19) qms qmq ((text,out,i,from_,s,bad),b0)
def qmt (text:BA) (out:Nat) (i from_:Int) (s:BA) (bad:Bool) (b0:L53):Oq ((BA×Nat×Int×Int×BA×Bool)×L53) :=
 (gdE ((p0 (wI i))&&(decide ((wI i)≤(text.size:Int))))<|
 (gdE ((p0 i)&&(decide (i≤(((Int.toNat (wI i)):Nat):Int))))<|
 (brE (decide ((((s.size+(ByteArray.size (ByteArray.extract text (Int.toNat i) (Int.toNat (wI i))))):Nat):Int)>(Go.IntKind.max Go.IntKind.i64)))
 none
 (gL q5s b0<|
 (some ((text,(out,((wI i),(from_,((s++(ByteArray.extract text (Int.toNat i) (Int.toNat (wI i)))),bad))))),(dL q5s b0)))))))
theorem qmp {text out i from_ s bad b0 r} (h:qmt text out i from_ s bad b0=some r):qmn text out i from_ s bad b0=some r :=
 q8r (es:=tabj) (hs:=q9f) [] (by kernel_rfl) trivial trivial (by kernel_rfl) h
def qmo:=gentS Tryz.prog lv X0 19 (q8y (cdF Tryz.f23) 19) (by kernel_rfl) qms qmq (fun x=>qmn x.1.1 x.1.2.1 x.1.2.2.1 x.1.2.2.2.1 x.1.2.2.2.2.1 x.1.2.2.2.2.2 x.2) (fun _ _ h=>q8q h)
def qn8:=sLS [0,3,4,6,8,9] z2h z2g [false] [] (by decide) (fun _=>rfl)
def qn5:=sLS [0,3,4,6,8,9] z2h z2g [false] [] (by decide) (fun _=>rfl)
def qn6:SC ((ByteArray×Nat×Int×Int×ByteArray×Bool×Bool)×(List S53)):=sLS [0,3,4,6,8,9,68] (qb7 (vC cStr) (qb7 (vRow 0) (qb7 (vC (cInt .i64)) (qb7 (vC (cInt .i64)) (qb7 (vC cStr) (qb7 (vC cBool) (qb9 (vC cBool)))))))) (qb9 (qdm (bRow q5s))) [false] [] (by decide) (fun _=>rfl)
def qn7:SC ((ByteArray×Nat×Int×Int×ByteArray×Bool×Bool)×(List S53)):=sLS [0,3,4,6,8,9,42] (qb7 (vC cStr) (qb7 (vRow 0) (qb7 (vC (cInt .i64)) (qb7 (vC (cInt .i64)) (qb7 (vC cStr) (qb7 (vC cBool) (qb9 (vC cBool)))))))) (qb9 (qdm (bRow q5s))) [false] [] (by decide) (fun _=>rfl)
def qn4:=oOrK 4 [0,3,4,6,8,9,42] qn7 (oOrK 4 [0,3,4,6,8,9,68] qn6 (oAt 4 qn5) (fun x y=>.inr (st_ne 68 (by decide:(false:Bool)≠true)))) (fun x y=>(match y with|.inl _=>.inr (st_ne 42 (by decide:(false:Bool)≠true))|.inr y=>.inr (st_ne 42 (by decide:(false:Bool)≠true))))
def qn1 (text:BA) (out:Nat) (i from_:Int) (s:BA) (bad:Bool) (b0:L53):=lS Tryz.prog lv X0 23 147 (q8x (cdF Tryz.f23) 13) qn8 qn4 ((text,out,i,from_,s,bad),b0)
def qn9 (text:BA) (out:Nat) (i from_:Int) (s:BA) (bad:Bool) (b0:L53):Oq (((BA×Nat×Int×Int×BA×Bool×Bool)×L53)⊕(((BA×Nat×Int×Int×BA×Bool×Bool)×L53)⊕((BA×Nat×Int×Int×BA×Bool)×L53))) :=
 (brE (decide (i<(text.size:Int)))
 (gdE ((p0 i)&&(decide ((Int.toNat i)<text.size)))<|
 (brE ((((UInt8.toNat (Array.getD text.data (Int.toNat i) (0:UInt8))):Nat):Int)==34)
 (gL q5s b0<|
 (some (.inr (.inr ((text,(out,(i,(from_,(s,false))))),(dL q5s b0))))))
 (gdE ((p0 i)&&(decide ((Int.toNat i)<text.size)))<|
 (brE ((((UInt8.toNat (Array.getD text.data (Int.toNat i) (0:UInt8))):Nat):Int)==92)
 (brE (((wI i)==(text.size:Int))==false)
 (gdE ((p0 (wI i))&&(decide ((Int.toNat (wI i))<text.size)))<|
 (brE (((((UInt8.toNat (Array.getD text.data (Int.toNat (wI i)) (0:UInt8))):Nat):Int) != 34)==true)
 (gdE ((p0 (wI i))&&(decide ((Int.toNat (wI i))<text.size)))<|
 (brE ((((UInt8.toNat (Array.getD text.data (Int.toNat (wI i)) (0:UInt8))):Nat):Int) != 92)
 (gL q5s b0<|
 (some (.inr (.inl ((text,(out,((wI i),(from_,(s,(bad,true)))))),(dL q5s b0))))))
 (gL q5s b0<|
 ((qmn text out (wI i) from_ s bad (dL q5s b0)).bind fun r0 =>
 (gL q5s r0.2<|
 (qn1 r0.1.1 r0.1.2.1 r0.1.2.2.1 r0.1.2.2.2.1 r0.1.2.2.2.2.1 r0.1.2.2.2.2.2 (dL q5s r0.2)))))))
 (gL q5s b0<|
 ((qmn text out (wI i) from_ s bad (dL q5s b0)).bind fun r0 =>
 (gL q5s r0.2<|
 (qn1 r0.1.1 r0.1.2.1 r0.1.2.2.1 r0.1.2.2.2.1 r0.1.2.2.2.2.1 r0.1.2.2.2.2.2 (dL q5s r0.2)))))))
 (gL q5s b0<|
 (some (.inr (.inl ((text,(out,((wI i),(from_,(s,(bad,true)))))),(dL q5s b0)))))))
 (gL q5s b0<|
 ((qmn text out i from_ s bad (dL q5s b0)).bind fun r0 =>
 (gL q5s r0.2<|
 (qn1 r0.1.1 r0.1.2.1 r0.1.2.2.1 r0.1.2.2.2.1 r0.1.2.2.2.2.1 r0.1.2.2.2.2.2 (dL q5s r0.2)))))))))
 (gL q5s b0<|
 (some (.inl ((text,(out,(i,(from_,(s,(bad,false)))))),(dL q5s b0))))))
theorem qn3 {text out i from_ s bad b0 r} (h:qn9 text out i from_ s bad b0=some r):qn1 text out i from_ s bad b0=some r :=
 qbb (es:=tabj) (hs:=q9f) [qmo] (by kernel_rfl) trivial ⟨⟨_,rfl,rfl⟩,trivial⟩ (by kernel_rfl) h
def qn2:=qby Tryz.prog lv X0 13 (q8x (cdF Tryz.f23) 13) qn8 qn4 (fun x=>qn1 x.1.1 x.1.2.1 x.1.2.2.1 x.1.2.2.2.1 x.1.2.2.2.2.1 x.1.2.2.2.2.2 x.2) (fun _ _ h=>qba h)
abbrev z2l:=(qb7 (vC cStr) (qb7 (vRow 0) (qb7 z2c (qb7 z2c (qb9 (vC (cInt .u8)))))))
def qnf:=sLS [0,3,4,6,7] z2l z2g [false] [] (by decide) (fun _=>rfl)
abbrev z2o:=(qb9 (vC cBool))
abbrev z2r:=(qb7 (vC cStr) (qb7 (vRow 0) (qb7 z2c (qb7 z2c (qb7 (vC (cInt .u8)) z2o)))))
def qne:=sLS [0,3,4,6,7,113] z2r z2g [false] [] (by decide) (fun _=>rfl)
def qnd:=oAt 6 qne
def qna (text:BA) (out:Nat) (i from_ kind:Int) (b0:L53):=lS Tryz.prog lv X0 23 147 (q8x (cdF Tryz.f23) 28) qnf qnd ((text,out,i,from_,kind),b0)
def qng (text:BA) (out:Nat) (i from_ kind:Int) (b0:L53):Oq ((BA×Nat×Int×Int×Int×Bool)×L53) :=
 (brE ((decide (i<(text.size:Int)))==true)
 (gdE ((p0 i)&&(decide ((Int.toNat i)<text.size)))<|
 (Option.bind (qes (IntKind.wrap .i64 (((UInt8.toNat (Array.getD text.data (Int.toNat i) (0:UInt8))):Nat):Int)) 97 122) fun r0 =>
 (brE (r0==false)
 (gdE ((p0 i)&&(decide ((Int.toNat i)<text.size)))<|
 (Option.bind (qes (IntKind.wrap .i64 (((UInt8.toNat (Array.getD text.data (Int.toNat i) (0:UInt8))):Nat):Int)) 48 57) fun r1 =>
 (brE r1
 (gL q5s b0<|
 (qna text out (wI i) from_ kind (dL q5s b0)))
 (gL q5s b0<|
 (some ((text,(out,(i,(from_,(kind,false))))),(dL q5s b0)))))))
 (gL q5s b0<|
 (qna text out (wI i) from_ kind (dL q5s b0))))))
 (gL q5s b0<|
 (some ((text,(out,(i,(from_,(kind,false))))),(dL q5s b0)))))
theorem qnc {text out i from_ kind b0 r} (h:qng text out i from_ kind b0=some r):qna text out i from_ kind b0=some r :=
 qbb (es:=tabj) (hs:=q9f) [] (by kernel_rfl) trivial trivial (by kernel_rfl) h
def qnb:=qby Tryz.prog lv X0 28 (q8x (cdF Tryz.f23) 28) qnf qnd (fun x=>qna x.1.1 x.1.2.1 x.1.2.2.1 x.1.2.2.2.1 x.1.2.2.2.2 x.2) (fun _ _ h=>qba h)
def qnn:=sLS [0,3,4,6,7] z2l z2g [false] [] (by decide) (fun _=>rfl)
def qnm:=sLS [0,3,4,6,7,128] z2r z2g [false] [] (by decide) (fun _=>rfl)
def qnl:=oAt 8 qnm
def qni (text:BA) (out:Nat) (i from_ kind:Int) (b0:L53):=lS Tryz.prog lv X0 23 147 (q8x (cdF Tryz.f23) 32) qnn qnl ((text,out,i,from_,kind),b0)
def qno (text:BA) (out:Nat) (i from_ kind:Int) (b0:L53):Oq ((BA×Nat×Int×Int×Int×Bool)×L53) :=
 (brE ((decide (i<(text.size:Int)))==true)
 (gdE ((p0 i)&&(decide ((Int.toNat i)<text.size)))<|
 (Option.bind (qes (IntKind.wrap .i64 (((UInt8.toNat (Array.getD text.data (Int.toNat i) (0:UInt8))):Nat):Int)) 48 57) fun r0 =>
 (brE r0
 (gL q5s b0<|
 (qni text out (wI i) from_ kind (dL q5s b0)))
 (gL q5s b0<|
 (some ((text,(out,(i,(from_,(kind,false))))),(dL q5s b0)))))))
 (gL q5s b0<|
 (some ((text,(out,(i,(from_,(kind,false))))),(dL q5s b0)))))
theorem qnk {text out i from_ kind b0 r} (h:qno text out i from_ kind b0=some r):qni text out i from_ kind b0=some r :=
 qbb (es:=tabj) (hs:=q9f) [] (by kernel_rfl) trivial trivial (by kernel_rfl) h
def qnj:=qby Tryz.prog lv X0 32 (q8x (cdF Tryz.f23) 32) qnn qnl (fun x=>qni x.1.1 x.1.2.1 x.1.2.2.1 x.1.2.2.2.1 x.1.2.2.2.2 x.2) (fun _ _ h=>qba h)
def qmz:=sLS [0,3,4,6,7] z2l z2g [false] [] (by decide) (fun _=>rfl)
def qmy:=sLS [0,3,4] (qb7 (vC cStr) (qb7 (vRow 0) (qb9 z2c))) z2g [false] [] (by decide) (fun _=>rfl)
def qmx:=oAt 0 qmy
def qmu (text:BA) (out:Nat) (i from_ kind:Int) (b0:L53):=gS Tryz.prog lv X0 23 147 (q8y (cdF Tryz.f23) 34) qmz qmx ((text,out,i,from_,kind),b0)
abbrev z17 (text:BA) (i from_:Int):=(C.str (ByteArray.extract text (Int.toNat from_) (Int.toNat i)))
def qn0 (text:BA) (out:Nat) (i from_ kind:Int) (b0:L53):Oq ((BA×Nat×Int)×L53) :=
 (gdE ((p0 i)&&(decide (i≤(text.size:Int))))<|
 (gdE ((p0 from_)&&(decide (from_≤(((Int.toNat i):Nat):Int))))<|
 (gdE ((((aL [[(C.int Go.IntKind.u8 kind),(z17 text i from_),(C.int Go.IntKind.i64 from_)]] 3)&&(aL (EC.encL q5s b0) 3))&&(dQ (out+(List.length [[(C.int Go.IntKind.u8 kind),(z17 text i from_),(C.int Go.IntKind.i64 from_)]])) 32))&&(decide ((out+(List.length [[(C.int Go.IntKind.u8 kind),(z17 text i from_),(C.int Go.IntKind.i64 from_)]]))≤9223372036854775807)))<|
 (gdE (EC.isL q5s ((EC.encL q5s b0)++[[(C.int Go.IntKind.u8 kind),(z17 text i from_),(C.int Go.IntKind.i64 from_)]]))<|
 (some ((text,((out+(List.length [[(C.int Go.IntKind.u8 kind),(z17 text i from_),(C.int Go.IntKind.i64 from_)]])),i)),(EC.decL q5s ((EC.encL q5s b0)++[[(C.int Go.IntKind.u8 kind),(z17 text i from_),(C.int Go.IntKind.i64 from_)]]))))))))
theorem qmw {text out i from_ kind b0 r} (h:qn0 text out i from_ kind b0=some r):qmu text out i from_ kind b0=some r :=
 q8r (es:=tabj) (hs:=q9f) [] (by kernel_rfl) trivial trivial (by kernel_rfl) h
def qmv:=gentS Tryz.prog lv X0 34 (q8y (cdF Tryz.f23) 34) (by kernel_rfl) qmz qmx (fun x=>qmu x.1.1 x.1.2.1 x.1.2.2.1 x.1.2.2.2.1 x.1.2.2.2.2 x.2) (fun _ _ h=>q8q h)
def qnu:=sLS [0,3,4] (qb7 (vC cStr) (qb7 (vRow 0) (qb9 z2c))) z2g [false] [] (by decide) (fun _=>rfl)
def qnt:=sLS [0,3,4,13] (qb7 (vC cStr) (qb7 (vRow 0) (qb7 z2c z2o))) z2g [false] [] (by decide) (fun _=>rfl)
def qns:=sLS [2] (qb9 (vRow 0)) z2g [false] [] (by decide) (fun _=>rfl)
def qnr:=oOr 1 qns (oAt 2 qnt) (fun x=>(by decide:(2:Nat)≠1))
def qnh (text:BA) (out:Nat) (i:Int) (b0:L53):=lS Tryz.prog lv X0 23 147 (q8x (cdF Tryz.f23) 3) qnu qnr ((text,out,i),b0)
abbrev z18 (text:BA) (i:Int):=(IntKind.wrap .i64 (((UInt8.toNat (Array.getD text.data (Int.toNat i) (0:UInt8))):Nat):Int))
def qnv (text:BA) (out:Nat) (i:Int) (b0:L53):Oq ((Nat×L53)⊕((BA×Nat×Int×Bool)×L53)) :=
 (brE (decide (i<(text.size:Int)))
 (gdE ((p0 i)&&(decide ((Int.toNat i)<text.size)))<|
 (brE (((z18 text i)==32)==false)
 (brE (((z18 text i)==9)==false)
 (brE (((z18 text i)==10)==false)
 (brE ((z18 text i)==13)
 (gL q5s b0<|
 (qnh text out (wI i) (dL q5s b0)))
 (brE ((z18 text i)==34)
 (gL q5s b0<|
 ((qn1 text out (wI i) i ⟨#[]⟩ true (dL q5s b0)).bind fun r0 =>
 (Sum.elim (fun r1=>(brE r1.1.2.2.2.2.2.1
 (gdE ((((aL [[(C.int Go.IntKind.u8 120),(C.str ⟨#[]⟩),(C.int Go.IntKind.i64 r1.1.2.2.2.1)]] 3)&&(aL (EC.encL q5s r1.2) 3))&&(dQ (r1.1.2.1+(List.length [[(C.int Go.IntKind.u8 120),(C.str ⟨#[]⟩),(C.int Go.IntKind.i64 r1.1.2.2.2.1)]])) 32))&&(decide ((r1.1.2.1+(List.length [[(C.int Go.IntKind.u8 120),(C.str ⟨#[]⟩),(C.int Go.IntKind.i64 r1.1.2.2.2.1)]]))≤9223372036854775807)))<|
 (gdE (EC.isL q5s ((EC.encL q5s r1.2)++[[(C.int Go.IntKind.u8 120),(C.str ⟨#[]⟩),(C.int Go.IntKind.i64 r1.1.2.2.2.1)]]))<|
 (some (.inl ((r1.1.2.1+(List.length [[(C.int Go.IntKind.u8 120),(C.str ⟨#[]⟩),(C.int Go.IntKind.i64 r1.1.2.2.2.1)]])),(EC.decL q5s ((EC.encL q5s r1.2)++[[(C.int Go.IntKind.u8 120),(C.str ⟨#[]⟩),(C.int Go.IntKind.i64 r1.1.2.2.2.1)]])))))))
 (gdE ((((aL [[(C.int Go.IntKind.u8 113),(C.str r1.1.2.2.2.2.1),(C.int Go.IntKind.i64 r1.1.2.2.2.1)]] 3)&&(aL (EC.encL q5s r1.2) 3))&&(dQ (r1.1.2.1+(List.length [[(C.int Go.IntKind.u8 113),(C.str r1.1.2.2.2.2.1),(C.int Go.IntKind.i64 r1.1.2.2.2.1)]])) 32))&&(decide ((r1.1.2.1+(List.length [[(C.int Go.IntKind.u8 113),(C.str r1.1.2.2.2.2.1),(C.int Go.IntKind.i64 r1.1.2.2.2.1)]]))≤9223372036854775807)))<|
 (gdE (EC.isL q5s ((EC.encL q5s r1.2)++[[(C.int Go.IntKind.u8 113),(C.str r1.1.2.2.2.2.1),(C.int Go.IntKind.i64 r1.1.2.2.2.1)]]))<|
 (qnh r1.1.1 (r1.1.2.1+(List.length [[(C.int Go.IntKind.u8 113),(C.str r1.1.2.2.2.2.1),(C.int Go.IntKind.i64 r1.1.2.2.2.1)]])) (wI r1.1.2.2.1) (EC.decL q5s ((EC.encL q5s r1.2)++[[(C.int Go.IntKind.u8 113),(C.str r1.1.2.2.2.2.1),(C.int Go.IntKind.i64 r1.1.2.2.2.1)]])))))))
 (fun r1=>(Sum.elim (fun r2=>(brE r2.1.2.2.2.2.2.1
 (gdE ((((aL [[(C.int Go.IntKind.u8 120),(C.str ⟨#[]⟩),(C.int Go.IntKind.i64 r2.1.2.2.2.1)]] 3)&&(aL (EC.encL q5s r2.2) 3))&&(dQ (r2.1.2.1+(List.length [[(C.int Go.IntKind.u8 120),(C.str ⟨#[]⟩),(C.int Go.IntKind.i64 r2.1.2.2.2.1)]])) 32))&&(decide ((r2.1.2.1+(List.length [[(C.int Go.IntKind.u8 120),(C.str ⟨#[]⟩),(C.int Go.IntKind.i64 r2.1.2.2.2.1)]]))≤9223372036854775807)))<|
 (gdE (EC.isL q5s ((EC.encL q5s r2.2)++[[(C.int Go.IntKind.u8 120),(C.str ⟨#[]⟩),(C.int Go.IntKind.i64 r2.1.2.2.2.1)]]))<|
 (some (.inl ((r2.1.2.1+(List.length [[(C.int Go.IntKind.u8 120),(C.str ⟨#[]⟩),(C.int Go.IntKind.i64 r2.1.2.2.2.1)]])),(EC.decL q5s ((EC.encL q5s r2.2)++[[(C.int Go.IntKind.u8 120),(C.str ⟨#[]⟩),(C.int Go.IntKind.i64 r2.1.2.2.2.1)]])))))))
 (gdE ((((aL [[(C.int Go.IntKind.u8 113),(C.str r2.1.2.2.2.2.1),(C.int Go.IntKind.i64 r2.1.2.2.2.1)]] 3)&&(aL (EC.encL q5s r2.2) 3))&&(dQ (r2.1.2.1+(List.length [[(C.int Go.IntKind.u8 113),(C.str r2.1.2.2.2.2.1),(C.int Go.IntKind.i64 r2.1.2.2.2.1)]])) 32))&&(decide ((r2.1.2.1+(List.length [[(C.int Go.IntKind.u8 113),(C.str r2.1.2.2.2.2.1),(C.int Go.IntKind.i64 r2.1.2.2.2.1)]]))≤9223372036854775807)))<|
 (gdE (EC.isL q5s ((EC.encL q5s r2.2)++[[(C.int Go.IntKind.u8 113),(C.str r2.1.2.2.2.2.1),(C.int Go.IntKind.i64 r2.1.2.2.2.1)]]))<|
 (qnh r2.1.1 (r2.1.2.1+(List.length [[(C.int Go.IntKind.u8 113),(C.str r2.1.2.2.2.2.1),(C.int Go.IntKind.i64 r2.1.2.2.2.1)]])) (wI r2.1.2.2.1) (EC.decL q5s ((EC.encL q5s r2.2)++[[(C.int Go.IntKind.u8 113),(C.str r2.1.2.2.2.2.1),(C.int Go.IntKind.i64 r2.1.2.2.2.1)]])))))))
 (fun r2=>(brE r2.1.2.2.2.2.2
 (gdE ((((aL [[(C.int Go.IntKind.u8 120),(C.str ⟨#[]⟩),(C.int Go.IntKind.i64 r2.1.2.2.2.1)]] 3)&&(aL (EC.encL q5s r2.2) 3))&&(dQ (r2.1.2.1+(List.length [[(C.int Go.IntKind.u8 120),(C.str ⟨#[]⟩),(C.int Go.IntKind.i64 r2.1.2.2.2.1)]])) 32))&&(decide ((r2.1.2.1+(List.length [[(C.int Go.IntKind.u8 120),(C.str ⟨#[]⟩),(C.int Go.IntKind.i64 r2.1.2.2.2.1)]]))≤9223372036854775807)))<|
 (gdE (EC.isL q5s ((EC.encL q5s r2.2)++[[(C.int Go.IntKind.u8 120),(C.str ⟨#[]⟩),(C.int Go.IntKind.i64 r2.1.2.2.2.1)]]))<|
 (some (.inl ((r2.1.2.1+(List.length [[(C.int Go.IntKind.u8 120),(C.str ⟨#[]⟩),(C.int Go.IntKind.i64 r2.1.2.2.2.1)]])),(EC.decL q5s ((EC.encL q5s r2.2)++[[(C.int Go.IntKind.u8 120),(C.str ⟨#[]⟩),(C.int Go.IntKind.i64 r2.1.2.2.2.1)]])))))))
 (gdE ((((aL [[(C.int Go.IntKind.u8 113),(C.str r2.1.2.2.2.2.1),(C.int Go.IntKind.i64 r2.1.2.2.2.1)]] 3)&&(aL (EC.encL q5s r2.2) 3))&&(dQ (r2.1.2.1+(List.length [[(C.int Go.IntKind.u8 113),(C.str r2.1.2.2.2.2.1),(C.int Go.IntKind.i64 r2.1.2.2.2.1)]])) 32))&&(decide ((r2.1.2.1+(List.length [[(C.int Go.IntKind.u8 113),(C.str r2.1.2.2.2.2.1),(C.int Go.IntKind.i64 r2.1.2.2.2.1)]]))≤9223372036854775807)))<|
 (gdE (EC.isL q5s ((EC.encL q5s r2.2)++[[(C.int Go.IntKind.u8 113),(C.str r2.1.2.2.2.2.1),(C.int Go.IntKind.i64 r2.1.2.2.2.1)]]))<|
 (qnh r2.1.1 (r2.1.2.1+(List.length [[(C.int Go.IntKind.u8 113),(C.str r2.1.2.2.2.2.1),(C.int Go.IntKind.i64 r2.1.2.2.2.1)]])) (wI r2.1.2.2.1) (EC.decL q5s ((EC.encL q5s r2.2)++[[(C.int Go.IntKind.u8 113),(C.str r2.1.2.2.2.2.1),(C.int Go.IntKind.i64 r2.1.2.2.2.1)]]))))))) r1)) r0)))
 (Option.bind (qes (z18 text i) 97 122) fun r0 =>
 (brE r0
 (gL q5s b0<|
 ((qna text out (wI i) i 119 (dL q5s b0)).bind fun r1 =>
 (gL q5s r1.2<|
 ((qmu r1.1.1 r1.1.2.1 r1.1.2.2.1 r1.1.2.2.2.1 r1.1.2.2.2.2.1 (dL q5s r1.2)).bind fun r2 =>
 (gL q5s r2.2<|
 (qnh r2.1.1 r2.1.2.1 r2.1.2.2 (dL q5s r2.2)))))))
 (Option.bind (qes (z18 text i) 48 57) fun r1 =>
 (brE r1
 (gL q5s b0<|
 ((qni text out (wI i) i 110 (dL q5s b0)).bind fun r2 =>
 (gL q5s r2.2<|
 ((qmu r2.1.1 r2.1.2.1 r2.1.2.2.1 r2.1.2.2.2.1 r2.1.2.2.2.2.1 (dL q5s r2.2)).bind fun r3 =>
 (gL q5s r3.2<|
 (qnh r3.1.1 r3.1.2.1 r3.1.2.2 (dL q5s r3.2)))))))
 (gL q5s b0<|
 ((qmu text out (wI i) i 115 (dL q5s b0)).bind fun r2 =>
 (gL q5s r2.2<|
 (qnh r2.1.1 r2.1.2.1 r2.1.2.2 (dL q5s r2.2)))))))))))
 (gL q5s b0<|
 (qnh text out (wI i) (dL q5s b0))))
 (gL q5s b0<|
 (qnh text out (wI i) (dL q5s b0))))
 (gL q5s b0<|
 (qnh text out (wI i) (dL q5s b0)))))
 (gL q5s b0<|
 (some (.inr ((text,(out,(i,false))),(dL q5s b0))))))
theorem qnq {text out i b0 r} (h:qnv text out i b0=some r):qnh text out i b0=some r :=
 qbb (es:=tabj) (hs:=q9f) [qn2,qnb,qnj,qmv] (by kernel_rfl) ⟨⟨_,rfl,rfl⟩,⟨_,rfl,rfl⟩,⟨_,rfl,rfl⟩,trivial⟩ ⟨⟨_,rfl,rfl⟩,trivial⟩ (by kernel_rfl) h
def qnp:=qby Tryz.prog lv X0 3 (q8x (cdF Tryz.f23) 3) qnu qnr (fun x=>qnh x.1.1 x.1.2.1 x.1.2.2 x.2) (fun _ _ h=>qba h)
abbrev z2i:=(vC (cSl q5s))
def qmk:Cod (V×List B) (List S53):=(cFstU (cPair z2i qb8))
def qnw (text:BA):=fS Tryz.prog lv X0 23 qmj qmk text
def qnx (text:BA):Oq L53 :=
 ((qnh text 0 0 (EC.decL q5s [])).bind fun r0 =>
 (Sum.elim (fun r1=>(gdE (EC.isL q5s (EC.encL q5s r1.2))<|
 (some (dL q5s r1.2))))
 (fun r1=>(gdE ((((aL [[(C.int Go.IntKind.u8 101),(C.str ⟨#[]⟩),(C.int Go.IntKind.i64 ((r1.1.1.size:Nat):Int))]] 3)&&(aL (EC.encL q5s r1.2) 3))&&(dQ (r1.1.2.1+(List.length [[(C.int Go.IntKind.u8 101),(C.str ⟨#[]⟩),(C.int Go.IntKind.i64 ((r1.1.1.size:Nat):Int))]])) 32))&&(decide ((r1.1.2.1+(List.length [[(C.int Go.IntKind.u8 101),(C.str ⟨#[]⟩),(C.int Go.IntKind.i64 ((r1.1.1.size:Nat):Int))]]))≤9223372036854775807)))<|
 (gdE (EC.isL q5s ((EC.encL q5s r1.2)++[[(C.int Go.IntKind.u8 101),(C.str ⟨#[]⟩),(C.int Go.IntKind.i64 ((r1.1.1.size:Nat):Int))]]))<|
 (some (EC.decL q5s ((EC.encL q5s r1.2)++[[(C.int Go.IntKind.u8 101),(C.str ⟨#[]⟩),(C.int Go.IntKind.i64 ((r1.1.1.size:Nat):Int))]])))))) r0))
theorem qmm {text r} (h:qnx text=some r):qnw text=some r :=
 q75 (es:=tabj) (hs:=q9f) [qnp] Tryz.func23 rfl (by kernel_rfl) rfl (by kernel_rfl) (by kernel_rfl) ⟨⟨_,rfl,rfl⟩,trivial⟩ trivial (by kernel_rfl) h
def qml:=entS Tryz.prog lv X0 23 [] qmj qmk (fun x=>qnw x) (fun _ _ h=>q74 h)
def q142:=qml::tabj
abbrev z29:=(qb7 (vC (cInt .i64)) (qb7 (vC (cInt .i64)) (qb9 (vC (cInt .i64)))))
abbrev z2t:=(qb7 z2i (qb7 (vAgg z29) (qb7 (vC (cInt .u8)) (qb9 (vC cStr)))))
def qoc:=z2t
def qod:Cod (V×List B) Bool:=(cFstU (cPair (vC cBool) qb8))
def qog (l:L53) (r_Next r_Many:Int) (r_Bad kind:Int) (text:BA):=fS Tryz.prog lv X0 44 qoc qod (l,(r_Next,r_Many,r_Bad),kind,text)
def qoh (l:L53) (r_Next r_Many:Int) (r_Bad kind:Int) (text:BA):Oq Bool :=
 (gdE (p0 r_Next)<|
 (gdE (eC q5s l r_Next [(K1.int Go.IntKind.u8),K1.str,(K1.int Go.IntKind.i64)])<|
 (brE (((qa0 (List.getD (List.getD (EC.encL q5s l) (Int.toNat r_Next) []) 0 C.ne))==kind)==true)
 (gdE (p0 r_Next)<|
 (gdE (eC q5s l r_Next [(K1.int Go.IntKind.u8),K1.str,(K1.int Go.IntKind.i64)])<|
 (some ((ByteArray.toList (q135 (List.getD (List.getD (EC.encL q5s l) (Int.toNat r_Next) []) 1 C.ne)))==text.toList))))
 (some false))))
theorem qof {l r_Next r_Many r_Bad kind text r} (h:qoh l r_Next r_Many r_Bad kind text=some r):qog l r_Next r_Many r_Bad kind text=some r :=
 q75 (es:=q142) (hs:=q9f) [] Tryz.func44 rfl (by kernel_rfl) rfl (by kernel_rfl) (by kernel_rfl) trivial trivial (by kernel_rfl) h
def qoe:=entS Tryz.prog lv X0 44 [] qoc qod (fun x=>qog x.1 x.2.1.1 x.2.1.2.1 x.2.1.2.2 x.2.2.1 x.2.2.2) (fun _ _ h=>q74 h)
def q144:=qoe::q142
abbrev z2n:=(qb7 z2i (qb7 (vAgg z29) (qb9 z2c)))
def qqa:=z2n
def qqb:Cod (V×List B) (Int×Int×Int):=(cFstU (cPair (vAgg z29) qb8))
def qqe (l:L53) (r_Next r_Many:Int) (r_Bad token:Int):=fS Tryz.prog lv X0 25 qqa qqb (l,(r_Next,r_Many,r_Bad),token)
def qqf (l:L53) (r_Next r_Many:Int) (r_Bad token:Int):Oq (Int×Int×Int) :=
 (brE (decide (r_Bad<0))
 (gdE (p0 token)<|
 (gdE (eC q5s l token [(K1.int Go.IntKind.u8),K1.str,(K1.int Go.IntKind.i64)])<|
 (some (r_Next,(r_Many,(qa0 (List.getD (List.getD (EC.encL q5s l) (Int.toNat token) []) 2 C.ne)))))))
 (some (r_Next,(r_Many,r_Bad))))
theorem qqd {l r_Next r_Many r_Bad token r} (h:qqf l r_Next r_Many r_Bad token=some r):qqe l r_Next r_Many r_Bad token=some r :=
 q75 (es:=q144) (hs:=q9f) [] Tryz.func25 rfl (by kernel_rfl) rfl (by kernel_rfl) (by kernel_rfl) trivial trivial (by kernel_rfl) h
def qqc:=entS Tryz.prog lv X0 25 [] qqa qqb (fun x=>qqe x.1 x.2.1.1 x.2.1.2.1 x.2.1.2.2 x.2.2) (fun _ _ h=>q74 h)
def q14c:=qqc::q144
def qpy:=(qb7 z2i (qb7 (vAgg z29) (qb9 (vC (cInt .u8)))))
abbrev z2q:=(qb9 (vAgg z29))
def qpz:Cod (V×List B) (ByteArray×(Int×Int×Int)):=(cFstU (cPair (vTup (qb7 (vC cStr) z2q)) qb8))
def qq2 (l:L53) (r_Next r_Many:Int) (r_Bad kind:Int):=fS Tryz.prog lv X0 45 qpy qpz (l,(r_Next,r_Many,r_Bad),kind)
def qq3 (l:L53) (r_Next r_Many:Int) (r_Bad kind:Int):Oq (BA×(Int×Int×Int)) :=
 (brE (decide (r_Bad≥0))
 (some (⟨#[]⟩,(r_Next,(r_Many,r_Bad))))
 (gdE (p0 r_Next)<|
 (gdE (eC q5s l r_Next [(K1.int Go.IntKind.u8),K1.str,(K1.int Go.IntKind.i64)])<|
 (brE ((qa0 (List.getD (List.getD (EC.encL q5s l) (Int.toNat r_Next) []) 0 C.ne)) != kind)
 (gL q5s l<|
 ((qqe (dL q5s l) r_Next r_Many r_Bad r_Next).bind fun r0 =>
 (some (⟨#[]⟩,(r0.1,(r0.2.1,r0.2.2))))))
 (gdE (p0 r_Next)<|
 (gdE (eC q5s l r_Next [(K1.int Go.IntKind.u8),K1.str,(K1.int Go.IntKind.i64)])<|
 (some ((q135 (List.getD (List.getD (EC.encL q5s l) (Int.toNat r_Next) []) 1 C.ne)),((wI r_Next),(r_Many,r_Bad))))))))))
theorem qq1 {l r_Next r_Many r_Bad kind r} (h:qq3 l r_Next r_Many r_Bad kind=some r):qq2 l r_Next r_Many r_Bad kind=some r :=
 q75 (es:=q14c) (hs:=q9f) [] Tryz.func45 rfl (by kernel_rfl) rfl (by kernel_rfl) (by kernel_rfl) trivial trivial (by kernel_rfl) h
def qq0:=entS Tryz.prog lv X0 45 [] qpy qpz (fun x=>qq2 x.1 x.2.1.1 x.2.1.2.1 x.2.1.2.2 x.2.2) (fun _ _ h=>q74 h)
def q14a:=qq0::q14c
def qow:=(qb7 z2i z2q)
abbrev z2j:=(qdm (bBox z29))
def qp5:=sLS [3,5,7,8,9] (qb7 (vPtr 0 0) (qb7 (vPtr 1 0) (qb7 (vC cStr) (qb7 z2c (qb9 z2c))))) (qb7 z2j (qb9 z2j)) [false,false] [] (by decide) (fun _=>rfl)
def qp4:=sLS [3,5,7,8,9,42] (qb7 (vPtr 0 0) (qb7 (vPtr 1 0) (qb7 (vC cStr) (qb7 z2c (qb7 z2c z2o))))) (qb7 z2j (qb9 z2j)) [false,false] [] (by decide) (fun _=>rfl)
def qp3:=oAt 2 qp4
def qp0 (s:BA) (n i:Int) (b0 b0_1:Int) (b0_2 b1:Int) (b1_1 b1_2:Int):=lS Tryz.prog lv X0 46 55 (q8x (cdF Tryz.f46) 9) qp5 qp3 (((),(),s,n,i),((b0,b0_1,b0_2),(b1,b1_1,b1_2)))
def qp6 (s:BA) (n i:Int) (b0 b0_1:Int) (b0_2 b1:Int) (b1_1 b1_2:Int):Oq ((Unit×Unit×BA×Int×Int×Bool)×((Int×Int×Int)×(Int×Int×Int))) :=
 (brE (decide (i<(s.size:Int)))
 (gdE ((p0 i)&&(decide ((Int.toNat i)<s.size)))<|
 (qp0 s (IntKind.wrap .i64 ((IntKind.wrap .i64 (10*n))+(IntKind.wrap .i64 (IntKind.wrap .u8 ((((UInt8.toNat (Array.getD s.data (Int.toNat i) (0:UInt8))):Nat):Int) - 48))))) (wI i) b0 b0_1 b0_2 b1 b1_1 b1_2))
 (some (((),((),(s,(n,(i,false))))),((b0,(b0_1,b0_2)),(b1,(b1_1,b1_2))))))
theorem qp2 {s n i b0 b0_1 b0_2 b1 b1_1 b1_2 r} (h:qp6 s n i b0 b0_1 b0_2 b1 b1_1 b1_2=some r):qp0 s n i b0 b0_1 b0_2 b1 b1_1 b1_2=some r :=
 qbb (es:=q14a) (hs:=q9f) [] (by kernel_rfl) trivial trivial (by kernel_rfl) h
def qp1:=qby Tryz.prog lv X0 9 (q8x (cdF Tryz.f46) 9) qp5 qp3 (fun x=>qp0 x.1.2.2.1 x.1.2.2.2.1 x.1.2.2.2.2 x.2.1.1 x.2.1.2.1 x.2.1.2.2 x.2.2.1 x.2.2.2.1 x.2.2.2.2) (fun _ _ h=>qba h)
def qox:Cod (V×List B) (Int×(Int×Int×Int)):=(cFstU (cPair (vTup (qb7 z2c z2q)) qb8))
def qp7 (l:L53) (r_Next r_Many r_Bad:Int):=fS Tryz.prog lv X0 46 qow qox (l,(r_Next,r_Many,r_Bad))
def qp8 (l:L53) (r_Next r_Many r_Bad:Int):Oq (Int×(Int×Int×Int)) :=
 (gL q5s l<|
 ((qq2 (dL q5s l) r_Next r_Many r_Bad 110).bind fun r0 =>
 (brE (decide (r0.2.2.2≥0))
 (some (0,(r0.2.1,(r0.2.2.1,r0.2.2.2))))
 (brE ((decide (((r0.1.size:Nat):Int)>7))==false)
 (brE ((decide (((r0.1.size:Nat):Int)>1))==true)
 (gdE ((decide ((0:Int)≤0))&&(decide ((Int.toNat 0)<r0.1.size)))<|
 (brE ((((UInt8.toNat (Array.getD r0.1.data (Int.toNat 0) (0:UInt8))):Nat):Int)==48)
 (gL q5s l<|
 ((qqe (dL q5s l) r0.2.1 r0.2.2.1 r0.2.2.2 r_Next).bind fun r1 =>
 (some (0,(r1.1,(r1.2.1,r1.2.2))))))
 ((qp0 r0.1 0 0 r0.2.1 r0.2.2.1 r0.2.2.2 0 0 0).bind fun r1 =>
 (some (r1.1.2.2.2.1,(r1.2.1.1,(r1.2.1.2.1,r1.2.1.2.2)))))))
 ((qp0 r0.1 0 0 r0.2.1 r0.2.2.1 r0.2.2.2 0 0 0).bind fun r1 =>
 (some (r1.1.2.2.2.1,(r1.2.1.1,(r1.2.1.2.1,r1.2.1.2.2))))))
 (gL q5s l<|
 ((qqe (dL q5s l) r0.2.1 r0.2.2.1 r0.2.2.2 r_Next).bind fun r1 =>
 (some (0,(r1.1,(r1.2.1,r1.2.2))))))))))
theorem qoz {l r_Next r_Many r_Bad r} (h:qp8 l r_Next r_Many r_Bad=some r):qp7 l r_Next r_Many r_Bad=some r :=
 q75 (es:=q14a) (hs:=q9f) [qp1] Tryz.func46 rfl (by kernel_rfl) rfl (by kernel_rfl) (by kernel_rfl) ⟨⟨_,rfl,rfl⟩,trivial⟩ trivial (by kernel_rfl) h
def qoy:=entS Tryz.prog lv X0 46 [] qow qox (fun x=>qp7 x.1 x.2.1 x.2.2.1 x.2.2.2) (fun _ _ h=>q74 h)
def q146:=qoy::q14a
def qps:=z2t
def qpt:Cod (V×List B) (Int×Int×Int):=(cFstU (cPair (vAgg z29) qb8))
def qpw (l:L53) (r_Next r_Many:Int) (r_Bad kind:Int) (text:BA):=fS Tryz.prog lv X0 47 qps qpt (l,(r_Next,r_Many,r_Bad),kind,text)
def qpx (l:L53) (r_Next r_Many:Int) (r_Bad kind:Int) (text:BA):Oq (Int×Int×Int) :=
 (brE (decide (r_Bad≥0))
 (some (r_Next,(r_Many,r_Bad)))
 (gL q5s l<|
 ((qog (dL q5s l) r_Next r_Many r_Bad kind text).bind fun r0 =>
 (brE (!r0)
 (gL q5s l<|
 ((qqe (dL q5s l) r_Next r_Many r_Bad r_Next).bind fun r1 =>
 (some (r1.1,(r1.2.1,r1.2.2)))))
 (some ((wI r_Next),(r_Many,r_Bad)))))))
theorem qpv {l r_Next r_Many r_Bad kind text r} (h:qpx l r_Next r_Many r_Bad kind text=some r):qpw l r_Next r_Many r_Bad kind text=some r :=
 q75 (es:=q146) (hs:=q9f) [] Tryz.func47 rfl (by kernel_rfl) rfl (by kernel_rfl) (by kernel_rfl) trivial trivial (by kernel_rfl) h
def qpu:=entS Tryz.prog lv X0 47 [] qps qpt (fun x=>qpw x.1 x.2.1.1 x.2.1.2.1 x.2.1.2.2 x.2.2.1 x.2.2.2) (fun _ _ h=>q74 h)
def q149:=qpu::q146
def qp9:=(qb7 z2i z2q)
def qpi:=sLS [0,3,6,7,8,9,10] (qb7 z2i (qb7 (vPtr 0 0) (qb7 (vPtr 1 0) (qb7 z2c (qb7 (vC cStr) (qb7 z2c (qb9 z2c))))))) (qb7 z2j (qb9 z2j)) [false,false] [] (by decide) (fun _=>rfl)
def qph:=sLS [0,3,6,7,8,9,10,21] (qb7 z2i (qb7 (vPtr 0 0) (qb7 (vPtr 1 0) (qb7 z2c (qb7 (vC cStr) (qb7 z2c (qb7 z2c z2o))))))) (qb7 z2j (qb9 z2j)) [false,false] [] (by decide) (fun _=>rfl)
def qpg:=oAt 2 qph
def qpd (l:L53) (from_:Int) (s:BA) (kind k:Int) (b0 b0_1:Int) (b0_2 b1:Int) (b1_1 b1_2:Int):=lS Tryz.prog lv X0 60 46 (q8x (cdF Tryz.f60) 5) qpi qpg ((l,(),(),from_,s,kind,k),((b0,b0_1,b0_2),(b1,b1_1,b1_2)))
abbrev z19 (k:Int):=(List.getD [[(C.str ⟨#[]⟩)],[(C.str (ByteArray.mk (List.toArray [(105:UInt8),(115:UInt8)])))],[(C.str (ByteArray.mk (List.toArray [(99:UInt8),(111:UInt8),(110:UInt8),(116:UInt8),(97:UInt8),(105:UInt8),(110:UInt8),(115:UInt8)])))],[(C.str (ByteArray.mk (List.toArray [(108:UInt8),(105:UInt8),(107:UInt8),(101:UInt8)])))]] (Int.toNat k) [])
def qpj (l:L53) (from_:Int) (s:BA) (kind k:Int) (b0 b0_1:Int) (b0_2 b1:Int) (b1_1 b1_2:Int):Oq ((L53×Unit×Unit×Int×BA×Int×Int×Bool)×((Int×Int×Int)×(Int×Int×Int))) :=
 (brE (decide (k≤3))
 (gdE ((p0 k)&&(decide (k<((4:Nat):Int))))<|
 (gdE ((decide ((Int.toNat k)<(List.length [[(C.str ⟨#[]⟩)],[(C.str (ByteArray.mk (List.toArray [(105:UInt8),(115:UInt8)])))],[(C.str (ByteArray.mk (List.toArray [(99:UInt8),(111:UInt8),(110:UInt8),(116:UInt8),(97:UInt8),(105:UInt8),(110:UInt8),(115:UInt8)])))],[(C.str (ByteArray.mk (List.toArray [(108:UInt8),(105:UInt8),(107:UInt8),(101:UInt8)])))]])))&&((List.length (z19 k))==1))<|
 (gdE (isP [K1.str] 0 (z19 k))<|
 (brE (s.toList==(ByteArray.toList (q135 (List.getD (z19 k) 0 C.ne))))
 (gL q5s l<|
 (qpd (dL q5s l) from_ s k (wI k) b0 b0_1 b0_2 b1 b1_1 b1_2))
 (gL q5s l<|
 (qpd (dL q5s l) from_ s kind (wI k) b0 b0_1 b0_2 b1 b1_1 b1_2))))))
 (gL q5s l<|
 (some (((dL q5s l),((),((),(from_,(s,(kind,(k,false))))))),((b0,(b0_1,b0_2)),(b1,(b1_1,b1_2)))))))
theorem qpf {l from_ s kind k b0 b0_1 b0_2 b1 b1_1 b1_2 r} (h:qpj l from_ s kind k b0 b0_1 b0_2 b1 b1_1 b1_2=some r):qpd l from_ s kind k b0 b0_1 b0_2 b1 b1_1 b1_2=some r :=
 qbb (es:=q149) (hs:=q9f) [] (by kernel_rfl) trivial trivial (by kernel_rfl) h
def qpe:=qby Tryz.prog lv X0 5 (q8x (cdF Tryz.f60) 5) qpi qpg (fun x=>qpd x.1.1 x.1.2.2.2.1 x.1.2.2.2.2.1 x.1.2.2.2.2.2.1 x.1.2.2.2.2.2.2 x.2.1.1 x.2.1.2.1 x.2.1.2.2 x.2.2.1 x.2.2.2.1 x.2.2.2.2) (fun _ _ h=>qba h)
def qpa:Cod (V×List B) (Int×ByteArray×(Int×Int×Int)):=(cFstU (cPair (vTup (qb7 z2c (qb7 (vC cStr) z2q))) qb8))
def qpk (l:L53) (r_Next r_Many r_Bad:Int):=fS Tryz.prog lv X0 60 qp9 qpa (l,(r_Next,r_Many,r_Bad))
def qpl (l:L53) (r_Next r_Many r_Bad:Int):Oq (Int×BA×(Int×Int×Int)) :=
 (gL q5s l<|
 ((qq2 (dL q5s l) r_Next r_Many r_Bad 119).bind fun r0 =>
 (gL q5s l<|
 ((qpd (dL q5s l) r_Next r0.1 0 1 r0.2.1 r0.2.2.1 r0.2.2.2 0 0 0).bind fun r1 =>
 (brE (r1.1.2.2.2.2.2.1==0)
 (gL q5s r1.1.1<|
 ((qqe (dL q5s r1.1.1) r1.2.1.1 r1.2.1.2.1 r1.2.1.2.2 r1.1.2.2.2.1).bind fun r2 =>
 (some (0,(⟨#[]⟩,(r2.1,(r2.2.1,r2.2.2)))))))
 (gL q5s r1.1.1<|
 ((qq2 (dL q5s r1.1.1) r1.2.1.1 r1.2.1.2.1 r1.2.1.2.2 113).bind fun r2 =>
 (some (r1.1.2.2.2.2.2.1,(r2.1,(r2.2.1,(r2.2.2.1,r2.2.2.2))))))))))))
theorem qpc {l r_Next r_Many r_Bad r} (h:qpl l r_Next r_Many r_Bad=some r):qpk l r_Next r_Many r_Bad=some r :=
 q75 (es:=q149) (hs:=q9f) [qpe] Tryz.func60 rfl (by kernel_rfl) rfl (by kernel_rfl) (by kernel_rfl) ⟨⟨_,rfl,rfl⟩,trivial⟩ trivial (by kernel_rfl) h
def qpb:=entS Tryz.prog lv X0 60 [] qp9 qpa (fun x=>qpk x.1 x.2.1 x.2.2.1 x.2.2.2) (fun _ _ h=>q74 h)
def q147:=qpb::q149
def qgd:=z2n
def qge:Cod (V×List B) ((Int×(List S57)×ByteArray×Int×ByteArray×Int)×(Int×Int×Int)):=(cFstU (cPair (vTup (qb7 (vAgg (qb7 z2c (qb7 (vC (cSl q5t)) (qb7 (vC cStr) (qb7 z2c (qb7 (vC cStr) (qb9 z2c))))))) z2q)) qb8))
def qhv (l:L53) (r_Next r_Many:Int) (r_Bad depth:Int):=fS Tryz.prog lv X0 42 qgd qge (l,(r_Next,r_Many,r_Bad),depth)
def qgf:=entS Tryz.prog lv X0 42 [] qgd qge (fun x=>qhv x.1 x.2.1.1 x.2.1.2.1 x.2.1.2.2 x.2.2) (fun _ _ h=>q74 h)
def q13v:=qgf::q147
abbrev z2f:=(qb7 (qdm (bBox z29)) (qb7 (qdm (bBox (qb7 z2c (qb7 (vRow 5) (qb7 (vC cStr) (qb7 z2c (qb7 (vC cStr) (qb9 z2c)))))))) (qb7 (qdm (bBox z29)) (qb7 (qdm (bRow q5v)) (qb7 (qdm (bBox (qb7 z2c (qb7 (vRow 6) (qb7 (vC cStr) (qb7 z2c (qb7 (vC cStr) (qb9 z2c)))))))) (qb7 (qdm (bRow q5t)) (qb9 (qdm (bRow q5t)))))))))
def qht:=sLS [0,2,4,6,7,8,9,10,11,12] (qb7 z2i (qb7 z2c (qb7 (vPtr 0 0) (qb7 (vPtr 1 0) (qb7 (vPtr 2 0) (qb7 z2c (qb7 (vC cStr) (qb7 (vRow 3) (qb7 (vPtr 4 0) (qb9 z2c)))))))))) z2f [false,false,false,false,false,false,false] [] (by decide) (fun _=>rfl)
def qhs:=sLS [0,2,4,6,7,8,9,10,11,12,39] (qb7 z2i (qb7 z2c (qb7 (vPtr 0 0) (qb7 (vPtr 1 0) (qb7 (vPtr 2 0) (qb7 z2c (qb7 (vC cStr) (qb7 (vRow 3) (qb7 (vPtr 4 0) (qb7 z2c z2o)))))))))) z2f [false,false,false,false,false,false,false] [] (by decide) (fun _=>rfl)
def qhr:=oAt 2 qhs
def qho (l:L53) (depth from_:Int) (s:BA) (words:Nat) (k b0:Int) (b0_1 b0_2 b1:Int) (b1_1:Nat) (b1_2:BA) (b1_3:Int) (b1_4:BA) (b1_5 b2:Int) (b2_1 b2_2:Int) (b3:LB) (b4:Int) (b4_1:Nat) (b4_2:BA) (b4_3:Int) (b4_4:BA) (b4_5:Int) (b5 b6:L57):=lS Tryz.prog lv X0 42 159 (q8x (cdF Tryz.f42) 8) qht qhr ((l,depth,(),(),(),from_,s,words,(),k),((b0,b0_1,b0_2),(b1,b1_1,b1_2,b1_3,b1_4,b1_5),(b2,b2_1,b2_2),b3,(b4,b4_1,b4_2,b4_3,b4_4,b4_5),b5,b6))
def qhu (l:L53) (depth from_:Int) (s:BA) (words:Nat) (k b0:Int) (b0_1 b0_2 b1:Int) (b1_1:Nat) (b1_2:BA) (b1_3:Int) (b1_4:BA) (b1_5 b2:Int) (b2_1 b2_2:Int) (b3:LB) (b4:Int) (b4_1:Nat) (b4_2:BA) (b4_3:Int) (b4_4:BA) (b4_5:Int) (b5 b6:L57):Oq ((L53×Int×Unit×Unit×Unit×Int×BA×Nat×Unit×Int×Bool)×((Int×Int×Int)×(Int×Nat×BA×Int×BA×Int)×(Int×Int×Int)×LB×(Int×Nat×BA×Int×BA×Int)×L57×L57)) :=
 (brE (decide (k≤9))
 (gdE ((p0 k)&&(decide (k<((words:Nat):Int))))<|
 (gdE ((decide ((Int.toNat k)<(lN q5v b3)))&&((List.length (List.getD (EC.encL q5v b3) (Int.toNat k) []))==1))<|
 (gdE (isP [K1.str] 0 (List.getD (EC.encL q5v b3) (Int.toNat k) []))<|
 (brE (s.toList==(ByteArray.toList (q135 (List.getD (List.getD (EC.encL q5v b3) (Int.toNat k) []) 0 C.ne))))
 (gL q5s l<|
 (gL q5v b3<|
 (gL q5t b5<|
 (gL q5t b6<|
 (qho (dL q5s l) depth from_ s words (wI k) b0 b0_1 b0_2 b1 b1_1 b1_2 b1_3 b1_4 b1_5 b2 b2_1 b2_2 (dL q5v b3) k b4_1 b4_2 b4_3 b4_4 b4_5 (dL q5t b5) (dL q5t b6))))))
 (gL q5s l<|
 (gL q5v b3<|
 (gL q5t b5<|
 (gL q5t b6<|
 (qho (dL q5s l) depth from_ s words (wI k) b0 b0_1 b0_2 b1 b1_1 b1_2 b1_3 b1_4 b1_5 b2 b2_1 b2_2 (dL q5v b3) b4 b4_1 b4_2 b4_3 b4_4 b4_5 (dL q5t b5) (dL q5t b6))))))))))
 (gL q5s l<|
 (gL q5v b3<|
 (gL q5t b5<|
 (gL q5t b6<|
 (some (((dL q5s l),(depth,((),((),((),(from_,(s,(words,((),(k,false)))))))))),((b0,(b0_1,b0_2)),((b1,(b1_1,(b1_2,(b1_3,(b1_4,b1_5))))),((b2,(b2_1,b2_2)),((dL q5v b3),((b4,(b4_1,(b4_2,(b4_3,(b4_4,b4_5))))),((dL q5t b5),(dL q5t b6))))))))))))))
theorem qhq {l depth from_ s words k b0 b0_1 b0_2 b1 b1_1 b1_2 b1_3 b1_4 b1_5 b2 b2_1 b2_2 b3 b4 b4_1 b4_2 b4_3 b4_4 b4_5 b5 b6 r} (h:qhu l depth from_ s words k b0 b0_1 b0_2 b1 b1_1 b1_2 b1_3 b1_4 b1_5 b2 b2_1 b2_2 b3 b4 b4_1 b4_2 b4_3 b4_4 b4_5 b5 b6=some r):qho l depth from_ s words k b0 b0_1 b0_2 b1 b1_1 b1_2 b1_3 b1_4 b1_5 b2 b2_1 b2_2 b3 b4 b4_1 b4_2 b4_3 b4_4 b4_5 b5 b6=some r :=
 qbb (es:=q13v) (hs:=q9f) [] (by kernel_rfl) trivial trivial (by kernel_rfl) h
def qhp:=qby Tryz.prog lv X0 8 (q8x (cdF Tryz.f42) 8) qht qhr (fun x=>qho x.1.1 x.1.2.1 x.1.2.2.2.2.2.1 x.1.2.2.2.2.2.2.1 x.1.2.2.2.2.2.2.2.1 x.1.2.2.2.2.2.2.2.2.2 x.2.1.1 x.2.1.2.1 x.2.1.2.2 x.2.2.1.1 x.2.2.1.2.1 x.2.2.1.2.2.1 x.2.2.1.2.2.2.1 x.2.2.1.2.2.2.2.1 x.2.2.1.2.2.2.2.2 x.2.2.2.1.1 x.2.2.2.1.2.1 x.2.2.2.1.2.2 x.2.2.2.2.1 x.2.2.2.2.2.1.1 x.2.2.2.2.2.1.2.1 x.2.2.2.2.2.1.2.2.1 x.2.2.2.2.2.1.2.2.2.1 x.2.2.2.2.2.1.2.2.2.2.1 x.2.2.2.2.2.1.2.2.2.2.2 x.2.2.2.2.2.2.1 x.2.2.2.2.2.2.2) (fun _ _ h=>qba h)
abbrev z2a:=(qb7 (qdm (bBox z29)) (qb7 (qdm (bBox (qb7 (vC (cInt .i64)) (qb7 (vRow 4) (qb7 (vC cStr) (qb7 (vC (cInt .i64)) (qb7 (vC cStr) (qb9 (vC (cInt .i64)))))))))) (qb7 (qdm (bBox z29)) (qb7 (qdm (bBox (qb7 (vC (cInt .i64)) (qb7 (vRow 5) (qb7 (vC cStr) (qb7 (vC (cInt .i64)) (qb7 (vC cStr) (qb9 (vC (cInt .i64)))))))))) (qb7 (qdm (bRow q5t)) (qb9 (qdm (bRow q5t))))))))
abbrev z2e:=(qb7 (vC (cSl q5s)) (qb7 z2c (qb7 (vPtr 0 0) (qb7 (vPtr 1 0) (qb7 (vPtr 2 0) (qb9 (vPtr 3 0)))))))
def qhm:=sLS [0,2,4,6,7,11] z2e z2a [false,false,false,false,false,false] [] (by decide) (fun _=>rfl)
def qhk:=sLS [0,2,4,6,7,11,149] (qb7 z2i (qb7 z2c (qb7 (vPtr 0 0) (qb7 (vPtr 1 0) (qb7 (vPtr 2 0) (qb7 (vPtr 3 0) z2o)))))) z2a [false,false,false,false,false,false] [] (by decide) (fun _=>rfl)
def qhl:SC (((List S53)×Int×Unit×Unit×Unit×Unit×Bool)×((Int×Int×Int)×(Int×Nat×ByteArray×Int×ByteArray×Int)×(Int×Int×Int)×(Int×Nat×ByteArray×Int×ByteArray×Int)×(List S57)×(List S57))):=sLS [0,2,4,6,7,11,125] (qb7 (vC (cSl q5s)) (qb7 (vC (cInt .i64)) (qb7 (vPtr 0 0) (qb7 (vPtr 1 0) (qb7 (vPtr 2 0) (qb7 (vPtr 3 0) (qb9 (vC cBool)))))))) (qb7 (qdm (bBox (qb7 (vC (cInt .i64)) (qb7 (vC (cInt .i64)) (qb9 (vC (cInt .i64))))))) (qb7 (qdm (bBox (qb7 (vC (cInt .i64)) (qb7 (vRow 4) (qb7 (vC cStr) (qb7 (vC (cInt .i64)) (qb7 (vC cStr) (qb9 (vC (cInt .i64)))))))))) (qb7 (qdm (bBox (qb7 (vC (cInt .i64)) (qb7 (vC (cInt .i64)) (qb9 (vC (cInt .i64))))))) (qb7 (qdm (bBox (qb7 (vC (cInt .i64)) (qb7 (vRow 5) (qb7 (vC cStr) (qb7 (vC (cInt .i64)) (qb7 (vC cStr) (qb9 (vC (cInt .i64)))))))))) (qb7 (qdm (bRow q5t)) (qb9 (qdm (bRow q5t)))))))) [false,false,false,false,false,false] [] (by decide) (fun _=>rfl)
def qhj:=oOrK 4 [0,2,4,6,7,11,125] qhl (oAt 4 qhk) (fun x y=>.inr (st_ne 125 (by decide:(false:Bool)≠true)))
def qhg (l:L53) (depth b0:Int) (b0_1 b0_2 b1:Int) (b1_1:Nat) (b1_2:BA) (b1_3:Int) (b1_4:BA) (b1_5 b2:Int) (b2_1 b2_2 b3:Int) (b3_1:Nat) (b3_2:BA) (b3_3:Int) (b3_4:BA) (b3_5:Int) (b4 b5:L57):=lS Tryz.prog lv X0 42 159 (q8x (cdF Tryz.f42) 25) qhm qhj ((l,depth,(),(),(),()),((b0,b0_1,b0_2),(b1,b1_1,b1_2,b1_3,b1_4,b1_5),(b2,b2_1,b2_2),(b3,b3_1,b3_2,b3_3,b3_4,b3_5),b4,b5))
def qhn (l:L53) (depth b0:Int) (b0_1 b0_2 b1:Int) (b1_1:Nat) (b1_2:BA) (b1_3:Int) (b1_4:BA) (b1_5 b2:Int) (b2_1 b2_2 b3:Int) (b3_1:Nat) (b3_2:BA) (b3_3:Int) (b3_4:BA) (b3_5:Int) (b4 b5:L57):Oq (((L53×Int×Unit×Unit×Unit×Unit×Bool)×((Int×Int×Int)×(Int×Nat×BA×Int×BA×Int)×(Int×Int×Int)×(Int×Nat×BA×Int×BA×Int)×L57×L57))⊕((L53×Int×Unit×Unit×Unit×Unit×Bool)×((Int×Int×Int)×(Int×Nat×BA×Int×BA×Int)×(Int×Int×Int)×(Int×Nat×BA×Int×BA×Int)×L57×L57))) :=
 (brE (decide (b0_2<0))
 (gL q5s l<|
 ((qhv (dL q5s l) b0 b0_1 b0_2 (wI depth)).bind fun r0 =>
 (gdE ((((aL [[(C.int Go.IntKind.i64 r0.1.1),(C.sl (EC.encL q5t r0.1.2.1)),(C.str r0.1.2.2.1),(C.int Go.IntKind.i64 r0.1.2.2.2.1),(C.str r0.1.2.2.2.2.1),(C.int Go.IntKind.i64 r0.1.2.2.2.2.2)]] 6)&&(aL (EC.encL q5t b5) 6))&&(dQ (b3_1+(List.length [[(C.int Go.IntKind.i64 r0.1.1),(C.sl (EC.encL q5t r0.1.2.1)),(C.str r0.1.2.2.1),(C.int Go.IntKind.i64 r0.1.2.2.2.1),(C.str r0.1.2.2.2.2.1),(C.int Go.IntKind.i64 r0.1.2.2.2.2.2)]])) 80))&&(decide ((b3_1+(List.length [[(C.int Go.IntKind.i64 r0.1.1),(C.sl (EC.encL q5t r0.1.2.1)),(C.str r0.1.2.2.1),(C.int Go.IntKind.i64 r0.1.2.2.2.1),(C.str r0.1.2.2.2.2.1),(C.int Go.IntKind.i64 r0.1.2.2.2.2.2)]]))≤9223372036854775807)))<|
 (brE ((decide (r0.2.2.2≥0))==false)
 (gL q5s l<|
 ((qog (dL q5s l) r0.2.1 r0.2.2.1 r0.2.2.2 115 (ByteArray.mk (List.toArray [(44:UInt8)]))).bind fun r1 =>
 (brE (!r1)
 (gL q5s l<|
 (gL q5t b4<|
 (gdE (EC.isL q5t ((EC.encL q5t b5)++[[(C.int Go.IntKind.i64 r0.1.1),(C.sl (EC.encL q5t r0.1.2.1)),(C.str r0.1.2.2.1),(C.int Go.IntKind.i64 r0.1.2.2.2.1),(C.str r0.1.2.2.2.2.1),(C.int Go.IntKind.i64 r0.1.2.2.2.2.2)]]))<|
 (some (.inr (((dL q5s l),(depth,((),((),((),((),true)))))),((r0.2.1,(r0.2.2.1,r0.2.2.2)),((b1,(b1_1,(b1_2,(b1_3,(b1_4,b1_5))))),((b2,(b2_1,b2_2)),((b3,((b3_1+(List.length [[(C.int Go.IntKind.i64 r0.1.1),(C.sl (EC.encL q5t r0.1.2.1)),(C.str r0.1.2.2.1),(C.int Go.IntKind.i64 r0.1.2.2.2.1),(C.str r0.1.2.2.2.2.1),(C.int Go.IntKind.i64 r0.1.2.2.2.2.2)]])),(b3_2,(b3_3,(b3_4,b3_5))))),((dL q5t b4),(EC.decL q5t ((EC.encL q5t b5)++[[(C.int Go.IntKind.i64 r0.1.1),(C.sl (EC.encL q5t r0.1.2.1)),(C.str r0.1.2.2.1),(C.int Go.IntKind.i64 r0.1.2.2.2.1),(C.str r0.1.2.2.2.2.1),(C.int Go.IntKind.i64 r0.1.2.2.2.2.2)]])))))))))))))
 (gL q5s l<|
 (gL q5t b4<|
 (gdE (EC.isL q5t ((EC.encL q5t b5)++[[(C.int Go.IntKind.i64 r0.1.1),(C.sl (EC.encL q5t r0.1.2.1)),(C.str r0.1.2.2.1),(C.int Go.IntKind.i64 r0.1.2.2.2.1),(C.str r0.1.2.2.2.2.1),(C.int Go.IntKind.i64 r0.1.2.2.2.2.2)]]))<|
 (qhg (dL q5s l) depth (wI r0.2.1) r0.2.2.1 r0.2.2.2 b1 b1_1 b1_2 b1_3 b1_4 b1_5 b2 b2_1 b2_2 b3 (b3_1+(List.length [[(C.int Go.IntKind.i64 r0.1.1),(C.sl (EC.encL q5t r0.1.2.1)),(C.str r0.1.2.2.1),(C.int Go.IntKind.i64 r0.1.2.2.2.1),(C.str r0.1.2.2.2.2.1),(C.int Go.IntKind.i64 r0.1.2.2.2.2.2)]])) b3_2 b3_3 b3_4 b3_5 (dL q5t b4) (EC.decL q5t ((EC.encL q5t b5)++[[(C.int Go.IntKind.i64 r0.1.1),(C.sl (EC.encL q5t r0.1.2.1)),(C.str r0.1.2.2.1),(C.int Go.IntKind.i64 r0.1.2.2.2.1),(C.str r0.1.2.2.2.2.1),(C.int Go.IntKind.i64 r0.1.2.2.2.2.2)]])))))))))
 (gL q5s l<|
 (gL q5t b4<|
 (gdE (EC.isL q5t ((EC.encL q5t b5)++[[(C.int Go.IntKind.i64 r0.1.1),(C.sl (EC.encL q5t r0.1.2.1)),(C.str r0.1.2.2.1),(C.int Go.IntKind.i64 r0.1.2.2.2.1),(C.str r0.1.2.2.2.2.1),(C.int Go.IntKind.i64 r0.1.2.2.2.2.2)]]))<|
 (some (.inr (((dL q5s l),(depth,((),((),((),((),true)))))),((r0.2.1,(r0.2.2.1,r0.2.2.2)),((b1,(b1_1,(b1_2,(b1_3,(b1_4,b1_5))))),((b2,(b2_1,b2_2)),((b3,((b3_1+(List.length [[(C.int Go.IntKind.i64 r0.1.1),(C.sl (EC.encL q5t r0.1.2.1)),(C.str r0.1.2.2.1),(C.int Go.IntKind.i64 r0.1.2.2.2.1),(C.str r0.1.2.2.2.2.1),(C.int Go.IntKind.i64 r0.1.2.2.2.2.2)]])),(b3_2,(b3_3,(b3_4,b3_5))))),((dL q5t b4),(EC.decL q5t ((EC.encL q5t b5)++[[(C.int Go.IntKind.i64 r0.1.1),(C.sl (EC.encL q5t r0.1.2.1)),(C.str r0.1.2.2.1),(C.int Go.IntKind.i64 r0.1.2.2.2.1),(C.str r0.1.2.2.2.2.1),(C.int Go.IntKind.i64 r0.1.2.2.2.2.2)]])))))))))))))))))
 (gL q5s l<|
 (gL q5t b4<|
 (gL q5t b5<|
 (some (.inl (((dL q5s l),(depth,((),((),((),((),false)))))),((b0,(b0_1,b0_2)),((b1,(b1_1,(b1_2,(b1_3,(b1_4,b1_5))))),((b2,(b2_1,b2_2)),((b3,(b3_1,(b3_2,(b3_3,(b3_4,b3_5))))),((dL q5t b4),(dL q5t b5)))))))))))))
theorem qhi {l depth b0 b0_1 b0_2 b1 b1_1 b1_2 b1_3 b1_4 b1_5 b2 b2_1 b2_2 b3 b3_1 b3_2 b3_3 b3_4 b3_5 b4 b5 r} (h:qhn l depth b0 b0_1 b0_2 b1 b1_1 b1_2 b1_3 b1_4 b1_5 b2 b2_1 b2_2 b3 b3_1 b3_2 b3_3 b3_4 b3_5 b4 b5=some r):qhg l depth b0 b0_1 b0_2 b1 b1_1 b1_2 b1_3 b1_4 b1_5 b2 b2_1 b2_2 b3 b3_1 b3_2 b3_3 b3_4 b3_5 b4 b5=some r :=
 qbb (es:=q13v) (hs:=q9f) [] (by kernel_rfl) trivial trivial (by kernel_rfl) h
def qhh:=qby Tryz.prog lv X0 25 (q8x (cdF Tryz.f42) 25) qhm qhj (fun x=>qhg x.1.1 x.1.2.1 x.2.1.1 x.2.1.2.1 x.2.1.2.2 x.2.2.1.1 x.2.2.1.2.1 x.2.2.1.2.2.1 x.2.2.1.2.2.2.1 x.2.2.1.2.2.2.2.1 x.2.2.1.2.2.2.2.2 x.2.2.2.1.1 x.2.2.2.1.2.1 x.2.2.2.1.2.2 x.2.2.2.2.1.1 x.2.2.2.2.1.2.1 x.2.2.2.2.1.2.2.1 x.2.2.2.2.1.2.2.2.1 x.2.2.2.2.1.2.2.2.2.1 x.2.2.2.2.1.2.2.2.2.2 x.2.2.2.2.2.1 x.2.2.2.2.2.2) (fun _ _ h=>qba h)
def qhe:=sLS [4,6,7,11] (qb7 (vPtr 0 0) (qb7 (vPtr 1 0) (qb7 (vPtr 2 0) (qb9 (vPtr 3 0))))) z2a [false,false,false,false,false,false] [] (by decide) (fun _=>rfl)
abbrev z2d:=(qb7 (qdm (bBox (qb7 z2c (qb7 (vRow 2) (qb7 (vC cStr) (qb7 z2c (qb7 (vC cStr) (qb9 z2c)))))))) (qb7 (qdm (bBox z29)) (qb9 (qdm (bRow q5t)))))
abbrev z2m:=(qb7 (vPtr 0 0) (qb9 (vPtr 1 0)))
def qhd:=sLS [6,7] z2m z2d [false,false,false] [] (by decide) (fun _=>rfl)
def qhc:=oAt 1 qhd
def qh9 (b0 b0_1:Int) (b0_2 b1:Int) (b1_1:Nat) (b1_2:BA) (b1_3:Int) (b1_4:BA) (b1_5 b2:Int) (b2_1 b2_2 b3:Int) (b3_1:Nat) (b3_2:BA) (b3_3:Int) (b3_4:BA) (b3_5:Int) (b4 b5:L57):=gS Tryz.prog lv X0 42 159 (q8y (cdF Tryz.f42) 32) qhe qhc (((),(),(),()),((b0,b0_1,b0_2),(b1,b1_1,b1_2,b1_3,b1_4,b1_5),(b2,b2_1,b2_2),(b3,b3_1,b3_2,b3_3,b3_4,b3_5),b4,b5))
def qhf (b0 b0_1:Int) (b0_2 b1:Int) (b1_1:Nat) (b1_2:BA) (b1_3:Int) (b1_4:BA) (b1_5 b2:Int) (b2_1 b2_2 b3:Int) (b3_1:Nat) (b3_2:BA) (b3_3:Int) (b3_4:BA) (b3_5:Int) (b4 b5:L57):Oq ((Unit×Unit)×((Int×Nat×BA×Int×BA×Int)×(Int×Int×Int)×L57)) :=
 (gL q5t b5<|
 (some (((),()),((b3,(b3_1,(b3_2,(b3_3,(b3_4,b3_5))))),((b0,(b0_1,b0_2)),(dL q5t b5))))))
theorem qhb {b0 b0_1 b0_2 b1 b1_1 b1_2 b1_3 b1_4 b1_5 b2 b2_1 b2_2 b3 b3_1 b3_2 b3_3 b3_4 b3_5 b4 b5 r} (h:qhf b0 b0_1 b0_2 b1 b1_1 b1_2 b1_3 b1_4 b1_5 b2 b2_1 b2_2 b3 b3_1 b3_2 b3_3 b3_4 b3_5 b4 b5=some r):qh9 b0 b0_1 b0_2 b1 b1_1 b1_2 b1_3 b1_4 b1_5 b2 b2_1 b2_2 b3 b3_1 b3_2 b3_3 b3_4 b3_5 b4 b5=some r :=
 q8r (es:=q13v) (hs:=q9f) [] (by kernel_rfl) trivial trivial (by kernel_rfl) h
def qha:=gentS Tryz.prog lv X0 32 (q8y (cdF Tryz.f42) 32) (by kernel_rfl) qhe qhc (fun x=>qh9 x.2.1.1 x.2.1.2.1 x.2.1.2.2 x.2.2.1.1 x.2.2.1.2.1 x.2.2.1.2.2.1 x.2.2.1.2.2.2.1 x.2.2.1.2.2.2.2.1 x.2.2.1.2.2.2.2.2 x.2.2.2.1.1 x.2.2.2.1.2.1 x.2.2.2.1.2.2 x.2.2.2.2.1.1 x.2.2.2.2.1.2.1 x.2.2.2.2.1.2.2.1 x.2.2.2.2.1.2.2.2.1 x.2.2.2.2.1.2.2.2.2.1 x.2.2.2.2.1.2.2.2.2.2 x.2.2.2.2.2.1 x.2.2.2.2.2.2) (fun _ _ h=>q8q h)
def qh7:=sLS [0,2,4,6,7,11] z2e z2a [false,false,false,false,false,false] [] (by decide) (fun _=>rfl)
def qh6:=sLS [6,7] z2m z2d [false,false,false] [] (by decide) (fun _=>rfl)
def qh5:=oAt 1 qh6
def qh2 (l:L53) (depth b0:Int) (b0_1 b0_2 b1:Int) (b1_1:Nat) (b1_2:BA) (b1_3:Int) (b1_4:BA) (b1_5 b2:Int) (b2_1 b2_2 b3:Int) (b3_1:Nat) (b3_2:BA) (b3_3:Int) (b3_4:BA) (b3_5:Int) (b4 b5:L57):=gS Tryz.prog lv X0 42 159 (q8y (cdF Tryz.f42) 23) qh7 qh5 ((l,depth,(),(),(),()),((b0,b0_1,b0_2),(b1,b1_1,b1_2,b1_3,b1_4,b1_5),(b2,b2_1,b2_2),(b3,b3_1,b3_2,b3_3,b3_4,b3_5),b4,b5))
def qh8 (l:L53) (depth b0:Int) (b0_1 b0_2 b1:Int) (b1_1:Nat) (b1_2:BA) (b1_3:Int) (b1_4:BA) (b1_5 b2:Int) (b2_1 b2_2 b3:Int) (b3_1:Nat) (b3_2:BA) (b3_3:Int) (b3_4:BA) (b3_5:Int) (b4 b5:L57):Oq ((Unit×Unit)×((Int×Nat×BA×Int×BA×Int)×(Int×Int×Int)×L57)) :=
 (brE ((b3==3)==false)
 (brE (b3==4)
 (gL q5s l<|
 ((qpw (dL q5s l) b0 b0_1 b0_2 115 (ByteArray.mk (List.toArray [(40:UInt8)]))).bind fun r0 =>
 (gL q5s l<|
 (gL q5t b4<|
 (gL q5t b5<|
 ((qhg (dL q5s l) depth r0.1 r0.2.1 r0.2.2 b1 b1_1 b1_2 b1_3 b1_4 b1_5 b2 b2_1 b2_2 b3 b3_1 b3_2 b3_3 b3_4 b3_5 (dL q5t b4) (dL q5t b5)).bind fun r1 =>
 (Sum.elim (fun r2=>(gdE (EC.isL q5s (EC.encL q5s r2.1.1))<|
 ((qpw (dL q5s r2.1.1) r2.2.1.1 r2.2.1.2.1 r2.2.1.2.2 115 (ByteArray.mk (List.toArray [(41:UInt8)]))).bind fun r3 =>
 (gL q5t r2.2.2.2.2.2.1<|
 (gL q5t r2.2.2.2.2.2.2<|
 ((qh9 r3.1 r3.2.1 r3.2.2 r2.2.2.1.1 r2.2.2.1.2.1 r2.2.2.1.2.2.1 r2.2.2.1.2.2.2.1 r2.2.2.1.2.2.2.2.1 r2.2.2.1.2.2.2.2.2 r2.2.2.2.1.1 r2.2.2.2.1.2.1 r2.2.2.2.1.2.2 r2.2.2.2.2.1.1 r2.2.2.2.2.1.2.1 r2.2.2.2.2.1.2.2.1 r2.2.2.2.2.1.2.2.2.1 r2.2.2.2.2.1.2.2.2.2.1 r2.2.2.2.2.1.2.2.2.2.2 (dL q5t r2.2.2.2.2.2.1) (dL q5t r2.2.2.2.2.2.2)).bind fun r4 =>
 (gL q5t r4.2.2.2<|
 (some (((),()),((r4.2.1.1,(r4.2.1.2.1,(r4.2.1.2.2.1,(r4.2.1.2.2.2.1,(r4.2.1.2.2.2.2.1,r4.2.1.2.2.2.2.2))))),((r4.2.2.1.1,(r4.2.2.1.2.1,r4.2.2.1.2.2)),(dL q5t r4.2.2.2))))))))))))
 (fun r2=>(gdE (EC.isL q5s (EC.encL q5s r2.1.1))<|
 ((qpw (dL q5s r2.1.1) r2.2.1.1 r2.2.1.2.1 r2.2.1.2.2 115 (ByteArray.mk (List.toArray [(41:UInt8)]))).bind fun r3 =>
 (gL q5t r2.2.2.2.2.2.1<|
 (gL q5t r2.2.2.2.2.2.2<|
 ((qh9 r3.1 r3.2.1 r3.2.2 r2.2.2.1.1 r2.2.2.1.2.1 r2.2.2.1.2.2.1 r2.2.2.1.2.2.2.1 r2.2.2.1.2.2.2.2.1 r2.2.2.1.2.2.2.2.2 r2.2.2.2.1.1 r2.2.2.2.1.2.1 r2.2.2.2.1.2.2 r2.2.2.2.2.1.1 r2.2.2.2.2.1.2.1 r2.2.2.2.2.1.2.2.1 r2.2.2.2.2.1.2.2.2.1 r2.2.2.2.2.1.2.2.2.2.1 r2.2.2.2.2.1.2.2.2.2.2 (dL q5t r2.2.2.2.2.2.1) (dL q5t r2.2.2.2.2.2.2)).bind fun r4 =>
 (gL q5t r4.2.2.2<|
 (some (((),()),((r4.2.1.1,(r4.2.1.2.1,(r4.2.1.2.2.1,(r4.2.1.2.2.2.1,(r4.2.1.2.2.2.2.1,r4.2.1.2.2.2.2.2))))),((r4.2.2.1.1,(r4.2.2.1.2.1,r4.2.2.1.2.2)),(dL q5t r4.2.2.2)))))))))))) r1)))))))
 (gL q5t b4<|
 (gL q5t b5<|
 ((qh9 b0 b0_1 b0_2 b1 b1_1 b1_2 b1_3 b1_4 b1_5 b2 b2_1 b2_2 b3 b3_1 b3_2 b3_3 b3_4 b3_5 (dL q5t b4) (dL q5t b5)).bind fun r0 =>
 (gL q5t r0.2.2.2<|
 (some (((),()),((r0.2.1.1,(r0.2.1.2.1,(r0.2.1.2.2.1,(r0.2.1.2.2.2.1,(r0.2.1.2.2.2.2.1,r0.2.1.2.2.2.2.2))))),((r0.2.2.1.1,(r0.2.2.1.2.1,r0.2.2.1.2.2)),(dL q5t r0.2.2.2))))))))))
 (gL q5s l<|
 ((qpw (dL q5s l) b0 b0_1 b0_2 115 (ByteArray.mk (List.toArray [(40:UInt8)]))).bind fun r0 =>
 (gL q5s l<|
 (gL q5t b4<|
 (gL q5t b5<|
 ((qhg (dL q5s l) depth r0.1 r0.2.1 r0.2.2 b1 b1_1 b1_2 b1_3 b1_4 b1_5 b2 b2_1 b2_2 b3 b3_1 b3_2 b3_3 b3_4 b3_5 (dL q5t b4) (dL q5t b5)).bind fun r1 =>
 (Sum.elim (fun r2=>(gdE (EC.isL q5s (EC.encL q5s r2.1.1))<|
 ((qpw (dL q5s r2.1.1) r2.2.1.1 r2.2.1.2.1 r2.2.1.2.2 115 (ByteArray.mk (List.toArray [(41:UInt8)]))).bind fun r3 =>
 (gL q5t r2.2.2.2.2.2.1<|
 (gL q5t r2.2.2.2.2.2.2<|
 ((qh9 r3.1 r3.2.1 r3.2.2 r2.2.2.1.1 r2.2.2.1.2.1 r2.2.2.1.2.2.1 r2.2.2.1.2.2.2.1 r2.2.2.1.2.2.2.2.1 r2.2.2.1.2.2.2.2.2 r2.2.2.2.1.1 r2.2.2.2.1.2.1 r2.2.2.2.1.2.2 r2.2.2.2.2.1.1 r2.2.2.2.2.1.2.1 r2.2.2.2.2.1.2.2.1 r2.2.2.2.2.1.2.2.2.1 r2.2.2.2.2.1.2.2.2.2.1 r2.2.2.2.2.1.2.2.2.2.2 (dL q5t r2.2.2.2.2.2.1) (dL q5t r2.2.2.2.2.2.2)).bind fun r4 =>
 (gL q5t r4.2.2.2<|
 (some (((),()),((r4.2.1.1,(r4.2.1.2.1,(r4.2.1.2.2.1,(r4.2.1.2.2.2.1,(r4.2.1.2.2.2.2.1,r4.2.1.2.2.2.2.2))))),((r4.2.2.1.1,(r4.2.2.1.2.1,r4.2.2.1.2.2)),(dL q5t r4.2.2.2))))))))))))
 (fun r2=>(gdE (EC.isL q5s (EC.encL q5s r2.1.1))<|
 ((qpw (dL q5s r2.1.1) r2.2.1.1 r2.2.1.2.1 r2.2.1.2.2 115 (ByteArray.mk (List.toArray [(41:UInt8)]))).bind fun r3 =>
 (gL q5t r2.2.2.2.2.2.1<|
 (gL q5t r2.2.2.2.2.2.2<|
 ((qh9 r3.1 r3.2.1 r3.2.2 r2.2.2.1.1 r2.2.2.1.2.1 r2.2.2.1.2.2.1 r2.2.2.1.2.2.2.1 r2.2.2.1.2.2.2.2.1 r2.2.2.1.2.2.2.2.2 r2.2.2.2.1.1 r2.2.2.2.1.2.1 r2.2.2.2.1.2.2 r2.2.2.2.2.1.1 r2.2.2.2.2.1.2.1 r2.2.2.2.2.1.2.2.1 r2.2.2.2.2.1.2.2.2.1 r2.2.2.2.2.1.2.2.2.2.1 r2.2.2.2.2.1.2.2.2.2.2 (dL q5t r2.2.2.2.2.2.1) (dL q5t r2.2.2.2.2.2.2)).bind fun r4 =>
 (gL q5t r4.2.2.2<|
 (some (((),()),((r4.2.1.1,(r4.2.1.2.1,(r4.2.1.2.2.1,(r4.2.1.2.2.2.1,(r4.2.1.2.2.2.2.1,r4.2.1.2.2.2.2.2))))),((r4.2.2.1.1,(r4.2.2.1.2.1,r4.2.2.1.2.2)),(dL q5t r4.2.2.2)))))))))))) r1))))))))
theorem qh4 {l depth b0 b0_1 b0_2 b1 b1_1 b1_2 b1_3 b1_4 b1_5 b2 b2_1 b2_2 b3 b3_1 b3_2 b3_3 b3_4 b3_5 b4 b5 r} (h:qh8 l depth b0 b0_1 b0_2 b1 b1_1 b1_2 b1_3 b1_4 b1_5 b2 b2_1 b2_2 b3 b3_1 b3_2 b3_3 b3_4 b3_5 b4 b5=some r):qh2 l depth b0 b0_1 b0_2 b1 b1_1 b1_2 b1_3 b1_4 b1_5 b2 b2_1 b2_2 b3 b3_1 b3_2 b3_3 b3_4 b3_5 b4 b5=some r :=
 q8r (es:=q13v) (hs:=q9f) [qhh,qha] (by kernel_rfl) ⟨⟨_,rfl,rfl⟩,trivial⟩ ⟨⟨_,rfl,rfl⟩,trivial⟩ (by kernel_rfl) h
def qh3:=gentS Tryz.prog lv X0 23 (q8y (cdF Tryz.f42) 23) (by kernel_rfl) qh7 qh5 (fun x=>qh2 x.1.1 x.1.2.1 x.2.1.1 x.2.1.2.1 x.2.1.2.2 x.2.2.1.1 x.2.2.1.2.1 x.2.2.1.2.2.1 x.2.2.1.2.2.2.1 x.2.2.1.2.2.2.2.1 x.2.2.1.2.2.2.2.2 x.2.2.2.1.1 x.2.2.2.1.2.1 x.2.2.2.1.2.2 x.2.2.2.2.1.1 x.2.2.2.2.1.2.1 x.2.2.2.2.1.2.2.1 x.2.2.2.2.1.2.2.2.1 x.2.2.2.2.1.2.2.2.2.1 x.2.2.2.2.1.2.2.2.2.2 x.2.2.2.2.2.1 x.2.2.2.2.2.2) (fun _ _ h=>q8q h)
def qh0:=sLS [0,2,4,6,7,11] z2e z2a [false,false,false,false,false,false] [] (by decide) (fun _=>rfl)
def qgz:=sLS [6,7] z2m z2d [false,false,false] [] (by decide) (fun _=>rfl)
def qgy:=oAt 1 qgz
def qgv (l:L53) (depth b0:Int) (b0_1 b0_2 b1:Int) (b1_1:Nat) (b1_2:BA) (b1_3:Int) (b1_4:BA) (b1_5 b2:Int) (b2_1 b2_2 b3:Int) (b3_1:Nat) (b3_2:BA) (b3_3:Int) (b3_4:BA) (b3_5:Int) (b4 b5:L57):=gS Tryz.prog lv X0 42 159 (q8y (cdF Tryz.f42) 20) qh0 qgy ((l,depth,(),(),(),()),((b0,b0_1,b0_2),(b1,b1_1,b1_2,b1_3,b1_4,b1_5),(b2,b2_1,b2_2),(b3,b3_1,b3_2,b3_3,b3_4,b3_5),b4,b5))
def qh1 (l:L53) (depth b0:Int) (b0_1 b0_2 b1:Int) (b1_1:Nat) (b1_2:BA) (b1_3:Int) (b1_4:BA) (b1_5 b2:Int) (b2_1 b2_2 b3:Int) (b3_1:Nat) (b3_2:BA) (b3_3:Int) (b3_4:BA) (b3_5:Int) (b4 b5:L57):Oq ((Unit×Unit)×((Int×Nat×BA×Int×BA×Int)×(Int×Int×Int)×L57)) :=
 (brE (b3==2)
 (gL q5s l<|
 ((qhv (dL q5s l) b0 b0_1 b0_2 (wI depth)).bind fun r0 =>
 (gdE (EC.isL q5t [[(C.int Go.IntKind.i64 r0.1.1),(C.sl (EC.encL q5t r0.1.2.1)),(C.str r0.1.2.2.1),(C.int Go.IntKind.i64 r0.1.2.2.2.1),(C.str r0.1.2.2.2.2.1),(C.int Go.IntKind.i64 r0.1.2.2.2.2.2)]])<|
 (some (((),()),((b3,(1,(⟨#[]⟩,(0,(⟨#[]⟩,0))))),((r0.2.1,(r0.2.2.1,r0.2.2.2)),(EC.decL q5t [[(C.int Go.IntKind.i64 r0.1.1),(C.sl (EC.encL q5t r0.1.2.1)),(C.str r0.1.2.2.1),(C.int Go.IntKind.i64 r0.1.2.2.2.1),(C.str r0.1.2.2.2.2.1),(C.int Go.IntKind.i64 r0.1.2.2.2.2.2)]]))))))))
 (gL q5s l<|
 (gL q5t b4<|
 (gL q5t b5<|
 ((qh2 (dL q5s l) depth b0 b0_1 b0_2 b1 b1_1 b1_2 b1_3 b1_4 b1_5 b2 b2_1 b2_2 b3 b3_1 b3_2 b3_3 b3_4 b3_5 (dL q5t b4) (dL q5t b5)).bind fun r0 =>
 (gL q5t r0.2.2.2<|
 (some (((),()),((r0.2.1.1,(r0.2.1.2.1,(r0.2.1.2.2.1,(r0.2.1.2.2.2.1,(r0.2.1.2.2.2.2.1,r0.2.1.2.2.2.2.2))))),((r0.2.2.1.1,(r0.2.2.1.2.1,r0.2.2.1.2.2)),(dL q5t r0.2.2.2)))))))))))
theorem qgx {l depth b0 b0_1 b0_2 b1 b1_1 b1_2 b1_3 b1_4 b1_5 b2 b2_1 b2_2 b3 b3_1 b3_2 b3_3 b3_4 b3_5 b4 b5 r} (h:qh1 l depth b0 b0_1 b0_2 b1 b1_1 b1_2 b1_3 b1_4 b1_5 b2 b2_1 b2_2 b3 b3_1 b3_2 b3_3 b3_4 b3_5 b4 b5=some r):qgv l depth b0 b0_1 b0_2 b1 b1_1 b1_2 b1_3 b1_4 b1_5 b2 b2_1 b2_2 b3 b3_1 b3_2 b3_3 b3_4 b3_5 b4 b5=some r :=
 q8r (es:=q13v) (hs:=q9f) [qh3] (by kernel_rfl) trivial ⟨⟨_,rfl,rfl⟩,trivial⟩ (by kernel_rfl) h
def qgw:=gentS Tryz.prog lv X0 20 (q8y (cdF Tryz.f42) 20) (by kernel_rfl) qh0 qgy (fun x=>qgv x.1.1 x.1.2.1 x.2.1.1 x.2.1.2.1 x.2.1.2.2 x.2.2.1.1 x.2.2.1.2.1 x.2.2.1.2.2.1 x.2.2.1.2.2.2.1 x.2.2.1.2.2.2.2.1 x.2.2.1.2.2.2.2.2 x.2.2.2.1.1 x.2.2.2.1.2.1 x.2.2.2.1.2.2 x.2.2.2.2.1.1 x.2.2.2.2.1.2.1 x.2.2.2.2.1.2.2.1 x.2.2.2.2.1.2.2.2.1 x.2.2.2.2.1.2.2.2.2.1 x.2.2.2.2.1.2.2.2.2.2 x.2.2.2.2.2.1 x.2.2.2.2.2.2) (fun _ _ h=>q8q h)
def qgt:=sLS [0,2,4,6,7,11] z2e z2a [false,false,false,false,false,false] [] (by decide) (fun _=>rfl)
def qgs:=sLS [6,7] z2m z2d [false,false,false] [] (by decide) (fun _=>rfl)
def qgr:=oAt 1 qgs
def qgo (l:L53) (depth b0:Int) (b0_1 b0_2 b1:Int) (b1_1:Nat) (b1_2:BA) (b1_3:Int) (b1_4:BA) (b1_5 b2:Int) (b2_1 b2_2 b3:Int) (b3_1:Nat) (b3_2:BA) (b3_3:Int) (b3_4:BA) (b3_5:Int) (b4 b5:L57):=gS Tryz.prog lv X0 42 159 (q8y (cdF Tryz.f42) 18) qgt qgr ((l,depth,(),(),(),()),((b0,b0_1,b0_2),(b1,b1_1,b1_2,b1_3,b1_4,b1_5),(b2,b2_1,b2_2),(b3,b3_1,b3_2,b3_3,b3_4,b3_5),b4,b5))
def qgu (l:L53) (depth b0:Int) (b0_1 b0_2 b1:Int) (b1_1:Nat) (b1_2:BA) (b1_3:Int) (b1_4:BA) (b1_5 b2:Int) (b2_1 b2_2 b3:Int) (b3_1:Nat) (b3_2:BA) (b3_3:Int) (b3_4:BA) (b3_5:Int) (b4 b5:L57):Oq ((Unit×Unit)×((Int×Nat×BA×Int×BA×Int)×(Int×Int×Int)×L57)) :=
 (brE (b3==8)
 (gL q5s l<|
 ((qp7 (dL q5s l) b0 b0_1 b0_2).bind fun r0 =>
 (gL q5s l<|
 (gL q5t b4<|
 (gL q5t b5<|
 ((qgv (dL q5s l) depth r0.2.1 r0.2.2.1 r0.2.2.2 b1 b1_1 b1_2 b1_3 b1_4 b1_5 b2 b2_1 b2_2 b3 b3_1 b3_2 b3_3 b3_4 r0.1 (dL q5t b4) (dL q5t b5)).bind fun r1 =>
 (gL q5t r1.2.2.2<|
 (some (((),()),((r1.2.1.1,(r1.2.1.2.1,(r1.2.1.2.2.1,(r1.2.1.2.2.2.1,(r1.2.1.2.2.2.2.1,r1.2.1.2.2.2.2.2))))),((r1.2.2.1.1,(r1.2.2.1.2.1,r1.2.2.1.2.2)),(dL q5t r1.2.2.2))))))))))))
 (gL q5s l<|
 (gL q5t b4<|
 (gL q5t b5<|
 ((qgv (dL q5s l) depth b0 b0_1 b0_2 b1 b1_1 b1_2 b1_3 b1_4 b1_5 b2 b2_1 b2_2 b3 b3_1 b3_2 b3_3 b3_4 b3_5 (dL q5t b4) (dL q5t b5)).bind fun r0 =>
 (gL q5t r0.2.2.2<|
 (some (((),()),((r0.2.1.1,(r0.2.1.2.1,(r0.2.1.2.2.1,(r0.2.1.2.2.2.1,(r0.2.1.2.2.2.2.1,r0.2.1.2.2.2.2.2))))),((r0.2.2.1.1,(r0.2.2.1.2.1,r0.2.2.1.2.2)),(dL q5t r0.2.2.2)))))))))))
theorem qgq {l depth b0 b0_1 b0_2 b1 b1_1 b1_2 b1_3 b1_4 b1_5 b2 b2_1 b2_2 b3 b3_1 b3_2 b3_3 b3_4 b3_5 b4 b5 r} (h:qgu l depth b0 b0_1 b0_2 b1 b1_1 b1_2 b1_3 b1_4 b1_5 b2 b2_1 b2_2 b3 b3_1 b3_2 b3_3 b3_4 b3_5 b4 b5=some r):qgo l depth b0 b0_1 b0_2 b1 b1_1 b1_2 b1_3 b1_4 b1_5 b2 b2_1 b2_2 b3 b3_1 b3_2 b3_3 b3_4 b3_5 b4 b5=some r :=
 q8r (es:=q13v) (hs:=q9f) [qgw] (by kernel_rfl) trivial ⟨⟨_,rfl,rfl⟩,trivial⟩ (by kernel_rfl) h
def qgp:=gentS Tryz.prog lv X0 18 (q8y (cdF Tryz.f42) 18) (by kernel_rfl) qgt qgr (fun x=>qgo x.1.1 x.1.2.1 x.2.1.1 x.2.1.2.1 x.2.1.2.2 x.2.2.1.1 x.2.2.1.2.1 x.2.2.1.2.2.1 x.2.2.1.2.2.2.1 x.2.2.1.2.2.2.2.1 x.2.2.1.2.2.2.2.2 x.2.2.2.1.1 x.2.2.2.1.2.1 x.2.2.2.1.2.2 x.2.2.2.2.1.1 x.2.2.2.2.1.2.1 x.2.2.2.2.1.2.2.1 x.2.2.2.2.1.2.2.2.1 x.2.2.2.2.1.2.2.2.2.1 x.2.2.2.2.1.2.2.2.2.2 x.2.2.2.2.2.1 x.2.2.2.2.2.2) (fun _ _ h=>q8q h)
def qgm:=sLS [0,2,4,6,7,11] z2e z2a [false,false,false,false,false,false] [] (by decide) (fun _=>rfl)
def qgl:=sLS [6,7] z2m z2d [false,false,false] [] (by decide) (fun _=>rfl)
def qgk:=oAt 1 qgl
def qgh (l:L53) (depth b0:Int) (b0_1 b0_2 b1:Int) (b1_1:Nat) (b1_2:BA) (b1_3:Int) (b1_4:BA) (b1_5 b2:Int) (b2_1 b2_2 b3:Int) (b3_1:Nat) (b3_2:BA) (b3_3:Int) (b3_4:BA) (b3_5:Int) (b4 b5:L57):=gS Tryz.prog lv X0 42 159 (q8y (cdF Tryz.f42) 16) qgm qgk ((l,depth,(),(),(),()),((b0,b0_1,b0_2),(b1,b1_1,b1_2,b1_3,b1_4,b1_5),(b2,b2_1,b2_2),(b3,b3_1,b3_2,b3_3,b3_4,b3_5),b4,b5))
def qgn (l:L53) (depth b0:Int) (b0_1 b0_2 b1:Int) (b1_1:Nat) (b1_2:BA) (b1_3:Int) (b1_4:BA) (b1_5 b2:Int) (b2_1 b2_2 b3:Int) (b3_1:Nat) (b3_2:BA) (b3_3:Int) (b3_4:BA) (b3_5:Int) (b4 b5:L57):Oq ((Unit×Unit)×((Int×Nat×BA×Int×BA×Int)×(Int×Int×Int)×L57)) :=
 ((qes b3 5 7).bind fun r0 =>
 (brE r0
 (gL q5s l<|
 ((qpk (dL q5s l) b0 b0_1 b0_2).bind fun r1 =>
 (gL q5s l<|
 (gL q5t b4<|
 (gL q5t b5<|
 ((qgo (dL q5s l) depth r1.2.2.1 r1.2.2.2.1 r1.2.2.2.2 b1 b1_1 b1_2 b1_3 b1_4 b1_5 b2 b2_1 b2_2 b3 b3_1 b3_2 r1.1 r1.2.1 b3_5 (dL q5t b4) (dL q5t b5)).bind fun r2 =>
 (gL q5t r2.2.2.2<|
 (some (((),()),((r2.2.1.1,(r2.2.1.2.1,(r2.2.1.2.2.1,(r2.2.1.2.2.2.1,(r2.2.1.2.2.2.2.1,r2.2.1.2.2.2.2.2))))),((r2.2.2.1.1,(r2.2.2.1.2.1,r2.2.2.1.2.2)),(dL q5t r2.2.2.2))))))))))))
 (gL q5s l<|
 (gL q5t b4<|
 (gL q5t b5<|
 ((qgo (dL q5s l) depth b0 b0_1 b0_2 b1 b1_1 b1_2 b1_3 b1_4 b1_5 b2 b2_1 b2_2 b3 b3_1 b3_2 b3_3 b3_4 b3_5 (dL q5t b4) (dL q5t b5)).bind fun r1 =>
 (gL q5t r1.2.2.2<|
 (some (((),()),((r1.2.1.1,(r1.2.1.2.1,(r1.2.1.2.2.1,(r1.2.1.2.2.2.1,(r1.2.1.2.2.2.2.1,r1.2.1.2.2.2.2.2))))),((r1.2.2.1.1,(r1.2.2.1.2.1,r1.2.2.1.2.2)),(dL q5t r1.2.2.2))))))))))))
theorem qgj {l depth b0 b0_1 b0_2 b1 b1_1 b1_2 b1_3 b1_4 b1_5 b2 b2_1 b2_2 b3 b3_1 b3_2 b3_3 b3_4 b3_5 b4 b5 r} (h:qgn l depth b0 b0_1 b0_2 b1 b1_1 b1_2 b1_3 b1_4 b1_5 b2 b2_1 b2_2 b3 b3_1 b3_2 b3_3 b3_4 b3_5 b4 b5=some r):qgh l depth b0 b0_1 b0_2 b1 b1_1 b1_2 b1_3 b1_4 b1_5 b2 b2_1 b2_2 b3 b3_1 b3_2 b3_3 b3_4 b3_5 b4 b5=some r :=
 q8r (es:=q13v) (hs:=q9f) [qgp] (by kernel_rfl) trivial ⟨⟨_,rfl,rfl⟩,trivial⟩ (by kernel_rfl) h
def qgi:=gentS Tryz.prog lv X0 16 (q8y (cdF Tryz.f42) 16) (by kernel_rfl) qgm qgk (fun x=>qgh x.1.1 x.1.2.1 x.2.1.1 x.2.1.2.1 x.2.1.2.2 x.2.2.1.1 x.2.2.1.2.1 x.2.2.1.2.2.1 x.2.2.1.2.2.2.1 x.2.2.1.2.2.2.2.1 x.2.2.1.2.2.2.2.2 x.2.2.2.1.1 x.2.2.2.1.2.1 x.2.2.2.1.2.2 x.2.2.2.2.1.1 x.2.2.2.2.1.2.1 x.2.2.2.2.1.2.2.1 x.2.2.2.2.1.2.2.2.1 x.2.2.2.2.1.2.2.2.2.1 x.2.2.2.2.1.2.2.2.2.2 x.2.2.2.2.2.1 x.2.2.2.2.2.2) (fun _ _ h=>q8q h)
def qhw (l:L53) (r_Next r_Many:Int) (r_Bad depth:Int):Oq ((Int×L57×BA×Int×BA×Int)×(Int×Int×Int)) :=
 (brE ((decide (r_Bad<0))==true)
 (brE (decide (depth>8))
 (gL q5s l<|
 ((qqe (dL q5s l) r_Next r_Many r_Bad r_Next).bind fun r0 =>
 (some ((0,((EC.decL q5t []),(⟨#[]⟩,(0,(⟨#[]⟩,0))))),(r0.1,(r0.2.1,r0.2.2))))))
 (gL q5s l<|
 ((qq2 (dL q5s l) r_Next r_Many r_Bad 119).bind fun r0 =>
 (gL q5s l<|
 ((qho (dL q5s l) depth r_Next r0.1 10 1 r0.2.1 r0.2.2.1 r0.2.2.2 0 0 ⟨#[]⟩ 0 ⟨#[]⟩ 0 0 0 0 (EC.decL q5v [[(C.str ⟨#[]⟩)],[(C.str (ByteArray.mk (List.toArray [(116:UInt8),(114:UInt8),(117:UInt8),(101:UInt8)])))],[(C.str (ByteArray.mk (List.toArray [(110:UInt8),(111:UInt8),(116:UInt8)])))],[(C.str (ByteArray.mk (List.toArray [(97:UInt8),(108:UInt8),(108:UInt8)])))],[(C.str (ByteArray.mk (List.toArray [(97:UInt8),(110:UInt8),(121:UInt8)])))],[(C.str (ByteArray.mk (List.toArray [(104:UInt8),(101:UInt8),(97:UInt8),(100:UInt8),(101:UInt8),(114:UInt8)])))],[(C.str (ByteArray.mk (List.toArray [(102:UInt8),(114:UInt8),(111:UInt8),(109:UInt8)])))],[(C.str (ByteArray.mk (List.toArray [(116:UInt8),(111:UInt8)])))],[(C.str (ByteArray.mk (List.toArray [(115:UInt8),(105:UInt8),(122:UInt8),(101:UInt8)])))],[(C.str (ByteArray.mk (List.toArray [(101:UInt8),(120:UInt8),(105:UInt8),(115:UInt8),(116:UInt8),(115:UInt8)])))]]) 0 0 ⟨#[]⟩ 0 ⟨#[]⟩ 0 (EC.decL q5t []) (EC.decL q5t [])).bind fun r1 =>
 (brE (r1.2.2.2.2.2.1.1==0)
 (gL q5s r1.1.1<|
 ((qqe (dL q5s r1.1.1) r1.2.1.1 r1.2.1.2.1 r1.2.1.2.2 r1.1.2.2.2.2.2.1).bind fun r2 =>
 (gL q5t r1.2.2.2.2.2.2.2<|
 (some ((r1.2.2.2.2.2.1.1,((dL q5t r1.2.2.2.2.2.2.2),(r1.2.2.2.2.2.1.2.2.1,(r1.2.2.2.2.2.1.2.2.2.1,(r1.2.2.2.2.2.1.2.2.2.2.1,r1.2.2.2.2.2.1.2.2.2.2.2))))),(r2.1,(r2.2.1,r2.2.2)))))))
 (brE ((r1.2.2.2.2.2.1.1==5)==false)
 (brE (r1.2.2.2.2.2.1.1==9)
 (gL q5s r1.1.1<|
 ((qq2 (dL q5s r1.1.1) r1.2.1.1 r1.2.1.2.1 r1.2.1.2.2 113).bind fun r2 =>
 (gL q5s r1.1.1<|
 (gL q5t r1.2.2.2.2.2.2.1<|
 (gL q5t r1.2.2.2.2.2.2.2<|
 ((qgh (dL q5s r1.1.1) r1.1.2.1 r2.2.1 r2.2.2.1 r2.2.2.2 r1.2.2.1.1 r1.2.2.1.2.1 r1.2.2.1.2.2.1 r1.2.2.1.2.2.2.1 r1.2.2.1.2.2.2.2.1 r1.2.2.1.2.2.2.2.2 r1.2.2.2.1.1 r1.2.2.2.1.2.1 r1.2.2.2.1.2.2 r1.2.2.2.2.2.1.1 r1.2.2.2.2.2.1.2.1 r2.1 r1.2.2.2.2.2.1.2.2.2.1 r1.2.2.2.2.2.1.2.2.2.2.1 r1.2.2.2.2.2.1.2.2.2.2.2 (dL q5t r1.2.2.2.2.2.2.1) (dL q5t r1.2.2.2.2.2.2.2)).bind fun r3 =>
 (gL q5t r3.2.2.2<|
 (some ((r3.2.1.1,((dL q5t r3.2.2.2),(r3.2.1.2.2.1,(r3.2.1.2.2.2.1,(r3.2.1.2.2.2.2.1,r3.2.1.2.2.2.2.2))))),(r3.2.2.1.1,(r3.2.2.1.2.1,r3.2.2.1.2.2)))))))))))
 (gL q5s r1.1.1<|
 (gL q5t r1.2.2.2.2.2.2.1<|
 (gL q5t r1.2.2.2.2.2.2.2<|
 ((qgh (dL q5s r1.1.1) r1.1.2.1 r1.2.1.1 r1.2.1.2.1 r1.2.1.2.2 r1.2.2.1.1 r1.2.2.1.2.1 r1.2.2.1.2.2.1 r1.2.2.1.2.2.2.1 r1.2.2.1.2.2.2.2.1 r1.2.2.1.2.2.2.2.2 r1.2.2.2.1.1 r1.2.2.2.1.2.1 r1.2.2.2.1.2.2 r1.2.2.2.2.2.1.1 r1.2.2.2.2.2.1.2.1 r1.2.2.2.2.2.1.2.2.1 r1.2.2.2.2.2.1.2.2.2.1 r1.2.2.2.2.2.1.2.2.2.2.1 r1.2.2.2.2.2.1.2.2.2.2.2 (dL q5t r1.2.2.2.2.2.2.1) (dL q5t r1.2.2.2.2.2.2.2)).bind fun r2 =>
 (gL q5t r2.2.2.2<|
 (some ((r2.2.1.1,((dL q5t r2.2.2.2),(r2.2.1.2.2.1,(r2.2.1.2.2.2.1,(r2.2.1.2.2.2.2.1,r2.2.1.2.2.2.2.2))))),(r2.2.2.1.1,(r2.2.2.1.2.1,r2.2.2.1.2.2))))))))))
 (gL q5s r1.1.1<|
 ((qq2 (dL q5s r1.1.1) r1.2.1.1 r1.2.1.2.1 r1.2.1.2.2 113).bind fun r2 =>
 (gL q5s r1.1.1<|
 (gL q5t r1.2.2.2.2.2.2.1<|
 (gL q5t r1.2.2.2.2.2.2.2<|
 ((qgh (dL q5s r1.1.1) r1.1.2.1 r2.2.1 r2.2.2.1 r2.2.2.2 r1.2.2.1.1 r1.2.2.1.2.1 r1.2.2.1.2.2.1 r1.2.2.1.2.2.2.1 r1.2.2.1.2.2.2.2.1 r1.2.2.1.2.2.2.2.2 r1.2.2.2.1.1 r1.2.2.2.1.2.1 r1.2.2.2.1.2.2 r1.2.2.2.2.2.1.1 r1.2.2.2.2.2.1.2.1 r2.1 r1.2.2.2.2.2.1.2.2.2.1 r1.2.2.2.2.2.1.2.2.2.2.1 r1.2.2.2.2.2.1.2.2.2.2.2 (dL q5t r1.2.2.2.2.2.2.1) (dL q5t r1.2.2.2.2.2.2.2)).bind fun r3 =>
 (gL q5t r3.2.2.2<|
 (some ((r3.2.1.1,((dL q5t r3.2.2.2),(r3.2.1.2.2.1,(r3.2.1.2.2.2.1,(r3.2.1.2.2.2.2.1,r3.2.1.2.2.2.2.2))))),(r3.2.2.1.1,(r3.2.2.1.2.1,r3.2.2.1.2.2))))))))))))))))))
 (gL q5s l<|
 ((qq2 (dL q5s l) r_Next r_Many r_Bad 119).bind fun r0 =>
 (gL q5s l<|
 ((qho (dL q5s l) depth r_Next r0.1 10 1 r0.2.1 r0.2.2.1 r0.2.2.2 0 0 ⟨#[]⟩ 0 ⟨#[]⟩ 0 0 0 0 (EC.decL q5v [[(C.str ⟨#[]⟩)],[(C.str (ByteArray.mk (List.toArray [(116:UInt8),(114:UInt8),(117:UInt8),(101:UInt8)])))],[(C.str (ByteArray.mk (List.toArray [(110:UInt8),(111:UInt8),(116:UInt8)])))],[(C.str (ByteArray.mk (List.toArray [(97:UInt8),(108:UInt8),(108:UInt8)])))],[(C.str (ByteArray.mk (List.toArray [(97:UInt8),(110:UInt8),(121:UInt8)])))],[(C.str (ByteArray.mk (List.toArray [(104:UInt8),(101:UInt8),(97:UInt8),(100:UInt8),(101:UInt8),(114:UInt8)])))],[(C.str (ByteArray.mk (List.toArray [(102:UInt8),(114:UInt8),(111:UInt8),(109:UInt8)])))],[(C.str (ByteArray.mk (List.toArray [(116:UInt8),(111:UInt8)])))],[(C.str (ByteArray.mk (List.toArray [(115:UInt8),(105:UInt8),(122:UInt8),(101:UInt8)])))],[(C.str (ByteArray.mk (List.toArray [(101:UInt8),(120:UInt8),(105:UInt8),(115:UInt8),(116:UInt8),(115:UInt8)])))]]) 0 0 ⟨#[]⟩ 0 ⟨#[]⟩ 0 (EC.decL q5t []) (EC.decL q5t [])).bind fun r1 =>
 (brE (r1.2.2.2.2.2.1.1==0)
 (gL q5s r1.1.1<|
 ((qqe (dL q5s r1.1.1) r1.2.1.1 r1.2.1.2.1 r1.2.1.2.2 r1.1.2.2.2.2.2.1).bind fun r2 =>
 (gL q5t r1.2.2.2.2.2.2.2<|
 (some ((r1.2.2.2.2.2.1.1,((dL q5t r1.2.2.2.2.2.2.2),(r1.2.2.2.2.2.1.2.2.1,(r1.2.2.2.2.2.1.2.2.2.1,(r1.2.2.2.2.2.1.2.2.2.2.1,r1.2.2.2.2.2.1.2.2.2.2.2))))),(r2.1,(r2.2.1,r2.2.2)))))))
 (brE ((r1.2.2.2.2.2.1.1==5)==false)
 (brE (r1.2.2.2.2.2.1.1==9)
 (gL q5s r1.1.1<|
 ((qq2 (dL q5s r1.1.1) r1.2.1.1 r1.2.1.2.1 r1.2.1.2.2 113).bind fun r2 =>
 (gL q5s r1.1.1<|
 (gL q5t r1.2.2.2.2.2.2.1<|
 (gL q5t r1.2.2.2.2.2.2.2<|
 ((qgh (dL q5s r1.1.1) r1.1.2.1 r2.2.1 r2.2.2.1 r2.2.2.2 r1.2.2.1.1 r1.2.2.1.2.1 r1.2.2.1.2.2.1 r1.2.2.1.2.2.2.1 r1.2.2.1.2.2.2.2.1 r1.2.2.1.2.2.2.2.2 r1.2.2.2.1.1 r1.2.2.2.1.2.1 r1.2.2.2.1.2.2 r1.2.2.2.2.2.1.1 r1.2.2.2.2.2.1.2.1 r2.1 r1.2.2.2.2.2.1.2.2.2.1 r1.2.2.2.2.2.1.2.2.2.2.1 r1.2.2.2.2.2.1.2.2.2.2.2 (dL q5t r1.2.2.2.2.2.2.1) (dL q5t r1.2.2.2.2.2.2.2)).bind fun r3 =>
 (gL q5t r3.2.2.2<|
 (some ((r3.2.1.1,((dL q5t r3.2.2.2),(r3.2.1.2.2.1,(r3.2.1.2.2.2.1,(r3.2.1.2.2.2.2.1,r3.2.1.2.2.2.2.2))))),(r3.2.2.1.1,(r3.2.2.1.2.1,r3.2.2.1.2.2)))))))))))
 (gL q5s r1.1.1<|
 (gL q5t r1.2.2.2.2.2.2.1<|
 (gL q5t r1.2.2.2.2.2.2.2<|
 ((qgh (dL q5s r1.1.1) r1.1.2.1 r1.2.1.1 r1.2.1.2.1 r1.2.1.2.2 r1.2.2.1.1 r1.2.2.1.2.1 r1.2.2.1.2.2.1 r1.2.2.1.2.2.2.1 r1.2.2.1.2.2.2.2.1 r1.2.2.1.2.2.2.2.2 r1.2.2.2.1.1 r1.2.2.2.1.2.1 r1.2.2.2.1.2.2 r1.2.2.2.2.2.1.1 r1.2.2.2.2.2.1.2.1 r1.2.2.2.2.2.1.2.2.1 r1.2.2.2.2.2.1.2.2.2.1 r1.2.2.2.2.2.1.2.2.2.2.1 r1.2.2.2.2.2.1.2.2.2.2.2 (dL q5t r1.2.2.2.2.2.2.1) (dL q5t r1.2.2.2.2.2.2.2)).bind fun r2 =>
 (gL q5t r2.2.2.2<|
 (some ((r2.2.1.1,((dL q5t r2.2.2.2),(r2.2.1.2.2.1,(r2.2.1.2.2.2.1,(r2.2.1.2.2.2.2.1,r2.2.1.2.2.2.2.2))))),(r2.2.2.1.1,(r2.2.2.1.2.1,r2.2.2.1.2.2))))))))))
 (gL q5s r1.1.1<|
 ((qq2 (dL q5s r1.1.1) r1.2.1.1 r1.2.1.2.1 r1.2.1.2.2 113).bind fun r2 =>
 (gL q5s r1.1.1<|
 (gL q5t r1.2.2.2.2.2.2.1<|
 (gL q5t r1.2.2.2.2.2.2.2<|
 ((qgh (dL q5s r1.1.1) r1.1.2.1 r2.2.1 r2.2.2.1 r2.2.2.2 r1.2.2.1.1 r1.2.2.1.2.1 r1.2.2.1.2.2.1 r1.2.2.1.2.2.2.1 r1.2.2.1.2.2.2.2.1 r1.2.2.1.2.2.2.2.2 r1.2.2.2.1.1 r1.2.2.2.1.2.1 r1.2.2.2.1.2.2 r1.2.2.2.2.2.1.1 r1.2.2.2.2.2.1.2.1 r2.1 r1.2.2.2.2.2.1.2.2.2.1 r1.2.2.2.2.2.1.2.2.2.2.1 r1.2.2.2.2.2.1.2.2.2.2.2 (dL q5t r1.2.2.2.2.2.2.1) (dL q5t r1.2.2.2.2.2.2.2)).bind fun r3 =>
 (gL q5t r3.2.2.2<|
 (some ((r3.2.1.1,((dL q5t r3.2.2.2),(r3.2.1.2.2.1,(r3.2.1.2.2.2.1,(r3.2.1.2.2.2.2.1,r3.2.1.2.2.2.2.2))))),(r3.2.2.1.1,(r3.2.2.1.2.1,r3.2.2.1.2.2))))))))))))))))))
theorem qgg {l r_Next r_Many r_Bad depth r} (h:qhw l r_Next r_Many r_Bad depth=some r):qhv l r_Next r_Many r_Bad depth=some r :=
 q75 (es:=q13v) (hs:=q9f) [qhp,qgi] Tryz.func42 rfl (by kernel_rfl) rfl (by kernel_rfl) (by kernel_rfl) ⟨⟨_,rfl,rfl⟩,trivial⟩ ⟨⟨_,rfl,rfl⟩,trivial⟩ (by kernel_rfl) h
def qfd:=z2n
def qfe:Cod (V×List B) ((List S59)×(Int×Int×Int)):=(cFstU (cPair (vTup (qb7 (vC (cSl q5u)) z2q)) qb8))
def qgb (l:L53) (r_Next r_Many:Int) (r_Bad depth:Int):=fS Tryz.prog lv X0 24 qfd qfe (l,(r_Next,r_Many,r_Bad),depth)
def qff:=entS Tryz.prog lv X0 24 [] qfd qfe (fun x=>qgb x.1 x.2.1.1 x.2.1.2.1 x.2.1.2.2 x.2.2) (fun _ _ h=>q74 h)
def q13u:=qff::q13v
def qpm:=z2n
def qpn:Cod (V×List B) ((List S59)×(Int×Int×Int)):=(cFstU (cPair (vTup (qb7 (vC (cSl q5u)) z2q)) qb8))
def qpq (l:L53) (r_Next r_Many:Int) (r_Bad depth:Int):=fS Tryz.prog lv X0 43 qpm qpn (l,(r_Next,r_Many,r_Bad),depth)
def qpr (l:L53) (r_Next r_Many:Int) (r_Bad depth:Int):Oq (L59×(Int×Int×Int)) :=
 (gL q5s l<|
 ((qpw (dL q5s l) r_Next r_Many r_Bad 115 (ByteArray.mk (List.toArray [(123:UInt8)]))).bind fun r0 =>
 (gL q5s l<|
 ((qgb (dL q5s l) r0.1 r0.2.1 r0.2.2 depth).bind fun r1 =>
 (gL q5s l<|
 ((qpw (dL q5s l) r1.2.1 r1.2.2.1 r1.2.2.2 115 (ByteArray.mk (List.toArray [(125:UInt8)]))).bind fun r2 =>
 (gL q5u r1.1<|
 (some ((dL q5u r1.1),(r2.1,(r2.2.1,r2.2.2)))))))))))
theorem qpp {l r_Next r_Many r_Bad depth r} (h:qpr l r_Next r_Many r_Bad depth=some r):qpq l r_Next r_Many r_Bad depth=some r :=
 q75 (es:=q13u) (hs:=q9f) [] Tryz.func43 rfl (by kernel_rfl) rfl (by kernel_rfl) (by kernel_rfl) trivial trivial (by kernel_rfl) h
def qpo:=entS Tryz.prog lv X0 43 [] qpm qpn (fun x=>qpq x.1 x.2.1.1 x.2.1.2.1 x.2.1.2.2 x.2.2) (fun _ _ h=>q74 h)
def q148:=qpo::q13u
abbrev z2b:=(qb7 (qdm (bBox z29)) (qb7 (qdm (bBox z29)) (qb7 (qdm (bRow q5u)) (qb7 (qdm (bBox (qb7 (vC (cInt .i64)) (qb7 (vC (cInt .i64)) (qb7 (vRow 4) (qb7 (vC cStr) (qb7 (vC (cInt .i64)) (qb7 (vC cStr) (qb7 (vC (cInt .i64)) (qb7 (vRow 5) (qb7 (vRow 6) (qb7 (vC (cInt .i64)) (qb7 (vC cStr) (qb7 (vC cStr) (qb9 (vC (cInt .i64))))))))))))))))) (qb7 (qdm (bRow q5t)) (qb7 (qdm (bRow q5u)) (qb9 (qdm (bRow q5u)))))))))
def qg2:=sLS [0,2,4,7,8,9,10,11,12] (qb7 z2i (qb7 z2c (qb7 (vPtr 0 0) (qb7 (vPtr 1 0) (qb7 (vRow 2) (qb7 z2c (qb7 (vC cStr) (qb7 (vPtr 3 0) (qb9 z2c))))))))) z2b [false,false,false,false,false,false,false] [] (by decide) (fun _=>rfl)
def qg1:=sLS [0,2,4,7,8,9,10,11,12,118] (qb7 z2i (qb7 z2c (qb7 (vPtr 0 0) (qb7 (vPtr 1 0) (qb7 (vRow 2) (qb7 z2c (qb7 (vC cStr) (qb7 (vPtr 3 0) (qb7 z2c z2o))))))))) z2b [false,false,false,false,false,false,false] [] (by decide) (fun _=>rfl)
def qg0:=oAt 4 qg1
def qfx (l:L53) (depth:Int) (out:Nat) (from_:Int) (word:BA) (k b0:Int) (b0_1 b0_2:Int) (b1 b1_1 b1_2:Int) (b2:L59) (b3 b3_1:Int) (b3_2:Nat) (b3_3:BA) (b3_4:Int) (b3_5:BA) (b3_6:Int) (b3_7 b3_8:Nat) (b3_9:Int) (b3_10 b3_11:BA) (b3_12:Int) (b4:L57) (b5 b6:L59):=lS Tryz.prog lv X0 24 166 (q8x (cdF Tryz.f24) 26) qg2 qg0 ((l,depth,(),(),out,from_,word,(),k),((b0,b0_1,b0_2),(b1,b1_1,b1_2),b2,(b3,b3_1,b3_2,b3_3,b3_4,b3_5,b3_6,b3_7,b3_8,b3_9,b3_10,b3_11,b3_12),b4,b5,b6))
def qg3 (l:L53) (depth:Int) (out:Nat) (from_:Int) (word:BA) (k b0:Int) (b0_1 b0_2:Int) (b1 b1_1 b1_2:Int) (b2:L59) (b3 b3_1:Int) (b3_2:Nat) (b3_3:BA) (b3_4:Int) (b3_5:BA) (b3_6:Int) (b3_7 b3_8:Nat) (b3_9:Int) (b3_10 b3_11:BA) (b3_12:Int) (b4:L57) (b5 b6:L59):Oq ((L53×Int×Unit×Unit×Nat×Int×BA×Unit×Int×Bool)×((Int×Int×Int)×(Int×Int×Int)×L59×(Int×Int×Nat×BA×Int×BA×Int×Nat×Nat×Int×BA×BA×Int)×L57×L59×L59)) :=
 (brE (decide (k≤7))
 (gdE ((p0 k)&&(decide (k<((8:Nat):Int))))<|
 (gdE ((decide ((Int.toNat k)<(List.length [[(C.str ⟨#[]⟩)],[(C.str (ByteArray.mk (List.toArray [(107:UInt8),(101:UInt8),(101:UInt8),(112:UInt8)])))],[(C.str (ByteArray.mk (List.toArray [(102:UInt8),(105:UInt8),(108:UInt8),(101:UInt8)])))],[(C.str (ByteArray.mk (List.toArray [(100:UInt8),(105:UInt8),(115:UInt8),(99:UInt8),(97:UInt8),(114:UInt8),(100:UInt8)])))],[(C.str (ByteArray.mk (List.toArray [(114:UInt8),(101:UInt8),(100:UInt8),(105:UInt8),(114:UInt8),(101:UInt8),(99:UInt8),(116:UInt8)])))],[(C.str (ByteArray.mk (List.toArray [(114:UInt8),(101:UInt8),(106:UInt8),(101:UInt8),(99:UInt8),(116:UInt8)])))],[(C.str (ByteArray.mk (List.toArray [(102:UInt8),(108:UInt8),(97:UInt8),(103:UInt8)])))],[(C.str (ByteArray.mk (List.toArray [(114:UInt8),(101:UInt8),(112:UInt8),(108:UInt8),(121:UInt8)])))]])))&&((List.length (List.getD [[(C.str ⟨#[]⟩)],[(C.str (ByteArray.mk (List.toArray [(107:UInt8),(101:UInt8),(101:UInt8),(112:UInt8)])))],[(C.str (ByteArray.mk (List.toArray [(102:UInt8),(105:UInt8),(108:UInt8),(101:UInt8)])))],[(C.str (ByteArray.mk (List.toArray [(100:UInt8),(105:UInt8),(115:UInt8),(99:UInt8),(97:UInt8),(114:UInt8),(100:UInt8)])))],[(C.str (ByteArray.mk (List.toArray [(114:UInt8),(101:UInt8),(100:UInt8),(105:UInt8),(114:UInt8),(101:UInt8),(99:UInt8),(116:UInt8)])))],[(C.str (ByteArray.mk (List.toArray [(114:UInt8),(101:UInt8),(106:UInt8),(101:UInt8),(99:UInt8),(116:UInt8)])))],[(C.str (ByteArray.mk (List.toArray [(102:UInt8),(108:UInt8),(97:UInt8),(103:UInt8)])))],[(C.str (ByteArray.mk (List.toArray [(114:UInt8),(101:UInt8),(112:UInt8),(108:UInt8),(121:UInt8)])))]] (Int.toNat k) []))==1))<|
 (gdE (isP [K1.str] 0 (List.getD [[(C.str ⟨#[]⟩)],[(C.str (ByteArray.mk (List.toArray [(107:UInt8),(101:UInt8),(101:UInt8),(112:UInt8)])))],[(C.str (ByteArray.mk (List.toArray [(102:UInt8),(105:UInt8),(108:UInt8),(101:UInt8)])))],[(C.str (ByteArray.mk (List.toArray [(100:UInt8),(105:UInt8),(115:UInt8),(99:UInt8),(97:UInt8),(114:UInt8),(100:UInt8)])))],[(C.str (ByteArray.mk (List.toArray [(114:UInt8),(101:UInt8),(100:UInt8),(105:UInt8),(114:UInt8),(101:UInt8),(99:UInt8),(116:UInt8)])))],[(C.str (ByteArray.mk (List.toArray [(114:UInt8),(101:UInt8),(106:UInt8),(101:UInt8),(99:UInt8),(116:UInt8)])))],[(C.str (ByteArray.mk (List.toArray [(102:UInt8),(108:UInt8),(97:UInt8),(103:UInt8)])))],[(C.str (ByteArray.mk (List.toArray [(114:UInt8),(101:UInt8),(112:UInt8),(108:UInt8),(121:UInt8)])))]] (Int.toNat k) []))<|
 (brE (word.toList==(ByteArray.toList (q135 (List.getD (List.getD [[(C.str ⟨#[]⟩)],[(C.str (ByteArray.mk (List.toArray [(107:UInt8),(101:UInt8),(101:UInt8),(112:UInt8)])))],[(C.str (ByteArray.mk (List.toArray [(102:UInt8),(105:UInt8),(108:UInt8),(101:UInt8)])))],[(C.str (ByteArray.mk (List.toArray [(100:UInt8),(105:UInt8),(115:UInt8),(99:UInt8),(97:UInt8),(114:UInt8),(100:UInt8)])))],[(C.str (ByteArray.mk (List.toArray [(114:UInt8),(101:UInt8),(100:UInt8),(105:UInt8),(114:UInt8),(101:UInt8),(99:UInt8),(116:UInt8)])))],[(C.str (ByteArray.mk (List.toArray [(114:UInt8),(101:UInt8),(106:UInt8),(101:UInt8),(99:UInt8),(116:UInt8)])))],[(C.str (ByteArray.mk (List.toArray [(102:UInt8),(108:UInt8),(97:UInt8),(103:UInt8)])))],[(C.str (ByteArray.mk (List.toArray [(114:UInt8),(101:UInt8),(112:UInt8),(108:UInt8),(121:UInt8)])))]] (Int.toNat k) []) 0 C.ne))))
 (gL q5s l<|
 (gL q5u b2<|
 (gL q5t b4<|
 (gL q5u b5<|
 (gL q5u b6<|
 (qfx (dL q5s l) depth out from_ word (wI k) b0 b0_1 b0_2 b1 b1_1 b1_2 (dL q5u b2) b3 b3_1 b3_2 b3_3 b3_4 b3_5 b3_6 b3_7 b3_8 k b3_10 b3_11 b3_12 (dL q5t b4) (dL q5u b5) (dL q5u b6)))))))
 (gL q5s l<|
 (gL q5u b2<|
 (gL q5t b4<|
 (gL q5u b5<|
 (gL q5u b6<|
 (qfx (dL q5s l) depth out from_ word (wI k) b0 b0_1 b0_2 b1 b1_1 b1_2 (dL q5u b2) b3 b3_1 b3_2 b3_3 b3_4 b3_5 b3_6 b3_7 b3_8 b3_9 b3_10 b3_11 b3_12 (dL q5t b4) (dL q5u b5) (dL q5u b6)))))))))))
 (gL q5s l<|
 (gL q5u b2<|
 (gL q5t b4<|
 (gL q5u b5<|
 (gL q5u b6<|
 (some (((dL q5s l),(depth,((),((),(out,(from_,(word,((),(k,false))))))))),((b0,(b0_1,b0_2)),((b1,(b1_1,b1_2)),((dL q5u b2),((b3,(b3_1,(b3_2,(b3_3,(b3_4,(b3_5,(b3_6,(b3_7,(b3_8,(b3_9,(b3_10,(b3_11,b3_12)))))))))))),((dL q5t b4),((dL q5u b5),(dL q5u b6)))))))))))))))
theorem qfz {l depth out from_ word k b0 b0_1 b0_2 b1 b1_1 b1_2 b2 b3 b3_1 b3_2 b3_3 b3_4 b3_5 b3_6 b3_7 b3_8 b3_9 b3_10 b3_11 b3_12 b4 b5 b6 r} (h:qg3 l depth out from_ word k b0 b0_1 b0_2 b1 b1_1 b1_2 b2 b3 b3_1 b3_2 b3_3 b3_4 b3_5 b3_6 b3_7 b3_8 b3_9 b3_10 b3_11 b3_12 b4 b5 b6=some r):qfx l depth out from_ word k b0 b0_1 b0_2 b1 b1_1 b1_2 b2 b3 b3_1 b3_2 b3_3 b3_4 b3_5 b3_6 b3_7 b3_8 b3_9 b3_10 b3_11 b3_12 b4 b5 b6=some r :=
 qbb (es:=q148) (hs:=q9f) [] (by kernel_rfl) trivial trivial (by kernel_rfl) h
def qfy:=qby Tryz.prog lv X0 26 (q8x (cdF Tryz.f24) 26) qg2 qg0 (fun x=>qfx x.1.1 x.1.2.1 x.1.2.2.2.2.1 x.1.2.2.2.2.2.1 x.1.2.2.2.2.2.2.1 x.1.2.2.2.2.2.2.2.2 x.2.1.1 x.2.1.2.1 x.2.1.2.2 x.2.2.1.1 x.2.2.1.2.1 x.2.2.1.2.2 x.2.2.2.1 x.2.2.2.2.1.1 x.2.2.2.2.1.2.1 x.2.2.2.2.1.2.2.1 x.2.2.2.2.1.2.2.2.1 x.2.2.2.2.1.2.2.2.2.1 x.2.2.2.2.1.2.2.2.2.2.1 x.2.2.2.2.1.2.2.2.2.2.2.1 x.2.2.2.2.1.2.2.2.2.2.2.2.1 x.2.2.2.2.1.2.2.2.2.2.2.2.2.1 x.2.2.2.2.1.2.2.2.2.2.2.2.2.2.1 x.2.2.2.2.1.2.2.2.2.2.2.2.2.2.2.1 x.2.2.2.2.1.2.2.2.2.2.2.2.2.2.2.2.1 x.2.2.2.2.1.2.2.2.2.2.2.2.2.2.2.2.2 x.2.2.2.2.2.1 x.2.2.2.2.2.2.1 x.2.2.2.2.2.2.2) (fun _ _ h=>qba h)
abbrev z2k:=(qb7 z2i (qb7 z2c (qb7 (vPtr 0 0) (qb7 (vPtr 1 0) (qb7 (vRow 2) (qb9 (vPtr 3 0)))))))
def qfu:=sLS [0,2,4,7,8,11] z2k z2b [false,false,false,false,false,false,false] [] (by decide) (fun _=>rfl)
abbrev z2p:=(qb7 z2j (qb7 z2j (qb9 (qdm (bRow q5u)))))
abbrev z2s:=(qb7 z2i (qb7 z2c (qb7 (vPtr 0 0) (qb7 (vPtr 1 0) (qb9 (vRow 2))))))
def qft:=sLS [0,2,4,7,8] z2s z2p [false,false,false] [] (by decide) (fun _=>rfl)
def qfs:=oAt 0 qft
def qfp (l:L53) (depth:Int) (out:Nat) (b0 b0_1:Int) (b0_2 b1:Int) (b1_1 b1_2:Int) (b2:L59) (b3 b3_1:Int) (b3_2:Nat) (b3_3:BA) (b3_4:Int) (b3_5:BA) (b3_6:Int) (b3_7 b3_8:Nat) (b3_9:Int) (b3_10 b3_11:BA) (b3_12:Int) (b4:L57) (b5 b6:L59):=gS Tryz.prog lv X0 24 166 (q8y (cdF Tryz.f24) 36) qfu qfs ((l,depth,(),(),out,()),((b0,b0_1,b0_2),(b1,b1_1,b1_2),b2,(b3,b3_1,b3_2,b3_3,b3_4,b3_5,b3_6,b3_7,b3_8,b3_9,b3_10,b3_11,b3_12),b4,b5,b6))
abbrev z1a (b3 b3_1:Int) (b3_3:BA) (b3_4:Int) (b3_5:BA) (b3_6 b3_9:Int) (b3_10 b3_11:BA) (b3_12:Int) (b4:L57) (b5 b6:L59):=(List.length [[(C.int Go.IntKind.i64 b3),(C.int Go.IntKind.i64 b3_1),(C.sl (EC.encL q5t b4)),(C.str b3_3),(C.int Go.IntKind.i64 b3_4),(C.str b3_5),(C.int Go.IntKind.i64 b3_6),(C.sl (EC.encL q5u b5)),(C.sl (EC.encL q5u b6)),(C.int Go.IntKind.i64 b3_9),(C.str b3_10),(C.str b3_11),(C.int Go.IntKind.i64 b3_12)]])
def qfv (l:L53) (depth:Int) (out:Nat) (b0 b0_1:Int) (b0_2 b1:Int) (b1_1 b1_2:Int) (b2:L59) (b3 b3_1:Int) (b3_2:Nat) (b3_3:BA) (b3_4:Int) (b3_5:BA) (b3_6:Int) (b3_7 b3_8:Nat) (b3_9:Int) (b3_10 b3_11:BA) (b3_12:Int) (b4:L57) (b5 b6:L59):Oq ((L53×Int×Unit×Unit×Nat)×((Int×Int×Int)×(Int×Int×Int)×L59)) :=
 (gL q5s l<|
 ((qpw (dL q5s l) b0 b0_1 b0_2 115 (ByteArray.mk (List.toArray [(59:UInt8)]))).bind fun r0 =>
 (gdE ((((aL [[(C.int Go.IntKind.i64 b3),(C.int Go.IntKind.i64 b3_1),(C.sl (EC.encL q5t b4)),(C.str b3_3),(C.int Go.IntKind.i64 b3_4),(C.str b3_5),(C.int Go.IntKind.i64 b3_6),(C.sl (EC.encL q5u b5)),(C.sl (EC.encL q5u b6)),(C.int Go.IntKind.i64 b3_9),(C.str b3_10),(C.str b3_11),(C.int Go.IntKind.i64 b3_12)]] 13)&&(aL (EC.encL q5u b2) 13))&&(dQ (out+(z1a b3 b3_1 b3_3 b3_4 b3_5 b3_6 b3_9 b3_10 b3_11 b3_12 b4 b5 b6)) 184))&&(decide ((out+(z1a b3 b3_1 b3_3 b3_4 b3_5 b3_6 b3_9 b3_10 b3_11 b3_12 b4 b5 b6))≤9223372036854775807)))<|
 (gL q5s l<|
 (gdE (EC.isL q5u ((EC.encL q5u b2)++[[(C.int Go.IntKind.i64 b3),(C.int Go.IntKind.i64 b3_1),(C.sl (EC.encL q5t b4)),(C.str b3_3),(C.int Go.IntKind.i64 b3_4),(C.str b3_5),(C.int Go.IntKind.i64 b3_6),(C.sl (EC.encL q5u b5)),(C.sl (EC.encL q5u b6)),(C.int Go.IntKind.i64 b3_9),(C.str b3_10),(C.str b3_11),(C.int Go.IntKind.i64 b3_12)]]))<|
 (some (((dL q5s l),(depth,((),((),(out+(z1a b3 b3_1 b3_3 b3_4 b3_5 b3_6 b3_9 b3_10 b3_11 b3_12 b4 b5 b6)))))),((r0.1,(r0.2.1,r0.2.2)),((b1,(b1_1,b1_2)),(EC.decL q5u ((EC.encL q5u b2)++[[(C.int Go.IntKind.i64 b3),(C.int Go.IntKind.i64 b3_1),(C.sl (EC.encL q5t b4)),(C.str b3_3),(C.int Go.IntKind.i64 b3_4),(C.str b3_5),(C.int Go.IntKind.i64 b3_6),(C.sl (EC.encL q5u b5)),(C.sl (EC.encL q5u b6)),(C.int Go.IntKind.i64 b3_9),(C.str b3_10),(C.str b3_11),(C.int Go.IntKind.i64 b3_12)]])))))))))))
theorem qfr {l depth out b0 b0_1 b0_2 b1 b1_1 b1_2 b2 b3 b3_1 b3_2 b3_3 b3_4 b3_5 b3_6 b3_7 b3_8 b3_9 b3_10 b3_11 b3_12 b4 b5 b6 r} (h:qfv l depth out b0 b0_1 b0_2 b1 b1_1 b1_2 b2 b3 b3_1 b3_2 b3_3 b3_4 b3_5 b3_6 b3_7 b3_8 b3_9 b3_10 b3_11 b3_12 b4 b5 b6=some r):qfp l depth out b0 b0_1 b0_2 b1 b1_1 b1_2 b2 b3 b3_1 b3_2 b3_3 b3_4 b3_5 b3_6 b3_7 b3_8 b3_9 b3_10 b3_11 b3_12 b4 b5 b6=some r :=
 q8r (es:=q148) (hs:=q9f) [] (by kernel_rfl) trivial trivial (by kernel_rfl) h
def qfq:=gentS Tryz.prog lv X0 36 (q8y (cdF Tryz.f24) 36) (by kernel_rfl) qfu qfs (fun x=>qfp x.1.1 x.1.2.1 x.1.2.2.2.2.1 x.2.1.1 x.2.1.2.1 x.2.1.2.2 x.2.2.1.1 x.2.2.1.2.1 x.2.2.1.2.2 x.2.2.2.1 x.2.2.2.2.1.1 x.2.2.2.2.1.2.1 x.2.2.2.2.1.2.2.1 x.2.2.2.2.1.2.2.2.1 x.2.2.2.2.1.2.2.2.2.1 x.2.2.2.2.1.2.2.2.2.2.1 x.2.2.2.2.1.2.2.2.2.2.2.1 x.2.2.2.2.1.2.2.2.2.2.2.2.1 x.2.2.2.2.1.2.2.2.2.2.2.2.2.1 x.2.2.2.2.1.2.2.2.2.2.2.2.2.2.1 x.2.2.2.2.1.2.2.2.2.2.2.2.2.2.2.1 x.2.2.2.2.1.2.2.2.2.2.2.2.2.2.2.2.1 x.2.2.2.2.1.2.2.2.2.2.2.2.2.2.2.2.2 x.2.2.2.2.2.1 x.2.2.2.2.2.2.1 x.2.2.2.2.2.2.2) (fun _ _ h=>q8q h)
def qfn:=sLS [0,2,4,7,8,11] z2k z2b [false,false,false,false,false,false,false] [] (by decide) (fun _=>rfl)
def qfl:=sLS [0,2,4,7,8,11] z2k z2b [false,false,false,false,false,false,false] [] (by decide) (fun _=>rfl)
def qfm:SC (((List S53)×Int×Unit×Unit×Nat×Unit×Bool)×((Int×Int×Int)×(Int×Int×Int)×(List S59)×(Int×Int×Nat×ByteArray×Int×ByteArray×Int×Nat×Nat×Int×ByteArray×ByteArray×Int)×(List S57)×(List S59)×(List S59))):=sLS [0,2,4,7,8,11,149] (qb7 (vC (cSl q5s)) (qb7 (vC (cInt .i64)) (qb7 (vPtr 0 0) (qb7 (vPtr 1 0) (qb7 (vRow 2) (qb7 (vPtr 3 0) (qb9 (vC cBool)))))))) (qb7 (qdm (bBox (qb7 (vC (cInt .i64)) (qb7 (vC (cInt .i64)) (qb9 (vC (cInt .i64))))))) (qb7 (qdm (bBox (qb7 (vC (cInt .i64)) (qb7 (vC (cInt .i64)) (qb9 (vC (cInt .i64))))))) (qb7 (qdm (bRow q5u)) (qb7 (qdm (bBox (qb7 (vC (cInt .i64)) (qb7 (vC (cInt .i64)) (qb7 (vRow 4) (qb7 (vC cStr) (qb7 (vC (cInt .i64)) (qb7 (vC cStr) (qb7 (vC (cInt .i64)) (qb7 (vRow 5) (qb7 (vRow 6) (qb7 (vC (cInt .i64)) (qb7 (vC cStr) (qb7 (vC cStr) (qb9 (vC (cInt .i64))))))))))))))))) (qb7 (qdm (bRow q5t)) (qb7 (qdm (bRow q5u)) (qb9 (qdm (bRow q5u))))))))) [false,false,false,false,false,false,false] [] (by decide) (fun _=>rfl)
def qfk:=oOrK 0 [0,2,4,7,8,11,149] qfm (oAt 0 qfl) (fun x y=>.inr (st_ne 149 (by decide:(false:Bool)≠true)))
def qfh (l:L53) (depth:Int) (out:Nat) (b0 b0_1:Int) (b0_2 b1:Int) (b1_1 b1_2:Int) (b2:L59) (b3 b3_1:Int) (b3_2:Nat) (b3_3:BA) (b3_4:Int) (b3_5:BA) (b3_6:Int) (b3_7 b3_8:Nat) (b3_9:Int) (b3_10 b3_11:BA) (b3_12:Int) (b4:L57) (b5 b6:L59):=gS Tryz.prog lv X0 24 166 (q8y (cdF Tryz.f24) 34) qfn qfk ((l,depth,(),(),out,()),((b0,b0_1,b0_2),(b1,b1_1,b1_2),b2,(b3,b3_1,b3_2,b3_3,b3_4,b3_5,b3_6,b3_7,b3_8,b3_9,b3_10,b3_11,b3_12),b4,b5,b6))
def qfo (l:L53) (depth:Int) (out:Nat) (b0 b0_1:Int) (b0_2 b1:Int) (b1_1 b1_2:Int) (b2:L59) (b3 b3_1:Int) (b3_2:Nat) (b3_3:BA) (b3_4:Int) (b3_5:BA) (b3_6:Int) (b3_7 b3_8:Nat) (b3_9:Int) (b3_10 b3_11:BA) (b3_12:Int) (b4:L57) (b5 b6:L59):Oq (((L53×Int×Unit×Unit×Nat×Unit×Bool)×((Int×Int×Int)×(Int×Int×Int)×L59×(Int×Int×Nat×BA×Int×BA×Int×Nat×Nat×Int×BA×BA×Int)×L57×L59×L59))⊕((L53×Int×Unit×Unit×Nat×Unit)×((Int×Int×Int)×(Int×Int×Int)×L59×(Int×Int×Nat×BA×Int×BA×Int×Nat×Nat×Int×BA×BA×Int)×L57×L59×L59))) :=
 (brE (b3_9==6)
 (gL q5s l<|
 ((qp7 (dL q5s l) b0 b0_1 b0_2).bind fun r0 =>
 (gL q5s l<|
 (gL q5u b2<|
 (gL q5t b4<|
 (gL q5u b5<|
 (gL q5u b6<|
 (some (.inr (((dL q5s l),(depth,((),((),(out,()))))),((r0.2.1,(r0.2.2.1,r0.2.2.2)),((b1,(b1_1,b1_2)),((dL q5u b2),((b3,(b3_1,(b3_2,(b3_3,(b3_4,(b3_5,(b3_6,(b3_7,(b3_8,(b3_9,(b3_10,(b3_11,r0.1)))))))))))),((dL q5t b4),((dL q5u b5),(dL q5u b6)))))))))))))))))
 (gL q5s l<|
 (gL q5u b2<|
 (gL q5t b4<|
 (gL q5u b5<|
 (gL q5u b6<|
 (some (.inl (((dL q5s l),(depth,((),((),(out,((),false)))))),((b0,(b0_1,b0_2)),((b1,(b1_1,b1_2)),((dL q5u b2),((b3,(b3_1,(b3_2,(b3_3,(b3_4,(b3_5,(b3_6,(b3_7,(b3_8,(b3_9,(b3_10,(b3_11,b3_12)))))))))))),((dL q5t b4),((dL q5u b5),(dL q5u b6))))))))))))))))
theorem qfj {l depth out b0 b0_1 b0_2 b1 b1_1 b1_2 b2 b3 b3_1 b3_2 b3_3 b3_4 b3_5 b3_6 b3_7 b3_8 b3_9 b3_10 b3_11 b3_12 b4 b5 b6 r} (h:qfo l depth out b0 b0_1 b0_2 b1 b1_1 b1_2 b2 b3 b3_1 b3_2 b3_3 b3_4 b3_5 b3_6 b3_7 b3_8 b3_9 b3_10 b3_11 b3_12 b4 b5 b6=some r):qfh l depth out b0 b0_1 b0_2 b1 b1_1 b1_2 b2 b3 b3_1 b3_2 b3_3 b3_4 b3_5 b3_6 b3_7 b3_8 b3_9 b3_10 b3_11 b3_12 b4 b5 b6=some r :=
 q8r (es:=q148) (hs:=q9f) [] (by kernel_rfl) trivial trivial (by kernel_rfl) h
def qfi:=gentS Tryz.prog lv X0 34 (q8y (cdF Tryz.f24) 34) (by kernel_rfl) qfn qfk (fun x=>qfh x.1.1 x.1.2.1 x.1.2.2.2.2.1 x.2.1.1 x.2.1.2.1 x.2.1.2.2 x.2.2.1.1 x.2.2.1.2.1 x.2.2.1.2.2 x.2.2.2.1 x.2.2.2.2.1.1 x.2.2.2.2.1.2.1 x.2.2.2.2.1.2.2.1 x.2.2.2.2.1.2.2.2.1 x.2.2.2.2.1.2.2.2.2.1 x.2.2.2.2.1.2.2.2.2.2.1 x.2.2.2.2.1.2.2.2.2.2.2.1 x.2.2.2.2.1.2.2.2.2.2.2.2.1 x.2.2.2.2.1.2.2.2.2.2.2.2.2.1 x.2.2.2.2.1.2.2.2.2.2.2.2.2.2.1 x.2.2.2.2.1.2.2.2.2.2.2.2.2.2.2.1 x.2.2.2.2.1.2.2.2.2.2.2.2.2.2.2.2.1 x.2.2.2.2.1.2.2.2.2.2.2.2.2.2.2.2.2 x.2.2.2.2.2.1 x.2.2.2.2.2.2.1 x.2.2.2.2.2.2.2) (fun _ _ h=>q8q h)
def qg9:=sLS [0,2,4,7,8] z2s z2p [false,false,false] [] (by decide) (fun _=>rfl)
def qg8:=sLS [0,2,4,7,8,24] (qb7 z2i (qb7 z2c (qb7 (vPtr 0 0) (qb7 (vPtr 1 0) (qb7 (vRow 2) z2o))))) z2p [false,false,false] [] (by decide) (fun _=>rfl)
def qg7:=sLS [6,7] (qb7 (vRow 0) (qb9 (vPtr 1 0))) (qb7 (qdm (bRow q5u)) (qb9 z2j)) [false,false] [] (by decide) (fun _=>rfl)
def qg6:=oOr 1 qg7 (oAt 2 qg8) (fun x=>(by decide:(2:Nat)≠1))
def qfw (l:L53) (depth:Int) (out:Nat) (b0 b0_1:Int) (b0_2 b1:Int) (b1_1 b1_2:Int) (b2:L59):=lS Tryz.prog lv X0 24 166 (q8x (cdF Tryz.f24) 2) qg9 qg6 ((l,depth,(),(),out),((b0,b0_1,b0_2),(b1,b1_1,b1_2),b2))
abbrev z1b (l:L53) (b0:Int):=(q135 (List.getD (List.getD (EC.encL q5s l) (Int.toNat b0) []) 1 C.ne))
def qga (l:L53) (depth:Int) (out:Nat) (b0 b0_1:Int) (b0_2 b1:Int) (b1_1 b1_2:Int) (b2:L59):Oq (((Nat×Unit)×(L59×(Int×Int×Int)))⊕((L53×Int×Unit×Unit×Nat×Bool)×((Int×Int×Int)×(Int×Int×Int)×L59))) :=
 (brE ((decide (b0_2<0))==true)
 (gdE (p0 b0)<|
 (gdE (eC q5s l b0 [(K1.int Go.IntKind.u8),K1.str,(K1.int Go.IntKind.i64)])<|
 (brE ((qa0 (List.getD (List.getD (EC.encL q5s l) (Int.toNat b0) []) 0 C.ne))==119)
 (brE ((decide (depth>8))==false)
 (brE (decide ((wI b0_1)>100))
 (gL q5s l<|
 ((qqe (dL q5s l) b0 (wI b0_1) b0_2 b0).bind fun r0 =>
 (gL q5u b2<|
 (some (.inl ((out,()),((dL q5u b2),(r0.1,(r0.2.1,r0.2.2)))))))))
 (gdE (p0 b0)<|
 (gdE (eC q5s l b0 [(K1.int Go.IntKind.u8),K1.str,(K1.int Go.IntKind.i64)])<|
 (brE ((ByteArray.toList (z1b l b0))==(ByteArray.toList (ByteArray.mk (List.toArray [(105:UInt8),(102:UInt8)]))))
 (gL q5s l<|
 ((qhv (dL q5s l) (wI b0) (wI b0_1) b0_2 1).bind fun r0 =>
 (gL q5s l<|
 ((qpq (dL q5s l) r0.2.1 r0.2.2.1 r0.2.2.2 (wI depth)).bind fun r1 =>
 (brE ((decide (r1.2.2.2<0))==true)
 (gL q5s l<|
 ((qog (dL q5s l) r1.2.1 r1.2.2.1 r1.2.2.2 119 (ByteArray.mk (List.toArray [(101:UInt8),(108:UInt8),(115:UInt8),(101:UInt8)]))).bind fun r2 =>
 (brE r2
 (gL q5s l<|
 ((qpq (dL q5s l) (wI r1.2.1) r1.2.2.1 r1.2.2.2 (wI depth)).bind fun r3 =>
 (gdE ((((aL [[(C.int Go.IntKind.i64 1),(C.int Go.IntKind.i64 r0.1.1),(C.sl (EC.encL q5t r0.1.2.1)),(C.str r0.1.2.2.1),(C.int Go.IntKind.i64 r0.1.2.2.2.1),(C.str r0.1.2.2.2.2.1),(C.int Go.IntKind.i64 r0.1.2.2.2.2.2),(C.sl (EC.encL q5u r1.1)),(C.sl (EC.encL q5u r3.1)),(C.int Go.IntKind.i64 0),(C.str ⟨#[]⟩),(C.str ⟨#[]⟩),(C.int Go.IntKind.i64 0)]] 13)&&(aL (EC.encL q5u b2) 13))&&(dQ (out+(List.length [[(C.int Go.IntKind.i64 1),(C.int Go.IntKind.i64 r0.1.1),(C.sl (EC.encL q5t r0.1.2.1)),(C.str r0.1.2.2.1),(C.int Go.IntKind.i64 r0.1.2.2.2.1),(C.str r0.1.2.2.2.2.1),(C.int Go.IntKind.i64 r0.1.2.2.2.2.2),(C.sl (EC.encL q5u r1.1)),(C.sl (EC.encL q5u r3.1)),(C.int Go.IntKind.i64 0),(C.str ⟨#[]⟩),(C.str ⟨#[]⟩),(C.int Go.IntKind.i64 0)]])) 184))&&(decide ((out+(List.length [[(C.int Go.IntKind.i64 1),(C.int Go.IntKind.i64 r0.1.1),(C.sl (EC.encL q5t r0.1.2.1)),(C.str r0.1.2.2.1),(C.int Go.IntKind.i64 r0.1.2.2.2.1),(C.str r0.1.2.2.2.2.1),(C.int Go.IntKind.i64 r0.1.2.2.2.2.2),(C.sl (EC.encL q5u r1.1)),(C.sl (EC.encL q5u r3.1)),(C.int Go.IntKind.i64 0),(C.str ⟨#[]⟩),(C.str ⟨#[]⟩),(C.int Go.IntKind.i64 0)]]))≤9223372036854775807)))<|
 (gL q5s l<|
 (gdE (EC.isL q5u ((EC.encL q5u b2)++[[(C.int Go.IntKind.i64 1),(C.int Go.IntKind.i64 r0.1.1),(C.sl (EC.encL q5t r0.1.2.1)),(C.str r0.1.2.2.1),(C.int Go.IntKind.i64 r0.1.2.2.2.1),(C.str r0.1.2.2.2.2.1),(C.int Go.IntKind.i64 r0.1.2.2.2.2.2),(C.sl (EC.encL q5u r1.1)),(C.sl (EC.encL q5u r3.1)),(C.int Go.IntKind.i64 0),(C.str ⟨#[]⟩),(C.str ⟨#[]⟩),(C.int Go.IntKind.i64 0)]]))<|
 (qfw (dL q5s l) depth (out+(List.length [[(C.int Go.IntKind.i64 1),(C.int Go.IntKind.i64 r0.1.1),(C.sl (EC.encL q5t r0.1.2.1)),(C.str r0.1.2.2.1),(C.int Go.IntKind.i64 r0.1.2.2.2.1),(C.str r0.1.2.2.2.2.1),(C.int Go.IntKind.i64 r0.1.2.2.2.2.2),(C.sl (EC.encL q5u r1.1)),(C.sl (EC.encL q5u r3.1)),(C.int Go.IntKind.i64 0),(C.str ⟨#[]⟩),(C.str ⟨#[]⟩),(C.int Go.IntKind.i64 0)]])) r3.2.1 r3.2.2.1 r3.2.2.2 b1 b1_1 b1_2 (EC.decL q5u ((EC.encL q5u b2)++[[(C.int Go.IntKind.i64 1),(C.int Go.IntKind.i64 r0.1.1),(C.sl (EC.encL q5t r0.1.2.1)),(C.str r0.1.2.2.1),(C.int Go.IntKind.i64 r0.1.2.2.2.1),(C.str r0.1.2.2.2.2.1),(C.int Go.IntKind.i64 r0.1.2.2.2.2.2),(C.sl (EC.encL q5u r1.1)),(C.sl (EC.encL q5u r3.1)),(C.int Go.IntKind.i64 0),(C.str ⟨#[]⟩),(C.str ⟨#[]⟩),(C.int Go.IntKind.i64 0)]]))))))))
 (gdE ((((aL [[(C.int Go.IntKind.i64 1),(C.int Go.IntKind.i64 r0.1.1),(C.sl (EC.encL q5t r0.1.2.1)),(C.str r0.1.2.2.1),(C.int Go.IntKind.i64 r0.1.2.2.2.1),(C.str r0.1.2.2.2.2.1),(C.int Go.IntKind.i64 r0.1.2.2.2.2.2),(C.sl (EC.encL q5u r1.1)),(C.sl []),(C.int Go.IntKind.i64 0),(C.str ⟨#[]⟩),(C.str ⟨#[]⟩),(C.int Go.IntKind.i64 0)]] 13)&&(aL (EC.encL q5u b2) 13))&&(dQ (out+(List.length [[(C.int Go.IntKind.i64 1),(C.int Go.IntKind.i64 r0.1.1),(C.sl (EC.encL q5t r0.1.2.1)),(C.str r0.1.2.2.1),(C.int Go.IntKind.i64 r0.1.2.2.2.1),(C.str r0.1.2.2.2.2.1),(C.int Go.IntKind.i64 r0.1.2.2.2.2.2),(C.sl (EC.encL q5u r1.1)),(C.sl []),(C.int Go.IntKind.i64 0),(C.str ⟨#[]⟩),(C.str ⟨#[]⟩),(C.int Go.IntKind.i64 0)]])) 184))&&(decide ((out+(List.length [[(C.int Go.IntKind.i64 1),(C.int Go.IntKind.i64 r0.1.1),(C.sl (EC.encL q5t r0.1.2.1)),(C.str r0.1.2.2.1),(C.int Go.IntKind.i64 r0.1.2.2.2.1),(C.str r0.1.2.2.2.2.1),(C.int Go.IntKind.i64 r0.1.2.2.2.2.2),(C.sl (EC.encL q5u r1.1)),(C.sl []),(C.int Go.IntKind.i64 0),(C.str ⟨#[]⟩),(C.str ⟨#[]⟩),(C.int Go.IntKind.i64 0)]]))≤9223372036854775807)))<|
 (gL q5s l<|
 (gdE (EC.isL q5u ((EC.encL q5u b2)++[[(C.int Go.IntKind.i64 1),(C.int Go.IntKind.i64 r0.1.1),(C.sl (EC.encL q5t r0.1.2.1)),(C.str r0.1.2.2.1),(C.int Go.IntKind.i64 r0.1.2.2.2.1),(C.str r0.1.2.2.2.2.1),(C.int Go.IntKind.i64 r0.1.2.2.2.2.2),(C.sl (EC.encL q5u r1.1)),(C.sl []),(C.int Go.IntKind.i64 0),(C.str ⟨#[]⟩),(C.str ⟨#[]⟩),(C.int Go.IntKind.i64 0)]]))<|
 (qfw (dL q5s l) depth (out+(List.length [[(C.int Go.IntKind.i64 1),(C.int Go.IntKind.i64 r0.1.1),(C.sl (EC.encL q5t r0.1.2.1)),(C.str r0.1.2.2.1),(C.int Go.IntKind.i64 r0.1.2.2.2.1),(C.str r0.1.2.2.2.2.1),(C.int Go.IntKind.i64 r0.1.2.2.2.2.2),(C.sl (EC.encL q5u r1.1)),(C.sl []),(C.int Go.IntKind.i64 0),(C.str ⟨#[]⟩),(C.str ⟨#[]⟩),(C.int Go.IntKind.i64 0)]])) r1.2.1 r1.2.2.1 r1.2.2.2 b1 b1_1 b1_2 (EC.decL q5u ((EC.encL q5u b2)++[[(C.int Go.IntKind.i64 1),(C.int Go.IntKind.i64 r0.1.1),(C.sl (EC.encL q5t r0.1.2.1)),(C.str r0.1.2.2.1),(C.int Go.IntKind.i64 r0.1.2.2.2.1),(C.str r0.1.2.2.2.2.1),(C.int Go.IntKind.i64 r0.1.2.2.2.2.2),(C.sl (EC.encL q5u r1.1)),(C.sl []),(C.int Go.IntKind.i64 0),(C.str ⟨#[]⟩),(C.str ⟨#[]⟩),(C.int Go.IntKind.i64 0)]])))))))))
 (gdE ((((aL [[(C.int Go.IntKind.i64 1),(C.int Go.IntKind.i64 r0.1.1),(C.sl (EC.encL q5t r0.1.2.1)),(C.str r0.1.2.2.1),(C.int Go.IntKind.i64 r0.1.2.2.2.1),(C.str r0.1.2.2.2.2.1),(C.int Go.IntKind.i64 r0.1.2.2.2.2.2),(C.sl (EC.encL q5u r1.1)),(C.sl []),(C.int Go.IntKind.i64 0),(C.str ⟨#[]⟩),(C.str ⟨#[]⟩),(C.int Go.IntKind.i64 0)]] 13)&&(aL (EC.encL q5u b2) 13))&&(dQ (out+(List.length [[(C.int Go.IntKind.i64 1),(C.int Go.IntKind.i64 r0.1.1),(C.sl (EC.encL q5t r0.1.2.1)),(C.str r0.1.2.2.1),(C.int Go.IntKind.i64 r0.1.2.2.2.1),(C.str r0.1.2.2.2.2.1),(C.int Go.IntKind.i64 r0.1.2.2.2.2.2),(C.sl (EC.encL q5u r1.1)),(C.sl []),(C.int Go.IntKind.i64 0),(C.str ⟨#[]⟩),(C.str ⟨#[]⟩),(C.int Go.IntKind.i64 0)]])) 184))&&(decide ((out+(List.length [[(C.int Go.IntKind.i64 1),(C.int Go.IntKind.i64 r0.1.1),(C.sl (EC.encL q5t r0.1.2.1)),(C.str r0.1.2.2.1),(C.int Go.IntKind.i64 r0.1.2.2.2.1),(C.str r0.1.2.2.2.2.1),(C.int Go.IntKind.i64 r0.1.2.2.2.2.2),(C.sl (EC.encL q5u r1.1)),(C.sl []),(C.int Go.IntKind.i64 0),(C.str ⟨#[]⟩),(C.str ⟨#[]⟩),(C.int Go.IntKind.i64 0)]]))≤9223372036854775807)))<|
 (gL q5s l<|
 (gdE (EC.isL q5u ((EC.encL q5u b2)++[[(C.int Go.IntKind.i64 1),(C.int Go.IntKind.i64 r0.1.1),(C.sl (EC.encL q5t r0.1.2.1)),(C.str r0.1.2.2.1),(C.int Go.IntKind.i64 r0.1.2.2.2.1),(C.str r0.1.2.2.2.2.1),(C.int Go.IntKind.i64 r0.1.2.2.2.2.2),(C.sl (EC.encL q5u r1.1)),(C.sl []),(C.int Go.IntKind.i64 0),(C.str ⟨#[]⟩),(C.str ⟨#[]⟩),(C.int Go.IntKind.i64 0)]]))<|
 (qfw (dL q5s l) depth (out+(List.length [[(C.int Go.IntKind.i64 1),(C.int Go.IntKind.i64 r0.1.1),(C.sl (EC.encL q5t r0.1.2.1)),(C.str r0.1.2.2.1),(C.int Go.IntKind.i64 r0.1.2.2.2.1),(C.str r0.1.2.2.2.2.1),(C.int Go.IntKind.i64 r0.1.2.2.2.2.2),(C.sl (EC.encL q5u r1.1)),(C.sl []),(C.int Go.IntKind.i64 0),(C.str ⟨#[]⟩),(C.str ⟨#[]⟩),(C.int Go.IntKind.i64 0)]])) r1.2.1 r1.2.2.1 r1.2.2.2 b1 b1_1 b1_2 (EC.decL q5u ((EC.encL q5u b2)++[[(C.int Go.IntKind.i64 1),(C.int Go.IntKind.i64 r0.1.1),(C.sl (EC.encL q5t r0.1.2.1)),(C.str r0.1.2.2.1),(C.int Go.IntKind.i64 r0.1.2.2.2.1),(C.str r0.1.2.2.2.2.1),(C.int Go.IntKind.i64 r0.1.2.2.2.2.2),(C.sl (EC.encL q5u r1.1)),(C.sl []),(C.int Go.IntKind.i64 0),(C.str ⟨#[]⟩),(C.str ⟨#[]⟩),(C.int Go.IntKind.i64 0)]])))))))))))
 (brE ((ByteArray.toList (z1b l b0))==(ByteArray.toList (ByteArray.mk (List.toArray [(115:UInt8),(116:UInt8),(111:UInt8),(112:UInt8)]))))
 (gL q5s l<|
 (gL q5u b2<|
 ((qfp (dL q5s l) depth out (wI b0) (wI b0_1) b0_2 b1 b1_1 b1_2 (dL q5u b2) 4 0 0 ⟨#[]⟩ 0 ⟨#[]⟩ 0 0 0 0 ⟨#[]⟩ ⟨#[]⟩ 0 (EC.decL q5t []) (EC.decL q5u []) (EC.decL q5u [])).bind fun r0 =>
 (gL q5s r0.1.1<|
 (gL q5u r0.2.2.2<|
 (qfw (dL q5s r0.1.1) r0.1.2.1 r0.1.2.2.2.2 r0.2.1.1 r0.2.1.2.1 r0.2.1.2.2 r0.2.2.1.1 r0.2.2.1.2.1 r0.2.2.1.2.2 (dL q5u r0.2.2.2)))))))
 (brE ((ByteArray.toList (z1b l b0))==(ByteArray.toList (ByteArray.mk (List.toArray [(115:UInt8),(101:UInt8),(116:UInt8)]))))
 (gL q5s l<|
 ((qq2 (dL q5s l) (wI b0) (wI b0_1) b0_2 119).bind fun r0 =>
 (gL q5s l<|
 ((qq2 (dL q5s l) r0.2.1 r0.2.2.1 r0.2.2.2 113).bind fun r1 =>
 (gL q5s l<|
 (gL q5u b2<|
 ((qfp (dL q5s l) depth out r1.2.1 r1.2.2.1 r1.2.2.2 b1 b1_1 b1_2 (dL q5u b2) 3 0 0 ⟨#[]⟩ 0 ⟨#[]⟩ 0 0 0 0 r0.1 r1.1 0 (EC.decL q5t []) (EC.decL q5u []) (EC.decL q5u [])).bind fun r2 =>
 (gL q5s r2.1.1<|
 (gL q5u r2.2.2.2<|
 (qfw (dL q5s r2.1.1) r2.1.2.1 r2.1.2.2.2.2 r2.2.1.1 r2.2.1.2.1 r2.2.1.2.2 r2.2.2.1.1 r2.2.2.1.2.1 r2.2.2.1.2.2 (dL q5u r2.2.2.2)))))))))))
 (gL q5s l<|
 (gL q5u b2<|
 ((qfx (dL q5s l) depth out b0 (z1b l b0) 1 (wI b0) (wI b0_1) b0_2 b1 b1_1 b1_2 (dL q5u b2) 2 0 0 ⟨#[]⟩ 0 ⟨#[]⟩ 0 0 0 0 ⟨#[]⟩ ⟨#[]⟩ 0 (EC.decL q5t []) (EC.decL q5u []) (EC.decL q5u [])).bind fun r0 =>
 (brE (r0.2.2.2.2.1.2.2.2.2.2.2.2.2.2.1==0)
 (gL q5s r0.1.1<|
 ((qqe (dL q5s r0.1.1) r0.2.1.1 r0.2.1.2.1 r0.2.1.2.2 r0.1.2.2.2.2.2.1).bind fun r1 =>
 (gL q5u r0.2.2.2.1<|
 (some (.inl ((r0.1.2.2.2.2.1,()),((dL q5u r0.2.2.2.1),(r1.1,(r1.2.1,r1.2.2)))))))))
 ((qmh r0.2.2.2.2.1.2.2.2.2.2.2.2.2.2.1).bind fun r1 =>
 (brE r1
 (gL q5s r0.1.1<|
 ((qq2 (dL q5s r0.1.1) r0.2.1.1 r0.2.1.2.1 r0.2.1.2.2 113).bind fun r2 =>
 (gL q5s r0.1.1<|
 (gL q5u r0.2.2.2.1<|
 (gL q5t r0.2.2.2.2.2.1<|
 (gL q5u r0.2.2.2.2.2.2.1<|
 (gL q5u r0.2.2.2.2.2.2.2<|
 ((qfh (dL q5s r0.1.1) r0.1.2.1 r0.1.2.2.2.2.1 r2.2.1 r2.2.2.1 r2.2.2.2 r0.2.2.1.1 r0.2.2.1.2.1 r0.2.2.1.2.2 (dL q5u r0.2.2.2.1) r0.2.2.2.2.1.1 r0.2.2.2.2.1.2.1 r0.2.2.2.2.1.2.2.1 r0.2.2.2.2.1.2.2.2.1 r0.2.2.2.2.1.2.2.2.2.1 r0.2.2.2.2.1.2.2.2.2.2.1 r0.2.2.2.2.1.2.2.2.2.2.2.1 r0.2.2.2.2.1.2.2.2.2.2.2.2.1 r0.2.2.2.2.1.2.2.2.2.2.2.2.2.1 r0.2.2.2.2.1.2.2.2.2.2.2.2.2.2.1 r0.2.2.2.2.1.2.2.2.2.2.2.2.2.2.2.1 r2.1 r0.2.2.2.2.1.2.2.2.2.2.2.2.2.2.2.2.2 (dL q5t r0.2.2.2.2.2.1) (dL q5u r0.2.2.2.2.2.2.1) (dL q5u r0.2.2.2.2.2.2.2)).bind fun r3 =>
 (Sum.elim (fun r4=>(gdE (EC.isL q5s (EC.encL q5s r4.1.1))<|
 (gL q5u r4.2.2.2.1<|
 (gL q5t r4.2.2.2.2.2.1<|
 (gL q5u r4.2.2.2.2.2.2.1<|
 (gL q5u r4.2.2.2.2.2.2.2<|
 ((qfp (dL q5s r4.1.1) r4.1.2.1 r4.1.2.2.2.2.1 r4.2.1.1 r4.2.1.2.1 r4.2.1.2.2 r4.2.2.1.1 r4.2.2.1.2.1 r4.2.2.1.2.2 (dL q5u r4.2.2.2.1) r4.2.2.2.2.1.1 r4.2.2.2.2.1.2.1 r4.2.2.2.2.1.2.2.1 r4.2.2.2.2.1.2.2.2.1 r4.2.2.2.2.1.2.2.2.2.1 r4.2.2.2.2.1.2.2.2.2.2.1 r4.2.2.2.2.1.2.2.2.2.2.2.1 r4.2.2.2.2.1.2.2.2.2.2.2.2.1 r4.2.2.2.2.1.2.2.2.2.2.2.2.2.1 r4.2.2.2.2.1.2.2.2.2.2.2.2.2.2.1 r4.2.2.2.2.1.2.2.2.2.2.2.2.2.2.2.1 r4.2.2.2.2.1.2.2.2.2.2.2.2.2.2.2.2.1 r4.2.2.2.2.1.2.2.2.2.2.2.2.2.2.2.2.2 (dL q5t r4.2.2.2.2.2.1) (dL q5u r4.2.2.2.2.2.2.1) (dL q5u r4.2.2.2.2.2.2.2)).bind fun r5 =>
 (gL q5s r5.1.1<|
 (gL q5u r5.2.2.2<|
 (qfw (dL q5s r5.1.1) r5.1.2.1 r5.1.2.2.2.2 r5.2.1.1 r5.2.1.2.1 r5.2.1.2.2 r5.2.2.1.1 r5.2.2.1.2.1 r5.2.2.1.2.2 (dL q5u r5.2.2.2)))))))))))
 (fun r4=>(gdE (EC.isL q5s (EC.encL q5s r4.1.1))<|
 (gL q5u r4.2.2.2.1<|
 (gL q5t r4.2.2.2.2.2.1<|
 (gL q5u r4.2.2.2.2.2.2.1<|
 (gL q5u r4.2.2.2.2.2.2.2<|
 ((qfp (dL q5s r4.1.1) r4.1.2.1 r4.1.2.2.2.2.1 r4.2.1.1 r4.2.1.2.1 r4.2.1.2.2 r4.2.2.1.1 r4.2.2.1.2.1 r4.2.2.1.2.2 (dL q5u r4.2.2.2.1) r4.2.2.2.2.1.1 r4.2.2.2.2.1.2.1 r4.2.2.2.2.1.2.2.1 r4.2.2.2.2.1.2.2.2.1 r4.2.2.2.2.1.2.2.2.2.1 r4.2.2.2.2.1.2.2.2.2.2.1 r4.2.2.2.2.1.2.2.2.2.2.2.1 r4.2.2.2.2.1.2.2.2.2.2.2.2.1 r4.2.2.2.2.1.2.2.2.2.2.2.2.2.1 r4.2.2.2.2.1.2.2.2.2.2.2.2.2.2.1 r4.2.2.2.2.1.2.2.2.2.2.2.2.2.2.2.1 r4.2.2.2.2.1.2.2.2.2.2.2.2.2.2.2.2.1 r4.2.2.2.2.1.2.2.2.2.2.2.2.2.2.2.2.2 (dL q5t r4.2.2.2.2.2.1) (dL q5u r4.2.2.2.2.2.2.1) (dL q5u r4.2.2.2.2.2.2.2)).bind fun r5 =>
 (gL q5s r5.1.1<|
 (gL q5u r5.2.2.2<|
 (qfw (dL q5s r5.1.1) r5.1.2.1 r5.1.2.2.2.2 r5.2.1.1 r5.2.1.2.1 r5.2.1.2.2 r5.2.2.1.1 r5.2.2.1.2.1 r5.2.2.1.2.2 (dL q5u r5.2.2.2))))))))))) r3)))))))))
 (gL q5s r0.1.1<|
 (gL q5u r0.2.2.2.1<|
 (gL q5t r0.2.2.2.2.2.1<|
 (gL q5u r0.2.2.2.2.2.2.1<|
 (gL q5u r0.2.2.2.2.2.2.2<|
 ((qfh (dL q5s r0.1.1) r0.1.2.1 r0.1.2.2.2.2.1 r0.2.1.1 r0.2.1.2.1 r0.2.1.2.2 r0.2.2.1.1 r0.2.2.1.2.1 r0.2.2.1.2.2 (dL q5u r0.2.2.2.1) r0.2.2.2.2.1.1 r0.2.2.2.2.1.2.1 r0.2.2.2.2.1.2.2.1 r0.2.2.2.2.1.2.2.2.1 r0.2.2.2.2.1.2.2.2.2.1 r0.2.2.2.2.1.2.2.2.2.2.1 r0.2.2.2.2.1.2.2.2.2.2.2.1 r0.2.2.2.2.1.2.2.2.2.2.2.2.1 r0.2.2.2.2.1.2.2.2.2.2.2.2.2.1 r0.2.2.2.2.1.2.2.2.2.2.2.2.2.2.1 r0.2.2.2.2.1.2.2.2.2.2.2.2.2.2.2.1 r0.2.2.2.2.1.2.2.2.2.2.2.2.2.2.2.2.1 r0.2.2.2.2.1.2.2.2.2.2.2.2.2.2.2.2.2 (dL q5t r0.2.2.2.2.2.1) (dL q5u r0.2.2.2.2.2.2.1) (dL q5u r0.2.2.2.2.2.2.2)).bind fun r2 =>
 (Sum.elim (fun r3=>(gdE (EC.isL q5s (EC.encL q5s r3.1.1))<|
 (gL q5u r3.2.2.2.1<|
 (gL q5t r3.2.2.2.2.2.1<|
 (gL q5u r3.2.2.2.2.2.2.1<|
 (gL q5u r3.2.2.2.2.2.2.2<|
 ((qfp (dL q5s r3.1.1) r3.1.2.1 r3.1.2.2.2.2.1 r3.2.1.1 r3.2.1.2.1 r3.2.1.2.2 r3.2.2.1.1 r3.2.2.1.2.1 r3.2.2.1.2.2 (dL q5u r3.2.2.2.1) r3.2.2.2.2.1.1 r3.2.2.2.2.1.2.1 r3.2.2.2.2.1.2.2.1 r3.2.2.2.2.1.2.2.2.1 r3.2.2.2.2.1.2.2.2.2.1 r3.2.2.2.2.1.2.2.2.2.2.1 r3.2.2.2.2.1.2.2.2.2.2.2.1 r3.2.2.2.2.1.2.2.2.2.2.2.2.1 r3.2.2.2.2.1.2.2.2.2.2.2.2.2.1 r3.2.2.2.2.1.2.2.2.2.2.2.2.2.2.1 r3.2.2.2.2.1.2.2.2.2.2.2.2.2.2.2.1 r3.2.2.2.2.1.2.2.2.2.2.2.2.2.2.2.2.1 r3.2.2.2.2.1.2.2.2.2.2.2.2.2.2.2.2.2 (dL q5t r3.2.2.2.2.2.1) (dL q5u r3.2.2.2.2.2.2.1) (dL q5u r3.2.2.2.2.2.2.2)).bind fun r4 =>
 (gL q5s r4.1.1<|
 (gL q5u r4.2.2.2<|
 (qfw (dL q5s r4.1.1) r4.1.2.1 r4.1.2.2.2.2 r4.2.1.1 r4.2.1.2.1 r4.2.1.2.2 r4.2.2.1.1 r4.2.2.1.2.1 r4.2.2.1.2.2 (dL q5u r4.2.2.2)))))))))))
 (fun r3=>(gdE (EC.isL q5s (EC.encL q5s r3.1.1))<|
 (gL q5u r3.2.2.2.1<|
 (gL q5t r3.2.2.2.2.2.1<|
 (gL q5u r3.2.2.2.2.2.2.1<|
 (gL q5u r3.2.2.2.2.2.2.2<|
 ((qfp (dL q5s r3.1.1) r3.1.2.1 r3.1.2.2.2.2.1 r3.2.1.1 r3.2.1.2.1 r3.2.1.2.2 r3.2.2.1.1 r3.2.2.1.2.1 r3.2.2.1.2.2 (dL q5u r3.2.2.2.1) r3.2.2.2.2.1.1 r3.2.2.2.2.1.2.1 r3.2.2.2.2.1.2.2.1 r3.2.2.2.2.1.2.2.2.1 r3.2.2.2.2.1.2.2.2.2.1 r3.2.2.2.2.1.2.2.2.2.2.1 r3.2.2.2.2.1.2.2.2.2.2.2.1 r3.2.2.2.2.1.2.2.2.2.2.2.2.1 r3.2.2.2.2.1.2.2.2.2.2.2.2.2.1 r3.2.2.2.2.1.2.2.2.2.2.2.2.2.2.1 r3.2.2.2.2.1.2.2.2.2.2.2.2.2.2.2.1 r3.2.2.2.2.1.2.2.2.2.2.2.2.2.2.2.2.1 r3.2.2.2.2.1.2.2.2.2.2.2.2.2.2.2.2.2 (dL q5t r3.2.2.2.2.2.1) (dL q5u r3.2.2.2.2.2.2.1) (dL q5u r3.2.2.2.2.2.2.2)).bind fun r4 =>
 (gL q5s r4.1.1<|
 (gL q5u r4.2.2.2<|
 (qfw (dL q5s r4.1.1) r4.1.2.1 r4.1.2.2.2.2 r4.2.1.1 r4.2.1.2.1 r4.2.1.2.2 r4.2.2.1.1 r4.2.2.1.2.1 r4.2.2.1.2.2 (dL q5u r4.2.2.2))))))))))) r2)))))))))))))))))))
 (gL q5s l<|
 ((qqe (dL q5s l) b0 (wI b0_1) b0_2 b0).bind fun r0 =>
 (gL q5u b2<|
 (some (.inl ((out,()),((dL q5u b2),(r0.1,(r0.2.1,r0.2.2))))))))))
 (gL q5s l<|
 (gL q5u b2<|
 (some (.inr (((dL q5s l),(depth,((),((),(out,false))))),((b0,(b0_1,b0_2)),((b1,(b1_1,b1_2)),(dL q5u b2)))))))))))
 (gL q5s l<|
 (gL q5u b2<|
 (some (.inr (((dL q5s l),(depth,((),((),(out,false))))),((b0,(b0_1,b0_2)),((b1,(b1_1,b1_2)),(dL q5u b2)))))))))
theorem qg5 {l depth out b0 b0_1 b0_2 b1 b1_1 b1_2 b2 r} (h:qga l depth out b0 b0_1 b0_2 b1 b1_1 b1_2 b2=some r):qfw l depth out b0 b0_1 b0_2 b1 b1_1 b1_2 b2=some r :=
 qbb (es:=q148) (hs:=q9f) [qfy,qfq,qfi] (by kernel_rfl) ⟨⟨_,rfl,rfl⟩,trivial⟩ ⟨⟨_,rfl,rfl⟩,⟨_,rfl,rfl⟩,trivial⟩ (by kernel_rfl) h
def qg4:=qby Tryz.prog lv X0 2 (q8x (cdF Tryz.f24) 2) qg9 qg6 (fun x=>qfw x.1.1 x.1.2.1 x.1.2.2.2.2 x.2.1.1 x.2.1.2.1 x.2.1.2.2 x.2.2.1.1 x.2.2.1.2.1 x.2.2.1.2.2 x.2.2.2) (fun _ _ h=>qba h)
def qgc (l:L53) (r_Next r_Many:Int) (r_Bad depth:Int):Oq (L59×(Int×Int×Int)) :=
 (gL q5s l<|
 ((qfw (dL q5s l) depth 0 r_Next r_Many r_Bad 0 0 0 (EC.decL q5u [])).bind fun r0 =>
 (Sum.elim (fun r1=>(gdE (EC.isL q5u (EC.encL q5u r1.2.1))<|
 (some ((dL q5u r1.2.1),(r1.2.2.1,(r1.2.2.2.1,r1.2.2.2.2))))))
 (fun r1=>(gdE (EC.isL q5u (EC.encL q5u r1.2.2.2))<|
 (some ((dL q5u r1.2.2.2),(r1.2.1.1,(r1.2.1.2.1,r1.2.1.2.2)))))) r0)))
theorem qfg {l r_Next r_Many r_Bad depth r} (h:qgc l r_Next r_Many r_Bad depth=some r):qgb l r_Next r_Many r_Bad depth=some r :=
 q75 (es:=q148) (hs:=q9f) [qg4] Tryz.func24 rfl (by kernel_rfl) rfl (by kernel_rfl) (by kernel_rfl) ⟨⟨_,rfl,rfl⟩,trivial⟩ trivial (by kernel_rfl) h
def qf7:=(qb9 (vC cStr))
def qf8:Cod (V×List B) ((List S59)×(Int×Int)):=(cFstU (cPair (vTup (qb7 (vC (cSl q5u)) (qb9 (vAgg (qb7 z2c (qb9 z2c)))))) qb8))
def qfb (text:BA):=fS Tryz.prog lv X0 9 qf7 qf8 text
def qfc (text:BA):Oq (L59×(Int×Int)) :=
 (brE (decide ((text.size:Int)>4000))
 ((qem 1 (-1)).bind fun r0 =>
 (some ((EC.decL q5u []),(r0.1,r0.2))))
 ((qnw text).bind fun r0 =>
 (gL q5s r0<|
 ((qgb (dL q5s r0) 0 0 (-1) 1).bind fun r1 =>
 (brE ((decide (r1.2.2.2<0))==true)
 (gdE (p0 r1.2.1)<|
 (gdE (eC q5s r0 r1.2.1 [(K1.int Go.IntKind.u8),K1.str,(K1.int Go.IntKind.i64)])<|
 (brE ((qa0 (List.getD (List.getD (EC.encL q5s r0) (Int.toNat r1.2.1) []) 0 C.ne)) != 101)
 (gL q5s r0<|
 ((qqe (dL q5s r0) r1.2.1 r1.2.2.1 r1.2.2.2 r1.2.1).bind fun r2 =>
 (brE (decide (r2.2.2≥0))
 ((qem 11 r2.2.2).bind fun r3 =>
 (some ((EC.decL q5u []),(r3.1,r3.2))))
 (gL q5u r1.1<|
 ((qjl (dL q5u r1.1)).bind fun r3 =>
 (brE (r3.1 != 0)
 ((qem r3.1 (-2)).bind fun r4 =>
 (some ((EC.decL q5u []),(r4.1,r4.2))))
 (gL q5u r1.1<|
 (some ((dL q5u r1.1),(0,0))))))))))
 (brE (decide (r1.2.2.2≥0))
 ((qem 11 r1.2.2.2).bind fun r2 =>
 (some ((EC.decL q5u []),(r2.1,r2.2))))
 (gL q5u r1.1<|
 ((qjl (dL q5u r1.1)).bind fun r2 =>
 (brE (r2.1 != 0)
 ((qem r2.1 (-2)).bind fun r3 =>
 (some ((EC.decL q5u []),(r3.1,r3.2))))
 (gL q5u r1.1<|
 (some ((dL q5u r1.1),(0,0)))))))))))
 (brE (decide (r1.2.2.2≥0))
 ((qem 11 r1.2.2.2).bind fun r2 =>
 (some ((EC.decL q5u []),(r2.1,r2.2))))
 (gL q5u r1.1<|
 ((qjl (dL q5u r1.1)).bind fun r2 =>
 (brE (r2.1 != 0)
 ((qem r2.1 (-2)).bind fun r3 =>
 (some ((EC.decL q5u []),(r3.1,r3.2))))
 (gL q5u r1.1<|
 (some ((dL q5u r1.1),(0,0)))))))))))))
theorem qfa {text r} (h:qfc text=some r):qfb text=some r :=
 q75 (es:=q148) (hs:=q9f) [] Tryz.func9 rfl (by kernel_rfl) rfl (by kernel_rfl) (by kernel_rfl) trivial trivial (by kernel_rfl) h
def qf9:=entS Tryz.prog lv X0 9 [] qf7 qf8 (fun x=>qfb x) (fun _ _ h=>q74 h)
def q13t:=qf9::q148
end
end Go.Proofs.YtognhcibcocbkaaGreatDoor
