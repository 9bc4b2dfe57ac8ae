/- Functions of the program as plain functions: made by program from the machine. -/
import Derived.Test.YtognhcibcocbkaaGreatDoorH2
namespace Go.Proofs.YtognhcibcocbkaaGreatDoor
open Go.RowKit
set_option maxRecDepth 100000
noncomputable section
def q5v:EC ByteArray where
 enc x:=[.str x]
 dec c:=q135 (c.getD 0 .ne)
 is c:=isE [.str] 0 c
 enc_dec h:=q57 h
 dec_enc x:=by rfl
 is_enc x:=by simp [isE,isK]
theorem enc_9 (x:ByteArray):q5v.enc x=[.str x]:=rfl
theorem lit_9 (a0:ByteArray):([.str a0]:List C)=q5v.enc a0:=rfl
theorem q23 (xs:List ByteArray) (a0:ByteArray):q5v.encL xs++[[.str a0]]=q5v.encL (xs++[a0]):=by rw [lit_9];simp [EC.encL]
theorem q1n (xs:List ByteArray):(q5v.encL xs).all (fun (el:List C)=>el.length==1)=true:=by induction xs with|nil=>rfl|cons x xs ih=>first|(simp [EC.encL,enc_9];done)|simpa [EC.encL,enc_9] using ih
abbrev z1p:=(vC (cInt .i64))
def qei:=(qb7 z1p (qb9 z1p))
def qej:Cod (V×List B) (Int×Int):=(cFstU (cPair (vAgg (qb7 z1p (qb9 z1p))) qb8))
def qem (code index:Int):=fS Tryz.prog lv X0 16 qei qej (code,index)
def qen (code index:Int):Oq (Int×Int) :=
 (some (code,index))
theorem qel {code index r} (h:qen code index=some r):qem code index=some r :=
 q75 (es:=q14d) (hs:=q9f) [] Tryz.func16 rfl (by kernel_rfl) rfl (by kernel_rfl) (by kernel_rfl) trivial trivial (by kernel_rfl) h
def qek:=entS Tryz.prog lv X0 16 [] qei qej (fun x=>qem x.1 x.2) (fun _ _ h=>q74 h)
def q13q:=qek::q14d
abbrev z1n:=(qb7 (vC (cInt .i64)) (qb7 (vC (cSl q5t)) (qb7 (vC cStr) (qb7 (vC (cInt .i64)) (qb7 (vC cStr) (qb9 (vC (cInt .i64))))))))
def qk1:=(qb7 (vAgg z1n) (qb9 (vAgg z1n)))
def qk2:Cod (V×List B) Bool:=(cFstU (cPair (vC cBool) qb8))
def qkk (a_Kind:Int) (q16k:L57) (a_Name:BA) (q16j:Int) (a_Text:BA) (a_N b_Kind:Int) (q16m:L57) (b_Name:BA) (q16l:Int) (b_Text:BA) (b_N:Int):=fS Tryz.prog lv X0 26 qk1 qk2 ((a_Kind,q16k,a_Name,q16j,a_Text,a_N),(b_Kind,q16m,b_Name,q16l,b_Text,b_N))
def qk3:=entS Tryz.prog lv X0 26 [] qk1 qk2 (fun x=>qkk x.1.1 x.1.2.1 x.1.2.2.1 x.1.2.2.2.1 x.1.2.2.2.2.1 x.1.2.2.2.2.2 x.2.1 x.2.2.1 x.2.2.2.1 x.2.2.2.2.1 x.2.2.2.2.2.1 x.2.2.2.2.2.2) (fun _ _ h=>q74 h)
def q13z:=qk3::q13q
abbrev z1o:=(qb7 (qdm (bBox z1n)) (qb9 (qdm (bBox z1n))))
def qki:=sLS [2,3,5] (qb7 (vPtr 0 0) (qb7 (vPtr 1 0) (qb9 z1p))) z1o [false,false] [] (by decide) (fun _=>rfl)
def qkh:=sLS [2,3,5,52] (qb7 (vPtr 0 0) (qb7 (vPtr 1 0) (qb7 z1p (qb9 (vC cBool))))) z1o [false,false] [] (by decide) (fun _=>rfl)
def qkg:=sLS [4] (qb9 (vC cBool)) qb8 [] [] (by decide) (fun _=>rfl)
def qkf:=oOr 1 qkg (oAt 2 qkh) (fun x=>(by decide:(2:Nat)≠1))
def qkc (i b0:Int) (b0_1:L57) (b0_2:BA) (b0_3:Int) (b0_4:BA) (b0_5 b1:Int) (b1_1:L57) (b1_2:BA) (b1_3:Int) (b1_4:BA) (b1_5:Int):=lS Tryz.prog lv X0 26 67 (q8x (cdF Tryz.f26) 4) qki qkf (((),(),i),((b0,b0_1,b0_2,b0_3,b0_4,b0_5),(b1,b1_1,b1_2,b1_3,b1_4,b1_5)))
abbrev zu (i:Int) (b0_1:L57):=(List.getD (EC.encL q5t b0_1) (Int.toNat i) [])
abbrev zw (i:Int) (b1_1:L57):=(List.getD (EC.encL q5t b1_1) (Int.toNat i) [])
def qkj (i b0:Int) (b0_1:L57) (b0_2:BA) (b0_3:Int) (b0_4:BA) (b0_5 b1:Int) (b1_1:L57) (b1_2:BA) (b1_3:Int) (b1_4:BA) (b1_5:Int):Oq ((Bool×Unit)⊕((Unit×Unit×Int×Bool)×((Int×L57×BA×Int×BA×Int)×(Int×L57×BA×Int×BA×Int)))) :=
 (brE (decide (i<(lN q5t b0_1:Int)))
 (gdE (p0 i)<|
 (gdE (eC q5t b0_1 i [(K1.int Go.IntKind.i64),K1.sl,K1.str,(K1.int Go.IntKind.i64),K1.str,(K1.int Go.IntKind.i64)])<|
 (gdE (p0 i)<|
 (gdE (eC q5t b1_1 i [(K1.int Go.IntKind.i64),K1.sl,K1.str,(K1.int Go.IntKind.i64),K1.str,(K1.int Go.IntKind.i64)])<|
 (gdE (EC.isL q5t (slOf (List.getD (zu i b0_1) 1 C.ne)))<|
 (gdE (EC.isL q5t (slOf (List.getD (zw i b1_1) 1 C.ne)))<|
 ((qkk (qa0 (List.getD (zu i b0_1) 0 C.ne)) (uL q5t (List.getD (zu i b0_1) 1 C.ne)) (q135 (List.getD (zu i b0_1) 2 C.ne)) (qa0 (List.getD (zu i b0_1) 3 C.ne)) (q135 (List.getD (zu i b0_1) 4 C.ne)) (qa0 (List.getD (zu i b0_1) 5 C.ne)) (qa0 (List.getD (zw i b1_1) 0 C.ne)) (uL q5t (List.getD (zw i b1_1) 1 C.ne)) (q135 (List.getD (zw i b1_1) 2 C.ne)) (qa0 (List.getD (zw i b1_1) 3 C.ne)) (q135 (List.getD (zw i b1_1) 4 C.ne)) (qa0 (List.getD (zw i b1_1) 5 C.ne))).bind fun r0 =>
 (brE (!r0)
 (some (.inl (false,())))
 (gL q5t b0_1<|
 (gL q5t b1_1<|
 (qkc (wI i) b0 (dL q5t b0_1) b0_2 b0_3 b0_4 b0_5 b1 (dL q5t b1_1) b1_2 b1_3 b1_4 b1_5)))))))))))
 (gL q5t b0_1<|
 (gL q5t b1_1<|
 (some (.inr (((),((),(i,false))),((b0,((dL q5t b0_1),(b0_2,(b0_3,(b0_4,b0_5))))),(b1,((dL q5t b1_1),(b1_2,(b1_3,(b1_4,b1_5))))))))))))
theorem qke {i b0 b0_1 b0_2 b0_3 b0_4 b0_5 b1 b1_1 b1_2 b1_3 b1_4 b1_5 r} (h:qkj i b0 b0_1 b0_2 b0_3 b0_4 b0_5 b1 b1_1 b1_2 b1_3 b1_4 b1_5=some r):qkc i b0 b0_1 b0_2 b0_3 b0_4 b0_5 b1 b1_1 b1_2 b1_3 b1_4 b1_5=some r :=
 qbb (es:=q13z) (hs:=q9f) [] (by kernel_rfl) trivial trivial (by kernel_rfl) h
def qkd:=qby Tryz.prog lv X0 4 (q8x (cdF Tryz.f26) 4) qki qkf (fun x=>qkc x.1.2.2 x.2.1.1 x.2.1.2.1 x.2.1.2.2.1 x.2.1.2.2.2.1 x.2.1.2.2.2.2.1 x.2.1.2.2.2.2.2 x.2.2.1 x.2.2.2.1 x.2.2.2.2.1 x.2.2.2.2.2.1 x.2.2.2.2.2.2.1 x.2.2.2.2.2.2.2) (fun _ _ h=>qba h)
def qka:=sLS [2,3] (qb7 (vPtr 0 0) (qb9 (vPtr 1 0))) z1o [false,false] [] (by decide) (fun _=>rfl)
def qk9:=sLS [4] (qb9 (vC cBool)) qb8 [] [] (by decide) (fun _=>rfl)
def qk8:=oAt 1 qk9
def qk5 (b0:Int) (b0_1:L57) (b0_2:BA) (b0_3:Int) (b0_4:BA) (b0_5 b1:Int) (b1_1:L57) (b1_2:BA) (b1_3:Int) (b1_4:BA) (b1_5:Int):=gS Tryz.prog lv X0 26 67 (q8y (cdF Tryz.f26) 3) qka qk8 (((),()),((b0,b0_1,b0_2,b0_3,b0_4,b0_5),(b1,b1_1,b1_2,b1_3,b1_4,b1_5)))
def qkb (b0:Int) (b0_1:L57) (b0_2:BA) (b0_3:Int) (b0_4:BA) (b0_5 b1:Int) (b1_1:L57) (b1_2:BA) (b1_3:Int) (b1_4:BA) (b1_5:Int):Oq (Bool×Unit) :=
 (gL q5t b0_1<|
 (gL q5t b1_1<|
 ((qkc 0 b0 (dL q5t b0_1) b0_2 b0_3 b0_4 b0_5 b1 (dL q5t b1_1) b1_2 b1_3 b1_4 b1_5).bind fun r0 =>
 (Sum.elim (fun r1=>(some (r1.1,())))
 (fun r1=>(some (true,()))) r0))))
theorem qk7 {b0 b0_1 b0_2 b0_3 b0_4 b0_5 b1 b1_1 b1_2 b1_3 b1_4 b1_5 r} (h:qkb b0 b0_1 b0_2 b0_3 b0_4 b0_5 b1 b1_1 b1_2 b1_3 b1_4 b1_5=some r):qk5 b0 b0_1 b0_2 b0_3 b0_4 b0_5 b1 b1_1 b1_2 b1_3 b1_4 b1_5=some r :=
 q8r (es:=q13z) (hs:=q9f) [qkd] (by kernel_rfl) ⟨⟨_,rfl,rfl⟩,trivial⟩ trivial (by kernel_rfl) h
def qk6:=gentS Tryz.prog lv X0 3 (q8y (cdF Tryz.f26) 3) (by kernel_rfl) qka qk8 (fun x=>qk5 x.2.1.1 x.2.1.2.1 x.2.1.2.2.1 x.2.1.2.2.2.1 x.2.1.2.2.2.2.1 x.2.1.2.2.2.2.2 x.2.2.1 x.2.2.2.1 x.2.2.2.2.1 x.2.2.2.2.2.1 x.2.2.2.2.2.2.1 x.2.2.2.2.2.2.2) (fun _ _ h=>q8q h)
def qkl (a_Kind:Int) (q16k:L57) (a_Name:BA) (q16j:Int) (a_Text:BA) (a_N b_Kind:Int) (q16m:L57) (b_Name:BA) (q16l:Int) (b_Text:BA) (b_N:Int):Oq Bool :=
 (brE ((a_Kind != b_Kind)==false)
 (brE ((!(a_Name.toList==b_Name.toList))==false)
 (brE ((q16j != q16l)==false)
 (brE ((!(a_Text.toList==b_Text.toList))==false)
 (brE ((a_N != b_N)==false)
 (brE ((lN q5t q16k:Int) != (lN q5t q16m:Int))
 (some false)
 (gL q5t q16k<|
 (gL q5t q16m<|
 ((qk5 a_Kind (dL q5t q16k) a_Name q16j a_Text a_N b_Kind (dL q5t q16m) b_Name q16l b_Text b_N).bind fun r0 =>
 (some r0.1)))))
 (some false))
 (some false))
 (some false))
 (some false))
 (some false))
theorem qk4 {a_Kind q16k a_Name q16j a_Text a_N b_Kind q16m b_Name q16l b_Text b_N r} (h:qkl a_Kind q16k a_Name q16j a_Text a_N b_Kind q16m b_Name q16l b_Text b_N=some r):qkk a_Kind q16k a_Name q16j a_Text a_N b_Kind q16m b_Name q16l b_Text b_N=some r :=
 q75 (es:=q13z) (hs:=q9f) [qk6] Tryz.func26 rfl (by kernel_rfl) rfl (by kernel_rfl) (by kernel_rfl) trivial ⟨⟨_,rfl,rfl⟩,trivial⟩ (by kernel_rfl) h
def qjn:=(qb7 (vC (cSl q5u)) (qb9 (vC (cSl q5u))))
def qjo:Cod (V×List B) Bool:=(cFstU (cPair (vC cBool) qb8))
def qjz (a b:L59):=fS Tryz.prog lv X0 10 qjn qjo (a,b)
def qjp:=entS Tryz.prog lv X0 10 [] qjn qjo (fun x=>qjz x.1 x.2) (fun _ _ h=>q74 h)
def q13y:=qjp::q13z
def qjx:=sLS [0,1,5] (qb7 (vC (cSl q5u)) (qb7 (vC (cSl q5u)) (qb9 z1p))) qb8 [] [] (by decide) (fun _=>rfl)
def qjw:=sLS [0,1,5,16] (qb7 (vC (cSl q5u)) (qb7 (vC (cSl q5u)) (qb7 z1p (qb9 (vC cBool))))) qb8 [] [] (by decide) (fun _=>rfl)
def qjv:=sLS [4] (qb9 (vC cBool)) qb8 [] [] (by decide) (fun _=>rfl)
def qju:=oOr 1 qjv (oAt 2 qjw) (fun x=>(by decide:(2:Nat)≠1))
def qjr (a b:L59) (i:Int):=lS Tryz.prog lv X0 10 84 (q8x (cdF Tryz.f10) 4) qjx qju ((a,b,i),())
abbrev zx (a:L59) (i:Int):=(List.getD (EC.encL q5u a) (Int.toNat i) [])
abbrev zy (b:L59) (i:Int):=(List.getD (EC.encL q5u b) (Int.toNat i) [])
def qjy (a b:L59) (i:Int):Oq ((Bool×Unit)⊕((L59×L59×Int×Bool)×Unit)) :=
 (brE (decide (i<(lN q5u a:Int)))
 (gdE (p0 i)<|
 (gdE (eC q5u a i [(K1.int Go.IntKind.i64),(K1.int Go.IntKind.i64),K1.sl,K1.str,(K1.int Go.IntKind.i64),K1.str,(K1.int Go.IntKind.i64),K1.sl,K1.sl,(K1.int Go.IntKind.i64),K1.str,K1.str,(K1.int Go.IntKind.i64)])<|
 (gdE (p0 i)<|
 (gdE (eC q5u b i [(K1.int Go.IntKind.i64),(K1.int Go.IntKind.i64),K1.sl,K1.str,(K1.int Go.IntKind.i64),K1.str,(K1.int Go.IntKind.i64),K1.sl,K1.sl,(K1.int Go.IntKind.i64),K1.str,K1.str,(K1.int Go.IntKind.i64)])<|
 (brE (((qa0 (List.getD (zx a i) 0 C.ne)) != (qa0 (List.getD (zy b i) 0 C.ne)))==false)
 (brE (((qa0 (List.getD (zx a i) 9 C.ne)) != (qa0 (List.getD (zy b i) 9 C.ne)))==false)
 (brE ((!((ByteArray.toList (q135 (List.getD (zx a i) 10 C.ne)))==(ByteArray.toList (q135 (List.getD (zy b i) 10 C.ne)))))==false)
 (brE ((!((ByteArray.toList (q135 (List.getD (zx a i) 11 C.ne)))==(ByteArray.toList (q135 (List.getD (zy b i) 11 C.ne)))))==false)
 (brE (((qa0 (List.getD (zx a i) 12 C.ne)) != (qa0 (List.getD (zy b i) 12 C.ne)))==false)
 (gdE (EC.isL q5t (slOf (List.getD (zx a i) 2 C.ne)))<|
 (gdE (EC.isL q5t (slOf (List.getD (zy b i) 2 C.ne)))<|
 ((qkk (qa0 (List.getD (zx a i) 1 C.ne)) (uL q5t (List.getD (zx a i) 2 C.ne)) (q135 (List.getD (zx a i) 3 C.ne)) (qa0 (List.getD (zx a i) 4 C.ne)) (q135 (List.getD (zx a i) 5 C.ne)) (qa0 (List.getD (zx a i) 6 C.ne)) (qa0 (List.getD (zy b i) 1 C.ne)) (uL q5t (List.getD (zy b i) 2 C.ne)) (q135 (List.getD (zy b i) 3 C.ne)) (qa0 (List.getD (zy b i) 4 C.ne)) (q135 (List.getD (zy b i) 5 C.ne)) (qa0 (List.getD (zy b i) 6 C.ne))).bind fun r0 =>
 (brE ((!r0)==false)
 (gdE (EC.isL q5u (slOf (List.getD (zx a i) 7 C.ne)))<|
 (gdE (EC.isL q5u (slOf (List.getD (zy b i) 7 C.ne)))<|
 ((qjz (uL q5u (List.getD (zx a i) 7 C.ne)) (uL q5u (List.getD (zy b i) 7 C.ne))).bind fun r1 =>
 (brE ((!r1)==false)
 (gdE (EC.isL q5u (slOf (List.getD (zx a i) 8 C.ne)))<|
 (gdE (EC.isL q5u (slOf (List.getD (zy b i) 8 C.ne)))<|
 ((qjz (uL q5u (List.getD (zx a i) 8 C.ne)) (uL q5u (List.getD (zy b i) 8 C.ne))).bind fun r2 =>
 (brE (!r2)
 (some (.inl (false,())))
 (gL q5u a<|
 (gL q5u b<|
 (qjr (dL q5u a) (dL q5u b) (wI i))))))))
 (some (.inl (false,())))))))
 (some (.inl (false,())))))))
 (some (.inl (false,()))))
 (some (.inl (false,()))))
 (some (.inl (false,()))))
 (some (.inl (false,()))))
 (some (.inl (false,()))))))))
 (gL q5u a<|
 (gL q5u b<|
 (some (.inr (((dL q5u a),((dL q5u b),(i,false))),()))))))
theorem qjt {a b i r} (h:qjy a b i=some r):qjr a b i=some r :=
 qbb (es:=q13y) (hs:=q9f) [] (by kernel_rfl) trivial trivial (by kernel_rfl) h
def qjs:=qby Tryz.prog lv X0 4 (q8x (cdF Tryz.f10) 4) qjx qju (fun x=>qjr x.1.1 x.1.2.1 x.1.2.2) (fun _ _ h=>qba h)
def qk0 (a b:L59):Oq Bool :=
 (brE ((lN q5u a:Int) != (lN q5u b:Int))
 (some false)
 (gL q5u a<|
 (gL q5u b<|
 ((qjr (dL q5u a) (dL q5u b) 0).bind fun r0 =>
 (Sum.elim (fun r1=>(some r1.1))
 (fun r1=>(some true)) r0)))))
theorem qjq {a b r} (h:qk0 a b=some r):qjz a b=some r :=
 q75 (es:=q13y) (hs:=q9f) [qjs] Tryz.func10 rfl (by kernel_rfl) rfl (by kernel_rfl) (by kernel_rfl) ⟨⟨_,rfl,rfl⟩,trivial⟩ trivial (by kernel_rfl) h
end
end Go.Proofs.YtognhcibcocbkaaGreatDoor
namespace Go.Proofs.YtognhcibcocbkaaGreatDoor
open Go.RowKit
theorem q13c (l:List ByteArray):strsOf (q5v.encL l)=some l:=by
 induction l with
 |nil=>rfl
 |cons s l ih =>
  have e:q5v.encL (s::l)=[.str s]::q5v.encL l:=rfl
  rw [e]
  simp only [strsOf,ih,Option.map_some]
def qao:=qb7 (vC (cSl q5v)) (qb9 (vC cStr))
def qar:Cod (V×List B) ByteArray:=cFstU (cPair (vC cStr) qb8)
theorem qap (x:List ByteArray×ByteArray) (r:ByteArray) (h:joinP x.1 x.2=some r):Call Tryz.prog lv X0 86 (qao.enc x)=some (qar.enc r):=by
 have:X0.c 86 (qao.enc x)=some (qar.enc r):=by
  show ((strsOf (q5v.encL x.1)).bind fun l=>(joinP l x.2).map fun b=>((V.c (.str b),[]):V×List B))=_
  rw [q13c]
  simp only [Option.bind_some,h]
  rfl
 unfold Call callD
 rw [this]
noncomputable def join_e:=entS Tryz.prog lv X0 86 [] qao qar (fun x=>joinP x.1 x.2) qap
noncomputable def tabj:=join_e::q13y
end Go.Proofs.YtognhcibcocbkaaGreatDoor
