/- Functions of the program as plain functions: made by program from the machine. -/
import Derived.Test.YtognhcibcocbkaaGreatDoorH2
namespace Go.Proofs.YtognhcibcocbkaaGreatDoor
open Go.RowKit
set_option maxRecDepth 100000
noncomputable section
def q5v:EC ByteArray where
 enc x:=[.str x]
 dec c:=q135 (c.getD 0 .ne)
 is c:=isE [.str] 0 c
 enc_dec h:=q57 h
 dec_enc x:=by rfl
 is_enc x:=by simp [isE,isK]
abbrev z1l:=(qb7 (vC (cInt .i64)) (qb7 (vC (cSl q5t)) (qb7 (vC cStr) (qb7 (vC (cInt .i64)) (qb7 (vC cStr) (qb9 (vC (cInt .i64))))))))
def qk1:=(qb7 (vAgg z1l) (qb9 (vAgg z1l)))
def qk2:Cod (V×List B) Bool:=(cFstU (cPair (vC cBool) qb8))
def qkk (a_Kind:Int) (q16k:L57) (a_Name:BA) (q16j:Int) (a_Text:BA) (a_N b_Kind:Int) (q16m:L57) (b_Name:BA) (q16l:Int) (b_Text:BA) (b_N:Int):=fS Tryz.prog lv X0 26 qk1 qk2 ((a_Kind,q16k,a_Name,q16j,a_Text,a_N),(b_Kind,q16m,b_Name,q16l,b_Text,b_N))
def qk3:=entS Tryz.prog lv X0 26 [] qk1 qk2 (fun x=>qkk x.1.1 x.1.2.1 x.1.2.2.1 x.1.2.2.2.1 x.1.2.2.2.2.1 x.1.2.2.2.2.2 x.2.1 x.2.2.1 x.2.2.2.1 x.2.2.2.2.1 x.2.2.2.2.2.1 x.2.2.2.2.2.2) (fun _ _ h=>q74 h)
def q13z:=qk3::q14d
abbrev z1m:=(qb7 (qdm (bBox z1l)) (qb9 (qdm (bBox z1l))))
def qki:=sLS [2,3,5] (qb7 (vPtr 0 0) (qb7 (vPtr 1 0) (qb9 (vC (cInt .i64))))) z1m [false,false] [] (by decide) (fun _=>rfl)
def qkh:=sLS [2,3,5,52] (qb7 (vPtr 0 0) (qb7 (vPtr 1 0) (qb7 (vC (cInt .i64)) (qb9 (vC cBool))))) z1m [false,false] [] (by decide) (fun _=>rfl)
def qkg:=sLS [4] (qb9 (vC cBool)) qb8 [] [] (by decide) (fun _=>rfl)
def qkf:=oOr 1 qkg (oAt 2 qkh) (fun x=>(by decide:(2:Nat)≠1))
def qkc (i b0:Int) (b0_1:L57) (b0_2:BA) (b0_3:Int) (b0_4:BA) (b0_5 b1:Int) (b1_1:L57) (b1_2:BA) (b1_3:Int) (b1_4:BA) (b1_5:Int):=lS Tryz.prog lv X0 26 67 (q8x (cdF Tryz.f26) 4) qki qkf (((),(),i),((b0,b0_1,b0_2,b0_3,b0_4,b0_5),(b1,b1_1,b1_2,b1_3,b1_4,b1_5)))
abbrev zu (i:Int) (b0_1:L57):=(List.getD (EC.encL q5t b0_1) (Int.toNat i) [])
abbrev zw (i:Int) (b1_1:L57):=(List.getD (EC.encL q5t b1_1) (Int.toNat i) [])
def qkj (i b0:Int) (b0_1:L57) (b0_2:BA) (b0_3:Int) (b0_4:BA) (b0_5 b1:Int) (b1_1:L57) (b1_2:BA) (b1_3:Int) (b1_4:BA) (b1_5:Int):Oq ((Bool×Unit)⊕((Unit×Unit×Int×Bool)×((Int×L57×BA×Int×BA×Int)×(Int×L57×BA×Int×BA×Int)))) :=
 (brE (decide (i<(lN q5t b0_1:Int)))
 (gdE (p0 i)<|
 (gdE (eC q5t b0_1 i [(K1.int Go.IntKind.i64),K1.sl,K1.str,(K1.int Go.IntKind.i64),K1.str,(K1.int Go.IntKind.i64)])<|
 (gdE (p0 i)<|
 (gdE (eC q5t b1_1 i [(K1.int Go.IntKind.i64),K1.sl,K1.str,(K1.int Go.IntKind.i64),K1.str,(K1.int Go.IntKind.i64)])<|
 (gdE (EC.isL q5t (slOf (List.getD (zu i b0_1) 1 C.ne)))<|
 (gdE (EC.isL q5t (slOf (List.getD (zw i b1_1) 1 C.ne)))<|
 ((qkk (qa0 (List.getD (zu i b0_1) 0 C.ne)) (uL q5t (List.getD (zu i b0_1) 1 C.ne)) (q135 (List.getD (zu i b0_1) 2 C.ne)) (qa0 (List.getD (zu i b0_1) 3 C.ne)) (q135 (List.getD (zu i b0_1) 4 C.ne)) (qa0 (List.getD (zu i b0_1) 5 C.ne)) (qa0 (List.getD (zw i b1_1) 0 C.ne)) (uL q5t (List.getD (zw i b1_1) 1 C.ne)) (q135 (List.getD (zw i b1_1) 2 C.ne)) (qa0 (List.getD (zw i b1_1) 3 C.ne)) (q135 (List.getD (zw i b1_1) 4 C.ne)) (qa0 (List.getD (zw i b1_1) 5 C.ne))).bind fun r0 =>
 (brE (!r0)
 (some (.inl (false,())))
 (gL q5t b0_1<|
 (gL q5t b1_1<|
 (qkc (wI i) b0 (dL q5t b0_1) b0_2 b0_3 b0_4 b0_5 b1 (dL q5t b1_1) b1_2 b1_3 b1_4 b1_5)))))))))))
 (gL q5t b0_1<|
 (gL q5t b1_1<|
 (some (.inr (((),((),(i,false))),((b0,((dL q5t b0_1),(b0_2,(b0_3,(b0_4,b0_5))))),(b1,((dL q5t b1_1),(b1_2,(b1_3,(b1_4,b1_5))))))))))))
theorem qke {i b0 b0_1 b0_2 b0_3 b0_4 b0_5 b1 b1_1 b1_2 b1_3 b1_4 b1_5 r} (h:qkj i b0 b0_1 b0_2 b0_3 b0_4 b0_5 b1 b1_1 b1_2 b1_3 b1_4 b1_5=some r):qkc i b0 b0_1 b0_2 b0_3 b0_4 b0_5 b1 b1_1 b1_2 b1_3 b1_4 b1_5=some r :=
 qbb (es:=q13z) (hs:=q9f) [] (by kernel_rfl) trivial trivial (by kernel_rfl) h
def qkd:=qby Tryz.prog lv X0 4 (q8x (cdF Tryz.f26) 4) qki qkf (fun x=>qkc x.1.2.2 x.2.1.1 x.2.1.2.1 x.2.1.2.2.1 x.2.1.2.2.2.1 x.2.1.2.2.2.2.1 x.2.1.2.2.2.2.2 x.2.2.1 x.2.2.2.1 x.2.2.2.2.1 x.2.2.2.2.2.1 x.2.2.2.2.2.2.1 x.2.2.2.2.2.2.2) (fun _ _ h=>qba h)
def qka:=sLS [2,3] (qb7 (vPtr 0 0) (qb9 (vPtr 1 0))) z1m [false,false] [] (by decide) (fun _=>rfl)
def qk9:=sLS [4] (qb9 (vC cBool)) qb8 [] [] (by decide) (fun _=>rfl)
def qk8:=oAt 1 qk9
def qk5 (b0:Int) (b0_1:L57) (b0_2:BA) (b0_3:Int) (b0_4:BA) (b0_5 b1:Int) (b1_1:L57) (b1_2:BA) (b1_3:Int) (b1_4:BA) (b1_5:Int):=gS Tryz.prog lv X0 26 67 (q8y (cdF Tryz.f26) 3) qka qk8 (((),()),((b0,b0_1,b0_2,b0_3,b0_4,b0_5),(b1,b1_1,b1_2,b1_3,b1_4,b1_5)))
def qkb (b0:Int) (b0_1:L57) (b0_2:BA) (b0_3:Int) (b0_4:BA) (b0_5 b1:Int) (b1_1:L57) (b1_2:BA) (b1_3:Int) (b1_4:BA) (b1_5:Int):Oq (Bool×Unit) :=
 (gL q5t b0_1<|
 (gL q5t b1_1<|
 ((qkc 0 b0 (dL q5t b0_1) b0_2 b0_3 b0_4 b0_5 b1 (dL q5t b1_1) b1_2 b1_3 b1_4 b1_5).bind fun r0 =>
 (Sum.elim (fun r1=>(some (r1.1,())))
 (fun r1=>(some (true,()))) r0))))
theorem qk7 {b0 b0_1 b0_2 b0_3 b0_4 b0_5 b1 b1_1 b1_2 b1_3 b1_4 b1_5 r} (h:qkb b0 b0_1 b0_2 b0_3 b0_4 b0_5 b1 b1_1 b1_2 b1_3 b1_4 b1_5=some r):qk5 b0 b0_1 b0_2 b0_3 b0_4 b0_5 b1 b1_1 b1_2 b1_3 b1_4 b1_5=some r :=
 q8r (es:=q13z) (hs:=q9f) [qkd] (by kernel_rfl) ⟨⟨_,rfl,rfl⟩,trivial⟩ trivial (by kernel_rfl) h
def qk6:=gentS Tryz.prog lv X0 3 (q8y (cdF Tryz.f26) 3) (by kernel_rfl) qka qk8 (fun x=>qk5 x.2.1.1 x.2.1.2.1 x.2.1.2.2.1 x.2.1.2.2.2.1 x.2.1.2.2.2.2.1 x.2.1.2.2.2.2.2 x.2.2.1 x.2.2.2.1 x.2.2.2.2.1 x.2.2.2.2.2.1 x.2.2.2.2.2.2.1 x.2.2.2.2.2.2.2) (fun _ _ h=>q8q h)
def qkl (a_Kind:Int) (q16k:L57) (a_Name:BA) (q16j:Int) (a_Text:BA) (a_N b_Kind:Int) (q16m:L57) (b_Name:BA) (q16l:Int) (b_Text:BA) (b_N:Int):Oq Bool :=
 (brE ((a_Kind != b_Kind)==false)
 (brE ((!(a_Name.toList==b_Name.toList))==false)
 (brE ((q16j != q16l)==false)
 (brE ((!(a_Text.toList==b_Text.toList))==false)
 (brE ((a_N != b_N)==false)
 (brE ((lN q5t q16k:Int) != (lN q5t q16m:Int))
 (some false)
 (gL q5t q16k<|
 (gL q5t q16m<|
 ((qk5 a_Kind (dL q5t q16k) a_Name q16j a_Text a_N b_Kind (dL q5t q16m) b_Name q16l b_Text b_N).bind fun r0 =>
 (some r0.1)))))
 (some false))
 (some false))
 (some false))
 (some false))
 (some false))
theorem qk4 {a_Kind q16k a_Name q16j a_Text a_N b_Kind q16m b_Name q16l b_Text b_N r} (h:qkl a_Kind q16k a_Name q16j a_Text a_N b_Kind q16m b_Name q16l b_Text b_N=some r):qkk a_Kind q16k a_Name q16j a_Text a_N b_Kind q16m b_Name q16l b_Text b_N=some r :=
 q75 (es:=q13z) (hs:=q9f) [qk6] Tryz.func26 rfl (by kernel_rfl) rfl (by kernel_rfl) (by kernel_rfl) trivial ⟨⟨_,rfl,rfl⟩,trivial⟩ (by kernel_rfl) h
abbrev z1n:=(vC (cSl q5u))
def qjn:=(qb7 z1n (qb9 z1n))
def qjo:Cod (V×List B) Bool:=(cFstU (cPair (vC cBool) qb8))
def qjz (a b:L59):=fS Tryz.prog lv X0 10 qjn qjo (a,b)
def qjp:=entS Tryz.prog lv X0 10 [] qjn qjo (fun x=>qjz x.1 x.2) (fun _ _ h=>q74 h)
def q13y:=qjp::q13z
def qjx:=sLS [0,1,5] (qb7 z1n (qb7 z1n (qb9 (vC (cInt .i64))))) qb8 [] [] (by decide) (fun _=>rfl)
def qjw:=sLS [0,1,5,16] (qb7 z1n (qb7 z1n (qb7 (vC (cInt .i64)) (qb9 (vC cBool))))) qb8 [] [] (by decide) (fun _=>rfl)
def qjv:=sLS [4] (qb9 (vC cBool)) qb8 [] [] (by decide) (fun _=>rfl)
def qju:=oOr 1 qjv (oAt 2 qjw) (fun x=>(by decide:(2:Nat)≠1))
def qjr (a b:L59) (i:Int):=lS Tryz.prog lv X0 10 84 (q8x (cdF Tryz.f10) 4) qjx qju ((a,b,i),())
abbrev zx (a:L59) (i:Int):=(List.getD (EC.encL q5u a) (Int.toNat i) [])
abbrev zy (b:L59) (i:Int):=(List.getD (EC.encL q5u b) (Int.toNat i) [])
def qjy (a b:L59) (i:Int):Oq ((Bool×Unit)⊕((L59×L59×Int×Bool)×Unit)) :=
 (brE (decide (i<(lN q5u a:Int)))
 (gdE (p0 i)<|
 (gdE (eC q5u a i [(K1.int Go.IntKind.i64),(K1.int Go.IntKind.i64),K1.sl,K1.str,(K1.int Go.IntKind.i64),K1.str,(K1.int Go.IntKind.i64),K1.sl,K1.sl,(K1.int Go.IntKind.i64),K1.str,K1.str,(K1.int Go.IntKind.i64)])<|
 (gdE (p0 i)<|
 (gdE (eC q5u b i [(K1.int Go.IntKind.i64),(K1.int Go.IntKind.i64),K1.sl,K1.str,(K1.int Go.IntKind.i64),K1.str,(K1.int Go.IntKind.i64),K1.sl,K1.sl,(K1.int Go.IntKind.i64),K1.str,K1.str,(K1.int Go.IntKind.i64)])<|
 (brE (((qa0 (List.getD (zx a i) 0 C.ne)) != (qa0 (List.getD (zy b i) 0 C.ne)))==false)
 (brE (((qa0 (List.getD (zx a i) 9 C.ne)) != (qa0 (List.getD (zy b i) 9 C.ne)))==false)
 (brE ((!((ByteArray.toList (q135 (List.getD (zx a i) 10 C.ne)))==(ByteArray.toList (q135 (List.getD (zy b i) 10 C.ne)))))==false)
 (brE ((!((ByteArray.toList (q135 (List.getD (zx a i) 11 C.ne)))==(ByteArray.toList (q135 (List.getD (zy b i) 11 C.ne)))))==false)
 (brE (((qa0 (List.getD (zx a i) 12 C.ne)) != (qa0 (List.getD (zy b i) 12 C.ne)))==false)
 (gdE (EC.isL q5t (slOf (List.getD (zx a i) 2 C.ne)))<|
 (gdE (EC.isL q5t (slOf (List.getD (zy b i) 2 C.ne)))<|
 ((qkk (qa0 (List.getD (zx a i) 1 C.ne)) (uL q5t (List.getD (zx a i) 2 C.ne)) (q135 (List.getD (zx a i) 3 C.ne)) (qa0 (List.getD (zx a i) 4 C.ne)) (q135 (List.getD (zx a i) 5 C.ne)) (qa0 (List.getD (zx a i) 6 C.ne)) (qa0 (List.getD (zy b i) 1 C.ne)) (uL q5t (List.getD (zy b i) 2 C.ne)) (q135 (List.getD (zy b i) 3 C.ne)) (qa0 (List.getD (zy b i) 4 C.ne)) (q135 (List.getD (zy b i) 5 C.ne)) (qa0 (List.getD (zy b i) 6 C.ne))).bind fun r0 =>
 (brE ((!r0)==false)
 (gdE (EC.isL q5u (slOf (List.getD (zx a i) 7 C.ne)))<|
 (gdE (EC.isL q5u (slOf (List.getD (zy b i) 7 C.ne)))<|
 ((qjz (uL q5u (List.getD (zx a i) 7 C.ne)) (uL q5u (List.getD (zy b i) 7 C.ne))).bind fun r1 =>
 (brE ((!r1)==false)
 (gdE (EC.isL q5u (slOf (List.getD (zx a i) 8 C.ne)))<|
 (gdE (EC.isL q5u (slOf (List.getD (zy b i) 8 C.ne)))<|
 ((qjz (uL q5u (List.getD (zx a i) 8 C.ne)) (uL q5u (List.getD (zy b i) 8 C.ne))).bind fun r2 =>
 (brE (!r2)
 (some (.inl (false,())))
 (gL q5u a<|
 (gL q5u b<|
 (qjr (dL q5u a) (dL q5u b) (wI i))))))))
 (some (.inl (false,())))))))
 (some (.inl (false,())))))))
 (some (.inl (false,()))))
 (some (.inl (false,()))))
 (some (.inl (false,()))))
 (some (.inl (false,()))))
 (some (.inl (false,()))))))))
 (gL q5u a<|
 (gL q5u b<|
 (some (.inr (((dL q5u a),((dL q5u b),(i,false))),()))))))
theorem qjt {a b i r} (h:qjy a b i=some r):qjr a b i=some r :=
 qbb (es:=q13y) (hs:=q9f) [] (by kernel_rfl) trivial trivial (by kernel_rfl) h
def qjs:=qby Tryz.prog lv X0 4 (q8x (cdF Tryz.f10) 4) qjx qju (fun x=>qjr x.1.1 x.1.2.1 x.1.2.2) (fun _ _ h=>qba h)
def qk0 (a b:L59):Oq Bool :=
 (brE ((lN q5u a:Int) != (lN q5u b:Int))
 (some false)
 (gL q5u a<|
 (gL q5u b<|
 ((qjr (dL q5u a) (dL q5u b) 0).bind fun r0 =>
 (Sum.elim (fun r1=>(some r1.1))
 (fun r1=>(some true)) r0)))))
theorem qjq {a b r} (h:qk0 a b=some r):qjz a b=some r :=
 q75 (es:=q13y) (hs:=q9f) [qjs] Tryz.func10 rfl (by kernel_rfl) rfl (by kernel_rfl) (by kernel_rfl) ⟨⟨_,rfl,rfl⟩,trivial⟩ trivial (by kernel_rfl) h
end
end Go.Proofs.YtognhcibcocbkaaGreatDoor
namespace Go.Proofs.YtognhcibcocbkaaGreatDoor
open Go.RowKit
theorem q13c (l:List ByteArray):strsOf (q5v.encL l)=some l:=by
 induction l with
 |nil=>rfl
 |cons s l ih =>
  have e:q5v.encL (s::l)=[.str s]::q5v.encL l:=rfl
  rw [e]
  simp only [strsOf,ih,Option.map_some]
def qao:=qb7 (vC (cSl q5v)) (qb9 (vC cStr))
def qar:Cod (V×List B) ByteArray:=cFstU (cPair (vC cStr) qb8)
theorem qap (x:List ByteArray×ByteArray) (r:ByteArray) (h:joinP x.1 x.2=some r):Call Tryz.prog lv X0 86 (qao.enc x)=some (qar.enc r):=by
 have:X0.c 86 (qao.enc x)=some (qar.enc r):=by
  show ((strsOf (q5v.encL x.1)).bind fun l=>(joinP l x.2).map fun b=>((V.c (.str b),[]):V×List B))=_
  rw [q13c]
  simp only [Option.bind_some,h]
  rfl
 unfold Call callD
 rw [this]
noncomputable def join_e:=entS Tryz.prog lv X0 86 [] qao qar (fun x=>joinP x.1 x.2) qap
noncomputable def tabj:=join_e::q13y
set_option maxRecDepth 100000
noncomputable section
def q19z:=(qb9 (vAgg z1l))
def q1a0:Cod (V×List B) ByteArray:=(cFstU (cPair (vC cStr) qb8))
def q1a3 (q16u:Int) (q16x:L57) (q16v:BA) (q16w:Int) (q16y:BA) (t_N:Int):=fS Tryz.prog lv X0 62 q19z q1a0 (q16u,q16x,q16v,q16w,q16y,t_N)
def q1a1:=entS Tryz.prog lv X0 62 [] q19z q1a0 (fun x=>q1a3 x.1 x.2.1 x.2.2.1 x.2.2.2.1 x.2.2.2.2.1 x.2.2.2.2.2) (fun _ _ h=>q74 h)
def q1am:=q1a1::tabj
def q19m:=(qb7 z1n (qb9 (vC (cInt .i64))))
def q19n:Cod (V×List B) ByteArray:=(cFstU (cPair (vC cStr) qb8))
def q19x (s:L59) (depth:Int):=fS Tryz.prog lv X0 28 q19m q19n (s,depth)
def q19o:=entS Tryz.prog lv X0 28 [] q19m q19n (fun x=>q19x x.1 x.2) (fun _ _ h=>q74 h)
def q1al:=q19o::q1am
end
set_option maxRecDepth 100000
noncomputable section
structure S53 where
 Kind:Int
 Text:ByteArray
 At:Int
end
set_option maxRecDepth 1000000 in
theorem q118:callD Tryz.prog (fzL lv) X0.c (execD Tryz.prog lv X0 200) 11 []=some (.c (.bool true),[]):=by kernel_rfl
def scr_ca:Cod (List V) Unit:=qb8
def scr_cr:Cod (V×List B) Bool:=cFstU (cPair (vC cBool) qb8)
def scrS:Option Bool:=some true
theorem q117 (x:Unit) (r:Bool) (h:scrS=some r):Call Tryz.prog lv X0 11 (scr_ca.enc x)=some (scr_cr.enc r):=by
 cases r with
 |true=>exact qd q118
 |false=>unfold scrS at h;cases h
noncomputable def scr_e:=entS Tryz.prog lv X0 11 [] scr_ca scr_cr (fun _=>scrS) q117
noncomputable def tabk:=scr_e::q1al
set_option maxRecDepth 100000
noncomputable section
def q1bh:=(qb7 (vC cStr) (qb9 (vC cStr)))
def q1bi:Cod (V×List B) Bool:=(cFstU (cPair (vC cBool) qb8))
def q1bk (a b:BA):=fS Tryz.prog lv X0 7 q1bh q1bi (a,b)
abbrev z10 (a b:BA):=((decide ((IntKind.wrap .i64 ((a.size:Int)+(b.size:Int)))≥4000))==false)
def q1bl (a b:BA):Oq Bool :=
 ((qsd a).bind fun r0 =>
 ((qsd b).bind fun r1 =>
 (brE (decide ((((a.size+(ByteArray.size (ByteArray.mk (List.toArray [(10:UInt8)])))):Nat):Int)>(Go.IntKind.max Go.IntKind.i64)))
 none
 (brE (decide (((((ByteArray.size (a++(ByteArray.mk (List.toArray [(10:UInt8)]))))+b.size):Nat):Int)>(Go.IntKind.max Go.IntKind.i64)))
 none
 ((qsd ((a++(ByteArray.mk (List.toArray [(10:UInt8)])))++b)).bind fun r2 =>
 (brE ((r0.2.1 != 0)==false)
 (brE ((r1.2.1 != 0)==false)
 (brE (r2.2.1 != 0)
 (brE ((r0.2.1 != 0)==false)
 (brE ((r1.2.1 != 0)==false)
 (brE (z10 a b)
 (gL q5u r0.1<|
 ((qf5 (dL q5u r0.1)).bind fun r3 =>
 (gL q5u r1.1<|
 ((qf5 (dL q5u r1.1)).bind fun r4 =>
 (brE ((decide ((IntKind.wrap .i64 (r3+r4))>100))==true)
 (some true)
 (some false))))))
 (some true))
 (some true))
 (some true))
 (gdE (((aL (EC.encL q5u r0.1) 13)&&(dQ (lN q5u r0.1) 184))&&(dM (lN q5u r0.1)))<|
 (gdE ((((aL (EC.encL q5u r1.1) 13)&&(aL (EC.encL q5u r0.1) 13))&&(dQ ((lN q5u r0.1)+(lN q5u r1.1)) 184))&&(dM ((lN q5u r0.1)+(lN q5u r1.1))))<|
 (gL q5u r2.1<|
 (gdE (EC.isL q5u ((EC.encL q5u r0.1)++(EC.encL q5u r1.1)))<|
 ((qjz (dL q5u r2.1) (EC.decL q5u ((EC.encL q5u r0.1)++(EC.encL q5u r1.1)))).bind fun r3 =>
 (brE (r3==true)
 (some true)
 (some false))))))))
 (brE ((r0.2.1 != 0)==false)
 (brE ((r1.2.1 != 0)==false)
 (brE (z10 a b)
 (gL q5u r0.1<|
 ((qf5 (dL q5u r0.1)).bind fun r3 =>
 (gL q5u r1.1<|
 ((qf5 (dL q5u r1.1)).bind fun r4 =>
 (brE ((decide ((IntKind.wrap .i64 (r3+r4))>100))==true)
 (some true)
 (some false))))))
 (some true))
 (some true))
 (some true)))
 (brE ((r0.2.1 != 0)==false)
 (brE ((r1.2.1 != 0)==false)
 (brE (z10 a b)
 (gL q5u r0.1<|
 ((qf5 (dL q5u r0.1)).bind fun r3 =>
 (gL q5u r1.1<|
 ((qf5 (dL q5u r1.1)).bind fun r4 =>
 (brE ((decide ((IntKind.wrap .i64 (r3+r4))>100))==true)
 (some true)
 (some false))))))
 (some true))
 (some true))
 (some true))))))))
theorem q1bj {a b r} (h:q1bl a b=some r):q1bk a b=some r :=
 q75 (es:=tabk) (hs:=q9f) [] Tryz.func7 rfl (by kernel_rfl) rfl (by kernel_rfl) (by kernel_rfl) trivial trivial (by kernel_rfl) h
end
theorem q3w {β:Type} (q:Bool) (a b:Option β):brE q a b=if q=true then a else b:=by cases q <;> rfl
theorem q8t {β:Type} (q:Bool) (a:Option β):gdE q a=if q=true then a else none:=by cases q <;> rfl
theorem q8w {α:Type} {l:List α} {k:Nat} {d:α} (h:k<l.length):l.getD k d=l[k]:=by simp [List.getD_eq_getElem?_getD,h]
theorem q5p {α:Type} {l:List α} {k:Nat} (h:k<l.length):l.drop k=l[k]::l.drop (k+1):=List.drop_eq_getElem_cons h
theorem q167 {n:Int} (h:-9223372036854775808≤n∧n≤9223372036854775807):IntKind.i64.wrap n=n:=IntWalk.i64_in n h
theorem q164 (a b:Int):IntKind.i64.wrap (IntKind.i64.wrap a+b)=IntKind.i64.wrap (a+b):=by simp only [IntKind.wrap_i64];omega
theorem q165 (a b:Int):IntKind.i64.wrap (a+IntKind.i64.wrap b)=IntKind.i64.wrap (a+b):=by simp only [IntKind.wrap_i64];omega
theorem q168 {k n:Nat} (h:k<n) (hn:n≤9223372036854775807):IntKind.i64.wrap ((k:Int)+1)=((k+1:Nat):Int):=by rw [q167 (by omega)];rfl
theorem q7a (a b:Int):q3b a b=some (a,b):=q3a rfl
theorem none_s:q3h=some (0,0):=q3g rfl
theorem q79 (a b:Int):q35 a b=some (a != 0):=by
 refine q34 ?_
 simp [q36]
theorem beq_t (q:Bool):(q==true)=q:=by cases q <;> rfl
theorem beq_f (q:Bool):(q==false)=!q:=by cases q <;> rfl
mutual
def szR:S59→Nat
 |⟨_,_,_,_,_,_,_,t,e,_,_,_,_⟩=>1+szL t+szL e
def szL:List S59→Nat
 |[]=>0
 |r::l=>szR r+szL l
end
theorem szR_eq (r:S59):szR r=1+szL r.Then+szL r.Else:=by cases r;rfl
theorem q13f (a b:List S59):szL (a++b)=szL a+szL b:=by
 induction a with
 |nil=>simp [szL]
 |cons r a ih=>simp only [List.cons_append,szL,ih];omega
theorem q13g {l:List S59} {r:S59} (h:r∈l):szR r≤szL l:=by
 induction l with
 |nil=>cases h
 |cons x l ih =>
  rcases List.mem_cons.1 h with rfl|h
  ·simp only [szL];omega
  ·have:=ih h;simp only [szL];omega
theorem q13j {l:List S59} {r:S59} (h:r∈l):szL r.Then<szL l:=by have:=q13g h;rw [szR_eq] at this;omega
theorem q13i {l:List S59} {r:S59} (h:r∈l):szL r.Else<szL l:=by have:=q13g h;rw [szR_eq] at this;omega
theorem q13h {l:List S59} {k:Nat} (h:k<l.length):szL (l.take (k+1))=szL (l.take k)+szR l[k]:=by
 rw [List.take_succ_eq_append_getElem h,q13f];simp [szL]
abbrev big:Nat:=1000000000000000
mutual
def okT:S57→Prop
 |⟨_,ts,_,_,_,_⟩=>ts.length≤big∧okTL ts
def okTL:List S57→Prop
 |[]=>True
 |r::l=>okT r∧okTL l
end
mutual
def okR:S59→Prop
 |⟨_,_,ts,_,_,_,_,t,e,_,nm,_,_⟩=>(ts.length≤big∧okTL ts)∧(t.length≤big∧okL t)∧(e.length≤big∧okL e)∧nm.size≤big
def okL:List S59→Prop
 |[]=>True
 |r::l=>okR r∧okL l
end
theorem okT_eq (t:S57):okT t ↔ t.Tests.length≤big∧okTL t.Tests:=by cases t;rfl
theorem qdo (r:S59):okR r ↔ (r.Test_Tests.length≤big∧okTL r.Test_Tests)∧(r.Then.length≤big∧okL r.Then)∧(r.Else.length≤big∧okL r.Else)∧r.Name.size≤big:=by cases r;rfl
theorem qdp {l:List S57} (h:okTL l) {t:S57} (ht:t∈l):okT t:=by
 induction l with
 |nil=>cases ht
 |cons x l ih =>
  rcases List.mem_cons.1 ht with rfl|ht
  ·exact h.1
  ·exact ih h.2 ht
theorem qdn {l:List S59} (h:okL l) {r:S59} (hr:r∈l):okR r:=by
 induction l with
 |nil=>cases hr
 |cons x l ih =>
  rcases List.mem_cons.1 hr with rfl|hr
  ·exact h.1
  ·exact ih h.2 hr
mutual
def tzT:S57→Nat
 |⟨_,ts,_,_,_,_⟩=>1+tzL ts
def tzL:List S57→Nat
 |[]=>0
 |r::l=>tzT r+tzL l
end
theorem q1ay (t:S57):tzT t=1+tzL t.Tests:=by cases t;rfl
theorem tz_mem {l:List S57} {t:S57} (h:t∈l):tzT t≤tzL l:=by
 induction l with
 |nil=>cases h
 |cons x l ih =>
  rcases List.mem_cons.1 h with rfl|h
  ·simp only [tzL];omega
  ·have:=ih h;simp only [tzL];omega
theorem q50 (l:List S59) (hl:l.length≤big) (ih:∀ r∈l,qf5 r.Then=some (IntKind.i64.wrap (szL r.Then))∧qf5 r.Else=some (IntKind.i64.wrap (szL r.Else))) :
  ∀ m k,k+m=l.length→∃ x,qey l (IntKind.i64.wrap (szL (l.take k)+(l.length - k:Int))) k=some x∧x.1.2.1=IntKind.i64.wrap (szL l):=by
 intro m
 induction m with
 |zero =>
  intro k hk
  have hk:k=l.length:=by omega
  subst hk
  refine ⟨((l,IntKind.i64.wrap (szL (l.take l.length)+(l.length - l.length:Int)),(l.length:Int),false),()),qf0 (by
   simp only [qf4,gL,dL,lN,eC,wI,p0,uL,q3w,q8t,EC.decL_encL,EC.isL_encL,EC.encL_length,qab,q2q,q2r]
   simp),?_⟩
  simp
 |succ m ihm =>
  intro k hk
  have hlt:k<l.length:=by omega
  obtain ⟨x,h1,h2⟩:=ihm (k+1) (by omega)
  obtain ⟨i1,i2⟩:=ih l[k] (List.getElem_mem hlt)
  refine ⟨x,qf0 ?_,h2⟩
  simp only [qf4,gL,dL,lN,eC,wI,p0,uL,q3w,q8t,EC.decL_encL,EC.isL_encL,EC.encL_length,qab,q2q,q2r]
  have e1:((k:Int)<(l.length:Int)):=by omega
  simp only [e1,decide_true,if_true,show (0:Int)≤(k:Int) by omega,Int.toNat_natCast,hlt,Bool.and_self,q8w hlt,i1,i2,Option.bind_some]
  have e2:IntKind.i64.wrap ((k:Int)+1)=((k+1:Nat):Int):=q168 hlt (by unfold big at hl;omega)
  have e3:IntKind.i64.wrap (IntKind.i64.wrap (szL (l.take k)+(l.length - k:Int))+IntKind.i64.wrap (IntKind.i64.wrap (szL l[k].Then)+IntKind.i64.wrap (szL l[k].Else)))=IntKind.i64.wrap (szL (l.take (k+1))+(l.length - (k+1:Nat):Int)):=by
   rw [q13h hlt,szR_eq]
   simp only [q164,q165]
   congr 1 <;> omega
  rw [e2,e3]
  exact h1
theorem q51 (l:List S59) (hl:l.length≤big) (ho:okL l):qf5 l=some (IntKind.i64.wrap (szL l)):=by
 generalize hn:szL l=n
 induction n using Nat.strongRecOn generalizing l with
 |_ n ih =>
  subst hn
  obtain ⟨x,h1,h2⟩:=q50 l hl (fun r hr=>by
   have:=(qdo r).1 (qdn ho hr)
   exact ⟨ih _ (q13j hr) _ this.2.1.1 this.2.1.2 rfl,ih _ (q13i hr) _ this.2.2.1.1 this.2.2.1.2 rfl⟩) l.length 0 (by omega)
  refine qex ?_
  simp only [qf6,gL,dL,lN,q8t,EC.decL_encL,EC.isL_encL,EC.encL_length]
  have e:qey l l.length 0=some x:=by
   have e0:IntKind.i64.wrap (szL (l.take 0)+(l.length - (0:Nat):Int))=(l.length:Int):=by
    simp only [List.take_zero,szL]
    rw [q167 (by unfold big at hl;omega)]
    omega
   rw [e0] at h1
   exact h1
  simp [e,h2]
end Go.Proofs.YtognhcibcocbkaaGreatDoor
