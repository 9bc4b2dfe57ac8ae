/- Functions of the program as plain functions: made by program from the machine. -/
import Derived.Test.YtognhcibcocbkaaGreatDoorH2
namespace Go.Proofs.YtognhcibcocbkaaGreatDoor
open Go.RowKit
set_option maxRecDepth 100000
noncomputable section
def q5v:EC ByteArray where
 enc x:=[.str x]
 dec c:=q135 (c.getD 0 .ne)
 is c:=isE [.str] 0 c
 enc_dec h:=q57 h
 dec_enc x:=by rfl
 is_enc x:=by simp [isE,isK]
theorem enc_9 (x:ByteArray):q5v.enc x=[.str x]:=rfl
theorem q2u (xs:List ByteArray) (n:Nat):q135 (((q5v.encL xs).getD n []).getD 0 .ne)=(xs.getD n (q5v.dec [])):=by
 by_cases h:n<xs.length
 ·simp only [EC.getD_lt _ _ h];simp [enc_9,h,q135,List.getD_eq_getElem?_getD]
 ·simp only [EC.getD_ge _ _ (Nat.not_lt.1 h)];simp [Nat.not_lt.1 h,q5v,q135,List.getD_eq_getElem?_getD]
abbrev z1y:=(vC (cInt .i64))
abbrev z23:=(qb7 z1y (qb9 z1y))
def qei:=z23
def qej:Cod (V×List B) (Int×Int):=(cFstU (cPair (vAgg z23) qb8))
def qem (code index:Int):=fS Tryz.prog lv X0 16 qei qej (code,index)
def qen (code index:Int):Oq (Int×Int) :=
 (some (code,index))
theorem qel {code index r} (h:qen code index=some r):qem code index=some r :=
 q75 (es:=q14d) (hs:=q9f) [] Tryz.func16 rfl (by kernel_rfl) rfl (by kernel_rfl) (by kernel_rfl) trivial trivial (by kernel_rfl) h
def qek:=entS Tryz.prog lv X0 16 [] qei qej (fun x=>qem x.1 x.2) (fun _ _ h=>q74 h)
def q13q:=qek::q14d
def qeo:=(qb7 z1y z23)
abbrev z26:=(cFstU (cPair (vC cBool) (qb8 (ρ:=B))))
def qep:Cod (V×List B) Bool:=z26
def qes (n low high:Int):=fS Tryz.prog lv X0 41 qeo qep (n,low,high)
def qet (n low high:Int):Oq Bool :=
 (brE ((decide (low≤n))==true)
 (some (decide (n≤high)))
 (some false))
theorem qer {n low high r} (h:qet n low high=some r):qes n low high=some r :=
 q75 (es:=q13q) (hs:=q9f) [] Tryz.func41 rfl (by kernel_rfl) rfl (by kernel_rfl) (by kernel_rfl) trivial trivial (by kernel_rfl) h
def qeq:=entS Tryz.prog lv X0 41 [] qeo qep (fun x=>qes x.1 x.2.1 x.2.2) (fun _ _ h=>q74 h)
def q13r:=qeq::q13q
def qmd:=(qb9 z1y)
def qme:Cod (V×List B) Bool:=z26
def qmh (act:Int):=fS Tryz.prog lv X0 33 qmd qme act
def qmi (act:Int):Oq Bool :=
 (brE ((act==2)==false)
 (brE ((act==4)==false)
 (brE ((act==5)==false)
 (some (act==7))
 (some true))
 (some true))
 (some true))
theorem qmg {act r} (h:qmi act=some r):qmh act=some r :=
 q75 (es:=q13r) (hs:=q9f) [] Tryz.func33 rfl (by kernel_rfl) rfl (by kernel_rfl) (by kernel_rfl) trivial trivial (by kernel_rfl) h
def qmf:=entS Tryz.prog lv X0 33 [] qmd qme (fun x=>qmh x) (fun _ _ h=>q74 h)
def q141:=qmf::q13r
def qq4:=(qb9 z1y)
abbrev z22:=(qb9 (vC cBool))
abbrev z28:=(qb7 (vC cBool) (qb7 (vC cBool) z22))
def qq5:Cod (V×List B) (Bool×Bool×Bool×Bool):=(cFstU (cPair (vTup (qb7 (vC cBool) z28)) qb8))
def qq8 (kind:Int):=fS Tryz.prog lv X0 91 qq4 qq5 kind
def qq9 (kind:Int):Oq (Bool×Bool×Bool×Bool) :=
 ((qes kind 2 4).bind fun r0 =>
 (brE ((kind==5)==false)
 ((qes kind 5 7).bind fun r1 =>
 (some (r0,((kind==9),(r1,(kind==8))))))
 ((qes kind 5 7).bind fun r1 =>
 (some (r0,(true,(r1,(kind==8))))))))
theorem qq7 {kind r} (h:qq9 kind=some r):qq8 kind=some r :=
 q75 (es:=q141) (hs:=q9f) [] Tryz.func91 rfl (by kernel_rfl) rfl (by kernel_rfl) (by kernel_rfl) trivial trivial (by kernel_rfl) h
def qq6:=entS Tryz.prog lv X0 91 [] qq4 qq5 (fun x=>qq8 x) (fun _ _ h=>q74 h)
def q14b:=qq6::q141
def qny:=(qb9 (vC cStr))
def qo8:=sLS [0,3] (qb7 (vC cStr) (qb9 z1y)) qb8 [] [] (by decide) (fun _=>rfl)
def qo7:=sLS [0,3,8] (qb7 (vC cStr) (qb7 z1y z22)) qb8 [] [] (by decide) (fun _=>rfl)
def qo6:=sLS [2] z22 qb8 [] [] (by decide) (fun _=>rfl)
def qo5:=oOr 1 qo6 (oAt 2 qo7) (fun x=>(by decide:(2:Nat)≠1))
def qo2 (s:BA) (i:Int):=lS Tryz.prog lv X0 68 30 (q8x (cdF Tryz.f68) 2) qo8 qo5 ((s,i),())
def qo9 (s:BA) (i:Int):Oq ((Bool×Unit)⊕((BA×Int×Bool)×Unit)) :=
 (brE (decide (i<(s.size:Int)))
 (gdE ((p0 i)&&(decide ((Int.toNat i)<s.size)))<|
 (Option.bind (qes (IntKind.wrap .i64 (((UInt8.toNat (Array.getD s.data (Int.toNat i) (0:UInt8))):Nat):Int)) 97 122) fun r0 =>
 (brE ((!r0)==true)
 (brE ((decide (i>0))==true)
 (Option.bind (qes (IntKind.wrap .i64 (((UInt8.toNat (Array.getD s.data (Int.toNat i) (0:UInt8))):Nat):Int)) 48 57) fun r1 =>
 (brE (!r1)
 (some (.inl (false,())))
 (qo2 s (wI i))))
 (some (.inl (false,()))))
 (qo2 s (wI i)))))
 (some (.inr ((s,(i,false)),()))))
theorem qo4 {s i r} (h:qo9 s i=some r):qo2 s i=some r :=
 qbb (es:=q14b) (hs:=q9f) [] (by kernel_rfl) trivial trivial (by kernel_rfl) h
def qo3:=qby Tryz.prog lv X0 2 (q8x (cdF Tryz.f68) 2) qo8 qo5 (fun x=>qo2 x.1.1 x.1.2) (fun _ _ h=>qba h)
def qnz:Cod (V×List B) Bool:=z26
def qoa (s:BA):=fS Tryz.prog lv X0 68 qny qnz s
def qob (s:BA):Oq Bool :=
 ((qo2 s 0).bind fun r0 =>
 (Sum.elim (fun r1=>(some r1.1))
 (fun r1=>((qes ((r1.1.1.size:Nat):Int) 1 60).bind fun r2 =>
 (some r2))) r0))
theorem qo1 {s r} (h:qob s=some r):qoa s=some r :=
 q75 (es:=q14b) (hs:=q9f) [qo3] Tryz.func68 rfl (by kernel_rfl) rfl (by kernel_rfl) (by kernel_rfl) ⟨⟨_,rfl,rfl⟩,trivial⟩ trivial (by kernel_rfl) h
def qo0:=entS Tryz.prog lv X0 68 [] qny qnz (fun x=>qoa x) (fun _ _ h=>q74 h)
def q143:=qo0::q14b
abbrev z1w:=(qb7 (vC (cInt .i64)) (qb7 (vC (cSl q5t)) (qb7 (vC cStr) (qb7 (vC (cInt .i64)) (qb7 (vC cStr) (qb9 (vC (cInt .i64))))))))
def qkm:=(qb7 (vAgg z1w) (qb9 z1y))
def qkn:Cod (V×List B) Int:=(cFstU (cPair z1y qb8))
def qmb (q16u:Int) (q16x:L57) (q16v:BA) (q16w:Int) (q16y:BA) (t_N depth:Int):=fS Tryz.prog lv X0 67 qkm qkn ((q16u,q16x,q16v,q16w,q16y,t_N),depth)
def qko:=entS Tryz.prog lv X0 67 [] qkm qkn (fun x=>qmb x.1.1 x.1.2.1 x.1.2.2.1 x.1.2.2.2.1 x.1.2.2.2.2.1 x.1.2.2.2.2.2 x.2) (fun _ _ h=>q74 h)
def q140:=qko::q143
abbrev z1z:=(qb9 (qdm (bBox z1w)))
def qm9:=sLS [1,2,9] (qb7 z1y (qb7 (vPtr 0 0) (qb9 z1y))) z1z [false] [] (by decide) (fun _=>rfl)
def qm8:=sLS [1,2,9,120] (qb7 z1y (qb7 (vPtr 0 0) (qb7 z1y z22))) z1z [false] [] (by decide) (fun _=>rfl)
def qm7:=sLS [4] (qb9 z1y) qb8 [] [] (by decide) (fun _=>rfl)
def qm6:=oOr 1 qm7 (oAt 2 qm8) (fun x=>(by decide:(2:Nat)≠1))
def qm3 (depth i b0:Int) (b0_1:L57) (b0_2:BA) (b0_3:Int) (b0_4:BA) (b0_5:Int):=lS Tryz.prog lv X0 67 134 (q8x (cdF Tryz.f67) 19) qm9 qm6 ((depth,(),i),(b0,b0_1,b0_2,b0_3,b0_4,b0_5))
abbrev zu (i:Int) (b0_1:L57):=(List.getD (EC.encL q5t b0_1) (Int.toNat i) [])
def qma (depth i b0:Int) (b0_1:L57) (b0_2:BA) (b0_3:Int) (b0_4:BA) (b0_5:Int):Oq ((Int×Unit)⊕((Int×Unit×Int×Bool)×(Int×L57×BA×Int×BA×Int))) :=
 (brE (decide (i<(lN q5t b0_1:Int)))
 (gdE (p0 i)<|
 (gdE (eC q5t b0_1 i [(K1.int Go.IntKind.i64),K1.sl,K1.str,(K1.int Go.IntKind.i64),K1.str,(K1.int Go.IntKind.i64)])<|
 (gdE (EC.isL q5t (slOf (List.getD (zu i b0_1) 1 C.ne)))<|
 ((qmb (qa0 (List.getD (zu i b0_1) 0 C.ne)) (uL q5t (List.getD (zu i b0_1) 1 C.ne)) (q135 (List.getD (zu i b0_1) 2 C.ne)) (qa0 (List.getD (zu i b0_1) 3 C.ne)) (q135 (List.getD (zu i b0_1) 4 C.ne)) (qa0 (List.getD (zu i b0_1) 5 C.ne)) (wI depth)).bind fun r0 =>
 (brE (r0 != 0)
 (some (.inl (r0,())))
 (gL q5t b0_1<|
 (qm3 depth (wI i) b0 (dL q5t b0_1) b0_2 b0_3 b0_4 b0_5)))))))
 (gL q5t b0_1<|
 (some (.inr ((depth,((),(i,false))),(b0,((dL q5t b0_1),(b0_2,(b0_3,(b0_4,b0_5))))))))))
theorem qm5 {depth i b0 b0_1 b0_2 b0_3 b0_4 b0_5 r} (h:qma depth i b0 b0_1 b0_2 b0_3 b0_4 b0_5=some r):qm3 depth i b0 b0_1 b0_2 b0_3 b0_4 b0_5=some r :=
 qbb (es:=q140) (hs:=q9f) [] (by kernel_rfl) trivial trivial (by kernel_rfl) h
def qm4:=qby Tryz.prog lv X0 19 (q8x (cdF Tryz.f67) 19) qm9 qm6 (fun x=>qm3 x.1.1 x.1.2.2 x.2.1 x.2.2.1 x.2.2.2.1 x.2.2.2.2.1 x.2.2.2.2.2.1 x.2.2.2.2.2.2) (fun _ _ h=>qba h)
abbrev z25:=(qb9 (vPtr 0 0))
def qln:=sLS [1,2] (qb7 z1y z25) z1z [false] [] (by decide) (fun _=>rfl)
def qlm:=sLS [4] (qb9 z1y) qb8 [] [] (by decide) (fun _=>rfl)
def qll:=oAt 1 qlm
def qli (depth b0:Int) (b0_1:L57) (b0_2:BA) (b0_3:Int) (b0_4:BA) (b0_5:Int):=gS Tryz.prog lv X0 67 134 (q8y (cdF Tryz.f67) 18) qln qll ((depth,()),(b0,b0_1,b0_2,b0_3,b0_4,b0_5))
def qlo (depth b0:Int) (b0_1:L57) (b0_2:BA) (b0_3:Int) (b0_4:BA) (b0_5:Int):Oq (Int×Unit) :=
 (gL q5t b0_1<|
 ((qm3 depth 0 b0 (dL q5t b0_1) b0_2 b0_3 b0_4 b0_5).bind fun r0 =>
 (Sum.elim (fun r1=>(some (r1.1,())))
 (fun r1=>(some (0,()))) r0)))
theorem qlk {depth b0 b0_1 b0_2 b0_3 b0_4 b0_5 r} (h:qlo depth b0 b0_1 b0_2 b0_3 b0_4 b0_5=some r):qli depth b0 b0_1 b0_2 b0_3 b0_4 b0_5=some r :=
 q8r (es:=q140) (hs:=q9f) [qm4] (by kernel_rfl) ⟨⟨_,rfl,rfl⟩,trivial⟩ trivial (by kernel_rfl) h
def qlj:=gentS Tryz.prog lv X0 18 (q8y (cdF Tryz.f67) 18) (by kernel_rfl) qln qll (fun x=>qli x.1.1 x.2.1 x.2.2.1 x.2.2.2.1 x.2.2.2.2.1 x.2.2.2.2.2.1 x.2.2.2.2.2.2) (fun _ _ h=>q8q h)
def qlg:=sLS [1,2] (qb7 z1y z25) z1z [false] [] (by decide) (fun _=>rfl)
def qlf:=sLS [4] (qb9 z1y) qb8 [] [] (by decide) (fun _=>rfl)
def qle:=oAt 1 qlf
def qlb (depth b0:Int) (b0_1:L57) (b0_2:BA) (b0_3:Int) (b0_4:BA) (b0_5:Int):=gS Tryz.prog lv X0 67 134 (q8y (cdF Tryz.f67) 16) qlg qle ((depth,()),(b0,b0_1,b0_2,b0_3,b0_4,b0_5))
def qlh (depth b0:Int) (b0_1:L57) (b0_2:BA) (b0_3:Int) (b0_4:BA) (b0_5:Int):Oq (Int×Unit) :=
 ((qes b0_5 0 1000000).bind fun r0 =>
 (brE (!r0)
 (some (3,()))
 (gL q5t b0_1<|
 ((qli depth b0 (dL q5t b0_1) b0_2 b0_3 b0_4 b0_5).bind fun r1 =>
 (some (r1.1,()))))))
theorem qld {depth b0 b0_1 b0_2 b0_3 b0_4 b0_5 r} (h:qlh depth b0 b0_1 b0_2 b0_3 b0_4 b0_5=some r):qlb depth b0 b0_1 b0_2 b0_3 b0_4 b0_5=some r :=
 q8r (es:=q140) (hs:=q9f) [qlj] (by kernel_rfl) trivial ⟨⟨_,rfl,rfl⟩,trivial⟩ (by kernel_rfl) h
def qlc:=gentS Tryz.prog lv X0 16 (q8y (cdF Tryz.f67) 16) (by kernel_rfl) qlg qle (fun x=>qlb x.1.1 x.2.1 x.2.2.1 x.2.2.2.1 x.2.2.2.2.1 x.2.2.2.2.2.1 x.2.2.2.2.2.2) (fun _ _ h=>q8q h)
def ql9:=sLS [1,2] (qb7 z1y z25) z1z [false] [] (by decide) (fun _=>rfl)
def ql8:=sLS [4] (qb9 z1y) qb8 [] [] (by decide) (fun _=>rfl)
def ql7:=oAt 1 ql8
def ql4 (depth b0:Int) (b0_1:L57) (b0_2:BA) (b0_3:Int) (b0_4:BA) (b0_5:Int):=gS Tryz.prog lv X0 67 134 (q8y (cdF Tryz.f67) 14) ql9 ql7 ((depth,()),(b0,b0_1,b0_2,b0_3,b0_4,b0_5))
def qla (depth b0:Int) (b0_1:L57) (b0_2:BA) (b0_3:Int) (b0_4:BA) (b0_5:Int):Oq (Int×Unit) :=
 (brE (decide ((b0_4.size:Int)>200))
 (some (1,()))
 (gL q5t b0_1<|
 ((qlb depth b0 (dL q5t b0_1) b0_2 b0_3 b0_4 b0_5).bind fun r0 =>
 (some (r0.1,())))))
theorem ql6 {depth b0 b0_1 b0_2 b0_3 b0_4 b0_5 r} (h:qla depth b0 b0_1 b0_2 b0_3 b0_4 b0_5=some r):ql4 depth b0 b0_1 b0_2 b0_3 b0_4 b0_5=some r :=
 q8r (es:=q140) (hs:=q9f) [qlc] (by kernel_rfl) trivial ⟨⟨_,rfl,rfl⟩,trivial⟩ (by kernel_rfl) h
def ql5:=gentS Tryz.prog lv X0 14 (q8y (cdF Tryz.f67) 14) (by kernel_rfl) ql9 ql7 (fun x=>ql4 x.1.1 x.2.1 x.2.2.1 x.2.2.2.1 x.2.2.2.2.1 x.2.2.2.2.2.1 x.2.2.2.2.2.2) (fun _ _ h=>q8q h)
def ql2:=sLS [1,2,7] (qb7 z1y (qb7 (vPtr 0 0) z22)) z1z [false] [] (by decide) (fun _=>rfl)
def ql1:=sLS [4] (qb9 z1y) qb8 [] [] (by decide) (fun _=>rfl)
def ql0:=oAt 1 ql1
def qkx (depth:Int) (text:Bool) (b0:Int) (b0_1:L57) (b0_2:BA) (b0_3:Int) (b0_4:BA) (b0_5:Int):=gS Tryz.prog lv X0 67 134 (q8y (cdF Tryz.f67) 12) ql2 ql0 ((depth,(),text),(b0,b0_1,b0_2,b0_3,b0_4,b0_5))
def ql3 (depth:Int) (text:Bool) (b0:Int) (b0_1:L57) (b0_2:BA) (b0_3:Int) (b0_4:BA) (b0_5:Int):Oq (Int×Unit) :=
 (brE (text==true)
 ((qes b0_3 1 3).bind fun r0 =>
 (brE (!r0)
 (some (4,()))
 (gL q5t b0_1<|
 ((ql4 depth b0 (dL q5t b0_1) b0_2 b0_3 b0_4 b0_5).bind fun r1 =>
 (some (r1.1,()))))))
 (gL q5t b0_1<|
 ((ql4 depth b0 (dL q5t b0_1) b0_2 b0_3 b0_4 b0_5).bind fun r0 =>
 (some (r0.1,())))))
theorem qkz {depth text b0 b0_1 b0_2 b0_3 b0_4 b0_5 r} (h:ql3 depth text b0 b0_1 b0_2 b0_3 b0_4 b0_5=some r):qkx depth text b0 b0_1 b0_2 b0_3 b0_4 b0_5=some r :=
 q8r (es:=q140) (hs:=q9f) [ql5] (by kernel_rfl) trivial ⟨⟨_,rfl,rfl⟩,trivial⟩ (by kernel_rfl) h
def qky:=gentS Tryz.prog lv X0 12 (q8y (cdF Tryz.f67) 12) (by kernel_rfl) ql2 ql0 (fun x=>qkx x.1.1 x.1.2.2 x.2.1 x.2.2.1 x.2.2.2.1 x.2.2.2.2.1 x.2.2.2.2.2.1 x.2.2.2.2.2.2) (fun _ _ h=>q8q h)
def qkv:=sLS [1,2,6,7] (qb7 z1y (qb7 (vPtr 0 0) (qb7 (vC cBool) z22))) z1z [false] [] (by decide) (fun _=>rfl)
def qku:=sLS [4] (qb9 z1y) qb8 [] [] (by decide) (fun _=>rfl)
def qkt:=oAt 1 qku
def qkq (depth:Int) (name text:Bool) (b0:Int) (b0_1:L57) (b0_2:BA) (b0_3:Int) (b0_4:BA) (b0_5:Int):=gS Tryz.prog lv X0 67 134 (q8y (cdF Tryz.f67) 10) qkv qkt ((depth,(),name,text),(b0,b0_1,b0_2,b0_3,b0_4,b0_5))
def qkw (depth:Int) (name text:Bool) (b0:Int) (b0_1:L57) (b0_2:BA) (b0_3:Int) (b0_4:BA) (b0_5:Int):Oq (Int×Unit) :=
 (brE (name==true)
 ((qes (b0_2.size:Int) 1 60).bind fun r0 =>
 (brE (!r0)
 (some (10,()))
 (gL q5t b0_1<|
 ((qkx depth text b0 (dL q5t b0_1) b0_2 b0_3 b0_4 b0_5).bind fun r1 =>
 (some (r1.1,()))))))
 (gL q5t b0_1<|
 ((qkx depth text b0 (dL q5t b0_1) b0_2 b0_3 b0_4 b0_5).bind fun r0 =>
 (some (r0.1,())))))
theorem qks {depth name text b0 b0_1 b0_2 b0_3 b0_4 b0_5 r} (h:qkw depth name text b0 b0_1 b0_2 b0_3 b0_4 b0_5=some r):qkq depth name text b0 b0_1 b0_2 b0_3 b0_4 b0_5=some r :=
 q8r (es:=q140) (hs:=q9f) [qky] (by kernel_rfl) trivial ⟨⟨_,rfl,rfl⟩,trivial⟩ (by kernel_rfl) h
def qkr:=gentS Tryz.prog lv X0 10 (q8y (cdF Tryz.f67) 10) (by kernel_rfl) qkv qkt (fun x=>qkq x.1.1 x.1.2.2.1 x.1.2.2.2 x.2.1 x.2.2.1 x.2.2.2.1 x.2.2.2.2.1 x.2.2.2.2.2.1 x.2.2.2.2.2.2) (fun _ _ h=>q8q h)
def qm1:=sLS [1,2,6,7,8] (qb7 z1y (qb7 (vPtr 0 0) z28)) z1z [false] [] (by decide) (fun _=>rfl)
def qm0:=sLS [4] (qb9 z1y) qb8 [] [] (by decide) (fun _=>rfl)
def qlz:=oAt 1 qm0
def qlw (depth:Int) (name text number:Bool) (b0:Int) (b0_1:L57) (b0_2:BA) (b0_3:Int) (b0_4:BA) (b0_5:Int):=gS Tryz.prog lv X0 67 134 (q8y (cdF Tryz.f67) 8) qm1 qlz ((depth,(),name,text,number),(b0,b0_1,b0_2,b0_3,b0_4,b0_5))
abbrev zw (depth:Int) (name text:Bool) (b0:Int) (b0_1:L57) (b0_2:BA) (b0_3:Int) (b0_4:BA) (b0_5:Int):=(qkq depth name text b0 (dL q5t b0_1) b0_2 b0_3 b0_4 b0_5)
def qm2 (depth:Int) (name text number:Bool) (b0:Int) (b0_1:L57) (b0_2:BA) (b0_3:Int) (b0_4:BA) (b0_5:Int):Oq (Int×Unit) :=
 (brE ((!name)==true)
 (brE ((!(b0_2.toList==(ByteArray.toList ⟨#[]⟩)))==false)
 (brE ((!text)==true)
 (brE ((!(b0_4.toList==(ByteArray.toList ⟨#[]⟩)))==false)
 (brE ((!text)==true)
 (brE ((b0_3 != 0)==false)
 (brE ((!number)==true)
 (brE (b0_5 != 0)
 (some (5,()))
 (gL q5t b0_1<|
 ((zw depth name text b0 b0_1 b0_2 b0_3 b0_4 b0_5).bind fun r0 =>
 (some (r0.1,())))))
 (gL q5t b0_1<|
 ((zw depth name text b0 b0_1 b0_2 b0_3 b0_4 b0_5).bind fun r0 =>
 (some (r0.1,())))))
 (some (5,())))
 (brE ((!number)==true)
 (brE (b0_5 != 0)
 (some (5,()))
 (gL q5t b0_1<|
 ((zw depth name text b0 b0_1 b0_2 b0_3 b0_4 b0_5).bind fun r0 =>
 (some (r0.1,())))))
 (gL q5t b0_1<|
 ((zw depth name text b0 b0_1 b0_2 b0_3 b0_4 b0_5).bind fun r0 =>
 (some (r0.1,()))))))
 (some (5,())))
 (brE ((!text)==true)
 (brE ((b0_3 != 0)==false)
 (brE ((!number)==true)
 (brE (b0_5 != 0)
 (some (5,()))
 (gL q5t b0_1<|
 ((zw depth name text b0 b0_1 b0_2 b0_3 b0_4 b0_5).bind fun r0 =>
 (some (r0.1,())))))
 (gL q5t b0_1<|
 ((zw depth name text b0 b0_1 b0_2 b0_3 b0_4 b0_5).bind fun r0 =>
 (some (r0.1,())))))
 (some (5,())))
 (brE ((!number)==true)
 (brE (b0_5 != 0)
 (some (5,()))
 (gL q5t b0_1<|
 ((zw depth name text b0 b0_1 b0_2 b0_3 b0_4 b0_5).bind fun r0 =>
 (some (r0.1,())))))
 (gL q5t b0_1<|
 ((zw depth name text b0 b0_1 b0_2 b0_3 b0_4 b0_5).bind fun r0 =>
 (some (r0.1,())))))))
 (some (5,())))
 (brE ((!text)==true)
 (brE ((!(b0_4.toList==(ByteArray.toList ⟨#[]⟩)))==false)
 (brE ((!text)==true)
 (brE ((b0_3 != 0)==false)
 (brE ((!number)==true)
 (brE (b0_5 != 0)
 (some (5,()))
 (gL q5t b0_1<|
 ((zw depth name text b0 b0_1 b0_2 b0_3 b0_4 b0_5).bind fun r0 =>
 (some (r0.1,())))))
 (gL q5t b0_1<|
 ((zw depth name text b0 b0_1 b0_2 b0_3 b0_4 b0_5).bind fun r0 =>
 (some (r0.1,())))))
 (some (5,())))
 (brE ((!number)==true)
 (brE (b0_5 != 0)
 (some (5,()))
 (gL q5t b0_1<|
 ((zw depth name text b0 b0_1 b0_2 b0_3 b0_4 b0_5).bind fun r0 =>
 (some (r0.1,())))))
 (gL q5t b0_1<|
 ((zw depth name text b0 b0_1 b0_2 b0_3 b0_4 b0_5).bind fun r0 =>
 (some (r0.1,()))))))
 (some (5,())))
 (brE ((!text)==true)
 (brE ((b0_3 != 0)==false)
 (brE ((!number)==true)
 (brE (b0_5 != 0)
 (some (5,()))
 (gL q5t b0_1<|
 ((zw depth name text b0 b0_1 b0_2 b0_3 b0_4 b0_5).bind fun r0 =>
 (some (r0.1,())))))
 (gL q5t b0_1<|
 ((zw depth name text b0 b0_1 b0_2 b0_3 b0_4 b0_5).bind fun r0 =>
 (some (r0.1,())))))
 (some (5,())))
 (brE ((!number)==true)
 (brE (b0_5 != 0)
 (some (5,()))
 (gL q5t b0_1<|
 ((zw depth name text b0 b0_1 b0_2 b0_3 b0_4 b0_5).bind fun r0 =>
 (some (r0.1,())))))
 (gL q5t b0_1<|
 ((zw depth name text b0 b0_1 b0_2 b0_3 b0_4 b0_5).bind fun r0 =>
 (some (r0.1,()))))))))
theorem qly {depth name text number b0 b0_1 b0_2 b0_3 b0_4 b0_5 r} (h:qm2 depth name text number b0 b0_1 b0_2 b0_3 b0_4 b0_5=some r):qlw depth name text number b0 b0_1 b0_2 b0_3 b0_4 b0_5=some r :=
 q8r (es:=q140) (hs:=q9f) [qkr] (by kernel_rfl) trivial ⟨⟨_,rfl,rfl⟩,trivial⟩ (by kernel_rfl) h
def qlx:=gentS Tryz.prog lv X0 8 (q8y (cdF Tryz.f67) 8) (by kernel_rfl) qm1 qlz (fun x=>qlw x.1.1 x.1.2.2.1 x.1.2.2.2.1 x.1.2.2.2.2 x.2.1 x.2.2.1 x.2.2.2.1 x.2.2.2.2.1 x.2.2.2.2.2.1 x.2.2.2.2.2.2) (fun _ _ h=>q8q h)
def qlu:=sLS [1,2,5,6,7,8] (qb7 z1y (qb7 (vPtr 0 0) (qb7 (vC cBool) z28))) z1z [false] [] (by decide) (fun _=>rfl)
def qlt:=sLS [4] (qb9 z1y) qb8 [] [] (by decide) (fun _=>rfl)
def qls:=oAt 1 qlt
def qlp (depth:Int) (tests name:Bool) (text number:Bool) (b0:Int) (b0_1:L57) (b0_2:BA) (b0_3:Int) (b0_4:BA) (b0_5:Int):=gS Tryz.prog lv X0 67 134 (q8y (cdF Tryz.f67) 6) qlu qls ((depth,(),tests,name,text,number),(b0,b0_1,b0_2,b0_3,b0_4,b0_5))
abbrev zx (b0_1:L57):=(decide ((lN q5t b0_1:Int)>60))
def qlv (depth:Int) (tests name:Bool) (text number:Bool) (b0:Int) (b0_1:L57) (b0_2:BA) (b0_3:Int) (b0_4:BA) (b0_5:Int):Oq (Int×Unit) :=
 (brE (tests==true)
 (brE (((lN q5t b0_1:Int)==0)==false)
 (brE ((!tests)==true)
 (brE ((decide ((lN q5t b0_1:Int)>0))==false)
 (brE ((b0==2)==true)
 (brE ((decide ((lN q5t b0_1:Int)>1))==false)
 (brE (zx b0_1)
 (some (5,()))
 (gL q5t b0_1<|
 ((qlw depth name text number b0 (dL q5t b0_1) b0_2 b0_3 b0_4 b0_5).bind fun r0 =>
 (some (r0.1,())))))
 (some (5,())))
 (brE (zx b0_1)
 (some (5,()))
 (gL q5t b0_1<|
 ((qlw depth name text number b0 (dL q5t b0_1) b0_2 b0_3 b0_4 b0_5).bind fun r0 =>
 (some (r0.1,()))))))
 (some (5,())))
 (brE ((b0==2)==true)
 (brE ((decide ((lN q5t b0_1:Int)>1))==false)
 (brE (zx b0_1)
 (some (5,()))
 (gL q5t b0_1<|
 ((qlw depth name text number b0 (dL q5t b0_1) b0_2 b0_3 b0_4 b0_5).bind fun r0 =>
 (some (r0.1,())))))
 (some (5,())))
 (brE (zx b0_1)
 (some (5,()))
 (gL q5t b0_1<|
 ((qlw depth name text number b0 (dL q5t b0_1) b0_2 b0_3 b0_4 b0_5).bind fun r0 =>
 (some (r0.1,())))))))
 (some (5,())))
 (brE ((!tests)==true)
 (brE ((decide ((lN q5t b0_1:Int)>0))==false)
 (brE ((b0==2)==true)
 (brE ((decide ((lN q5t b0_1:Int)>1))==false)
 (brE (zx b0_1)
 (some (5,()))
 (gL q5t b0_1<|
 ((qlw depth name text number b0 (dL q5t b0_1) b0_2 b0_3 b0_4 b0_5).bind fun r0 =>
 (some (r0.1,())))))
 (some (5,())))
 (brE (zx b0_1)
 (some (5,()))
 (gL q5t b0_1<|
 ((qlw depth name text number b0 (dL q5t b0_1) b0_2 b0_3 b0_4 b0_5).bind fun r0 =>
 (some (r0.1,()))))))
 (some (5,())))
 (brE ((b0==2)==true)
 (brE ((decide ((lN q5t b0_1:Int)>1))==false)
 (brE (zx b0_1)
 (some (5,()))
 (gL q5t b0_1<|
 ((qlw depth name text number b0 (dL q5t b0_1) b0_2 b0_3 b0_4 b0_5).bind fun r0 =>
 (some (r0.1,())))))
 (some (5,())))
 (brE (zx b0_1)
 (some (5,()))
 (gL q5t b0_1<|
 ((qlw depth name text number b0 (dL q5t b0_1) b0_2 b0_3 b0_4 b0_5).bind fun r0 =>
 (some (r0.1,()))))))))
theorem qlr {depth tests name text number b0 b0_1 b0_2 b0_3 b0_4 b0_5 r} (h:qlv depth tests name text number b0 b0_1 b0_2 b0_3 b0_4 b0_5=some r):qlp depth tests name text number b0 b0_1 b0_2 b0_3 b0_4 b0_5=some r :=
 q8r (es:=q140) (hs:=q9f) [qlx] (by kernel_rfl) trivial ⟨⟨_,rfl,rfl⟩,trivial⟩ (by kernel_rfl) h
def qlq:=gentS Tryz.prog lv X0 6 (q8y (cdF Tryz.f67) 6) (by kernel_rfl) qlu qls (fun x=>qlp x.1.1 x.1.2.2.1 x.1.2.2.2.1 x.1.2.2.2.2.1 x.1.2.2.2.2.2 x.2.1 x.2.2.1 x.2.2.2.1 x.2.2.2.2.1 x.2.2.2.2.2.1 x.2.2.2.2.2.2) (fun _ _ h=>q8q h)
def qmc (q16u:Int) (q16x:L57) (q16v:BA) (q16w:Int) (q16y:BA) (t_N depth:Int):Oq Int :=
 (brE (decide (depth>8))
 (some 5)
 ((qes q16u 1 9).bind fun r0 =>
 (brE (!r0)
 (some 4)
 ((qq8 q16u).bind fun r1 =>
 (gL q5t q16x<|
 ((qlp depth r1.1 r1.2.1 r1.2.2.1 r1.2.2.2 q16u (dL q5t q16x) q16v q16w q16y t_N).bind fun r2 =>
 (some r2.1)))))))
theorem qkp {q16u q16x q16v q16w q16y t_N depth r} (h:qmc q16u q16x q16v q16w q16y t_N depth=some r):qmb q16u q16x q16v q16w q16y t_N depth=some r :=
 q75 (es:=q140) (hs:=q9f) [qlq] Tryz.func67 rfl (by kernel_rfl) rfl (by kernel_rfl) (by kernel_rfl) trivial ⟨⟨_,rfl,rfl⟩,trivial⟩ (by kernel_rfl) h
abbrev z1x:=(qb7 (vC (cInt .i64)) (qb7 (vC (cInt .i64)) (qb7 (vC (cSl q5t)) (qb7 (vC cStr) (qb7 (vC (cInt .i64)) (qb7 (vC cStr) (qb7 (vC (cInt .i64)) (qb7 (vC (cSl q5u)) (qb7 (vC (cSl q5u)) (qb7 (vC (cInt .i64)) (qb7 (vC cStr) (qb7 (vC cStr) (qb9 (vC (cInt .i64)))))))))))))))
def qhx:=(qb9 (vAgg z1x))
abbrev z24:=(qb9 (qdm (bBox z1x)))
def qil:=sLS [1] z25 z24 [false] [] (by decide) (fun _=>rfl)
def qik:=sLS [2] (qb9 z1y) qb8 [] [] (by decide) (fun _=>rfl)
def qij:=sLS [1,133] (qb7 (vPtr 0 0) z22) z24 [false] [] (by decide) (fun _=>rfl)
def qii:=oOr 0 qij (oAt 1 qik) (fun x=>(by decide:(1:Nat)≠0))
def qif (b0 b0_1:Int) (b0_2:L57) (b0_3:BA) (b0_4:Int) (b0_5:BA) (b0_6:Int) (b0_7 b0_8:L59) (b0_9:Int) (b0_10 b0_11:BA) (b0_12:Int):=gS Tryz.prog lv X0 49 151 (q8y (cdF Tryz.f49) 15) qil qii ((),(b0,b0_1,b0_2,b0_3,b0_4,b0_5,b0_6,b0_7,b0_8,b0_9,b0_10,b0_11,b0_12))
def qim (b0 b0_1:Int) (b0_2:L57) (b0_3:BA) (b0_4:Int) (b0_5:BA) (b0_6:Int) (b0_7 b0_8:L59) (b0_9:Int) (b0_10 b0_11:BA) (b0_12:Int):Oq (((Unit×Bool)×(Int×Int×L57×BA×Int×BA×Int×L59×L59×Int×BA×BA×Int))⊕(Int×Unit)) :=
 ((qmh b0_9).bind fun r0 =>
 (brE ((!r0)==true)
 (brE ((!(b0_11.toList==(ByteArray.toList ⟨#[]⟩)))==false)
 (brE ((b0_9 != 6)==true)
 (brE (b0_12 != 0)
 (some (.inr (5,())))
 (gL q5t b0_2<|
 (gL q5u b0_7<|
 (gL q5u b0_8<|
 (some (.inl (((),false),(b0,(b0_1,((dL q5t b0_2),(b0_3,(b0_4,(b0_5,(b0_6,((dL q5u b0_7),((dL q5u b0_8),(b0_9,(b0_10,(b0_11,b0_12)))))))))))))))))))
 (gL q5t b0_2<|
 (gL q5u b0_7<|
 (gL q5u b0_8<|
 (some (.inl (((),false),(b0,(b0_1,((dL q5t b0_2),(b0_3,(b0_4,(b0_5,(b0_6,((dL q5u b0_7),((dL q5u b0_8),(b0_9,(b0_10,(b0_11,b0_12)))))))))))))))))))
 (some (.inr (5,()))))
 (brE ((b0_9 != 6)==true)
 (brE (b0_12 != 0)
 (some (.inr (5,())))
 (gL q5t b0_2<|
 (gL q5u b0_7<|
 (gL q5u b0_8<|
 (some (.inl (((),false),(b0,(b0_1,((dL q5t b0_2),(b0_3,(b0_4,(b0_5,(b0_6,((dL q5u b0_7),((dL q5u b0_8),(b0_9,(b0_10,(b0_11,b0_12)))))))))))))))))))
 (gL q5t b0_2<|
 (gL q5u b0_7<|
 (gL q5u b0_8<|
 (some (.inl (((),false),(b0,(b0_1,((dL q5t b0_2),(b0_3,(b0_4,(b0_5,(b0_6,((dL q5u b0_7),((dL q5u b0_8),(b0_9,(b0_10,(b0_11,b0_12)))))))))))))))))))))
theorem qih {b0 b0_1 b0_2 b0_3 b0_4 b0_5 b0_6 b0_7 b0_8 b0_9 b0_10 b0_11 b0_12 r} (h:qim b0 b0_1 b0_2 b0_3 b0_4 b0_5 b0_6 b0_7 b0_8 b0_9 b0_10 b0_11 b0_12=some r):qif b0 b0_1 b0_2 b0_3 b0_4 b0_5 b0_6 b0_7 b0_8 b0_9 b0_10 b0_11 b0_12=some r :=
 q8r (es:=q140) (hs:=q9f) [] (by kernel_rfl) trivial trivial (by kernel_rfl) h
def qig:=gentS Tryz.prog lv X0 15 (q8y (cdF Tryz.f49) 15) (by kernel_rfl) qil qii (fun x=>qif x.2.1 x.2.2.1 x.2.2.2.1 x.2.2.2.2.1 x.2.2.2.2.2.1 x.2.2.2.2.2.2.1 x.2.2.2.2.2.2.2.1 x.2.2.2.2.2.2.2.2.1 x.2.2.2.2.2.2.2.2.2.1 x.2.2.2.2.2.2.2.2.2.2.1 x.2.2.2.2.2.2.2.2.2.2.2.1 x.2.2.2.2.2.2.2.2.2.2.2.2.1 x.2.2.2.2.2.2.2.2.2.2.2.2.2) (fun _ _ h=>q8q h)
def qj6:=sLS [1] z25 z24 [false] [] (by decide) (fun _=>rfl)
def qj5:=sLS [2] (qb9 z1y) qb8 [] [] (by decide) (fun _=>rfl)
def qj4:=oAt 1 qj5
def qj1 (b0 b0_1:Int) (b0_2:L57) (b0_3:BA) (b0_4:Int) (b0_5:BA) (b0_6:Int) (b0_7 b0_8:L59) (b0_9:Int) (b0_10 b0_11:BA) (b0_12:Int):=gS Tryz.prog lv X0 49 151 (q8y (cdF Tryz.f49) 21) qj6 qj4 ((),(b0,b0_1,b0_2,b0_3,b0_4,b0_5,b0_6,b0_7,b0_8,b0_9,b0_10,b0_11,b0_12))
def qj7 (b0 b0_1:Int) (b0_2:L57) (b0_3:BA) (b0_4:Int) (b0_5:BA) (b0_6:Int) (b0_7 b0_8:L59) (b0_9:Int) (b0_10 b0_11:BA) (b0_12:Int):Oq (Int×Unit) :=
 ((qes b0_12 0 63).bind fun r0 =>
 (brE (!r0)
 (some (3,()))
 (some (0,()))))
theorem qj3 {b0 b0_1 b0_2 b0_3 b0_4 b0_5 b0_6 b0_7 b0_8 b0_9 b0_10 b0_11 b0_12 r} (h:qj7 b0 b0_1 b0_2 b0_3 b0_4 b0_5 b0_6 b0_7 b0_8 b0_9 b0_10 b0_11 b0_12=some r):qj1 b0 b0_1 b0_2 b0_3 b0_4 b0_5 b0_6 b0_7 b0_8 b0_9 b0_10 b0_11 b0_12=some r :=
 q8r (es:=q140) (hs:=q9f) [] (by kernel_rfl) trivial trivial (by kernel_rfl) h
def qj2:=gentS Tryz.prog lv X0 21 (q8y (cdF Tryz.f49) 21) (by kernel_rfl) qj6 qj4 (fun x=>qj1 x.2.1 x.2.2.1 x.2.2.2.1 x.2.2.2.2.1 x.2.2.2.2.2.1 x.2.2.2.2.2.2.1 x.2.2.2.2.2.2.2.1 x.2.2.2.2.2.2.2.2.1 x.2.2.2.2.2.2.2.2.2.1 x.2.2.2.2.2.2.2.2.2.2.1 x.2.2.2.2.2.2.2.2.2.2.2.1 x.2.2.2.2.2.2.2.2.2.2.2.2.1 x.2.2.2.2.2.2.2.2.2.2.2.2.2) (fun _ _ h=>q8q h)
def qiz:=sLS [1] z25 z24 [false] [] (by decide) (fun _=>rfl)
def qiy:=sLS [2] (qb9 z1y) qb8 [] [] (by decide) (fun _=>rfl)
def qix:=oAt 1 qiy
def qiu (b0 b0_1:Int) (b0_2:L57) (b0_3:BA) (b0_4:Int) (b0_5:BA) (b0_6:Int) (b0_7 b0_8:L59) (b0_9:Int) (b0_10 b0_11:BA) (b0_12:Int):=gS Tryz.prog lv X0 49 151 (q8y (cdF Tryz.f49) 19) qiz qix ((),(b0,b0_1,b0_2,b0_3,b0_4,b0_5,b0_6,b0_7,b0_8,b0_9,b0_10,b0_11,b0_12))
def qj0 (b0 b0_1:Int) (b0_2:L57) (b0_3:BA) (b0_4:Int) (b0_5:BA) (b0_6:Int) (b0_7 b0_8:L59) (b0_9:Int) (b0_10 b0_11:BA) (b0_12:Int):Oq (Int×Unit) :=
 (brE (decide ((b0_11.size:Int)>200))
 (some (1,()))
 (gL q5t b0_2<|
 (gL q5u b0_7<|
 (gL q5u b0_8<|
 ((qj1 b0 b0_1 (dL q5t b0_2) b0_3 b0_4 b0_5 b0_6 (dL q5u b0_7) (dL q5u b0_8) b0_9 b0_10 b0_11 b0_12).bind fun r0 =>
 (some (r0.1,())))))))
theorem qiw {b0 b0_1 b0_2 b0_3 b0_4 b0_5 b0_6 b0_7 b0_8 b0_9 b0_10 b0_11 b0_12 r} (h:qj0 b0 b0_1 b0_2 b0_3 b0_4 b0_5 b0_6 b0_7 b0_8 b0_9 b0_10 b0_11 b0_12=some r):qiu b0 b0_1 b0_2 b0_3 b0_4 b0_5 b0_6 b0_7 b0_8 b0_9 b0_10 b0_11 b0_12=some r :=
 q8r (es:=q140) (hs:=q9f) [qj2] (by kernel_rfl) trivial ⟨⟨_,rfl,rfl⟩,trivial⟩ (by kernel_rfl) h
def qiv:=gentS Tryz.prog lv X0 19 (q8y (cdF Tryz.f49) 19) (by kernel_rfl) qiz qix (fun x=>qiu x.2.1 x.2.2.1 x.2.2.2.1 x.2.2.2.2.1 x.2.2.2.2.2.1 x.2.2.2.2.2.2.1 x.2.2.2.2.2.2.2.1 x.2.2.2.2.2.2.2.2.1 x.2.2.2.2.2.2.2.2.2.1 x.2.2.2.2.2.2.2.2.2.2.1 x.2.2.2.2.2.2.2.2.2.2.2.1 x.2.2.2.2.2.2.2.2.2.2.2.2.1 x.2.2.2.2.2.2.2.2.2.2.2.2.2) (fun _ _ h=>q8q h)
def qis:=sLS [1] z25 z24 [false] [] (by decide) (fun _=>rfl)
def qir:=sLS [2] (qb9 z1y) qb8 [] [] (by decide) (fun _=>rfl)
def qiq:=oAt 1 qir
def qin (b0 b0_1:Int) (b0_2:L57) (b0_3:BA) (b0_4:Int) (b0_5:BA) (b0_6:Int) (b0_7 b0_8:L59) (b0_9:Int) (b0_10 b0_11:BA) (b0_12:Int):=gS Tryz.prog lv X0 49 151 (q8y (cdF Tryz.f49) 17) qis qiq ((),(b0,b0_1,b0_2,b0_3,b0_4,b0_5,b0_6,b0_7,b0_8,b0_9,b0_10,b0_11,b0_12))
def qit (b0 b0_1:Int) (b0_2:L57) (b0_3:BA) (b0_4:Int) (b0_5:BA) (b0_6:Int) (b0_7 b0_8:L59) (b0_9:Int) (b0_10 b0_11:BA) (b0_12:Int):Oq (Int×Unit) :=
 (brE ((b0==3)==true)
 ((qoa b0_10).bind fun r0 =>
 (brE (!r0)
 (some (10,()))
 (gL q5t b0_2<|
 (gL q5u b0_7<|
 (gL q5u b0_8<|
 ((qiu b0 b0_1 (dL q5t b0_2) b0_3 b0_4 b0_5 b0_6 (dL q5u b0_7) (dL q5u b0_8) b0_9 b0_10 b0_11 b0_12).bind fun r1 =>
 (some (r1.1,()))))))))
 (gL q5t b0_2<|
 (gL q5u b0_7<|
 (gL q5u b0_8<|
 ((qiu b0 b0_1 (dL q5t b0_2) b0_3 b0_4 b0_5 b0_6 (dL q5u b0_7) (dL q5u b0_8) b0_9 b0_10 b0_11 b0_12).bind fun r0 =>
 (some (r0.1,())))))))
theorem qip {b0 b0_1 b0_2 b0_3 b0_4 b0_5 b0_6 b0_7 b0_8 b0_9 b0_10 b0_11 b0_12 r} (h:qit b0 b0_1 b0_2 b0_3 b0_4 b0_5 b0_6 b0_7 b0_8 b0_9 b0_10 b0_11 b0_12=some r):qin b0 b0_1 b0_2 b0_3 b0_4 b0_5 b0_6 b0_7 b0_8 b0_9 b0_10 b0_11 b0_12=some r :=
 q8r (es:=q140) (hs:=q9f) [qiv] (by kernel_rfl) trivial ⟨⟨_,rfl,rfl⟩,trivial⟩ (by kernel_rfl) h
def qio:=gentS Tryz.prog lv X0 17 (q8y (cdF Tryz.f49) 17) (by kernel_rfl) qis qiq (fun x=>qin x.2.1 x.2.2.1 x.2.2.2.1 x.2.2.2.2.1 x.2.2.2.2.2.1 x.2.2.2.2.2.2.1 x.2.2.2.2.2.2.2.1 x.2.2.2.2.2.2.2.2.1 x.2.2.2.2.2.2.2.2.2.1 x.2.2.2.2.2.2.2.2.2.2.1 x.2.2.2.2.2.2.2.2.2.2.2.1 x.2.2.2.2.2.2.2.2.2.2.2.2.1 x.2.2.2.2.2.2.2.2.2.2.2.2.2) (fun _ _ h=>q8q h)
def qid:=sLS [1] z25 z24 [false] [] (by decide) (fun _=>rfl)
def qic:=sLS [2] (qb9 z1y) qb8 [] [] (by decide) (fun _=>rfl)
def qib:=oAt 1 qic
def qi8 (b0 b0_1:Int) (b0_2:L57) (b0_3:BA) (b0_4:Int) (b0_5:BA) (b0_6:Int) (b0_7 b0_8:L59) (b0_9:Int) (b0_10 b0_11:BA) (b0_12:Int):=gS Tryz.prog lv X0 49 151 (q8y (cdF Tryz.f49) 12) qid qib ((),(b0,b0_1,b0_2,b0_3,b0_4,b0_5,b0_6,b0_7,b0_8,b0_9,b0_10,b0_11,b0_12))
def qie (b0 b0_1:Int) (b0_2:L57) (b0_3:BA) (b0_4:Int) (b0_5:BA) (b0_6:Int) (b0_7 b0_8:L59) (b0_9:Int) (b0_10 b0_11:BA) (b0_12:Int):Oq (Int×Unit) :=
 (brE (b0==2)
 ((qes b0_9 1 7).bind fun r0 =>
 (brE (!r0)
 (some (4,()))
 (gL q5t b0_2<|
 (gL q5u b0_7<|
 (gL q5u b0_8<|
 ((qif b0 b0_1 (dL q5t b0_2) b0_3 b0_4 b0_5 b0_6 (dL q5u b0_7) (dL q5u b0_8) b0_9 b0_10 b0_11 b0_12).bind fun r1 =>
 (Sum.elim (fun r2=>(gdE (EC.isL q5t (EC.encL q5t r2.2.2.2.1))<|
 (gL q5u r2.2.2.2.2.2.2.2.2.1<|
 (gL q5u r2.2.2.2.2.2.2.2.2.2.1<|
 ((qin r2.2.1 r2.2.2.1 (dL q5t r2.2.2.2.1) r2.2.2.2.2.1 r2.2.2.2.2.2.1 r2.2.2.2.2.2.2.1 r2.2.2.2.2.2.2.2.1 (dL q5u r2.2.2.2.2.2.2.2.2.1) (dL q5u r2.2.2.2.2.2.2.2.2.2.1) r2.2.2.2.2.2.2.2.2.2.2.1 r2.2.2.2.2.2.2.2.2.2.2.2.1 r2.2.2.2.2.2.2.2.2.2.2.2.2.1 r2.2.2.2.2.2.2.2.2.2.2.2.2.2).bind fun r3 =>
 (some (r3.1,())))))))
 (fun r2=>(some (r2.1,()))) r1)))))))
 (gL q5t b0_2<|
 (gL q5u b0_7<|
 (gL q5u b0_8<|
 ((qin b0 b0_1 (dL q5t b0_2) b0_3 b0_4 b0_5 b0_6 (dL q5u b0_7) (dL q5u b0_8) b0_9 b0_10 b0_11 b0_12).bind fun r0 =>
 (some (r0.1,())))))))
theorem qia {b0 b0_1 b0_2 b0_3 b0_4 b0_5 b0_6 b0_7 b0_8 b0_9 b0_10 b0_11 b0_12 r} (h:qie b0 b0_1 b0_2 b0_3 b0_4 b0_5 b0_6 b0_7 b0_8 b0_9 b0_10 b0_11 b0_12=some r):qi8 b0 b0_1 b0_2 b0_3 b0_4 b0_5 b0_6 b0_7 b0_8 b0_9 b0_10 b0_11 b0_12=some r :=
 q8r (es:=q140) (hs:=q9f) [qig,qio] (by kernel_rfl) trivial ⟨⟨_,rfl,rfl⟩,⟨_,rfl,rfl⟩,trivial⟩ (by kernel_rfl) h
def qi9:=gentS Tryz.prog lv X0 12 (q8y (cdF Tryz.f49) 12) (by kernel_rfl) qid qib (fun x=>qi8 x.2.1 x.2.2.1 x.2.2.2.1 x.2.2.2.2.1 x.2.2.2.2.2.1 x.2.2.2.2.2.2.1 x.2.2.2.2.2.2.2.1 x.2.2.2.2.2.2.2.2.1 x.2.2.2.2.2.2.2.2.2.1 x.2.2.2.2.2.2.2.2.2.2.1 x.2.2.2.2.2.2.2.2.2.2.2.1 x.2.2.2.2.2.2.2.2.2.2.2.2.1 x.2.2.2.2.2.2.2.2.2.2.2.2.2) (fun _ _ h=>q8q h)
def qi6:=sLS [1] z25 z24 [false] [] (by decide) (fun _=>rfl)
def qi5:=sLS [2] (qb9 z1y) qb8 [] [] (by decide) (fun _=>rfl)
def qi4:=oAt 1 qi5
def qi1 (b0 b0_1:Int) (b0_2:L57) (b0_3:BA) (b0_4:Int) (b0_5:BA) (b0_6:Int) (b0_7 b0_8:L59) (b0_9:Int) (b0_10 b0_11:BA) (b0_12:Int):=gS Tryz.prog lv X0 49 151 (q8y (cdF Tryz.f49) 10) qi6 qi4 ((),(b0,b0_1,b0_2,b0_3,b0_4,b0_5,b0_6,b0_7,b0_8,b0_9,b0_10,b0_11,b0_12))
abbrev zy (b0 b0_1:Int) (b0_2:L57) (b0_3:BA) (b0_4:Int) (b0_5:BA) (b0_6:Int) (b0_7 b0_8:L59) (b0_9:Int) (b0_10 b0_11:BA) (b0_12:Int):=(qi8 b0 b0_1 (dL q5t b0_2) b0_3 b0_4 b0_5 b0_6 (dL q5u b0_7) (dL q5u b0_8) b0_9 b0_10 b0_11 b0_12)
def qi7 (b0 b0_1:Int) (b0_2:L57) (b0_3:BA) (b0_4:Int) (b0_5:BA) (b0_6:Int) (b0_7 b0_8:L59) (b0_9:Int) (b0_10 b0_11:BA) (b0_12:Int):Oq (Int×Unit) :=
 (brE ((b0 != 2)==true)
 (brE ((b0_9 != 0)==false)
 (brE ((b0_12 != 0)==false)
 (brE ((b0 != 3)==true)
 (brE ((!(b0_10.toList==(ByteArray.toList ⟨#[]⟩)))==false)
 (brE ((b0==4)==true)
 (brE (!(b0_11.toList==(ByteArray.toList ⟨#[]⟩)))
 (some (5,()))
 (gL q5t b0_2<|
 (gL q5u b0_7<|
 (gL q5u b0_8<|
 ((zy b0 b0_1 b0_2 b0_3 b0_4 b0_5 b0_6 b0_7 b0_8 b0_9 b0_10 b0_11 b0_12).bind fun r0 =>
 (some (r0.1,())))))))
 (gL q5t b0_2<|
 (gL q5u b0_7<|
 (gL q5u b0_8<|
 ((zy b0 b0_1 b0_2 b0_3 b0_4 b0_5 b0_6 b0_7 b0_8 b0_9 b0_10 b0_11 b0_12).bind fun r0 =>
 (some (r0.1,())))))))
 (some (5,())))
 (brE ((b0==4)==true)
 (brE (!(b0_11.toList==(ByteArray.toList ⟨#[]⟩)))
 (some (5,()))
 (gL q5t b0_2<|
 (gL q5u b0_7<|
 (gL q5u b0_8<|
 ((zy b0 b0_1 b0_2 b0_3 b0_4 b0_5 b0_6 b0_7 b0_8 b0_9 b0_10 b0_11 b0_12).bind fun r0 =>
 (some (r0.1,())))))))
 (gL q5t b0_2<|
 (gL q5u b0_7<|
 (gL q5u b0_8<|
 ((zy b0 b0_1 b0_2 b0_3 b0_4 b0_5 b0_6 b0_7 b0_8 b0_9 b0_10 b0_11 b0_12).bind fun r0 =>
 (some (r0.1,()))))))))
 (some (5,())))
 (some (5,())))
 (brE ((b0 != 3)==true)
 (brE ((!(b0_10.toList==(ByteArray.toList ⟨#[]⟩)))==false)
 (brE ((b0==4)==true)
 (brE (!(b0_11.toList==(ByteArray.toList ⟨#[]⟩)))
 (some (5,()))
 (gL q5t b0_2<|
 (gL q5u b0_7<|
 (gL q5u b0_8<|
 ((zy b0 b0_1 b0_2 b0_3 b0_4 b0_5 b0_6 b0_7 b0_8 b0_9 b0_10 b0_11 b0_12).bind fun r0 =>
 (some (r0.1,())))))))
 (gL q5t b0_2<|
 (gL q5u b0_7<|
 (gL q5u b0_8<|
 ((zy b0 b0_1 b0_2 b0_3 b0_4 b0_5 b0_6 b0_7 b0_8 b0_9 b0_10 b0_11 b0_12).bind fun r0 =>
 (some (r0.1,())))))))
 (some (5,())))
 (brE ((b0==4)==true)
 (brE (!(b0_11.toList==(ByteArray.toList ⟨#[]⟩)))
 (some (5,()))
 (gL q5t b0_2<|
 (gL q5u b0_7<|
 (gL q5u b0_8<|
 ((zy b0 b0_1 b0_2 b0_3 b0_4 b0_5 b0_6 b0_7 b0_8 b0_9 b0_10 b0_11 b0_12).bind fun r0 =>
 (some (r0.1,())))))))
 (gL q5t b0_2<|
 (gL q5u b0_7<|
 (gL q5u b0_8<|
 ((zy b0 b0_1 b0_2 b0_3 b0_4 b0_5 b0_6 b0_7 b0_8 b0_9 b0_10 b0_11 b0_12).bind fun r0 =>
 (some (r0.1,())))))))))
theorem qi3 {b0 b0_1 b0_2 b0_3 b0_4 b0_5 b0_6 b0_7 b0_8 b0_9 b0_10 b0_11 b0_12 r} (h:qi7 b0 b0_1 b0_2 b0_3 b0_4 b0_5 b0_6 b0_7 b0_8 b0_9 b0_10 b0_11 b0_12=some r):qi1 b0 b0_1 b0_2 b0_3 b0_4 b0_5 b0_6 b0_7 b0_8 b0_9 b0_10 b0_11 b0_12=some r :=
 q8r (es:=q140) (hs:=q9f) [qi9] (by kernel_rfl) trivial ⟨⟨_,rfl,rfl⟩,trivial⟩ (by kernel_rfl) h
def qi2:=gentS Tryz.prog lv X0 10 (q8y (cdF Tryz.f49) 10) (by kernel_rfl) qi6 qi4 (fun x=>qi1 x.2.1 x.2.2.1 x.2.2.2.1 x.2.2.2.2.1 x.2.2.2.2.2.1 x.2.2.2.2.2.2.1 x.2.2.2.2.2.2.2.1 x.2.2.2.2.2.2.2.2.1 x.2.2.2.2.2.2.2.2.2.1 x.2.2.2.2.2.2.2.2.2.2.1 x.2.2.2.2.2.2.2.2.2.2.2.1 x.2.2.2.2.2.2.2.2.2.2.2.2.1 x.2.2.2.2.2.2.2.2.2.2.2.2.2) (fun _ _ h=>q8q h)
def qjd:=sLS [1,3] (qb7 (vPtr 0 0) (qb9 (vPtr 1 0))) (qb7 (qdm (bBox z1x)) z1z) [false,false] [] (by decide) (fun _=>rfl)
def qjc:=sLS [2] (qb9 z1y) qb8 [] [] (by decide) (fun _=>rfl)
def qjb:=oAt 1 qjc
def qj8 (b0 b0_1:Int) (b0_2:L57) (b0_3:BA) (b0_4:Int) (b0_5:BA) (b0_6:Int) (b0_7 b0_8:L59) (b0_9:Int) (b0_10 b0_11:BA) (b0_12 b1:Int) (b1_1:L57) (b1_2:BA) (b1_3:Int) (b1_4:BA) (b1_5:Int):=gS Tryz.prog lv X0 49 151 (q8y (cdF Tryz.f49) 8) qjd qjb (((),()),((b0,b0_1,b0_2,b0_3,b0_4,b0_5,b0_6,b0_7,b0_8,b0_9,b0_10,b0_11,b0_12),(b1,b1_1,b1_2,b1_3,b1_4,b1_5)))
def qje (b0 b0_1:Int) (b0_2:L57) (b0_3:BA) (b0_4:Int) (b0_5:BA) (b0_6:Int) (b0_7 b0_8:L59) (b0_9:Int) (b0_10 b0_11:BA) (b0_12 b1:Int) (b1_1:L57) (b1_2:BA) (b1_3:Int) (b1_4:BA) (b1_5:Int):Oq (Int×Unit) :=
 (brE ((b1 != 0)==false)
 (brE ((decide ((lN q5t b1_1:Int)>0))==false)
 (brE ((!(b1_2.toList==(ByteArray.toList ⟨#[]⟩)))==false)
 (brE ((b1_3 != 0)==false)
 (brE ((!(b1_4.toList==(ByteArray.toList ⟨#[]⟩)))==false)
 (brE ((b1_5 != 0)==false)
 (brE ((decide ((lN q5u b0_7:Int)>0))==false)
 (brE (decide ((lN q5u b0_8:Int)>0))
 (some (5,()))
 (gL q5t b0_2<|
 (gL q5u b0_7<|
 (gL q5u b0_8<|
 ((qi1 b0 b0_1 (dL q5t b0_2) b0_3 b0_4 b0_5 b0_6 (dL q5u b0_7) (dL q5u b0_8) b0_9 b0_10 b0_11 b0_12).bind fun r0 =>
 (some (r0.1,())))))))
 (some (5,())))
 (some (5,())))
 (some (5,())))
 (some (5,())))
 (some (5,())))
 (some (5,())))
 (some (5,())))
theorem qja {b0 b0_1 b0_2 b0_3 b0_4 b0_5 b0_6 b0_7 b0_8 b0_9 b0_10 b0_11 b0_12 b1 b1_1 b1_2 b1_3 b1_4 b1_5 r} (h:qje b0 b0_1 b0_2 b0_3 b0_4 b0_5 b0_6 b0_7 b0_8 b0_9 b0_10 b0_11 b0_12 b1 b1_1 b1_2 b1_3 b1_4 b1_5=some r):qj8 b0 b0_1 b0_2 b0_3 b0_4 b0_5 b0_6 b0_7 b0_8 b0_9 b0_10 b0_11 b0_12 b1 b1_1 b1_2 b1_3 b1_4 b1_5=some r :=
 q8r (es:=q140) (hs:=q9f) [qi2] (by kernel_rfl) trivial ⟨⟨_,rfl,rfl⟩,trivial⟩ (by kernel_rfl) h
def qj9:=gentS Tryz.prog lv X0 8 (q8y (cdF Tryz.f49) 8) (by kernel_rfl) qjd qjb (fun x=>qj8 x.2.1.1 x.2.1.2.1 x.2.1.2.2.1 x.2.1.2.2.2.1 x.2.1.2.2.2.2.1 x.2.1.2.2.2.2.2.1 x.2.1.2.2.2.2.2.2.1 x.2.1.2.2.2.2.2.2.2.1 x.2.1.2.2.2.2.2.2.2.2.1 x.2.1.2.2.2.2.2.2.2.2.2.1 x.2.1.2.2.2.2.2.2.2.2.2.2.1 x.2.1.2.2.2.2.2.2.2.2.2.2.2.1 x.2.1.2.2.2.2.2.2.2.2.2.2.2.2 x.2.2.1 x.2.2.2.1 x.2.2.2.2.1 x.2.2.2.2.2.1 x.2.2.2.2.2.2.1 x.2.2.2.2.2.2.2) (fun _ _ h=>q8q h)
def qhy:Cod (V×List B) Int:=(cFstU (cPair z1y qb8))
def qjf (r_Kind r_Test_Kind:Int) (q16r:L57) (q16p:BA) (q16q:Int) (q16s:BA) (q16o:Int) (r_Then r_Else:L59) (r_Act:Int) (q16n q16t:BA) (r_N:Int):=fS Tryz.prog lv X0 49 qhx qhy (r_Kind,r_Test_Kind,q16r,q16p,q16q,q16s,q16o,r_Then,r_Else,r_Act,q16n,q16t,r_N)
def qjg (r_Kind r_Test_Kind:Int) (q16r:L57) (q16p:BA) (q16q:Int) (q16s:BA) (q16o:Int) (r_Then r_Else:L59) (r_Act:Int) (q16n q16t:BA) (r_N:Int):Oq Int :=
 ((qes r_Kind 1 4).bind fun r0 =>
 (brE (!r0)
 (some 4)
 (brE (r_Kind==1)
 (brE ((r_Act != 0)==false)
 (brE ((!(q16n.toList==(ByteArray.toList ⟨#[]⟩)))==false)
 (brE ((!(q16t.toList==(ByteArray.toList ⟨#[]⟩)))==false)
 (brE (r_N != 0)
 (some 5)
 (gL q5t q16r<|
 ((qmb r_Test_Kind (dL q5t q16r) q16p q16q q16s q16o 1).bind fun r1 =>
 (some r1))))
 (some 5))
 (some 5))
 (some 5))
 (gL q5t q16r<|
 (gL q5u r_Then<|
 (gL q5u r_Else<|
 (gL q5t q16r<|
 ((qj8 r_Kind r_Test_Kind (dL q5t q16r) q16p q16q q16s q16o (dL q5u r_Then) (dL q5u r_Else) r_Act q16n q16t r_N r_Test_Kind (dL q5t q16r) q16p q16q q16s q16o).bind fun r1 =>
 (some r1.1)))))))))
theorem qi0 {r_Kind r_Test_Kind q16r q16p q16q q16s q16o r_Then r_Else r_Act q16n q16t r_N r} (h:qjg r_Kind r_Test_Kind q16r q16p q16q q16s q16o r_Then r_Else r_Act q16n q16t r_N=some r):qjf r_Kind r_Test_Kind q16r q16p q16q q16s q16o r_Then r_Else r_Act q16n q16t r_N=some r :=
 q75 (es:=q140) (hs:=q9f) [qj9] Tryz.func49 rfl (by kernel_rfl) rfl (by kernel_rfl) (by kernel_rfl) trivial ⟨⟨_,rfl,rfl⟩,trivial⟩ (by kernel_rfl) h
def qhz:=entS Tryz.prog lv X0 49 [] qhx qhy (fun x=>qjf x.1 x.2.1 x.2.2.1 x.2.2.2.1 x.2.2.2.2.1 x.2.2.2.2.2.1 x.2.2.2.2.2.2.1 x.2.2.2.2.2.2.2.1 x.2.2.2.2.2.2.2.2.1 x.2.2.2.2.2.2.2.2.2.1 x.2.2.2.2.2.2.2.2.2.2.1 x.2.2.2.2.2.2.2.2.2.2.2.1 x.2.2.2.2.2.2.2.2.2.2.2.2) (fun _ _ h=>q74 h)
def q13w:=qhz::q140
abbrev z27:=(vC (cSl q5u))
def qoi:=(qb7 z27 z23)
def qoj:Cod (V×List B) (Int×Int):=(cFstU (cPair (vAgg z23) qb8))
def qou (s:L59) (number depth:Int):=fS Tryz.prog lv X0 29 qoi qoj (s,number,depth)
def qok:=entS Tryz.prog lv X0 29 [] qoi qoj (fun x=>qou x.1 x.2.1 x.2.2) (fun _ _ h=>q74 h)
def q145:=qok::q13w
def qos:=sLS [0,1,2,6,7] (qb7 z27 (qb7 z1y (qb7 z1y (qb7 (vPtr 0 0) (qb9 z1y))))) (qb9 (qdm (bBox z23))) [false] [] (by decide) (fun _=>rfl)
def qor:=sLS [0,1,2,6,7,14] (qb7 z27 (qb7 z1y (qb7 z1y (qb7 (vPtr 0 0) (qb7 z1y z22))))) (qb9 (qdm (bBox z23))) [false] [] (by decide) (fun _=>rfl)
def qoq:=sLS [6] z25 (qb9 (qdm (bBox z23))) [false] [] (by decide) (fun _=>rfl)
def qop:=oOr 1 qoq (oAt 2 qor) (fun x=>(by decide:(2:Nat)≠1))
def qom (s:L59) (number depth:Int) (i b0 b0_1:Int):=lS Tryz.prog lv X0 29 86 (q8x (cdF Tryz.f29) 2) qos qop ((s,number,depth,(),i),(b0,b0_1))
abbrev z10 (s:L59) (i:Int):=(eC q5u s i [(K1.int Go.IntKind.i64),(K1.int Go.IntKind.i64),K1.sl,K1.str,(K1.int Go.IntKind.i64),K1.str,(K1.int Go.IntKind.i64),K1.sl,K1.sl,(K1.int Go.IntKind.i64),K1.str,K1.str,(K1.int Go.IntKind.i64)])
abbrev z11 (s:L59) (i:Int):=(List.getD (EC.encL q5u s) (Int.toNat i) [])
abbrev z12 (s:L59) (i:Int):=(List.getD (z11 s i) 7 C.ne)
def qot (s:L59) (number depth:Int) (i b0 b0_1:Int):Oq ((Unit×(Int×Int))⊕((L59×Int×Int×Unit×Int×Bool)×(Int×Int))) :=
 (brE (decide (i<(lN q5u s:Int)))
 (brE (decide (number≥100))
 ((qem 2 (-1)).bind fun r0 =>
 (some (.inl ((),(r0.1,r0.2)))))
 (brE (decide (depth>8))
 ((qem 5 number).bind fun r0 =>
 (some (.inl ((),(r0.1,r0.2)))))
 (gdE (p0 i)<|
 (gdE (z10 s i)<|
 (gdE (EC.isL q5t (slOf (List.getD (z11 s i) 2 C.ne)))<|
 (gdE (EC.isL q5u (slOf (z12 s i)))<|
 (gdE (EC.isL q5u (slOf (List.getD (z11 s i) 8 C.ne)))<|
 ((qjf (qa0 (List.getD (z11 s i) 0 C.ne)) (qa0 (List.getD (z11 s i) 1 C.ne)) (uL q5t (List.getD (z11 s i) 2 C.ne)) (q135 (List.getD (z11 s i) 3 C.ne)) (qa0 (List.getD (z11 s i) 4 C.ne)) (q135 (List.getD (z11 s i) 5 C.ne)) (qa0 (List.getD (z11 s i) 6 C.ne)) (uL q5u (z12 s i)) (uL q5u (List.getD (z11 s i) 8 C.ne)) (qa0 (List.getD (z11 s i) 9 C.ne)) (q135 (List.getD (z11 s i) 10 C.ne)) (q135 (List.getD (z11 s i) 11 C.ne)) (qa0 (List.getD (z11 s i) 12 C.ne))).bind fun r0 =>
 (brE (r0 != 0)
 ((qem r0 number).bind fun r1 =>
 (some (.inl ((),(r1.1,r1.2)))))
 (gdE (p0 i)<|
 (gdE (z10 s i)<|
 (gdE (EC.isL q5u (slOf (z12 s i)))<|
 ((qou (uL q5u (z12 s i)) (wI number) (wI depth)).bind fun r1 =>
 (brE (r1.1 != 0)
 (some (.inl ((),(r1.1,r1.2))))
 (gdE (p0 i)<|
 (gdE (z10 s i)<|
 (gdE (p0 i)<|
 (gdE (z10 s i)<|
 (gdE (EC.isL q5u (slOf (z12 s i)))<|
 ((qf5 (uL q5u (z12 s i))).bind fun r2 =>
 (gdE (EC.isL q5u (slOf (List.getD (z11 s i) 8 C.ne)))<|
 ((qou (uL q5u (List.getD (z11 s i) 8 C.ne)) (IntKind.wrap .i64 ((wI number)+r2)) (wI depth)).bind fun r3 =>
 (brE (r3.1 != 0)
 (some (.inl ((),(r3.1,r3.2))))
 (gdE (p0 i)<|
 (gdE (z10 s i)<|
 (gdE (EC.isL q5u (slOf (z12 s i)))<|
 ((qf5 (uL q5u (z12 s i))).bind fun r4 =>
 (gdE (p0 i)<|
 (gdE (z10 s i)<|
 (gdE (EC.isL q5u (slOf (List.getD (z11 s i) 8 C.ne)))<|
 ((qf5 (uL q5u (List.getD (z11 s i) 8 C.ne))).bind fun r5 =>
 (gL q5u s<|
 (qom (dL q5u s) (IntKind.wrap .i64 (number+(IntKind.wrap .i64 ((IntKind.wrap .i64 (1+r4))+r5)))) depth (wI i) b0 b0_1)))))))))))))))))))))))))))))))))
 (gL q5u s<|
 (some (.inr (((dL q5u s),(number,(depth,((),(i,false))))),(b0,b0_1))))))
theorem qoo {s number depth i b0 b0_1 r} (h:qot s number depth i b0 b0_1=some r):qom s number depth i b0 b0_1=some r :=
 qbb (es:=q145) (hs:=q9f) [] (by kernel_rfl) trivial trivial (by kernel_rfl) h
def qon:=qby Tryz.prog lv X0 2 (q8x (cdF Tryz.f29) 2) qos qop (fun x=>qom x.1.1 x.1.2.1 x.1.2.2.1 x.1.2.2.2.2 x.2.1 x.2.2) (fun _ _ h=>qba h)
def qov (s:L59) (number depth:Int):Oq (Int×Int) :=
 (gL q5u s<|
 ((qom (dL q5u s) number depth 0 0 0).bind fun r0 =>
 (Sum.elim (fun r1=>(some (r1.2.1,r1.2.2)))
 (fun r1=>(some (0,0))) r0)))
theorem qol {s number depth r} (h:qov s number depth=some r):qou s number depth=some r :=
 q75 (es:=q145) (hs:=q9f) [qon] Tryz.func29 rfl (by kernel_rfl) rfl (by kernel_rfl) (by kernel_rfl) ⟨⟨_,rfl,rfl⟩,trivial⟩ trivial (by kernel_rfl) h
def qjh:=(qb9 z27)
def qji:Cod (V×List B) (Int×Int):=(cFstU (cPair (vAgg z23) qb8))
def qjl (s:L59):=fS Tryz.prog lv X0 13 qjh qji s
def qjm (s:L59):Oq (Int×Int) :=
 (gL q5u s<|
 ((qou (dL q5u s) 0 1).bind fun r0 =>
 (some (r0.1,r0.2))))
theorem qjk {s r} (h:qjm s=some r):qjl s=some r :=
 q75 (es:=q145) (hs:=q9f) [] Tryz.func13 rfl (by kernel_rfl) rfl (by kernel_rfl) (by kernel_rfl) trivial trivial (by kernel_rfl) h
def qjj:=entS Tryz.prog lv X0 13 [] qjh qji (fun x=>qjl x) (fun _ _ h=>q74 h)
def q13x:=qjj::q145
def qk1:=(qb7 (vAgg z1w) (qb9 (vAgg z1w)))
def qk2:Cod (V×List B) Bool:=z26
def qkk (a_Kind:Int) (q16k:L57) (a_Name:BA) (q16j:Int) (a_Text:BA) (a_N b_Kind:Int) (q16m:L57) (b_Name:BA) (q16l:Int) (b_Text:BA) (b_N:Int):=fS Tryz.prog lv X0 26 qk1 qk2 ((a_Kind,q16k,a_Name,q16j,a_Text,a_N),(b_Kind,q16m,b_Name,q16l,b_Text,b_N))
def qk3:=entS Tryz.prog lv X0 26 [] qk1 qk2 (fun x=>qkk x.1.1 x.1.2.1 x.1.2.2.1 x.1.2.2.2.1 x.1.2.2.2.2.1 x.1.2.2.2.2.2 x.2.1 x.2.2.1 x.2.2.2.1 x.2.2.2.2.1 x.2.2.2.2.2.1 x.2.2.2.2.2.2) (fun _ _ h=>q74 h)
def q13z:=qk3::q13x
def qki:=sLS [2,3,5] (qb7 (vPtr 0 0) (qb7 (vPtr 1 0) (qb9 z1y))) (qb7 (qdm (bBox z1w)) z1z) [false,false] [] (by decide) (fun _=>rfl)
def qkh:=sLS [2,3,5,52] (qb7 (vPtr 0 0) (qb7 (vPtr 1 0) (qb7 z1y z22))) (qb7 (qdm (bBox z1w)) z1z) [false,false] [] (by decide) (fun _=>rfl)
def qkg:=sLS [4] z22 qb8 [] [] (by decide) (fun _=>rfl)
def qkf:=oOr 1 qkg (oAt 2 qkh) (fun x=>(by decide:(2:Nat)≠1))
def qkc (i b0:Int) (b0_1:L57) (b0_2:BA) (b0_3:Int) (b0_4:BA) (b0_5 b1:Int) (b1_1:L57) (b1_2:BA) (b1_3:Int) (b1_4:BA) (b1_5:Int):=lS Tryz.prog lv X0 26 67 (q8x (cdF Tryz.f26) 4) qki qkf (((),(),i),((b0,b0_1,b0_2,b0_3,b0_4,b0_5),(b1,b1_1,b1_2,b1_3,b1_4,b1_5)))
abbrev z13 (i:Int) (b0_1:L57):=(List.getD (EC.encL q5t b0_1) (Int.toNat i) [])
abbrev z14 (i:Int) (b1_1:L57):=(List.getD (EC.encL q5t b1_1) (Int.toNat i) [])
def qkj (i b0:Int) (b0_1:L57) (b0_2:BA) (b0_3:Int) (b0_4:BA) (b0_5 b1:Int) (b1_1:L57) (b1_2:BA) (b1_3:Int) (b1_4:BA) (b1_5:Int):Oq ((Bool×Unit)⊕((Unit×Unit×Int×Bool)×((Int×L57×BA×Int×BA×Int)×(Int×L57×BA×Int×BA×Int)))) :=
 (brE (decide (i<(lN q5t b0_1:Int)))
 (gdE (p0 i)<|
 (gdE (eC q5t b0_1 i [(K1.int Go.IntKind.i64),K1.sl,K1.str,(K1.int Go.IntKind.i64),K1.str,(K1.int Go.IntKind.i64)])<|
 (gdE (p0 i)<|
 (gdE (eC q5t b1_1 i [(K1.int Go.IntKind.i64),K1.sl,K1.str,(K1.int Go.IntKind.i64),K1.str,(K1.int Go.IntKind.i64)])<|
 (gdE (EC.isL q5t (slOf (List.getD (z13 i b0_1) 1 C.ne)))<|
 (gdE (EC.isL q5t (slOf (List.getD (z14 i b1_1) 1 C.ne)))<|
 ((qkk (qa0 (List.getD (z13 i b0_1) 0 C.ne)) (uL q5t (List.getD (z13 i b0_1) 1 C.ne)) (q135 (List.getD (z13 i b0_1) 2 C.ne)) (qa0 (List.getD (z13 i b0_1) 3 C.ne)) (q135 (List.getD (z13 i b0_1) 4 C.ne)) (qa0 (List.getD (z13 i b0_1) 5 C.ne)) (qa0 (List.getD (z14 i b1_1) 0 C.ne)) (uL q5t (List.getD (z14 i b1_1) 1 C.ne)) (q135 (List.getD (z14 i b1_1) 2 C.ne)) (qa0 (List.getD (z14 i b1_1) 3 C.ne)) (q135 (List.getD (z14 i b1_1) 4 C.ne)) (qa0 (List.getD (z14 i b1_1) 5 C.ne))).bind fun r0 =>
 (brE (!r0)
 (some (.inl (false,())))
 (gL q5t b0_1<|
 (gL q5t b1_1<|
 (qkc (wI i) b0 (dL q5t b0_1) b0_2 b0_3 b0_4 b0_5 b1 (dL q5t b1_1) b1_2 b1_3 b1_4 b1_5)))))))))))
 (gL q5t b0_1<|
 (gL q5t b1_1<|
 (some (.inr (((),((),(i,false))),((b0,((dL q5t b0_1),(b0_2,(b0_3,(b0_4,b0_5))))),(b1,((dL q5t b1_1),(b1_2,(b1_3,(b1_4,b1_5))))))))))))
theorem qke {i b0 b0_1 b0_2 b0_3 b0_4 b0_5 b1 b1_1 b1_2 b1_3 b1_4 b1_5 r} (h:qkj i b0 b0_1 b0_2 b0_3 b0_4 b0_5 b1 b1_1 b1_2 b1_3 b1_4 b1_5=some r):qkc i b0 b0_1 b0_2 b0_3 b0_4 b0_5 b1 b1_1 b1_2 b1_3 b1_4 b1_5=some r :=
 qbb (es:=q13z) (hs:=q9f) [] (by kernel_rfl) trivial trivial (by kernel_rfl) h
def qkd:=qby Tryz.prog lv X0 4 (q8x (cdF Tryz.f26) 4) qki qkf (fun x=>qkc x.1.2.2 x.2.1.1 x.2.1.2.1 x.2.1.2.2.1 x.2.1.2.2.2.1 x.2.1.2.2.2.2.1 x.2.1.2.2.2.2.2 x.2.2.1 x.2.2.2.1 x.2.2.2.2.1 x.2.2.2.2.2.1 x.2.2.2.2.2.2.1 x.2.2.2.2.2.2.2) (fun _ _ h=>qba h)
def qka:=sLS [2,3] (qb7 (vPtr 0 0) (qb9 (vPtr 1 0))) (qb7 (qdm (bBox z1w)) z1z) [false,false] [] (by decide) (fun _=>rfl)
def qk9:=sLS [4] z22 qb8 [] [] (by decide) (fun _=>rfl)
def qk8:=oAt 1 qk9
def qk5 (b0:Int) (b0_1:L57) (b0_2:BA) (b0_3:Int) (b0_4:BA) (b0_5 b1:Int) (b1_1:L57) (b1_2:BA) (b1_3:Int) (b1_4:BA) (b1_5:Int):=gS Tryz.prog lv X0 26 67 (q8y (cdF Tryz.f26) 3) qka qk8 (((),()),((b0,b0_1,b0_2,b0_3,b0_4,b0_5),(b1,b1_1,b1_2,b1_3,b1_4,b1_5)))
def qkb (b0:Int) (b0_1:L57) (b0_2:BA) (b0_3:Int) (b0_4:BA) (b0_5 b1:Int) (b1_1:L57) (b1_2:BA) (b1_3:Int) (b1_4:BA) (b1_5:Int):Oq (Bool×Unit) :=
 (gL q5t b0_1<|
 (gL q5t b1_1<|
 ((qkc 0 b0 (dL q5t b0_1) b0_2 b0_3 b0_4 b0_5 b1 (dL q5t b1_1) b1_2 b1_3 b1_4 b1_5).bind fun r0 =>
 (Sum.elim (fun r1=>(some (r1.1,())))
 (fun r1=>(some (true,()))) r0))))
theorem qk7 {b0 b0_1 b0_2 b0_3 b0_4 b0_5 b1 b1_1 b1_2 b1_3 b1_4 b1_5 r} (h:qkb b0 b0_1 b0_2 b0_3 b0_4 b0_5 b1 b1_1 b1_2 b1_3 b1_4 b1_5=some r):qk5 b0 b0_1 b0_2 b0_3 b0_4 b0_5 b1 b1_1 b1_2 b1_3 b1_4 b1_5=some r :=
 q8r (es:=q13z) (hs:=q9f) [qkd] (by kernel_rfl) ⟨⟨_,rfl,rfl⟩,trivial⟩ trivial (by kernel_rfl) h
def qk6:=gentS Tryz.prog lv X0 3 (q8y (cdF Tryz.f26) 3) (by kernel_rfl) qka qk8 (fun x=>qk5 x.2.1.1 x.2.1.2.1 x.2.1.2.2.1 x.2.1.2.2.2.1 x.2.1.2.2.2.2.1 x.2.1.2.2.2.2.2 x.2.2.1 x.2.2.2.1 x.2.2.2.2.1 x.2.2.2.2.2.1 x.2.2.2.2.2.2.1 x.2.2.2.2.2.2.2) (fun _ _ h=>q8q h)
def qkl (a_Kind:Int) (q16k:L57) (a_Name:BA) (q16j:Int) (a_Text:BA) (a_N b_Kind:Int) (q16m:L57) (b_Name:BA) (q16l:Int) (b_Text:BA) (b_N:Int):Oq Bool :=
 (brE ((a_Kind != b_Kind)==false)
 (brE ((!(a_Name.toList==b_Name.toList))==false)
 (brE ((q16j != q16l)==false)
 (brE ((!(a_Text.toList==b_Text.toList))==false)
 (brE ((a_N != b_N)==false)
 (brE ((lN q5t q16k:Int) != (lN q5t q16m:Int))
 (some false)
 (gL q5t q16k<|
 (gL q5t q16m<|
 ((qk5 a_Kind (dL q5t q16k) a_Name q16j a_Text a_N b_Kind (dL q5t q16m) b_Name q16l b_Text b_N).bind fun r0 =>
 (some r0.1)))))
 (some false))
 (some false))
 (some false))
 (some false))
 (some false))
theorem qk4 {a_Kind q16k a_Name q16j a_Text a_N b_Kind q16m b_Name q16l b_Text b_N r} (h:qkl a_Kind q16k a_Name q16j a_Text a_N b_Kind q16m b_Name q16l b_Text b_N=some r):qkk a_Kind q16k a_Name q16j a_Text a_N b_Kind q16m b_Name q16l b_Text b_N=some r :=
 q75 (es:=q13z) (hs:=q9f) [qk6] Tryz.func26 rfl (by kernel_rfl) rfl (by kernel_rfl) (by kernel_rfl) trivial ⟨⟨_,rfl,rfl⟩,trivial⟩ (by kernel_rfl) h
def qjn:=(qb7 z27 (qb9 z27))
def qjo:Cod (V×List B) Bool:=z26
def qjz (a b:L59):=fS Tryz.prog lv X0 10 qjn qjo (a,b)
def qjp:=entS Tryz.prog lv X0 10 [] qjn qjo (fun x=>qjz x.1 x.2) (fun _ _ h=>q74 h)
def q13y:=qjp::q13z
def qjx:=sLS [0,1,5] (qb7 z27 (qb7 z27 (qb9 z1y))) qb8 [] [] (by decide) (fun _=>rfl)
def qjw:=sLS [0,1,5,16] (qb7 z27 (qb7 z27 (qb7 z1y z22))) qb8 [] [] (by decide) (fun _=>rfl)
def qjv:=sLS [4] z22 qb8 [] [] (by decide) (fun _=>rfl)
def qju:=oOr 1 qjv (oAt 2 qjw) (fun x=>(by decide:(2:Nat)≠1))
def qjr (a b:L59) (i:Int):=lS Tryz.prog lv X0 10 84 (q8x (cdF Tryz.f10) 4) qjx qju ((a,b,i),())
abbrev z15 (a:L59) (i:Int):=(List.getD (EC.encL q5u a) (Int.toNat i) [])
abbrev z16 (b:L59) (i:Int):=(List.getD (EC.encL q5u b) (Int.toNat i) [])
def qjy (a b:L59) (i:Int):Oq ((Bool×Unit)⊕((L59×L59×Int×Bool)×Unit)) :=
 (brE (decide (i<(lN q5u a:Int)))
 (gdE (p0 i)<|
 (gdE (eC q5u a i [(K1.int Go.IntKind.i64),(K1.int Go.IntKind.i64),K1.sl,K1.str,(K1.int Go.IntKind.i64),K1.str,(K1.int Go.IntKind.i64),K1.sl,K1.sl,(K1.int Go.IntKind.i64),K1.str,K1.str,(K1.int Go.IntKind.i64)])<|
 (gdE (p0 i)<|
 (gdE (eC q5u b i [(K1.int Go.IntKind.i64),(K1.int Go.IntKind.i64),K1.sl,K1.str,(K1.int Go.IntKind.i64),K1.str,(K1.int Go.IntKind.i64),K1.sl,K1.sl,(K1.int Go.IntKind.i64),K1.str,K1.str,(K1.int Go.IntKind.i64)])<|
 (brE (((qa0 (List.getD (z15 a i) 0 C.ne)) != (qa0 (List.getD (z16 b i) 0 C.ne)))==false)
 (brE (((qa0 (List.getD (z15 a i) 9 C.ne)) != (qa0 (List.getD (z16 b i) 9 C.ne)))==false)
 (brE ((!((ByteArray.toList (q135 (List.getD (z15 a i) 10 C.ne)))==(ByteArray.toList (q135 (List.getD (z16 b i) 10 C.ne)))))==false)
 (brE ((!((ByteArray.toList (q135 (List.getD (z15 a i) 11 C.ne)))==(ByteArray.toList (q135 (List.getD (z16 b i) 11 C.ne)))))==false)
 (brE (((qa0 (List.getD (z15 a i) 12 C.ne)) != (qa0 (List.getD (z16 b i) 12 C.ne)))==false)
 (gdE (EC.isL q5t (slOf (List.getD (z15 a i) 2 C.ne)))<|
 (gdE (EC.isL q5t (slOf (List.getD (z16 b i) 2 C.ne)))<|
 ((qkk (qa0 (List.getD (z15 a i) 1 C.ne)) (uL q5t (List.getD (z15 a i) 2 C.ne)) (q135 (List.getD (z15 a i) 3 C.ne)) (qa0 (List.getD (z15 a i) 4 C.ne)) (q135 (List.getD (z15 a i) 5 C.ne)) (qa0 (List.getD (z15 a i) 6 C.ne)) (qa0 (List.getD (z16 b i) 1 C.ne)) (uL q5t (List.getD (z16 b i) 2 C.ne)) (q135 (List.getD (z16 b i) 3 C.ne)) (qa0 (List.getD (z16 b i) 4 C.ne)) (q135 (List.getD (z16 b i) 5 C.ne)) (qa0 (List.getD (z16 b i) 6 C.ne))).bind fun r0 =>
 (brE ((!r0)==false)
 (gdE (EC.isL q5u (slOf (List.getD (z15 a i) 7 C.ne)))<|
 (gdE (EC.isL q5u (slOf (List.getD (z16 b i) 7 C.ne)))<|
 ((qjz (uL q5u (List.getD (z15 a i) 7 C.ne)) (uL q5u (List.getD (z16 b i) 7 C.ne))).bind fun r1 =>
 (brE ((!r1)==false)
 (gdE (EC.isL q5u (slOf (List.getD (z15 a i) 8 C.ne)))<|
 (gdE (EC.isL q5u (slOf (List.getD (z16 b i) 8 C.ne)))<|
 ((qjz (uL q5u (List.getD (z15 a i) 8 C.ne)) (uL q5u (List.getD (z16 b i) 8 C.ne))).bind fun r2 =>
 (brE (!r2)
 (some (.inl (false,())))
 (gL q5u a<|
 (gL q5u b<|
 (qjr (dL q5u a) (dL q5u b) (wI i))))))))
 (some (.inl (false,())))))))
 (some (.inl (false,())))))))
 (some (.inl (false,()))))
 (some (.inl (false,()))))
 (some (.inl (false,()))))
 (some (.inl (false,()))))
 (some (.inl (false,()))))))))
 (gL q5u a<|
 (gL q5u b<|
 (some (.inr (((dL q5u a),((dL q5u b),(i,false))),()))))))
theorem qjt {a b i r} (h:qjy a b i=some r):qjr a b i=some r :=
 qbb (es:=q13y) (hs:=q9f) [] (by kernel_rfl) trivial trivial (by kernel_rfl) h
def qjs:=qby Tryz.prog lv X0 4 (q8x (cdF Tryz.f10) 4) qjx qju (fun x=>qjr x.1.1 x.1.2.1 x.1.2.2) (fun _ _ h=>qba h)
def qk0 (a b:L59):Oq Bool :=
 (brE ((lN q5u a:Int) != (lN q5u b:Int))
 (some false)
 (gL q5u a<|
 (gL q5u b<|
 ((qjr (dL q5u a) (dL q5u b) 0).bind fun r0 =>
 (Sum.elim (fun r1=>(some r1.1))
 (fun r1=>(some true)) r0)))))
theorem qjq {a b r} (h:qk0 a b=some r):qjz a b=some r :=
 q75 (es:=q13y) (hs:=q9f) [qjs] Tryz.func10 rfl (by kernel_rfl) rfl (by kernel_rfl) (by kernel_rfl) ⟨⟨_,rfl,rfl⟩,trivial⟩ trivial (by kernel_rfl) h
end
end Go.Proofs.YtognhcibcocbkaaGreatDoor
