/- Functions of the program as plain functions: made by program from the machine. -/
import Derived.Test.YtognhcibcocbkaaGreatDoorH2
namespace Go.Proofs.YtognhcibcocbkaaGreatDoor
open Go.RowKit
set_option maxRecDepth 100000
noncomputable section
def q5m:EC ByteArray where
 enc x:=[.str x]
 dec c:=qss (c.getD 0 .ne)
 is c:=isE [.str] 0 c
 enc_dec h:=q4x h
 dec_enc x:=by rfl
 is_enc x:=by simp [isE,isK]
theorem enc_9 (x:ByteArray):q5m.enc x=[.str x]:=rfl
theorem lit_9 (a0:ByteArray):([.str a0]:List C)=q5m.enc a0:=rfl
theorem apd_9 (xs:List ByteArray) (a0:ByteArray):q5m.encL xs++[[.str a0]]=q5m.encL (xs++[a0]):=by rw [lit_9];simp [EC.encL]
theorem all_9 (xs:List ByteArray):(q5m.encL xs).all (fun (el:List C)=>el.length==1)=true:=by induction xs with|nil=>rfl|cons x xs ih=>first|(simp [EC.encL,enc_9];done)|simpa [EC.encL,enc_9] using ih
abbrev z1n:=(qah (vC (cInt .i64)) (qah (vC (cSl q5k)) (qah (vC cStr) (qah (vC (cInt .i64)) (qah (vC cStr) (qaj (vC (cInt .i64))))))))
def qey:=(qah (vAgg z1n) (qaj (vAgg z1n)))
def qez:Cod (V×List B) Bool:=(cFstU (cPair (vC cBool) qai))
def qfh (a_Kind:Int) (qm:L57) (a_Name:BA) (ql:Int) (a_Text:BA) (a_N b_Kind:Int) (q2n:L57) (b_Name:BA) (q2m:Int) (b_Text:BA) (b_N:Int):=fS Tryz.prog lv X0 26 qey qez ((a_Kind,qm,a_Name,ql,a_Text,a_N),(b_Kind,q2n,b_Name,q2m,b_Text,b_N))
def qf0:=entS Tryz.prog lv X0 26 [] qey qez (fun x=>qfh x.1.1 x.1.2.1 x.1.2.2.1 x.1.2.2.2.1 x.1.2.2.2.2.1 x.1.2.2.2.2.2 x.2.1 x.2.2.1 x.2.2.2.1 x.2.2.2.2.1 x.2.2.2.2.2.1 x.2.2.2.2.2.2) (fun _ _ h=>q6w h)
def qtj:=qf0::qtk
abbrev z1o:=(qah (qd1 (bBox z1n)) (qaj (qd1 (bBox z1n))))
def qff:=sLS [2,3,5] (qah (vPtr 0 0) (qah (vPtr 1 0) (qaj (vC (cInt .i64))))) z1o [false,false] [] (by decide) (fun _=>rfl)
def qfe:=sLS [2,3,5,52] (qah (vPtr 0 0) (qah (vPtr 1 0) (qah (vC (cInt .i64)) (qaj (vC cBool))))) z1o [false,false] [] (by decide) (fun _=>rfl)
def qfd:=sLS [4] (qaj (vC cBool)) qai [] [] (by decide) (fun _=>rfl)
def qfc:=oOr 1 qfd (oAt 2 qfe) (fun x=>(by decide:(2:Nat)≠1))
def qf9 (i b0:Int) (b0_1:L57) (b0_2:BA) (b0_3:Int) (b0_4:BA) (b0_5 b1:Int) (b1_1:L57) (b1_2:BA) (b1_3:Int) (b1_4:BA) (b1_5:Int):=lS Tryz.prog lv X0 26 67 (q8l (cdF Tryz.f26) 4) qff qfc (((),(),i),((b0,b0_1,b0_2,b0_3,b0_4,b0_5),(b1,b1_1,b1_2,b1_3,b1_4,b1_5)))
abbrev zu (i:Int) (b0_1:L57):=(List.getD (EC.encL q5k b0_1) (Int.toNat i) [])
abbrev zw (i:Int) (b1_1:L57):=(List.getD (EC.encL q5k b1_1) (Int.toNat i) [])
def qfg (i b0:Int) (b0_1:L57) (b0_2:BA) (b0_3:Int) (b0_4:BA) (b0_5 b1:Int) (b1_1:L57) (b1_2:BA) (b1_3:Int) (b1_4:BA) (b1_5:Int):Oq ((Bool×Unit)⊕((Unit×Unit×Int×Bool)×((Int×L57×BA×Int×BA×Int)×(Int×L57×BA×Int×BA×Int)))) :=
 (brE (decide (i<(lN q5k b0_1:Int)))
 (gdE (p0 i)<|
 (gdE (eC q5k b0_1 i [(K1.int Go.IntKind.i64),K1.sl,K1.str,(K1.int Go.IntKind.i64),K1.str,(K1.int Go.IntKind.i64)])<|
 (gdE (p0 i)<|
 (gdE (eC q5k b1_1 i [(K1.int Go.IntKind.i64),K1.sl,K1.str,(K1.int Go.IntKind.i64),K1.str,(K1.int Go.IntKind.i64)])<|
 (gdE (EC.isL q5k (slOf (List.getD (zu i b0_1) 1 C.ne)))<|
 (gdE (EC.isL q5k (slOf (List.getD (zw i b1_1) 1 C.ne)))<|
 ((qfh (q9n (List.getD (zu i b0_1) 0 C.ne)) (uL q5k (List.getD (zu i b0_1) 1 C.ne)) (qss (List.getD (zu i b0_1) 2 C.ne)) (q9n (List.getD (zu i b0_1) 3 C.ne)) (qss (List.getD (zu i b0_1) 4 C.ne)) (q9n (List.getD (zu i b0_1) 5 C.ne)) (q9n (List.getD (zw i b1_1) 0 C.ne)) (uL q5k (List.getD (zw i b1_1) 1 C.ne)) (qss (List.getD (zw i b1_1) 2 C.ne)) (q9n (List.getD (zw i b1_1) 3 C.ne)) (qss (List.getD (zw i b1_1) 4 C.ne)) (q9n (List.getD (zw i b1_1) 5 C.ne))).bind fun r0 =>
 (brE (!r0)
 (some (.inl (false,())))
 (gL q5k b0_1<|
 (gL q5k b1_1<|
 (qf9 (wI i) b0 (dL q5k b0_1) b0_2 b0_3 b0_4 b0_5 b1 (dL q5k b1_1) b1_2 b1_3 b1_4 b1_5)))))))))))
 (gL q5k b0_1<|
 (gL q5k b1_1<|
 (some (.inr (((),((),(i,false))),((b0,((dL q5k b0_1),(b0_2,(b0_3,(b0_4,b0_5))))),(b1,((dL q5k b1_1),(b1_2,(b1_3,(b1_4,b1_5))))))))))))
theorem qfb {i b0 b0_1 b0_2 b0_3 b0_4 b0_5 b1 b1_1 b1_2 b1_3 b1_4 b1_5 r} (h:qfg i b0 b0_1 b0_2 b0_3 b0_4 b0_5 b1 b1_1 b1_2 b1_3 b1_4 b1_5=some r):qf9 i b0 b0_1 b0_2 b0_3 b0_4 b0_5 b1 b1_1 b1_2 b1_3 b1_4 b1_5=some r :=
 qal (es:=qtj) (hs:=q93) [] (by kernel_rfl) trivial trivial (by kernel_rfl) h
def qfa:=qb9 Tryz.prog lv X0 4 (q8l (cdF Tryz.f26) 4) qff qfc (fun x=>qf9 x.1.2.2 x.2.1.1 x.2.1.2.1 x.2.1.2.2.1 x.2.1.2.2.2.1 x.2.1.2.2.2.2.1 x.2.1.2.2.2.2.2 x.2.2.1 x.2.2.2.1 x.2.2.2.2.1 x.2.2.2.2.2.1 x.2.2.2.2.2.2.1 x.2.2.2.2.2.2.2) (fun _ _ h=>qak h)
def qf7:=sLS [2,3] (qah (vPtr 0 0) (qaj (vPtr 1 0))) z1o [false,false] [] (by decide) (fun _=>rfl)
def qf6:=sLS [4] (qaj (vC cBool)) qai [] [] (by decide) (fun _=>rfl)
def qf5:=oAt 1 qf6
def qf2 (b0:Int) (b0_1:L57) (b0_2:BA) (b0_3:Int) (b0_4:BA) (b0_5 b1:Int) (b1_1:L57) (b1_2:BA) (b1_3:Int) (b1_4:BA) (b1_5:Int):=gS Tryz.prog lv X0 26 67 (q8m (cdF Tryz.f26) 3) qf7 qf5 (((),()),((b0,b0_1,b0_2,b0_3,b0_4,b0_5),(b1,b1_1,b1_2,b1_3,b1_4,b1_5)))
def qf8 (b0:Int) (b0_1:L57) (b0_2:BA) (b0_3:Int) (b0_4:BA) (b0_5 b1:Int) (b1_1:L57) (b1_2:BA) (b1_3:Int) (b1_4:BA) (b1_5:Int):Oq (Bool×Unit) :=
 (gL q5k b0_1<|
 (gL q5k b1_1<|
 ((qf9 0 b0 (dL q5k b0_1) b0_2 b0_3 b0_4 b0_5 b1 (dL q5k b1_1) b1_2 b1_3 b1_4 b1_5).bind fun r0 =>
 (Sum.elim (fun r1=>(some (r1.1,())))
 (fun r1=>(some (true,()))) r0))))
theorem qf4 {b0 b0_1 b0_2 b0_3 b0_4 b0_5 b1 b1_1 b1_2 b1_3 b1_4 b1_5 r} (h:qf8 b0 b0_1 b0_2 b0_3 b0_4 b0_5 b1 b1_1 b1_2 b1_3 b1_4 b1_5=some r):qf2 b0 b0_1 b0_2 b0_3 b0_4 b0_5 b1 b1_1 b1_2 b1_3 b1_4 b1_5=some r :=
 q8f (es:=qtj) (hs:=q93) [qfa] (by kernel_rfl) ⟨⟨_,rfl,rfl⟩,trivial⟩ trivial (by kernel_rfl) h
def qf3:=gentS Tryz.prog lv X0 3 (q8m (cdF Tryz.f26) 3) (by kernel_rfl) qf7 qf5 (fun x=>qf2 x.2.1.1 x.2.1.2.1 x.2.1.2.2.1 x.2.1.2.2.2.1 x.2.1.2.2.2.2.1 x.2.1.2.2.2.2.2 x.2.2.1 x.2.2.2.1 x.2.2.2.2.1 x.2.2.2.2.2.1 x.2.2.2.2.2.2.1 x.2.2.2.2.2.2.2) (fun _ _ h=>q8e h)
def qfi (a_Kind:Int) (qm:L57) (a_Name:BA) (ql:Int) (a_Text:BA) (a_N b_Kind:Int) (q2n:L57) (b_Name:BA) (q2m:Int) (b_Text:BA) (b_N:Int):Oq Bool :=
 (brE ((a_Kind != b_Kind)==false)
 (brE ((!(a_Name.toList==b_Name.toList))==false)
 (brE ((ql != q2m)==false)
 (brE ((!(a_Text.toList==b_Text.toList))==false)
 (brE ((a_N != b_N)==false)
 (brE ((lN q5k qm:Int) != (lN q5k q2n:Int))
 (some false)
 (gL q5k qm<|
 (gL q5k q2n<|
 ((qf2 a_Kind (dL q5k qm) a_Name ql a_Text a_N b_Kind (dL q5k q2n) b_Name q2m b_Text b_N).bind fun r0 =>
 (some r0.1)))))
 (some false))
 (some false))
 (some false))
 (some false))
 (some false))
theorem qf1 {a_Kind qm a_Name ql a_Text a_N b_Kind q2n b_Name q2m b_Text b_N r} (h:qfi a_Kind qm a_Name ql a_Text a_N b_Kind q2n b_Name q2m b_Text b_N=some r):qfh a_Kind qm a_Name ql a_Text a_N b_Kind q2n b_Name q2m b_Text b_N=some r :=
 q6x (es:=qtj) (hs:=q93) [qf3] Tryz.func26 rfl (by kernel_rfl) rfl (by kernel_rfl) (by kernel_rfl) trivial ⟨⟨_,rfl,rfl⟩,trivial⟩ (by kernel_rfl) h
def qek:=(qah (vC (cSl q5l)) (qaj (vC (cSl q5l))))
def qel:Cod (V×List B) Bool:=(cFstU (cPair (vC cBool) qai))
def qew (a b:L59):=fS Tryz.prog lv X0 10 qek qel (a,b)
def qem:=entS Tryz.prog lv X0 10 [] qek qel (fun x=>qew x.1 x.2) (fun _ _ h=>q6w h)
def qti:=qem::qtj
def qeu:=sLS [0,1,5] (qah (vC (cSl q5l)) (qah (vC (cSl q5l)) (qaj (vC (cInt .i64))))) qai [] [] (by decide) (fun _=>rfl)
def qet:=sLS [0,1,5,16] (qah (vC (cSl q5l)) (qah (vC (cSl q5l)) (qah (vC (cInt .i64)) (qaj (vC cBool))))) qai [] [] (by decide) (fun _=>rfl)
def qes:=sLS [4] (qaj (vC cBool)) qai [] [] (by decide) (fun _=>rfl)
def qer:=oOr 1 qes (oAt 2 qet) (fun x=>(by decide:(2:Nat)≠1))
def qeo (a b:L59) (i:Int):=lS Tryz.prog lv X0 10 84 (q8l (cdF Tryz.f10) 4) qeu qer ((a,b,i),())
abbrev zx (a:L59) (i:Int):=(List.getD (EC.encL q5l a) (Int.toNat i) [])
abbrev zy (b:L59) (i:Int):=(List.getD (EC.encL q5l b) (Int.toNat i) [])
def qev (a b:L59) (i:Int):Oq ((Bool×Unit)⊕((L59×L59×Int×Bool)×Unit)) :=
 (brE (decide (i<(lN q5l a:Int)))
 (gdE (p0 i)<|
 (gdE (eC q5l a i [(K1.int Go.IntKind.i64),(K1.int Go.IntKind.i64),K1.sl,K1.str,(K1.int Go.IntKind.i64),K1.str,(K1.int Go.IntKind.i64),K1.sl,K1.sl,(K1.int Go.IntKind.i64),K1.str,K1.str,(K1.int Go.IntKind.i64)])<|
 (gdE (p0 i)<|
 (gdE (eC q5l b i [(K1.int Go.IntKind.i64),(K1.int Go.IntKind.i64),K1.sl,K1.str,(K1.int Go.IntKind.i64),K1.str,(K1.int Go.IntKind.i64),K1.sl,K1.sl,(K1.int Go.IntKind.i64),K1.str,K1.str,(K1.int Go.IntKind.i64)])<|
 (brE (((q9n (List.getD (zx a i) 0 C.ne)) != (q9n (List.getD (zy b i) 0 C.ne)))==false)
 (brE (((q9n (List.getD (zx a i) 9 C.ne)) != (q9n (List.getD (zy b i) 9 C.ne)))==false)
 (brE ((!((ByteArray.toList (qss (List.getD (zx a i) 10 C.ne)))==(ByteArray.toList (qss (List.getD (zy b i) 10 C.ne)))))==false)
 (brE ((!((ByteArray.toList (qss (List.getD (zx a i) 11 C.ne)))==(ByteArray.toList (qss (List.getD (zy b i) 11 C.ne)))))==false)
 (brE (((q9n (List.getD (zx a i) 12 C.ne)) != (q9n (List.getD (zy b i) 12 C.ne)))==false)
 (gdE (EC.isL q5k (slOf (List.getD (zx a i) 2 C.ne)))<|
 (gdE (EC.isL q5k (slOf (List.getD (zy b i) 2 C.ne)))<|
 ((qfh (q9n (List.getD (zx a i) 1 C.ne)) (uL q5k (List.getD (zx a i) 2 C.ne)) (qss (List.getD (zx a i) 3 C.ne)) (q9n (List.getD (zx a i) 4 C.ne)) (qss (List.getD (zx a i) 5 C.ne)) (q9n (List.getD (zx a i) 6 C.ne)) (q9n (List.getD (zy b i) 1 C.ne)) (uL q5k (List.getD (zy b i) 2 C.ne)) (qss (List.getD (zy b i) 3 C.ne)) (q9n (List.getD (zy b i) 4 C.ne)) (qss (List.getD (zy b i) 5 C.ne)) (q9n (List.getD (zy b i) 6 C.ne))).bind fun r0 =>
 (brE ((!r0)==false)
 (gdE (EC.isL q5l (slOf (List.getD (zx a i) 7 C.ne)))<|
 (gdE (EC.isL q5l (slOf (List.getD (zy b i) 7 C.ne)))<|
 ((qew (uL q5l (List.getD (zx a i) 7 C.ne)) (uL q5l (List.getD (zy b i) 7 C.ne))).bind fun r1 =>
 (brE ((!r1)==false)
 (gdE (EC.isL q5l (slOf (List.getD (zx a i) 8 C.ne)))<|
 (gdE (EC.isL q5l (slOf (List.getD (zy b i) 8 C.ne)))<|
 ((qew (uL q5l (List.getD (zx a i) 8 C.ne)) (uL q5l (List.getD (zy b i) 8 C.ne))).bind fun r2 =>
 (brE (!r2)
 (some (.inl (false,())))
 (gL q5l a<|
 (gL q5l b<|
 (qeo (dL q5l a) (dL q5l b) (wI i))))))))
 (some (.inl (false,())))))))
 (some (.inl (false,())))))))
 (some (.inl (false,()))))
 (some (.inl (false,()))))
 (some (.inl (false,()))))
 (some (.inl (false,()))))
 (some (.inl (false,()))))))))
 (gL q5l a<|
 (gL q5l b<|
 (some (.inr (((dL q5l a),((dL q5l b),(i,false))),()))))))
theorem qeq {a b i r} (h:qev a b i=some r):qeo a b i=some r :=
 qal (es:=qti) (hs:=q93) [] (by kernel_rfl) trivial trivial (by kernel_rfl) h
def qep:=qb9 Tryz.prog lv X0 4 (q8l (cdF Tryz.f10) 4) qeu qer (fun x=>qeo x.1.1 x.1.2.1 x.1.2.2) (fun _ _ h=>qak h)
def qex (a b:L59):Oq Bool :=
 (brE ((lN q5l a:Int) != (lN q5l b:Int))
 (some false)
 (gL q5l a<|
 (gL q5l b<|
 ((qeo (dL q5l a) (dL q5l b) 0).bind fun r0 =>
 (Sum.elim (fun r1=>(some r1.1))
 (fun r1=>(some true)) r0)))))
theorem qen {a b r} (h:qex a b=some r):qew a b=some r :=
 q6x (es:=qti) (hs:=q93) [qep] Tryz.func10 rfl (by kernel_rfl) rfl (by kernel_rfl) (by kernel_rfl) ⟨⟨_,rfl,rfl⟩,trivial⟩ trivial (by kernel_rfl) h
end
end Go.Proofs.YtognhcibcocbkaaGreatDoor
namespace Go.Proofs.YtognhcibcocbkaaGreatDoor
open Go.RowKit
theorem qsz (l:List ByteArray):strsOf (q5m.encL l)=some l:=by
 induction l with
 |nil=>rfl
 |cons s l ih =>
  have e:q5m.encL (s::l)=[.str s]::q5m.encL l:=rfl
  rw [e]
  simp only [strsOf,ih,Option.map_some]
def qa5:=qah (vC (cSl q5m)) (qaj (vC cStr))
def qa8:Cod (V×List B) ByteArray:=cFstU (cPair (vC cStr) qai)
theorem qa6 (x:List ByteArray×ByteArray) (r:ByteArray) (h:joinP x.1 x.2=some r):Call Tryz.prog lv X0 86 (qa5.enc x)=some (qa8.enc r):=by
 have:X0.c 86 (qa5.enc x)=some (qa8.enc r):=by
  show ((strsOf (q5m.encL x.1)).bind fun l=>(joinP l x.2).map fun b=>((V.c (.str b),[]):V×List B))=_
  rw [qsz]
  simp only [Option.bind_some,h]
  rfl
 unfold Call callD
 rw [this]
noncomputable def join_e:=entS Tryz.prog lv X0 86 [] qa5 qa8 (fun x=>joinP x.1 x.2) qa6
noncomputable def tabj:=join_e::qti
end Go.Proofs.YtognhcibcocbkaaGreatDoor
