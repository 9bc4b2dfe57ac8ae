/- The reference's reader: numbers and patterns. -/
import Derived.Test.YtognhcibcocbkaaGreatDoorZ33
namespace Go.Proofs.YtognhcibcocbkaaGreatDoor
open Go.RowKit
theorem wr8 {n:Int} (h:0≤n∧n≤255):IntKind.u8.wrap n=n:=by simp only [IntKind.wrap_u8];omega
theorem qrk (l:List UInt8) (hl:l.length≤7) (ha:l.all digitB=true) (p1 p2 p3 q1 q2 q3:Int):∀ m k:Nat,k+m=l.length→∀ v:Nat,v<10 ^ k →
  qp0 (baL l) (v:Int) (k:Int) p1 p2 p3 q1 q2 q3=some (((),((),(baL l,((((l.drop k).foldl (fun n c=>10*n+(c.toNat - 48)) v:Nat):Int),((l.length:Int),false))))),((p1,(p2,p3)),(q1,(q2,q3)))):=by
 intro m
 induction m with
 |zero =>
  intro k hk v hv
  have hk:k=l.length:=by omega
  subst hk
  have e1:¬ ((l.length:Int)<((baL l).size:Int)):=by rw [q30];omega
  refine qp2 ?_
  simp only [qp6,wI,p0,q3w,e1,decide_false,Bool.false_eq_true,if_false,List.drop_length,List.foldl_nil]
 |succ m ih =>
  intro k hk v hv
  have hlt:k<l.length:=by omega
  have hlt':k<(baL l).size:=by rw [q30];exact hlt
  have e1:((k:Int)<((baL l).size:Int)):=by omega
  have e0:(0:Int)≤(k:Int):=by omega
  have e2:IntKind.i64.wrap ((k:Int)+1)=((k+1:Nat):Int):=q168 hlt (by omega)
  have hp:10 ^ k≤10 ^ 7:=Nat.pow_le_pow_right (by decide) (by omega)
  have hp:10 ^ k≤10000000:=hp
  have hd:l.drop k=l[k]::l.drop (k+1):=List.drop_eq_getElem_cons hlt
  have hg:(baL l).data.getD k 0=l[k]:=by
   have:=q53 (baL l) hlt'
   rw [q2z,hd] at this
   injection this with this _
   exact this.symm
  have hdig:digitB l[k]=true:=List.all_eq_true.1 ha _ (List.getElem_mem hlt)
  have hb:48≤l[k].toNat∧l[k].toNat≤57:=by simp [digitB] at hdig;omega
  have w1:IntKind.i64.wrap (10*(v:Int))=10*(v:Int):=q167 (by omega)
  have w2:IntKind.u8.wrap (((l[k].toNat:Nat):Int) - 48)=((l[k].toNat:Nat):Int) - 48:=wr8 (by omega)
  have w3:IntKind.i64.wrap (((l[k].toNat:Nat):Int) - 48)=((l[k].toNat:Nat):Int) - 48:=q167 (by omega)
  have w4:IntKind.i64.wrap (10*(v:Int)+(((l[k].toNat:Nat):Int) - 48))=((10*v+(l[k].toNat - 48):Nat):Int):=by rw [q167 (by omega)];omega
  have hi:=ih (k+1) (by omega) (10*v+(l[k].toNat - 48)) (by rw [Nat.pow_succ];omega)
  refine qp2 ?_
  simp only [qp6,wI,p0,q3w,q8t,e1,e0,decide_true,if_true,Int.toNat_natCast,hlt',Bool.and_self,hg,w1,w2,w3,w4,e2,hi,hd,List.foldl_cons]
theorem qrl (l:List UInt8) (hl:l.length≤7) (ha:l.all digitB=true) (p1 p2 p3 q1 q2 q3:Int) :
  qp0 (baL l) 0 0 p1 p2 p3 q1 q2 q3=some (((),((),(baL l,(((numV l:Nat):Int),((l.length:Int),false))))),((p1,(p2,p3)),(q1,(q2,q3)))):=by
 have:=qrk l hl ha p1 p2 p3 q1 q2 q3 l.length 0 (by omega) 0 (by decide)
 rw [List.drop_zero] at this
 exact this
section
variable (L0:List Tok)
variable (hL:L0.length≤4001)
include hL
theorem qrj {i:Nat} {x:Tok} {R:List Tok} (h:L0.drop i=x::R) (hg:Good (x::R)) (m:Int) :
  qp7 (L0.map wordW) (i:Int) m (-1)=if x.k=3∧numOk x.s=true then some (((numV x.s:Nat):Int),(((i+1:Nat):Int),(m,-1))) else
   some (0,((if x.k=3 then ((i+1:Nat):Int) else (i:Int)),(m,((x.o:Nat):Int)))):=by
 have ht:=qrz L0 hL h m (k:=3) (by decide) (kd:=110) rfl
 by_cases hx:x.k=3
 ·rw [if_pos hx] at ht
  obtain ⟨hne,ha⟩:=hg.1 hx
  have hz:=q30 x.s
  simp only [hx,true_and,if_true]
  by_cases h7:x.s.length≤7
  ·have e7:decide (((x.s.length:Nat):Int)>7)=false:=decide_eq_false (by omega)
   have hv:=qrl x.s h7 ha ((i+1:Nat):Int) m (-1) 0 0 0
   by_cases h1:1<x.s.length
   ·have e1:decide (((x.s.length:Nat):Int)>1)=true:=decide_eq_true (by omega)
    have hlt:0<(baL x.s).size:=by rw [hz];omega
    have hgd:some ((baL x.s).data.getD 0 0)=x.s.head?:=by
     have:=q53 (baL x.s) hlt
     rw [q2z,List.drop_zero] at this
     rw [this];rfl
    have c48:((((baL x.s).data.getD 0 0).toNat:Int)==48)=(x.s.head?==some 48):=by
     rw [←hgd]
     have:((((baL x.s).data.getD 0 0).toNat:Int)==48)=decide ((baL x.s).data.getD 0 0=48):=q4d _ 48 (by decide)
     rw [this,Bool.eq_iff_iff];simp
    by_cases h48:(x.s.head?==some 48)=true
    ·have hno:numOk x.s=false:=by simp [numOk,h7,h1];simpa using h48
     rw [hno,if_neg (by simp)]
     refine qoz ?_
     simp only [qp8,gL,dL,q3w,q8t,EC.decL_encL,EC.isL_encL,if_true,ht,Option.bind_some,show ¬ (-1:Int)≥0 by omega,decide_false,Bool.false_eq_true,if_false,hz,e7,e1,beq_self_eq_true,show (0:Int)≤0 by omega,decide_true,Int.toNat_zero,show 0<x.s.length by omega,Bool.and_self,c48,h48,q110 L0 h]
    ·have h48':(x.s.head?==some 48)=false:=by simpa using h48
     have hno:numOk x.s=true:=by simp [numOk,h7,h1];simpa using h48'
     rw [hno,if_pos rfl]
     refine qoz ?_
     simp only [qp8,gL,dL,q3w,q8t,EC.decL_encL,EC.isL_encL,if_true,ht,Option.bind_some,show ¬ (-1:Int)≥0 by omega,decide_false,Bool.false_eq_true,if_false,hz,e7,e1,beq_self_eq_true,show (0:Int)≤0 by omega,decide_true,Int.toNat_zero,show 0<x.s.length by omega,Bool.and_self,c48,h48',hv]
   ·have e1:decide (((x.s.length:Nat):Int)>1)=false:=decide_eq_false (by omega)
    have hno:numOk x.s=true:=by simp [numOk,h7,h1]
    rw [hno,if_pos rfl]
    refine qoz ?_
    simp only [qp8,gL,dL,q3w,q8t,EC.decL_encL,EC.isL_encL,if_true,ht,Option.bind_some,show ¬ (-1:Int)≥0 by omega,decide_false,Bool.false_eq_true,if_false,hz,e7,e1,beq_self_eq_true,show (false==true)=false from rfl,hv]
  ·have e7:decide (((x.s.length:Nat):Int)>7)=true:=decide_eq_true (by omega)
   have hno:numOk x.s=false:=by simp [numOk,h7]
   rw [hno,if_neg (by simp)]
   refine qoz ?_
   simp only [qp8,gL,dL,q3w,q8t,EC.decL_encL,EC.isL_encL,if_true,ht,Option.bind_some,show ¬ (-1:Int)≥0 by omega,decide_false,Bool.false_eq_true,if_false,hz,e7,show (true==false)=false from rfl,q110 L0 h]
 ·rw [if_neg hx] at ht
  rw [if_neg (fun h=>hx h.1),if_neg hx]
  refine qoz ?_
  simp only [qp8,gL,dL,q3w,q8t,EC.decL_encL,EC.isL_encL,if_true,ht,Option.bind_some,show ((x.o:Nat):Int)≥0 by omega,decide_true]
omit hL
theorem pat_l5 (W:List S53) (fr:Int) (s:List UInt8) (p1 p2 p3 q1 q2 q3:Int) :
  qpd W fr (baL s) 0 1 p1 p2 p3 q1 q2 q3=some ((W,((),((),(fr,(baL s,(((matchN s:Nat):Int),(4,false))))))),((p1,(p2,p3)),(q1,(q2,q3)))):=by
 have w1:IntKind.i64.wrap ((1:Int)+1)=2:=q167 (by omega)
 have w2:IntKind.i64.wrap ((2:Int)+1)=3:=q167 (by omega)
 have w3:IntKind.i64.wrap ((3:Int)+1)=4:=q167 (by omega)
 have b1:=q3m s wIs
 have b2:=q3m s wContains
 have b3:=q3m s wLike
 have s4:∀ kind:Int,qpd W fr (baL s) kind 4 p1 p2 p3 q1 q2 q3=some ((W,((),((),(fr,(baL s,(kind,(4,false))))))),((p1,(p2,p3)),(q1,(q2,q3)))):=fun kind=>by
  refine qpf ?_
  simp only [qpj,z19,gL,dL,wI,p0,q3w,q8t,EC.decL_encL,EC.isL_encL,show ¬ (4:Int)≤3 by omega,decide_false,Bool.false_eq_true,if_false,if_true]
 have s3:∀ kind:Int,qpd W fr (baL s) kind 3 p1 p2 p3 q1 q2 q3=some ((W,((),((),(fr,(baL s,((if s=wLike then 3 else kind),(4,false))))))),((p1,(p2,p3)),(q1,(q2,q3)))):=fun kind=>by
  refine qpf ?_
  simp only [qpj,z19,gL,dL,wI,p0,q3w,q8t,EC.decL_encL,EC.isL_encL,show (3:Int)≤3 by omega,decide_true,if_true,w3,s4,show Int.toNat 3=3 from rfl]
  rw [if_pos (by decide),if_pos (by decide),if_pos (by decide)]
  by_cases h:s=wLike
  ·rw [if_pos (by exact b3.trans (by simp [h])),if_pos h]
  ·rw [if_neg (by exact fun e=>h (by have:=b3.symm.trans e;simpa using this)),if_neg h]
 have s2:∀ kind:Int,qpd W fr (baL s) kind 2 p1 p2 p3 q1 q2 q3=some ((W,((),((),(fr,(baL s,((if s=wLike then 3 else if s=wContains then 2 else kind),(4,false))))))),((p1,(p2,p3)),(q1,(q2,q3)))):=fun kind=>by
  refine qpf ?_
  simp only [qpj,z19,gL,dL,wI,p0,q3w,q8t,EC.decL_encL,EC.isL_encL,show (2:Int)≤3 by omega,decide_true,if_true,w2,s3,show Int.toNat 2=2 from rfl]
  rw [if_pos (by decide),if_pos (by decide),if_pos (by decide)]
  by_cases h:s=wContains
  ·rw [if_pos (by exact b2.trans (by simp [h])),if_pos h]
  ·rw [if_neg (by exact fun e=>h (by have:=b2.symm.trans e;simpa using this)),if_neg h]
 refine qpf ?_
 simp only [qpj,z19,gL,dL,wI,p0,q3w,q8t,EC.decL_encL,EC.isL_encL,show (1:Int)≤3 by omega,decide_true,if_true,w1,s2,show Int.toNat 1=1 from rfl]
 rw [if_pos (by decide),if_pos (by decide),if_pos (by decide)]
 by_cases h:s=wIs
 ·rw [if_pos (by exact b1.trans (by simp [h]))]
  subst h
  rfl
 ·rw [if_neg (by exact fun e=>h (by have:=b1.symm.trans e;simpa using this))]
  have e:((matchN s:Nat):Int)=if s=wLike then 3 else if s=wContains then 2 else 0:=by
   unfold matchN
   rw [if_neg h]
   by_cases h2:s=wContains
   ·subst h2;rfl
   ·rw [if_neg h2,if_neg h2];split <;> rfl
  rw [e]
theorem qrm (W:List S53) (n m:Int) {bd:Int} (hb:0≤bd):qpk W n m bd=some (0,(noTx,(n,(m,bd)))):=by
 refine qpc ?_
 have hp:=pat_l5 W n [] n m bd 0 0 0
 have hp:qpd W n noTx 0 1 n m bd 0 0 0=some ((W,((),((),(n,(noTx,((0:Int),(4,false))))))),((n,(m,bd)),(0,(0,0)))):=hp
 simp only [qpl,gL,dL,q3w,q8t,EC.decL_encL,EC.isL_encL,if_true,qry _ _ _ _ hb,Option.bind_some,hp,beq_self_eq_true,q10z _ _ _ _ hb]
include hL
theorem qrn {i:Nat} {x:Tok} {R:List Tok} (h:L0.drop i=x::R) (hg:Good (x::R)) (m:Int) :
  match sMatch (x::R) with
  |.inr y=>∃ j:Nat,L0.drop j=y.2∧Good y.2∧qpk (L0.map wordW) (i:Int) m (-1)=some (((y.1.1:Nat):Int),(baL y.1.2,((j:Int),(m,-1))))
  |.inl o=>∃ z1 z2 z3,qpk (L0.map wordW) (i:Int) m (-1)=some (z1,(z2,(z3,(m,((o:Nat):Int))))):=by
 have ht:=qrz L0 hL h m (k:=2) (by decide) (kd:=119) rfl
 simp only [sMatch]
 by_cases hx:x.k=2
 ·rw [if_pos hx] at ht
  have hp:=pat_l5 (L0.map wordW) (i:Int) x.s ((i+1:Nat):Int) m (-1) 0 0 0
  have hR:=hg.tail (by rw [hx];rfl)
  obtain ⟨y,R',rfl⟩:=hR.ne
  have h':=(q169 L0 h).2.1
  by_cases hm:matchN x.s=0
  ·rw [if_neg (fun e=>e.2 hm)]
   rw [hm] at hp
   refine ⟨_,_,_,qpc (r:=(0,(noTx,(((i+1:Nat):Int),(m,((x.o:Nat):Int)))))) ?_⟩
   simp only [qpl,gL,dL,q3w,q8t,EC.decL_encL,EC.isL_encL,if_true,ht,Option.bind_some,hp,show (((0:Nat):Int)==0)=true from rfl,q110 L0 h]
  ·rw [if_pos ⟨hx,hm⟩]
   have hmb:(((matchN x.s:Nat):Int)==0)=false:=by simp;omega
   have ht2:=qrz L0 hL h' m (k:=1) (by decide) (kd:=113) rfl
   simp only [sTake]
   by_cases hy:y.k=1
   ·rw [if_pos hy] at ht2 ⊢
    refine ⟨i+2,(q169 L0 h').2.1,hR.tail (by rw [hy];rfl),qpc ?_⟩
    simp only [qpl,gL,dL,q3w,q8t,EC.decL_encL,EC.isL_encL,if_true,ht,Option.bind_some,hp,hmb,Bool.false_eq_true,if_false,ht2]
   ·rw [if_neg hy] at ht2 ⊢
    refine ⟨_,_,_,qpc (r:=(((matchN x.s:Nat):Int),(noTx,(((i+1:Nat):Int),(m,((y.o:Nat):Int)))))) ?_⟩
    simp only [qpl,gL,dL,q3w,q8t,EC.decL_encL,EC.isL_encL,if_true,ht,Option.bind_some,hp,hmb,Bool.false_eq_true,if_false,ht2]
 ·rw [if_neg hx] at ht
  rw [if_neg (fun e=>hx e.1)]
  have hp:=pat_l5 (L0.map wordW) (i:Int) [] (i:Int) m ((x.o:Nat):Int) 0 0 0
  have hp:qpd (L0.map wordW) (i:Int) noTx 0 1 (i:Int) m ((x.o:Nat):Int) 0 0 0=some ((L0.map wordW,((),((),((i:Int),(noTx,((0:Int),(4,false))))))),(((i:Int),(m,((x.o:Nat):Int))),(0,(0,0)))):=hp
  refine ⟨_,_,_,qpc (r:=(0,(noTx,((i:Int),(m,((x.o:Nat):Int)))))) ?_⟩
  simp only [qpl,gL,dL,q3w,q8t,EC.decL_encL,EC.isL_encL,if_true,ht,Option.bind_some,hp,beq_self_eq_true,q10z _ _ _ _ (show (0:Int)≤((x.o:Nat):Int) by omega)]
end
end Go.Proofs.YtognhcibcocbkaaGreatDoor
namespace Go.Proofs.YtognhcibcocbkaaGreatDoor
open Go.RowKit
def wordsL:List ByteArray:=q5v.decL [[(C.str (ByteArray.mk (List.toArray [])))],[(C.str (ByteArray.mk (List.toArray [(116:UInt8),(114:UInt8),(117:UInt8),(101:UInt8)])))],[(C.str (ByteArray.mk (List.toArray [(110:UInt8),(111:UInt8),(116:UInt8)])))],[(C.str (ByteArray.mk (List.toArray [(97:UInt8),(108:UInt8),(108:UInt8)])))],[(C.str (ByteArray.mk (List.toArray [(97:UInt8),(110:UInt8),(121:UInt8)])))],[(C.str (ByteArray.mk (List.toArray [(104:UInt8),(101:UInt8),(97:UInt8),(100:UInt8),(101:UInt8),(114:UInt8)])))],[(C.str (ByteArray.mk (List.toArray [(102:UInt8),(114:UInt8),(111:UInt8),(109:UInt8)])))],[(C.str (ByteArray.mk (List.toArray [(116:UInt8),(111:UInt8)])))],[(C.str (ByteArray.mk (List.toArray [(115:UInt8),(105:UInt8),(122:UInt8),(101:UInt8)])))],[(C.str (ByteArray.mk (List.toArray [(101:UInt8),(120:UInt8),(105:UInt8),(115:UInt8),(116:UInt8),(115:UInt8)])))]]
theorem q162:wordsL=[noTx,baL wTrue,baL wNot,baL wAll,baL wAny,baL wHeader,baL wFrom,baL wTo,baL wSize,baL wExists]
  := rfl
section
variable (W:List S53) (d fr:Int) (s:List UInt8) (n m bd:Int)
noncomputable abbrev L8 (k:Int) (kd:Int):=qho W d fr (baL s) 10 k n m bd 0 0 noTx 0 noTx 0 0 0 0 wordsL kd 0 noTx 0 noTx 0 [] []
abbrev L8r (kd:Int):(List S53×Int×Unit×Unit×Unit×Int×ByteArray×Nat×Unit×Int×Bool)×((Int×Int×Int)×(Int×Nat×ByteArray×Int×ByteArray×Int)×(Int×Int×Int)×(List ByteArray)×(Int×Nat×ByteArray×Int×ByteArray×Int)×(List S57)×(List S57)):=((W,(d,((),((),((),(fr,(baL s,(10,((),(10,false)))))))))),((n,(m,bd)),((0,(0,(noTx,(0,(noTx,0))))),((0,(0,0)),(wordsL,((kd,(0,(noTx,(0,(noTx,0))))),([],[])))))))
theorem l8_10 (kd:Int):L8 W d fr s n m bd 10 kd=some (L8r W d fr s n m bd kd):=by
 refine qhq ?_
 simp only [qhu,gL,dL,lN,wI,p0,q3w,q8t,EC.decL_encL,EC.isL_encL,EC.encL_length,q2u,show ¬ (10:Int)≤9 by omega,decide_false,Bool.false_eq_true,if_false,if_true]
theorem l8_9 (kd:Int):L8 W d fr s n m bd 9 kd=some (L8r W d fr s n m bd (if s=wExists then (9:Int) else kd)):=by
 have w1:IntKind.i64.wrap ((9:Int)+1)=10:=q167 (by omega)
 have b1:=q3m s wExists
 have hn:=l8_10 W d fr s n m bd
 refine qhq ?_
 simp only [qhu,gL,dL,lN,wI,p0,q3w,q8t,EC.decL_encL,EC.isL_encL,EC.encL_length,q2u,show (9:Int)≤9 by omega,decide_true,if_true,w1,show Int.toNat 9=9 from rfl,hn]
 rw [if_pos (by decide),if_pos (by rw [q162];decide),if_pos (by rw [q162];decide)]
 have e:wordsL.getD 9 (q5v.dec [])=baL wExists:=by rw [q162];rfl
 rw [e,b1]
 by_cases h:s=wExists
 ·rw [if_pos (by simp [h]),if_pos h]
 ·rw [if_neg (by simpa using h),if_neg h]
theorem l8_8 (kd:Int):L8 W d fr s n m bd 8 kd=some (L8r W d fr s n m bd (if s=wExists then (9:Int) else (if s=wSize then (8:Int) else kd))):=by
 have w1:IntKind.i64.wrap ((8:Int)+1)=9:=q167 (by omega)
 have b1:=q3m s wSize
 have hn:=l8_9 W d fr s n m bd
 refine qhq ?_
 simp only [qhu,gL,dL,lN,wI,p0,q3w,q8t,EC.decL_encL,EC.isL_encL,EC.encL_length,q2u,show (8:Int)≤9 by omega,decide_true,if_true,w1,show Int.toNat 8=8 from rfl,hn]
 rw [if_pos (by decide),if_pos (by rw [q162];decide),if_pos (by rw [q162];decide)]
 have e:wordsL.getD 8 (q5v.dec [])=baL wSize:=by rw [q162];rfl
 rw [e,b1]
 by_cases h:s=wSize
 ·rw [if_pos (by simp [h]),if_pos h]
 ·rw [if_neg (by simpa using h),if_neg h]
theorem l8_7 (kd:Int):L8 W d fr s n m bd 7 kd=some (L8r W d fr s n m bd (if s=wExists then (9:Int) else (if s=wSize then (8:Int) else (if s=wTo then (7:Int) else kd)))):=by
 have w1:IntKind.i64.wrap ((7:Int)+1)=8:=q167 (by omega)
 have b1:=q3m s wTo
 have hn:=l8_8 W d fr s n m bd
 refine qhq ?_
 simp only [qhu,gL,dL,lN,wI,p0,q3w,q8t,EC.decL_encL,EC.isL_encL,EC.encL_length,q2u,show (7:Int)≤9 by omega,decide_true,if_true,w1,show Int.toNat 7=7 from rfl,hn]
 rw [if_pos (by decide),if_pos (by rw [q162];decide),if_pos (by rw [q162];decide)]
 have e:wordsL.getD 7 (q5v.dec [])=baL wTo:=by rw [q162];rfl
 rw [e,b1]
 by_cases h:s=wTo
 ·rw [if_pos (by simp [h]),if_pos h]
 ·rw [if_neg (by simpa using h),if_neg h]
theorem l8_6 (kd:Int):L8 W d fr s n m bd 6 kd=some (L8r W d fr s n m bd (if s=wExists then (9:Int) else (if s=wSize then (8:Int) else (if s=wTo then (7:Int) else (if s=wFrom then (6:Int) else kd))))):=by
 have w1:IntKind.i64.wrap ((6:Int)+1)=7:=q167 (by omega)
 have b1:=q3m s wFrom
 have hn:=l8_7 W d fr s n m bd
 refine qhq ?_
 simp only [qhu,gL,dL,lN,wI,p0,q3w,q8t,EC.decL_encL,EC.isL_encL,EC.encL_length,q2u,show (6:Int)≤9 by omega,decide_true,if_true,w1,show Int.toNat 6=6 from rfl,hn]
 rw [if_pos (by decide),if_pos (by rw [q162];decide),if_pos (by rw [q162];decide)]
 have e:wordsL.getD 6 (q5v.dec [])=baL wFrom:=by rw [q162];rfl
 rw [e,b1]
 by_cases h:s=wFrom
 ·rw [if_pos (by simp [h]),if_pos h]
 ·rw [if_neg (by simpa using h),if_neg h]
theorem l8_5 (kd:Int):L8 W d fr s n m bd 5 kd=some (L8r W d fr s n m bd (if s=wExists then (9:Int) else (if s=wSize then (8:Int) else (if s=wTo then (7:Int) else (if s=wFrom then (6:Int) else (if s=wHeader then (5:Int) else kd)))))):=by
 have w1:IntKind.i64.wrap ((5:Int)+1)=6:=q167 (by omega)
 have b1:=q3m s wHeader
 have hn:=l8_6 W d fr s n m bd
 refine qhq ?_
 simp only [qhu,gL,dL,lN,wI,p0,q3w,q8t,EC.decL_encL,EC.isL_encL,EC.encL_length,q2u,show (5:Int)≤9 by omega,decide_true,if_true,w1,show Int.toNat 5=5 from rfl,hn]
 rw [if_pos (by decide),if_pos (by rw [q162];decide),if_pos (by rw [q162];decide)]
 have e:wordsL.getD 5 (q5v.dec [])=baL wHeader:=by rw [q162];rfl
 rw [e,b1]
 by_cases h:s=wHeader
 ·rw [if_pos (by simp [h]),if_pos h]
 ·rw [if_neg (by simpa using h),if_neg h]
theorem l8_4 (kd:Int):L8 W d fr s n m bd 4 kd=some (L8r W d fr s n m bd (if s=wExists then (9:Int) else (if s=wSize then (8:Int) else (if s=wTo then (7:Int) else (if s=wFrom then (6:Int) else (if s=wHeader then (5:Int) else (if s=wAny then (4:Int) else kd))))))):=by
 have w1:IntKind.i64.wrap ((4:Int)+1)=5:=q167 (by omega)
 have b1:=q3m s wAny
 have hn:=l8_5 W d fr s n m bd
 refine qhq ?_
 simp only [qhu,gL,dL,lN,wI,p0,q3w,q8t,EC.decL_encL,EC.isL_encL,EC.encL_length,q2u,show (4:Int)≤9 by omega,decide_true,if_true,w1,show Int.toNat 4=4 from rfl,hn]
 rw [if_pos (by decide),if_pos (by rw [q162];decide),if_pos (by rw [q162];decide)]
 have e:wordsL.getD 4 (q5v.dec [])=baL wAny:=by rw [q162];rfl
 rw [e,b1]
 by_cases h:s=wAny
 ·rw [if_pos (by simp [h]),if_pos h]
 ·rw [if_neg (by simpa using h),if_neg h]
theorem l8_3 (kd:Int):L8 W d fr s n m bd 3 kd=some (L8r W d fr s n m bd (if s=wExists then (9:Int) else (if s=wSize then (8:Int) else (if s=wTo then (7:Int) else (if s=wFrom then (6:Int) else (if s=wHeader then (5:Int) else (if s=wAny then (4:Int) else (if s=wAll then (3:Int) else kd)))))))):=by
 have w1:IntKind.i64.wrap ((3:Int)+1)=4:=q167 (by omega)
 have b1:=q3m s wAll
 have hn:=l8_4 W d fr s n m bd
 refine qhq ?_
 simp only [qhu,gL,dL,lN,wI,p0,q3w,q8t,EC.decL_encL,EC.isL_encL,EC.encL_length,q2u,show (3:Int)≤9 by omega,decide_true,if_true,w1,show Int.toNat 3=3 from rfl,hn]
 rw [if_pos (by decide),if_pos (by rw [q162];decide),if_pos (by rw [q162];decide)]
 have e:wordsL.getD 3 (q5v.dec [])=baL wAll:=by rw [q162];rfl
 rw [e,b1]
 by_cases h:s=wAll
 ·rw [if_pos (by simp [h]),if_pos h]
 ·rw [if_neg (by simpa using h),if_neg h]
theorem l8_2 (kd:Int):L8 W d fr s n m bd 2 kd=some (L8r W d fr s n m bd (if s=wExists then (9:Int) else (if s=wSize then (8:Int) else (if s=wTo then (7:Int) else (if s=wFrom then (6:Int) else (if s=wHeader then (5:Int) else (if s=wAny then (4:Int) else (if s=wAll then (3:Int) else (if s=wNot then (2:Int) else kd))))))))):=by
 have w1:IntKind.i64.wrap ((2:Int)+1)=3:=q167 (by omega)
 have b1:=q3m s wNot
 have hn:=l8_3 W d fr s n m bd
 refine qhq ?_
 simp only [qhu,gL,dL,lN,wI,p0,q3w,q8t,EC.decL_encL,EC.isL_encL,EC.encL_length,q2u,show (2:Int)≤9 by omega,decide_true,if_true,w1,show Int.toNat 2=2 from rfl,hn]
 rw [if_pos (by decide),if_pos (by rw [q162];decide),if_pos (by rw [q162];decide)]
 have e:wordsL.getD 2 (q5v.dec [])=baL wNot:=by rw [q162];rfl
 rw [e,b1]
 by_cases h:s=wNot
 ·rw [if_pos (by simp [h]),if_pos h]
 ·rw [if_neg (by simpa using h),if_neg h]
theorem l8_1 (kd:Int):L8 W d fr s n m bd 1 kd=some (L8r W d fr s n m bd (if s=wExists then (9:Int) else (if s=wSize then (8:Int) else (if s=wTo then (7:Int) else (if s=wFrom then (6:Int) else (if s=wHeader then (5:Int) else (if s=wAny then (4:Int) else (if s=wAll then (3:Int) else (if s=wNot then (2:Int) else (if s=wTrue then (1:Int) else kd)))))))))):=by
 have w1:IntKind.i64.wrap ((1:Int)+1)=2:=q167 (by omega)
 have b1:=q3m s wTrue
 have hn:=l8_2 W d fr s n m bd
 refine qhq ?_
 simp only [qhu,gL,dL,lN,wI,p0,q3w,q8t,EC.decL_encL,EC.isL_encL,EC.encL_length,q2u,show (1:Int)≤9 by omega,decide_true,if_true,w1,show Int.toNat 1=1 from rfl,hn]
 rw [if_pos (by decide),if_pos (by rw [q162];decide),if_pos (by rw [q162];decide)]
 have e:wordsL.getD 1 (q5v.dec [])=baL wTrue:=by rw [q162];rfl
 rw [e,b1]
 by_cases h:s=wTrue
 ·rw [if_pos (by simp [h]),if_pos h]
 ·rw [if_neg (by simpa using h),if_neg h]
theorem l8_s:L8 W d fr s n m bd 1 0=some (L8r W d fr s n m bd ((testN s:Nat):Int)):=by
 rw [l8_1]
 congr 1
 have e:(if s=wExists then (9:Int) else (if s=wSize then (8:Int) else (if s=wTo then (7:Int) else (if s=wFrom then (6:Int) else (if s=wHeader then (5:Int) else (if s=wAny then (4:Int) else (if s=wAll then (3:Int) else (if s=wNot then (2:Int) else (if s=wTrue then (1:Int) else 0)))))))))=((testN s:Nat):Int):=by
  unfold testN
  by_cases h1:s=wTrue
  ·subst h1;rfl
  by_cases h2:s=wNot
  ·subst h2;rfl
  by_cases h3:s=wAll
  ·subst h3;rfl
  by_cases h4:s=wAny
  ·subst h4;rfl
  by_cases h5:s=wHeader
  ·subst h5;rfl
  by_cases h6:s=wFrom
  ·subst h6;rfl
  by_cases h7:s=wTo
  ·subst h7;rfl
  by_cases h8:s=wSize
  ·subst h8;rfl
  by_cases h9:s=wExists
  ·subst h9;rfl
  simp [h1,h2,h3,h4,h5,h6,h7,h8,h9]
 rw [e]
end
section
variable (W:List S53) (d p1 p2 p3 a1:Int) (a2:Nat) (a3:ByteArray) (a4:Int) (a5:ByteArray) (a6 c1 c2 c3:Int) (t1:Int) (t2:Nat) (t3:ByteArray) (t4:Int) (t5:ByteArray) (t6:Int) (B4 B5:List S57)
abbrev gR:(Unit×Unit)×((Int×Nat×ByteArray×Int×ByteArray×Int)×(Int×Int×Int)×(List S57)):=(((),()),((t1,(t2,(t3,(t4,(t5,t6))))),((p1,(p2,p3)),B5)))
theorem g32_s:qh9 p1 p2 p3 a1 a2 a3 a4 a5 a6 c1 c2 c3 t1 t2 t3 t4 t5 t6 B4 B5=some (gR p1 p2 p3 t1 t2 t3 t4 t5 t6 B5):=by
 refine qhb ?_
 simp only [qhf,gL,dL,q8t,EC.decL_encL,EC.isL_encL,if_true]
theorem g23_s (h3:t1≠3) (h4:t1≠4):qh2 W d p1 p2 p3 a1 a2 a3 a4 a5 a6 c1 c2 c3 t1 t2 t3 t4 t5 t6 B4 B5=some (gR p1 p2 p3 t1 t2 t3 t4 t5 t6 B5):=by
 have e3:(t1==3)=false:=by simpa using h3
 have e4:(t1==4)=false:=by simpa using h4
 refine qh4 ?_
 simp only [qh8,gL,dL,q3w,q8t,EC.decL_encL,EC.isL_encL,if_true,e3,e4,beq_self_eq_true,Bool.false_eq_true,if_false,g32_s,Option.bind_some]
theorem g20_to {q1 q2 q3:Int} {u1:Int} {u2:Nat} {u3:ByteArray} {u4:Int} {u5:ByteArray} {u6:Int} {B:List S57} (h2:t1≠2) (h:qh2 W d p1 p2 p3 a1 a2 a3 a4 a5 a6 c1 c2 c3 t1 t2 t3 t4 t5 t6 B4 B5=some (gR q1 q2 q3 u1 u2 u3 u4 u5 u6 B)) :
  qgv W d p1 p2 p3 a1 a2 a3 a4 a5 a6 c1 c2 c3 t1 t2 t3 t4 t5 t6 B4 B5=some (gR q1 q2 q3 u1 u2 u3 u4 u5 u6 B):=by
 have e2:(t1==2)=false:=by simpa using h2
 refine qgx ?_
 simp only [qh1,gL,dL,wI,q3w,q8t,EC.decL_encL,EC.isL_encL,if_true,e2,Bool.false_eq_true,if_false,h,Option.bind_some]
theorem g18_to {q1 q2 q3:Int} {u1:Int} {u2:Nat} {u3:ByteArray} {u4:Int} {u5:ByteArray} {u6:Int} {B:List S57} (h8:t1≠8) (h:qgv W d p1 p2 p3 a1 a2 a3 a4 a5 a6 c1 c2 c3 t1 t2 t3 t4 t5 t6 B4 B5=some (gR q1 q2 q3 u1 u2 u3 u4 u5 u6 B)) :
  qgo W d p1 p2 p3 a1 a2 a3 a4 a5 a6 c1 c2 c3 t1 t2 t3 t4 t5 t6 B4 B5=some (gR q1 q2 q3 u1 u2 u3 u4 u5 u6 B):=by
 have e2:(t1==8)=false:=by simpa using h8
 refine qgq ?_
 simp only [qgu,gL,dL,q3w,q8t,EC.decL_encL,EC.isL_encL,if_true,e2,Bool.false_eq_true,if_false,h,Option.bind_some]
theorem g16_to {q1 q2 q3:Int} {u1:Int} {u2:Nat} {u3:ByteArray} {u4:Int} {u5:ByteArray} {u6:Int} {B:List S57} (h5:¬ (5≤t1∧t1≤7)) (h:qgo W d p1 p2 p3 a1 a2 a3 a4 a5 a6 c1 c2 c3 t1 t2 t3 t4 t5 t6 B4 B5=some (gR q1 q2 q3 u1 u2 u3 u4 u5 u6 B)) :
  qgh W d p1 p2 p3 a1 a2 a3 a4 a5 a6 c1 c2 c3 t1 t2 t3 t4 t5 t6 B4 B5=some (gR q1 q2 q3 u1 u2 u3 u4 u5 u6 B):=by
 have e5:(decide (5≤t1)&&decide (t1≤7))=false:=by
  rw [Bool.and_eq_false_iff,decide_eq_false_iff_not,decide_eq_false_iff_not];omega
 refine qgj ?_
 simp only [qgn,gL,dL,q3w,q8t,EC.decL_encL,EC.isL_encL,if_true,q9u,e5,Bool.false_eq_true,if_false,h,Option.bind_some]
theorem q8o (h:t1=1∨5≤t1∧t1≤7∨t1=9):qgo W d p1 p2 p3 a1 a2 a3 a4 a5 a6 c1 c2 c3 t1 t2 t3 t4 t5 t6 B4 B5=some (gR p1 p2 p3 t1 t2 t3 t4 t5 t6 B5) :=
 g18_to _ _ _ _ _ _ _ _ _ _ _ _ _ _ _ _ _ _ _ _ _ _ (by omega) (g20_to _ _ _ _ _ _ _ _ _ _ _ _ _ _ _ _ _ _ _ _ _ _ (by omega) (g23_s _ _ _ _ _ _ _ _ _ _ _ _ _ _ _ _ _ _ _ _ _ _ (by omega) (by omega)))
theorem q8p {v q1 q2 q3:Int} (hn:qp7 W p1 p2 p3=some (v,(q1,(q2,q3)))):qgo W d p1 p2 p3 a1 a2 a3 a4 a5 a6 c1 c2 c3 8 t2 t3 t4 t5 t6 B4 B5=some (gR q1 q2 q3 8 t2 t3 t4 t5 v B5):=by
 have h:=g20_to W d q1 q2 q3 a1 a2 a3 a4 a5 a6 c1 c2 c3 8 t2 t3 t4 t5 v B4 B5 (by omega) (g23_s _ _ _ _ _ _ _ _ _ _ _ _ _ _ _ _ _ _ _ _ _ _ (by omega) (by omega))
 refine qgq ?_
 simp only [qgu,gL,dL,q3w,q8t,EC.decL_encL,EC.isL_encL,if_true,beq_self_eq_true,hn,h,Option.bind_some]
theorem q8n {v:Int} {w:ByteArray} {q1 q2 q3:Int} (h:5≤t1∧t1≤7) (hn:qpk W p1 p2 p3=some (v,(w,(q1,(q2,q3))))) :
  qgh W d p1 p2 p3 a1 a2 a3 a4 a5 a6 c1 c2 c3 t1 t2 t3 t4 t5 t6 B4 B5=some (gR q1 q2 q3 t1 t2 t3 v w t6 B5):=by
 have e5:(decide (5≤t1)&&decide (t1≤7))=true:=by rw [Bool.and_eq_true,decide_eq_true_eq,decide_eq_true_eq];omega
 have h:=q8o W d q1 q2 q3 a1 a2 a3 a4 a5 a6 c1 c2 c3 t1 t2 t3 v w t6 B4 B5 (by omega)
 refine qgj ?_
 simp only [qgn,gL,dL,q3w,q8t,EC.decL_encL,EC.isL_encL,if_true,q9u,e5,hn,h,Option.bind_some]
theorem q8m {d':Int} {z:S57} {q1 q2 q3:Int} (hd:IntKind.i64.wrap (d+1)=d') (hn:qhv W p1 p2 p3 d'=some (tup z,(q1,(q2,q3)))) :
  qgh W d p1 p2 p3 a1 a2 a3 a4 a5 a6 c1 c2 c3 2 t2 t3 t4 t5 t6 B4 B5=some (gR q1 q2 q3 2 1 noTx 0 noTx 0 [z]):=by
 refine g16_to _ _ _ _ _ _ _ _ _ _ _ _ _ _ _ _ _ _ _ _ _ _ (by omega) (g18_to _ _ _ _ _ _ _ _ _ _ _ _ _ _ _ _ _ _ _ _ _ _ (by omega) (qgx ?_))
 simp only [qh1,gL,dL,wI,q3w,q8t,EC.decL_encL,EC.isL_encL,if_true,beq_self_eq_true,hd,hn,Option.bind_some,one_T]
theorem q8l {x} (ht:t1=3∨t1=4) {r1 r2 r3:Int} (hs:qpw W p1 p2 p3 115 (baL [40])=some (r1,(r2,r3)))
  (hl:qhg W d r1 r2 r3 a1 a2 a3 a4 a5 a6 c1 c2 c3 t1 t2 t3 t4 t5 t6 B4 B5=some x) {fl:Bool} {s1 s2 s3:Int} {v2:Nat} {B4' B5':List S57} (hx:Sum.elim id id x=((W,(d,((),((),((),((),fl)))))),((s1,(s2,s3)),((a1,(a2,(a3,(a4,(a5,a6))))),((c1,(c2,c3)),((t1,(v2,(t3,(t4,(t5,t6))))),(B4',B5')))))))
  {q1 q2 q3:Int} (he:qpw W s1 s2 s3 115 (baL [41])=some (q1,(q2,q3))) :
  qgh W d p1 p2 p3 a1 a2 a3 a4 a5 a6 c1 c2 c3 t1 t2 t3 t4 t5 t6 B4 B5=some (gR q1 q2 q3 t1 v2 t3 t4 t5 t6 B5'):=by
 refine g16_to _ _ _ _ _ _ _ _ _ _ _ _ _ _ _ _ _ _ _ _ _ _ (by omega) (g18_to _ _ _ _ _ _ _ _ _ _ _ _ _ _ _ _ _ _ _ _ _ _ (by omega) (g20_to _ _ _ _ _ _ _ _ _ _ _ _ _ _ _ _ _ _ _ _ _ _ (by omega) (qh4 ?_)))
 have hs':qpw W p1 p2 p3 115 (ByteArray.mk (List.toArray [40]))=some (r1,(r2,r3)):=hs
 have he':qpw W s1 s2 s3 115 (ByteArray.mk (List.toArray [41]))=some (q1,(q2,q3)):=he
 rcases x with x|x
 ·have hx:x=_:=hx
  subst hx
  rcases ht with rfl|rfl
  ·simp only [qh8,gL,dL,q3w,q8t,EC.decL_encL,EC.isL_encL,if_true,beq_self_eq_true,show (true==false)=false from rfl,Bool.false_eq_true,if_false,hs',hl,he',Option.bind_some,Sum.elim_inl,g32_s]
  ·simp only [qh8,gL,dL,q3w,q8t,EC.decL_encL,EC.isL_encL,if_true,beq_self_eq_true,show ((4:Int)==3)=false from rfl,hs',hl,he',Option.bind_some,Sum.elim_inl,g32_s]
 ·have hx:x=_:=hx
  subst hx
  rcases ht with rfl|rfl
  ·simp only [qh8,gL,dL,q3w,q8t,EC.decL_encL,EC.isL_encL,if_true,beq_self_eq_true,show (true==false)=false from rfl,Bool.false_eq_true,if_false,hs',hl,he',Option.bind_some,Sum.elim_inr,g32_s]
  ·simp only [qh8,gL,dL,q3w,q8t,EC.decL_encL,EC.isL_encL,if_true,beq_self_eq_true,show ((4:Int)==3)=false from rfl,hs',hl,he',Option.bind_some,Sum.elim_inr,g32_s]
theorem qaz (hb:0≤p3):qhg W d p1 p2 p3 a1 a2 a3 a4 a5 a6 c1 c2 c3 t1 t2 t3 t4 t5 t6 B4 B5=some (.inl ((W,(d,((),((),((),((),false)))))),((p1,(p2,p3)),((a1,(a2,(a3,(a4,(a5,a6))))),((c1,(c2,c3)),((t1,(t2,(t3,(t4,(t5,t6))))),(B4,B5))))))):=by
 refine qhi ?_
 simp only [qhn,gL,dL,wI,aL,dQ,q3w,q8t,EC.decL_encL,EC.isL_encL,q1l,q21,show ¬ p3<0 by omega,decide_false,Bool.false_eq_true,if_false,if_true]
end
section
variable (W:List S53) (d n m:Int)
theorem qru {s:List UInt8} {n':Int} (hd:¬ d>8) (ht:qq2 W n m (-1) 119=some (baL s,(n',(m,-1)))) {k:Int} (hk:((testN s:Nat):Int)=k) (h0:k≠0) (h5:k≠5) (h9:k≠9)
  {q1 q2 q3:Int} {u1:Int} {u2:Nat} {u3:ByteArray} {u4:Int} {u5:ByteArray} {u6:Int} {B:List S57}
  (hg:qgh W d n' m (-1) 0 0 noTx 0 noTx 0 0 0 0 k 0 noTx 0 noTx 0 [] []=some (gR q1 q2 q3 u1 u2 u3 u4 u5 u6 B)) :
  qhv W n m (-1) d=some ((u1,(B,(u3,(u4,(u5,u6))))),(q1,(q2,q3))):=by
 have h8:=l8_s W d n s n' m (-1)
 rw [hk] at h8
 unfold L8 wordsL at h8
 have e0:q5t.decL []=[]:=rfl
 have k0:(k==0)=false:=by simpa using h0
 have k5:(k==5)=false:=by simpa using h5
 have k9:(k==9)=false:=by simpa using h9
 refine qgg ?_
 simp only [qhw,gL,dL,q3w,q8t,EC.decL_encL,EC.isL_encL,show (-1:Int)<0 by omega,decide_true,beq_self_eq_true,if_true,hd,decide_false,Bool.false_eq_true,if_false,ht,Option.bind_some,e0,h8,k0,k5,k9,hg]
theorem qrv {s:List UInt8} {n':Int} (hd:¬ d>8) (ht:qq2 W n m (-1) 119=some (baL s,(n',(m,-1)))) {k:Int} (hk:((testN s:Nat):Int)=k) (h5:k=5∨k=9)
  {w:ByteArray} {r1 r2 r3:Int} (ht2:qq2 W n' m (-1) 113=some (w,(r1,(r2,r3))))
  {q1 q2 q3:Int} {u1:Int} {u2:Nat} {u3:ByteArray} {u4:Int} {u5:ByteArray} {u6:Int} {B:List S57}
  (hg:qgh W d r1 r2 r3 0 0 noTx 0 noTx 0 0 0 0 k 0 w 0 noTx 0 [] []=some (gR q1 q2 q3 u1 u2 u3 u4 u5 u6 B)) :
  qhv W n m (-1) d=some ((u1,(B,(u3,(u4,(u5,u6))))),(q1,(q2,q3))):=by
 have h8:=l8_s W d n s n' m (-1)
 rw [hk] at h8
 unfold L8 wordsL at h8
 have e0:q5t.decL []=[]:=rfl
 have k0:(k==0)=false:=by rcases h5 with rfl|rfl <;> rfl
 refine qgg ?_
 rcases h5 with h5|h5
 ·have k5:(k==5)=true:=by simpa using h5
  simp only [qhw,gL,dL,q3w,q8t,EC.decL_encL,EC.isL_encL,show (-1:Int)<0 by omega,decide_true,beq_self_eq_true,if_true,hd,decide_false,Bool.false_eq_true,if_false,ht,Option.bind_some,e0,h8,k0,k5,show (true==false)=false from rfl,ht2,hg]
 ·have k5:(k==5)=false:=by subst h5;rfl
  have k9:(k==9)=true:=by simpa using h5
  simp only [qhw,gL,dL,q3w,q8t,EC.decL_encL,EC.isL_encL,show (-1:Int)<0 by omega,decide_true,beq_self_eq_true,if_true,hd,decide_false,Bool.false_eq_true,if_false,ht,Option.bind_some,e0,h8,k0,k5,k9,ht2,hg]
theorem qrw {s:List UInt8} {n' bd:Int} (hd:¬ d>8) (ht:qq2 W n m (-1) 119=some (baL s,(n',(m,bd)))) (h0:testN s=0) {q1 q2 q3:Int} (hw:qqe W n' m bd n=some (q1,(q2,q3))) :
  qhv W n m (-1) d=some ((0,([],(noTx,(0,(noTx,0))))),(q1,(q2,q3))):=by
 have h8:=l8_s W d n s n' m bd
 rw [h0] at h8
 unfold L8 wordsL at h8
 have e0:q5t.decL []=[]:=rfl
 refine qgg ?_
 simp only [qhw,gL,dL,q3w,q8t,EC.decL_encL,EC.isL_encL,show (-1:Int)<0 by omega,decide_true,beq_self_eq_true,if_true,hd,decide_false,Bool.false_eq_true,if_false,ht,Option.bind_some,e0,h8,show (((0:Nat):Int)==0)=true from rfl,hw]
 rfl
end
end Go.Proofs.YtognhcibcocbkaaGreatDoor
