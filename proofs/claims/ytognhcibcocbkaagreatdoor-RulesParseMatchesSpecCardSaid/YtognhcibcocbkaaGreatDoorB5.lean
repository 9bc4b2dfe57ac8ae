/- The reference reads a test as specified. -/
import Derived.Test.YtognhcibcocbkaaGreatDoorZ34
namespace Go.Proofs.YtognhcibcocbkaaGreatDoor
open Go.RowKit
section
variable (L0:List Tok) (hL:L0.length≤4001)
def RO (m:Int) (sp:Nat⊕(S57×List Tok)) (t:S57) (rd:Int×Int×Int):Prop:=match sp with
 |.inr y=>t=y.1∧∃ j:Nat,L0.drop j=y.2∧Good y.2∧rd=((j:Int),(m,-1))
 |.inl o=>∃ n,rd=(n,(m,((o:Nat):Int)))
def ROs (m:Int) (out:List S57) (sp:Nat⊕(List S57×List Tok)) (l:List S57) (rd:Int×Int×Int):Prop:=match sp with
 |.inr y=>l=out++y.1∧∃ j:Nat,L0.drop j=y.2∧Good y.2∧rd=((j:Int),(m,-1))
 |.inl o=>∃ n,rd=(n,(m,((o:Nat):Int)))
def RdT (f:Nat):Prop:=∀ (d:Nat) (L:List Tok) (i:Nat) (m:Int),L0.drop i=L→Good L→d≤9→2*L.length+1≤f →
 ∃ t rd,qhv (L0.map wordW) (i:Int) m (-1) (d:Int)=some (tup t,rd)∧RO L0 m (sTest f d L) t rd
def RdTs (f:Nat):Prop:=∀ (d:Nat) (L:List Tok) (i:Nat) (m:Int) (out:List S57) (a1:Int) (a2:Nat) (a3:ByteArray) (a4:Int) (a5:ByteArray) (a6 c1 c2 c3 t1:Int) (t3:ByteArray) (t4:Int) (t5:ByteArray) (t6:Int) (B4:List S57),
 L0.drop i=L→Good L→d≤8→2*L.length+2≤f→out.length+L.length≤4001 →
 ∃ fl rd l,qhg (L0.map wordW) (d:Int) (i:Int) m (-1) a1 a2 a3 a4 a5 a6 c1 c2 c3 t1 out.length t3 t4 t5 t6 B4 out=some (.inr ((L0.map wordW,((d:Int),((),((),((),((),fl)))))),(rd,((a1,(a2,(a3,(a4,(a5,a6))))),((c1,(c2,c3)),((t1,(l.length,(t3,(t4,(t5,t6))))),(B4,l))))))) ∧
  ROs L0 m out (sTests f (d+1) L) l rd
include hL
theorem qs1 {f:Nat} (ih:RdT L0 f) (ihs:RdTs L0 f):RdTs L0 (f+1):=by
 intro d L i m out a1 a2 a3 a4 a5 a6 c1 c2 c3 t1 t3 t4 t5 t6 B4 hi hg hd hf ho
 have hpos:0<L.length:=by obtain ⟨x,R,rfl⟩:=hg.ne;simp
 have wd:IntKind.i64.wrap ((d:Int)+1)=((d+1:Nat):Int):=q168 (n:=100) (by omega) (by omega)
 obtain ⟨t,rd,h1,h2⟩:=ih (d+1) L i m hi hg (by omega) (by omega)
 have g1:decide ((out.length+1+(out.length+1) / 4+192)*80≤281474976710656)=true:=by simp;omega
 have g2:decide (out.length+1≤9223372036854775807)=true:=by simp;omega
 have eL:(out++[t]).length=out.length+1:=by simp
 unfold sTests
 cases hs:sTest f (d+1) L with
 |inl o =>
  rw [hs] at h2
  obtain ⟨n,rfl⟩:=h2
  refine ⟨true,(n,(m,((o:Nat):Int))),out++[t],qhi ?_,⟨n,rfl⟩⟩
  simp only [qhn,gL,dL,wI,aL,dQ,q3w,q8t,EC.decL_encL,EC.isL_encL,q1l,q21,show (-1:Int)<0 by omega,decide_true,if_true,wd,h1,Option.bind_some,List.length_cons,List.length_nil,Nat.zero_add,g1,g2,List.all_cons,List.all_nil,beq_self_eq_true,Bool.and_self,show ((o:Nat):Int)≥0 by omega,show (true==false)=false from rfl,Bool.false_eq_true,if_false,eL,eta_T]
 |inr y =>
  have hlen:=qbw hs
  rw [hs] at h2
  obtain ⟨rfl,j,j1,j2,rfl⟩:=h2
  obtain ⟨c,R2,hy⟩:=j2.ne
  rw [hy] at j1 j2
  have his:=ris_s L0 j1 m (-1) (k:=4) (by decide) (kd:=115) rfl [44]
  have his:qog (L0.map wordW) (j:Int) m (-1) 115 (ByteArray.mk (List.toArray [44]))=some (isT 4 [44] (c::R2)):=his
  simp only [thn]
  rw [hy]
  cases hc:isT 4 [44] (c::R2) with
  |false =>
   rw [hc] at his
   refine ⟨true,((j:Int),(m,-1)),out++[y.1],qhi ?_,?_⟩
   ·simp only [qhn,gL,dL,wI,aL,dQ,q3w,q8t,EC.decL_encL,EC.isL_encL,q1l,q21,show (-1:Int)<0 by omega,decide_true,if_true,wd,h1,Option.bind_some,List.length_cons,List.length_nil,Nat.zero_add,g1,g2,List.all_cons,List.all_nil,beq_self_eq_true,Bool.and_self,show ¬ (-1:Int)≥0 by omega,decide_false,his,Bool.not_false,eL,eta_T]
   ·rw [if_neg (by simp)]
    exact ⟨rfl,j,j1,j2,rfl⟩
  |true =>
   rw [hc] at his
   obtain ⟨k1,k2⟩:=qaf hc
   have hR2:=j2.tail (by rw [k1];rfl)
   have hj:=(q169 L0 j1).2.1
   have hjl:=(q169 L0 j1).1
   have wj:IntKind.i64.wrap ((j:Int)+1)=((j+1:Nat):Int):=q168 hjl (by omega)
   rw [hy] at hlen
   simp only [List.length_cons] at hlen
   obtain ⟨fl,rd2,l,q1,q2⟩:=ihs d R2 (j+1) m (out++[y.1]) a1 a2 a3 a4 a5 a6 c1 c2 c3 t1 t3 t4 t5 t6 B4 hj hR2 hd (by omega) (by rw [eL];omega)
   rw [eL] at q1
   refine ⟨fl,rd2,l,qhi ?_,?_⟩
   ·simp only [qhn,gL,dL,wI,aL,dQ,q3w,q8t,EC.decL_encL,EC.isL_encL,q1l,q21,show (-1:Int)<0 by omega,decide_true,if_true,wd,h1,Option.bind_some,List.length_cons,List.length_nil,Nat.zero_add,g1,g2,List.all_cons,List.all_nil,beq_self_eq_true,Bool.and_self,show ¬ (-1:Int)≥0 by omega,decide_false,his,Bool.not_true,Bool.false_eq_true,if_false,eta_T,wj,q1]
   ·rw [if_pos rfl]
    simp only [List.tail_cons]
    cases hs2:sTests f (d+1) R2 with
    |inl o =>
     rw [hs2] at q2
     exact q2
    |inr z =>
     rw [hs2] at q2
     obtain ⟨rfl,j3,j4,j5,rfl⟩:=q2
     exact ⟨by simp,j3,j4,j5,rfl⟩
theorem qrx {f:Nat} (ih:RdT L0 f) (ihs:RdTs L0 f):RdT L0 (f+1):=by
 intro d L i m hi hg hd hf
 obtain ⟨x,R,rfl⟩:=hg.ne
 simp only [List.length_cons] at hf
 unfold sTest
 have ht:=qrz L0 hL hi m (k:=2) (by decide) (kd:=119) rfl
 by_cases h8:8<d
 ·rw [if_pos (Or.inl h8)]
  have hw:=q110 L0 hi (i:Int) m
  refine ⟨⟨0,[],noTx,0,noTx,0⟩,((i:Int),(m,((x.o:Nat):Int))),qgg ?_,⟨_,rfl⟩⟩
  simp only [qhw,gL,dL,q3w,q8t,EC.decL_encL,EC.isL_encL,show (-1:Int)<0 by omega,decide_true,beq_self_eq_true,if_true,show (d:Int)>8 by omega,hw,Option.bind_some]
  rfl
 have h8':¬ (d:Int)>8:=by omega
 by_cases hx:x.k=2
 case neg =>
  rw [if_pos (Or.inr hx)]
  rw [if_neg hx] at ht
  exact ⟨⟨0,[],noTx,0,noTx,0⟩,_,qrw (L0.map wordW) (d:Int) (i:Int) m (s:=[]) h8' ht rfl (q10z _ _ _ _ (by omega)),⟨_,rfl⟩⟩
 rw [if_pos hx] at ht
 rw [if_neg (by omega)]
 have hR:=hg.tail (by rw [hx];rfl)
 have hi2:=(q169 L0 hi).2.1
 have hle:=q14y x.s
 have wd:IntKind.i64.wrap ((d:Int)+1)=((d+1:Nat):Int):=q168 (n:=100) (by omega) (by omega)
 by_cases h0:testN x.s=0
 ·simp only [h0]
  exact ⟨⟨0,[],noTx,0,noTx,0⟩,_,qrw (L0.map wordW) (d:Int) (i:Int) m h8' ht h0 (q110 L0 hi _ m),⟨_,rfl⟩⟩
 by_cases h1:testN x.s=1
 ·simp only [h1]
  exact ⟨tst 1 [] [] 0 [] 0,_,qru (L0.map wordW) (d:Int) (i:Int) m h8' ht (k:=1) (by rw [h1];rfl) (by omega) (by omega) (by omega) (g16_to _ _ _ _ _ _ _ _ _ _ _ _ _ _ _ _ _ _ _ _ _ _ (by omega) (q8o _ _ _ _ _ _ _ _ _ _ _ _ _ _ _ _ _ _ _ _ _ _ (Or.inl rfl))),
   rfl,i+1,hi2,hR,rfl⟩
 by_cases h2:testN x.s=2
 ·simp only [h2]
  obtain ⟨t,rd,q1,q2⟩:=ih (d+1) R (i+1) m hi2 hR (by omega) (by omega)
  refine ⟨tst 2 [t] [] 0 [] 0,rd,qru (L0.map wordW) (d:Int) (i:Int) m h8' ht (k:=2) (by rw [h2];rfl) (by omega) (by omega) (by omega) (q8m _ _ _ _ _ _ _ _ _ _ _ _ _ _ _ _ _ _ _ _ _ wd q1),?_⟩
  cases hs:sTest f (d+1) R with
  |inl o=>rw [hs] at q2;exact q2
  |inr y =>
   rw [hs] at q2
   obtain ⟨rfl,j,j1,j2,rfl⟩:=q2
   exact ⟨rfl,j,j1,j2,rfl⟩
 have lst:∀ k:Nat,testN x.s=k→(k=3∨k=4)→∃ t rd,qhv (L0.map wordW) (i:Int) m (-1) (d:Int)=some (tup t,rd) ∧
   RO L0 m (thn (sNeed [40] R) fun r1=>thn (sTests f (d+1) r1) fun y=>thn (sNeed [41] y.2) fun r2=>.inr (tst k y.1 [] 0 [] 0,r2)) t rd:=by
  intro k hk hk34
  have hk':((testN x.s:Nat):Int)=(k:Int):=by rw [hk]
  have hk0:(k:Int)≠0∧(k:Int)≠5∧(k:Int)≠9∧((k:Int)=3∨(k:Int)=4):=by omega
  obtain ⟨y0,R0,rfl⟩:=hR.ne
  have hsk:=qrt L0 hL hi2 m (k:=4) (by decide) (kd:=115) rfl [40]
  simp only [sNeed]
  cases ho:isT 4 [40] (y0::R0) with
  |false =>
   rw [ho,if_neg (by simp)] at hsk
   refine ⟨⟨k,[],noTx,0,noTx,0⟩,_,qru (L0.map wordW) (d:Int) (i:Int) m h8' ht hk' hk0.1 hk0.2.1 hk0.2.2.1 (q8l _ _ _ _ _ _ _ _ _ _ _ _ _ _ _ _ _ _ _ _ _ _ hk0.2.2.2 hsk (qaz _ _ _ _ _ _ _ _ _ _ _ _ _ _ _ _ _ _ _ _ _ _ (by omega)) rfl (qrs _ _ _ _ _ (by omega))),⟨_,rfl⟩⟩
  |true =>
   rw [ho,if_pos rfl] at hsk
   obtain ⟨k1,k2⟩:=qaf ho
   have hR0:=hR.tail (by rw [k1];rfl)
   have hi3:=(q169 L0 hi2).2.1
   simp only [if_true,List.tail_cons,thn]
   have hlen:L0.length=i+2+R0.length:=by
    have:=congrArg List.length hi3
    rw [List.length_drop] at this
    have:=(q169 L0 hi2).1
    omega
   simp only [List.length_cons] at hf
   obtain ⟨fl,rd,l,q1,q2⟩:=ihs d R0 (i+2) m [] 0 0 noTx 0 noTx 0 0 0 0 (k:Int) noTx 0 noTx 0 [] hi3 hR0 (by omega) (by omega) (by simp;omega)
   obtain ⟨s1,s2,s3⟩:=rd
   cases hs:sTests f (d+1) R0 with
   |inl o =>
    rw [hs] at q2
    obtain ⟨n,q2⟩:=q2
    injection q2 with e1 q2
    injection q2 with e2 e3
    have e2:=e2.symm
    subst e1;subst e2;subst e3
    exact ⟨⟨k,l,noTx,0,noTx,0⟩,_,qru (L0.map wordW) (d:Int) (i:Int) m h8' ht hk' hk0.1 hk0.2.1 hk0.2.2.1 (q8l _ _ _ _ _ _ _ _ _ _ _ _ _ _ _ _ _ _ _ _ _ _ hk0.2.2.2 hsk q1 rfl (qrs _ _ _ _ _ (by omega))),⟨_,rfl⟩⟩
   |inr y =>
    rw [hs] at q2
    obtain ⟨rfl,j,j1,j2,q2⟩:=q2
    injection q2 with e1 q2
    injection q2 with e2 e3
    have e2:=e2.symm
    subst e1;subst e2;subst e3
    obtain ⟨z,R3,hz⟩:=j2.ne
    dsimp only
    rw [hz] at j1 j2 ⊢
    have hsk2:=qrt L0 hL j1 m (k:=4) (by decide) (kd:=115) rfl [41]
    cases hc:isT 4 [41] (z::R3) with
    |false =>
     rw [hc,if_neg (by simp)] at hsk2
     exact ⟨⟨k,[]++y.1,noTx,0,noTx,0⟩,_,qru (L0.map wordW) (d:Int) (i:Int) m h8' ht hk' hk0.1 hk0.2.1 hk0.2.2.1 (q8l _ _ _ _ _ _ _ _ _ _ _ _ _ _ _ _ _ _ _ _ _ _ hk0.2.2.2 hsk q1 rfl hsk2),⟨_,rfl⟩⟩
    |true =>
     rw [hc,if_pos rfl] at hsk2
     obtain ⟨k1,k2⟩:=qaf hc
     exact ⟨⟨k,[]++y.1,noTx,0,noTx,0⟩,_,qru (L0.map wordW) (d:Int) (i:Int) m h8' ht hk' hk0.1 hk0.2.1 hk0.2.2.1 (q8l _ _ _ _ _ _ _ _ _ _ _ _ _ _ _ _ _ _ _ _ _ _ hk0.2.2.2 hsk q1 rfl hsk2),
      rfl,j+1,(q169 L0 j1).2.1,j2.tail (by rw [k1];rfl),rfl⟩
 by_cases h3:testN x.s=3
 ·simp only [h3];exact lst 3 h3 (Or.inl rfl)
 by_cases h4:testN x.s=4
 ·simp only [h4];exact lst 4 h4 (Or.inr rfl)
 by_cases h5:testN x.s=5
 ·simp only [h5]
  obtain ⟨y0,R0,rfl⟩:=hR.ne
  have ht2:=qrz L0 hL hi2 m (k:=1) (by decide) (kd:=113) rfl
  simp only [sTake]
  by_cases hy:y0.k=1
  ·rw [if_pos hy] at ht2 ⊢
   have hR0:=hR.tail (by rw [hy];rfl)
   have hi3:=(q169 L0 hi2).2.1
   obtain ⟨z0,Z0,rfl⟩:=hR0.ne
   have hp:=qrn L0 hL hi3 hR0 m
   simp only [thn]
   cases hs:sMatch (z0::Z0) with
   |inl o =>
    rw [hs] at hp
    obtain ⟨z1,z2,z3,hp⟩:=hp
    exact ⟨⟨5,[],baL y0.s,z1,z2,0⟩,_,qrv (L0.map wordW) (d:Int) (i:Int) m h8' ht (k:=5) (by rw [h5];rfl) (Or.inl rfl) ht2 (q8n _ _ _ _ _ _ _ _ _ _ _ _ _ _ _ _ _ _ _ _ _ _ (by omega) hp),⟨_,rfl⟩⟩
   |inr z =>
    rw [hs] at hp
    obtain ⟨j,j1,j2,hp⟩:=hp
    exact ⟨⟨5,[],baL y0.s,_,_,0⟩,_,qrv (L0.map wordW) (d:Int) (i:Int) m h8' ht (k:=5) (by rw [h5];rfl) (Or.inl rfl) ht2 (q8n _ _ _ _ _ _ _ _ _ _ _ _ _ _ _ _ _ _ _ _ _ _ (by omega) hp),rfl,j,j1,j2,rfl⟩
  ·rw [if_neg hy] at ht2 ⊢
   exact ⟨⟨5,[],noTx,0,noTx,0⟩,_,qrv (L0.map wordW) (d:Int) (i:Int) m h8' ht (k:=5) (by rw [h5];rfl) (Or.inl rfl) ht2 (q8n _ _ _ _ _ _ _ _ _ _ _ _ _ _ _ _ _ _ _ _ _ _ (by omega) (qrm _ _ _ (by omega))),⟨_,rfl⟩⟩
 have mat:∀ k:Nat,testN x.s=k→(k=6∨k=7)→∃ t rd,qhv (L0.map wordW) (i:Int) m (-1) (d:Int)=some (tup t,rd) ∧
   RO L0 m (thn (sMatch R) fun z=>.inr (tst k [] [] z.1.1 z.1.2 0,z.2)) t rd:=by
  intro k hk hk67
  have hk':((testN x.s:Nat):Int)=(k:Int):=by rw [hk]
  obtain ⟨z0,Z0,rfl⟩:=hR.ne
  have hp:=qrn L0 hL hi2 hR m
  cases hs:sMatch (z0::Z0) with
  |inl o =>
   rw [hs] at hp
   obtain ⟨z1,z2,z3,hp⟩:=hp
   exact ⟨⟨k,[],noTx,z1,z2,0⟩,_,qru (L0.map wordW) (d:Int) (i:Int) m h8' ht hk' (by omega) (by omega) (by omega) (q8n _ _ _ _ _ _ _ _ _ _ _ _ _ _ _ _ _ _ _ _ _ _ (by omega) hp),⟨_,rfl⟩⟩
  |inr z =>
   rw [hs] at hp
   obtain ⟨j,j1,j2,hp⟩:=hp
   exact ⟨⟨k,[],noTx,_,_,0⟩,_,qru (L0.map wordW) (d:Int) (i:Int) m h8' ht hk' (by omega) (by omega) (by omega) (q8n _ _ _ _ _ _ _ _ _ _ _ _ _ _ _ _ _ _ _ _ _ _ (by omega) hp),rfl,j,j1,j2,rfl⟩
 by_cases h6:testN x.s=6
 ·simp only [h6];exact mat 6 h6 (Or.inl rfl)
 by_cases h7:testN x.s=7
 ·simp only [h7];exact mat 7 h7 (Or.inr rfl)
 by_cases h8n:testN x.s=8
 ·simp only [h8n]
  obtain ⟨z0,Z0,rfl⟩:=hR.ne
  have hn:=qrj L0 hL hi2 hR m
  simp only [sNum]
  by_cases hz:z0.k=3∧numOk z0.s=true
  ·rw [if_pos hz] at hn ⊢
   exact ⟨⟨8,[],noTx,0,noTx,_⟩,_,qru (L0.map wordW) (d:Int) (i:Int) m h8' ht (k:=8) (by rw [h8n];rfl) (by omega) (by omega) (by omega) (g16_to _ _ _ _ _ _ _ _ _ _ _ _ _ _ _ _ _ _ _ _ _ _ (by omega) (q8p _ _ _ _ _ _ _ _ _ _ _ _ _ _ _ _ _ _ _ _ _ hn)),
    rfl,i+2,(q169 L0 hi2).2.1,hR.tail (by rw [hz.1];rfl),rfl⟩
  ·rw [if_neg hz] at hn ⊢
   exact ⟨⟨8,[],noTx,0,noTx,0⟩,_,qru (L0.map wordW) (d:Int) (i:Int) m h8' ht (k:=8) (by rw [h8n];rfl) (by omega) (by omega) (by omega) (g16_to _ _ _ _ _ _ _ _ _ _ _ _ _ _ _ _ _ _ _ _ _ _ (by omega) (q8p _ _ _ _ _ _ _ _ _ _ _ _ _ _ _ _ _ _ _ _ _ hn)),⟨_,rfl⟩⟩
 have h9:testN x.s=9:=by omega
 simp only [h9]
 obtain ⟨y0,R0,rfl⟩:=hR.ne
 have ht2:=qrz L0 hL hi2 m (k:=1) (by decide) (kd:=113) rfl
 simp only [sTake]
 by_cases hy:y0.k=1
 ·rw [if_pos hy] at ht2 ⊢
  exact ⟨⟨9,[],baL y0.s,0,noTx,0⟩,_,qrv (L0.map wordW) (d:Int) (i:Int) m h8' ht (k:=9) (by rw [h9];rfl) (Or.inr rfl) ht2 (g16_to _ _ _ _ _ _ _ _ _ _ _ _ _ _ _ _ _ _ _ _ _ _ (by omega) (q8o _ _ _ _ _ _ _ _ _ _ _ _ _ _ _ _ _ _ _ _ _ _ (Or.inr (Or.inr rfl)))),
   rfl,i+2,(q169 L0 hi2).2.1,hR.tail (by rw [hy];rfl),rfl⟩
 ·rw [if_neg hy] at ht2 ⊢
  exact ⟨⟨9,[],noTx,0,noTx,0⟩,_,qrv (L0.map wordW) (d:Int) (i:Int) m h8' ht (k:=9) (by rw [h9];rfl) (Or.inr rfl) ht2 (g16_to _ _ _ _ _ _ _ _ _ _ _ _ _ _ _ _ _ _ _ _ _ _ (by omega) (q8o _ _ _ _ _ _ _ _ _ _ _ _ _ _ _ _ _ _ _ _ _ _ (Or.inr (Or.inr rfl)))),⟨_,rfl⟩⟩
theorem rt_all:∀ f,RdT L0 f∧RdTs L0 f
 |0=>⟨fun d L i m _ hg _ h=>by omega,fun d L i m _ _ _ _ _ _ _ _ _ _ _ _ _ _ _ _ _ hg _ h=>by omega⟩
 |f+1=>⟨qrx L0 hL (rt_all f).1 (rt_all f).2,qs1 L0 hL (rt_all f).1 (rt_all f).2⟩
end
end Go.Proofs.YtognhcibcocbkaaGreatDoor
