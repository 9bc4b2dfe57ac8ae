/- The reference reads rules. -/
import Derived.Test.YtognhcibcocbkaaGreatDoorA6
import Derived.Test.YtognhcibcocbkaaGreatDoorB5
namespace Go.Proofs.YtognhcibcocbkaaGreatDoor
open Go.RowKit
section
variable (W:List S53) (d:Int)
abbrev L2o:=((Nat×Unit)×((List S59)×(Int×Int×Int)))⊕(((List S53)×Int×Unit×Unit×Nat×Bool)×((Int×Int×Int)×(Int×Int×Int)×(List S59)))
theorem g36_s (p1 p2 p3 q1 q2 q3 j1 j2 j3:Int) (n2 n7 n8:Nat) (out:List S59) (ho:out.length≤5000) (ru:S59) (hs:qpw W p1 p2 p3 115 (baL [59])=some (q1,(q2,q3))) :
  qfp W d out.length p1 p2 p3 j1 j2 j3 out ru.Kind ru.Test_Kind n2 ru.Test_Name ru.Test_Pattern ru.Test_Text ru.Test_N n7 n8 ru.Act ru.Name ru.Text ru.N ru.Test_Tests ru.Then ru.Else =
   some ((W,(d,((),((),out.length+1)))),((q1,(q2,q3)),((j1,(j2,j3)),out++[ru]))):=by
 have hs:qpw W p1 p2 p3 115 (ByteArray.mk (List.toArray [(59:UInt8)]))=some (q1,(q2,q3)):=hs
 have e1:decide ((out.length+1+(out.length+1) / 4+192)*184≤281474976710656)=true:=by simp;omega
 have e2:decide (out.length+1≤9223372036854775807)=true:=by simp;omega
 refine qfr ?_
 simp only [qfv,z1a,gL,dL,aL,dQ,q8t,EC.decL_encL,EC.isL_encL,q1m,q22,hs,Option.bind_some,if_true,List.length_cons,List.length_nil,Nat.zero_add,e1,e2,List.all_cons,List.all_nil,beq_self_eq_true,Bool.and_self,eta_R]
theorem qrg (n m:Int) {bd:Int} (hb:0≤bd) (j1 j2 j3:Int) (out:List S59):qfw W d out.length n m bd j1 j2 j3 out=some (.inr ((W,(d,((),((),(out.length,false))))),((n,(m,bd)),((j1,(j2,j3)),out)))):=by
 refine qg5 ?_
 simp only [qga,z1b,gL,dL,eC,wI,p0,aL,dQ,q3w,q8t,EC.decL_encL,EC.isL_encL,EC.encL_length,q1m,q22,qa9,q27,q28,show ¬ bd<0 by omega,decide_false,show (false==true)=false from rfl,Bool.false_eq_true,if_false,if_true]
def l2v (x:L2o):List S59×(Int×Int×Int):=Sum.elim (fun r=>r.2) (fun r=>(r.2.2.2,r.2.1)) x
theorem qrp {n m bd:Int} {x:L2o} (h:qfw W d 0 n m bd 0 0 0 []=some x):qgb W n m bd d=some (l2v x):=by
 have e1:q5u.decL []=[]:=rfl
 refine qfg ?_
 simp only [qgc,gL,dL,q8t,EC.decL_encL,EC.isL_encL,e1,h,Option.bind_some,if_true]
 cases x <;> simp only [Sum.elim_inl,Sum.elim_inr,l2v]
theorem qqt {n m bd:Int} {r1 r2 r3:Int} {l:List S59} {s1 s2 s3:Int} {q1 q2 q3:Int} (h1:qpw W n m bd 115 (baL [123])=some (r1,(r2,r3))) (h2:qgb W r1 r2 r3 d=some (l,(s1,(s2,s3))))
  (h3:qpw W s1 s2 s3 115 (baL [125])=some (q1,(q2,q3))):qpq W n m bd d=some (l,(q1,(q2,q3))):=by
 have h1:qpw W n m bd 115 (ByteArray.mk (List.toArray [(123:UInt8)]))=some (r1,(r2,r3)):=h1
 have h3:qpw W s1 s2 s3 115 (ByteArray.mk (List.toArray [(125:UInt8)]))=some (q1,(q2,q3)):=h3
 refine qpp ?_
 simp only [qpr,gL,dL,q8t,EC.decL_encL,EC.isL_encL,h1,h2,h3,Option.bind_some,if_true]
theorem qqs (n m:Int) {bd:Int} (hb:0≤bd):qpq W n m bd d=some ([],(n,(m,bd))) :=
 qqt W d (qrs _ _ _ _ _ hb) (qrp W d (qrg W d n m hb 0 0 0 [])) (qrs _ _ _ _ _ hb)
variable (fr:Int) (s:List UInt8) (p1 p2 p3 j1 j2 j3:Int) (out:List S59)
theorem l26_8 (kd:Int):qfx W d out.length fr (baL s) 8 p1 p2 p3 j1 j2 j3 out 2 0 0 noTx 0 noTx 0 0 0 kd noTx noTx 0 [] [] []=some ((W,(d,((),((),(out.length,(fr,(baL s,((),(8,false))))))))),((p1,(p2,p3)),((j1,(j2,j3)),(out,((2,(0,(0,(noTx,(0,(noTx,(0,(0,(0,(kd,(noTx,(noTx,0)))))))))))),([],([],[]))))))):=by
 refine qfz ?_
 simp only [qg3,gL,dL,wI,p0,q3w,q8t,EC.decL_encL,EC.isL_encL,show ¬ (8:Int)≤7 by omega,decide_false,Bool.false_eq_true,if_false,if_true]
theorem l26_7 (kd:Int):qfx W d out.length fr (baL s) 7 p1 p2 p3 j1 j2 j3 out 2 0 0 noTx 0 noTx 0 0 0 kd noTx noTx 0 [] [] []=some ((W,(d,((),((),(out.length,(fr,(baL s,((),(8,false))))))))),((p1,(p2,p3)),((j1,(j2,j3)),(out,((2,(0,(0,(noTx,(0,(noTx,(0,(0,(0,((if s=wReply then (7:Int) else kd),(noTx,(noTx,0)))))))))))),([],([],[]))))))):=by
 have w1:IntKind.i64.wrap ((7:Int)+1)=8:=q167 (by omega)
 have b1:=q3m s wReply
 have hn:=l26_8 W d fr s p1 p2 p3 j1 j2 j3 out
 refine qfz ?_
 simp only [qg3,gL,dL,wI,p0,q3w,q8t,EC.decL_encL,EC.isL_encL,show (7:Int)≤7 by omega,decide_true,if_true,w1,show Int.toNat 7=7 from rfl,hn]
 rw [if_pos (by decide),if_pos (by decide),if_pos (by decide)]
 by_cases h:s=wReply
 ·rw [if_pos (by exact b1.trans (by simp [h])),if_pos h]
 ·rw [if_neg (by exact fun e=>h (by have:=b1.symm.trans e;simpa using this)),if_neg h]
theorem l26_6 (kd:Int):qfx W d out.length fr (baL s) 6 p1 p2 p3 j1 j2 j3 out 2 0 0 noTx 0 noTx 0 0 0 kd noTx noTx 0 [] [] []=some ((W,(d,((),((),(out.length,(fr,(baL s,((),(8,false))))))))),((p1,(p2,p3)),((j1,(j2,j3)),(out,((2,(0,(0,(noTx,(0,(noTx,(0,(0,(0,((if s=wReply then (7:Int) else (if s=wFlag then (6:Int) else kd)),(noTx,(noTx,0)))))))))))),([],([],[]))))))):=by
 have w1:IntKind.i64.wrap ((6:Int)+1)=7:=q167 (by omega)
 have b1:=q3m s wFlag
 have hn:=l26_7 W d fr s p1 p2 p3 j1 j2 j3 out
 refine qfz ?_
 simp only [qg3,gL,dL,wI,p0,q3w,q8t,EC.decL_encL,EC.isL_encL,show (6:Int)≤7 by omega,decide_true,if_true,w1,show Int.toNat 6=6 from rfl,hn]
 rw [if_pos (by decide),if_pos (by decide),if_pos (by decide)]
 by_cases h:s=wFlag
 ·rw [if_pos (by exact b1.trans (by simp [h])),if_pos h]
 ·rw [if_neg (by exact fun e=>h (by have:=b1.symm.trans e;simpa using this)),if_neg h]
theorem l26_5 (kd:Int):qfx W d out.length fr (baL s) 5 p1 p2 p3 j1 j2 j3 out 2 0 0 noTx 0 noTx 0 0 0 kd noTx noTx 0 [] [] []=some ((W,(d,((),((),(out.length,(fr,(baL s,((),(8,false))))))))),((p1,(p2,p3)),((j1,(j2,j3)),(out,((2,(0,(0,(noTx,(0,(noTx,(0,(0,(0,((if s=wReply then (7:Int) else (if s=wFlag then (6:Int) else (if s=wReject then (5:Int) else kd))),(noTx,(noTx,0)))))))))))),([],([],[]))))))):=by
 have w1:IntKind.i64.wrap ((5:Int)+1)=6:=q167 (by omega)
 have b1:=q3m s wReject
 have hn:=l26_6 W d fr s p1 p2 p3 j1 j2 j3 out
 refine qfz ?_
 simp only [qg3,gL,dL,wI,p0,q3w,q8t,EC.decL_encL,EC.isL_encL,show (5:Int)≤7 by omega,decide_true,if_true,w1,show Int.toNat 5=5 from rfl,hn]
 rw [if_pos (by decide),if_pos (by decide),if_pos (by decide)]
 by_cases h:s=wReject
 ·rw [if_pos (by exact b1.trans (by simp [h])),if_pos h]
 ·rw [if_neg (by exact fun e=>h (by have:=b1.symm.trans e;simpa using this)),if_neg h]
theorem l26_4 (kd:Int):qfx W d out.length fr (baL s) 4 p1 p2 p3 j1 j2 j3 out 2 0 0 noTx 0 noTx 0 0 0 kd noTx noTx 0 [] [] []=some ((W,(d,((),((),(out.length,(fr,(baL s,((),(8,false))))))))),((p1,(p2,p3)),((j1,(j2,j3)),(out,((2,(0,(0,(noTx,(0,(noTx,(0,(0,(0,((if s=wReply then (7:Int) else (if s=wFlag then (6:Int) else (if s=wReject then (5:Int) else (if s=wRedirect then (4:Int) else kd)))),(noTx,(noTx,0)))))))))))),([],([],[]))))))):=by
 have w1:IntKind.i64.wrap ((4:Int)+1)=5:=q167 (by omega)
 have b1:=q3m s wRedirect
 have hn:=l26_5 W d fr s p1 p2 p3 j1 j2 j3 out
 refine qfz ?_
 simp only [qg3,gL,dL,wI,p0,q3w,q8t,EC.decL_encL,EC.isL_encL,show (4:Int)≤7 by omega,decide_true,if_true,w1,show Int.toNat 4=4 from rfl,hn]
 rw [if_pos (by decide),if_pos (by decide),if_pos (by decide)]
 by_cases h:s=wRedirect
 ·rw [if_pos (by exact b1.trans (by simp [h])),if_pos h]
 ·rw [if_neg (by exact fun e=>h (by have:=b1.symm.trans e;simpa using this)),if_neg h]
theorem l26_3 (kd:Int):qfx W d out.length fr (baL s) 3 p1 p2 p3 j1 j2 j3 out 2 0 0 noTx 0 noTx 0 0 0 kd noTx noTx 0 [] [] []=some ((W,(d,((),((),(out.length,(fr,(baL s,((),(8,false))))))))),((p1,(p2,p3)),((j1,(j2,j3)),(out,((2,(0,(0,(noTx,(0,(noTx,(0,(0,(0,((if s=wReply then (7:Int) else (if s=wFlag then (6:Int) else (if s=wReject then (5:Int) else (if s=wRedirect then (4:Int) else (if s=wDiscard then (3:Int) else kd))))),(noTx,(noTx,0)))))))))))),([],([],[]))))))):=by
 have w1:IntKind.i64.wrap ((3:Int)+1)=4:=q167 (by omega)
 have b1:=q3m s wDiscard
 have hn:=l26_4 W d fr s p1 p2 p3 j1 j2 j3 out
 refine qfz ?_
 simp only [qg3,gL,dL,wI,p0,q3w,q8t,EC.decL_encL,EC.isL_encL,show (3:Int)≤7 by omega,decide_true,if_true,w1,show Int.toNat 3=3 from rfl,hn]
 rw [if_pos (by decide),if_pos (by decide),if_pos (by decide)]
 by_cases h:s=wDiscard
 ·rw [if_pos (by exact b1.trans (by simp [h])),if_pos h]
 ·rw [if_neg (by exact fun e=>h (by have:=b1.symm.trans e;simpa using this)),if_neg h]
theorem l26_2 (kd:Int):qfx W d out.length fr (baL s) 2 p1 p2 p3 j1 j2 j3 out 2 0 0 noTx 0 noTx 0 0 0 kd noTx noTx 0 [] [] []=some ((W,(d,((),((),(out.length,(fr,(baL s,((),(8,false))))))))),((p1,(p2,p3)),((j1,(j2,j3)),(out,((2,(0,(0,(noTx,(0,(noTx,(0,(0,(0,((if s=wReply then (7:Int) else (if s=wFlag then (6:Int) else (if s=wReject then (5:Int) else (if s=wRedirect then (4:Int) else (if s=wDiscard then (3:Int) else (if s=wFile then (2:Int) else kd)))))),(noTx,(noTx,0)))))))))))),([],([],[]))))))):=by
 have w1:IntKind.i64.wrap ((2:Int)+1)=3:=q167 (by omega)
 have b1:=q3m s wFile
 have hn:=l26_3 W d fr s p1 p2 p3 j1 j2 j3 out
 refine qfz ?_
 simp only [qg3,gL,dL,wI,p0,q3w,q8t,EC.decL_encL,EC.isL_encL,show (2:Int)≤7 by omega,decide_true,if_true,w1,show Int.toNat 2=2 from rfl,hn]
 rw [if_pos (by decide),if_pos (by decide),if_pos (by decide)]
 by_cases h:s=wFile
 ·rw [if_pos (by exact b1.trans (by simp [h])),if_pos h]
 ·rw [if_neg (by exact fun e=>h (by have:=b1.symm.trans e;simpa using this)),if_neg h]
theorem l26_1 (kd:Int):qfx W d out.length fr (baL s) 1 p1 p2 p3 j1 j2 j3 out 2 0 0 noTx 0 noTx 0 0 0 kd noTx noTx 0 [] [] []=some ((W,(d,((),((),(out.length,(fr,(baL s,((),(8,false))))))))),((p1,(p2,p3)),((j1,(j2,j3)),(out,((2,(0,(0,(noTx,(0,(noTx,(0,(0,(0,((if s=wReply then (7:Int) else (if s=wFlag then (6:Int) else (if s=wReject then (5:Int) else (if s=wRedirect then (4:Int) else (if s=wDiscard then (3:Int) else (if s=wFile then (2:Int) else (if s=wKeep then (1:Int) else kd))))))),(noTx,(noTx,0)))))))))))),([],([],[]))))))):=by
 have w1:IntKind.i64.wrap ((1:Int)+1)=2:=q167 (by omega)
 have b1:=q3m s wKeep
 have hn:=l26_2 W d fr s p1 p2 p3 j1 j2 j3 out
 refine qfz ?_
 simp only [qg3,gL,dL,wI,p0,q3w,q8t,EC.decL_encL,EC.isL_encL,show (1:Int)≤7 by omega,decide_true,if_true,w1,show Int.toNat 1=1 from rfl,hn]
 rw [if_pos (by decide),if_pos (by decide),if_pos (by decide)]
 by_cases h:s=wKeep
 ·rw [if_pos (by exact b1.trans (by simp [h])),if_pos h]
 ·rw [if_neg (by exact fun e=>h (by have:=b1.symm.trans e;simpa using this)),if_neg h]
theorem l26_s:qfx W d out.length fr (baL s) 1 p1 p2 p3 j1 j2 j3 out 2 0 0 noTx 0 noTx 0 0 0 0 noTx noTx 0 [] [] []=some ((W,(d,((),((),(out.length,(fr,(baL s,((),(8,false))))))))),((p1,(p2,p3)),((j1,(j2,j3)),(out,((2,(0,(0,(noTx,(0,(noTx,(0,(0,(0,(((actN s:Nat):Int),(noTx,(noTx,0)))))))))))),([],([],[]))))))):=by
 rw [l26_1]
 have e:(if s=wReply then (7:Int) else (if s=wFlag then (6:Int) else (if s=wReject then (5:Int) else (if s=wRedirect then (4:Int) else (if s=wDiscard then (3:Int) else (if s=wFile then (2:Int) else (if s=wKeep then (1:Int) else 0)))))))=((actN s:Nat):Int):=by
  unfold actN
  by_cases h1:s=wKeep
  ·subst h1;rfl
  by_cases h2:s=wFile
  ·subst h2;rfl
  by_cases h3:s=wDiscard
  ·subst h3;rfl
  by_cases h4:s=wRedirect
  ·subst h4;rfl
  by_cases h5:s=wReject
  ·subst h5;rfl
  by_cases h6:s=wFlag
  ·subst h6;rfl
  by_cases h7:s=wReply
  ·subst h7;rfl
  simp [h1,h2,h3,h4,h5,h6,h7]
 rw [e]
end
section
variable (L0:List Tok) (hL:L0.length≤4001)
abbrev WW:=L0.map wordW
def ROL (W:List S59) (sp:Nat⊕(List S59×List Tok×Nat)) (v:List S59×(Int×Int×Int)):Prop:=match sp with
 |.inr y=>v.1=W++y.1∧y.2.2≤100∧∃ (j:Nat) (z:Tok) (R:List Tok),L0.drop j=z::R∧y.2.1=z::R∧Good (z::R)∧v.2=((j:Int),(((y.2.2:Nat):Int),-1))
 |.inl o=>(∃ n m,v.2=(n,(m,((o:Nat):Int))))∨(∃ (j:Nat) (z:Tok) (R:List Tok) (m:Int),L0.drop j=z::R∧Good (z::R)∧v.2=((j:Int),(m,-1))∧z.o=o∧stopB z=false)
def ROB (sp:Nat⊕(List S59×List Tok×Nat)) (l:List S59) (rd:Int×Int×Int):Prop:=match sp with
 |.inr y=>l=y.1∧y.2.2≤100∧∃ (j:Nat) (z:Tok) (R:List Tok),L0.drop j=z::R∧y.2.1=z::R∧Good (z::R)∧rd=((j:Int),(((y.2.2:Nat):Int),-1))
 |.inl o=>∃ n m,rd=(n,(m,((o:Nat):Int)))
def RB (f:Nat):Prop:=∀ (d m i:Nat) (L:List Tok),L0.drop i=L→Good L→d≤8→m≤100→2*L.length+3≤f →
 ∃ l rd,qpq (WW L0) (i:Int) (m:Int) (-1) ((d+1:Nat):Int)=some (l,rd)∧ROB L0 (sBlock f (d+1) m L) l rd
def RS (f:Nat):Prop:=∀ (d m i:Nat) (L:List Tok) (out:List S59),L0.drop i=L→Good L→d≤9→m≤100→2*L.length+4≤f→out.length+L.length≤4001 →
 ∃ x:L2o,qfw (WW L0) (d:Int) out.length (i:Int) (m:Int) (-1) 0 0 0 out=some x∧ROL L0 out (sRules f d m L) (l2v x)
include hL
theorem qqr {f:Nat} (ihs:RS L0 f):RB L0 (f+1):=by
 intro d m i L hi hg hd hm hf
 obtain ⟨x,R,rfl⟩:=hg.ne
 simp only [List.length_cons] at hf
 have hs1:=qrt L0 hL hi (m:Int) (k:=4) (by decide) (kd:=115) rfl [123]
 simp only [sBlock,sNeed]
 cases hc:isT 4 [123] (x::R) with
 |false =>
  rw [hc,if_neg (by simp)] at hs1
  exact ⟨[],_,qqt _ _ hs1 (qrp _ _ (qrg _ _ _ _ (by omega) 0 0 0 [])) (qrs _ _ _ _ _ (by omega)),_,_,rfl⟩
 |true =>
  rw [hc,if_pos rfl] at hs1
  have hR:=hg.tail (by rw [(qaf hc).1];rfl)
  have hi2:=(q169 L0 hi).2.1
  have hlen:L0.length=i+1+R.length:=by
   have:=congrArg List.length hi2
   rw [List.length_drop] at this
   have:=(q169 L0 hi).1
   omega
  obtain ⟨v,q1,q2⟩:=ihs (d+1) m (i+1) R [] hi2 hR (by omega) hm (by omega) (by simp;omega)
  have q1:=qrp _ _ q1
  simp only [if_true,List.tail_cons,thn]
  generalize l2v v=u at q1 q2
  obtain ⟨l,s1,s2,s3⟩:=u
  cases hs:sRules f (d+1) m R with
  |inl o =>
   rw [hs] at q2
   rcases q2 with ⟨n,m',e⟩|⟨j,z,R2,m',k1,k2,e,k4,k5⟩
   ·injection e with e1 e;injection e with e2 e3
    subst e1;subst e2;subst e3
    exact ⟨l,_,qqt _ _ hs1 q1 (qrs _ _ _ _ _ (by omega)),_,_,rfl⟩
   ·injection e with e1 e;injection e with e2 e3
    subst e1;subst e2;subst e3;subst k4
    have hs2:=qrt L0 hL k1 s2 (k:=4) (by decide) (kd:=115) rfl [125]
    have hn:isT 4 [125] (z::R2)=false:=by
     simp only [stopB,Bool.or_eq_false_iff,Bool.and_eq_false_iff] at k5
     simp only [isT,Bool.and_eq_false_iff]
     exact k5.2
    rw [hn,if_neg (by simp)] at hs2
    exact ⟨l,_,qqt _ _ hs1 q1 hs2,_,_,rfl⟩
  |inr y =>
   rw [hs] at q2
   obtain ⟨e0,q3,j,z,R2,k1,k2,k3,e⟩:=q2
   injection e with e1 e;injection e with e2 e3
   subst e1;subst e2;subst e3
   have e0:l=y.1:=by simpa using e0
   subst e0
   dsimp only
   rw [k2]
   have hs2:=qrt L0 hL k1 ((y.2.2:Nat):Int) (k:=4) (by decide) (kd:=115) rfl [125]
   cases hc2:isT 4 [125] (z::R2) with
   |false =>
    rw [hc2,if_neg (by simp)] at hs2
    exact ⟨_,_,qqt _ _ hs1 q1 hs2,_,_,rfl⟩
   |true =>
    rw [hc2,if_pos rfl] at hs2
    have hR2:=k3.tail (by rw [(qaf hc2).1];rfl)
    obtain ⟨z2,R3,e4⟩:=hR2.ne
    exact ⟨_,_,qqt _ _ hs1 q1 hs2,rfl,q3,j+1,z2,R3,by rw [(q169 L0 k1).2.1,e4],e4,by rw [←e4];exact hR2,rfl⟩
omit hL in
omit hL in
theorem apd_I0 (out:List S59) (t:S57) (l:List S59):q5u.encL out++[[C.int IntKind.i64 1,C.int IntKind.i64 t.Kind,C.sl (q5t.encL t.Tests),C.str t.Name,C.int IntKind.i64 t.Pattern,C.str t.Text,C.int IntKind.i64 t.N,C.sl (q5u.encL l),C.sl [],C.int IntKind.i64 0,C.str noTx,C.str noTx,C.int IntKind.i64 0]]=q5u.encL (out++[ruI t l []]):=apd_R out (ruI t l [])
theorem qb1 {d m i:Nat} {x:Tok} {R:List Tok} (hi:L0.drop i=x::R) (hx:x.k=2) (hd:d≤8) (hm:m+1≤100) (out:List S59) (ho:out.length≤4001) (hw:x.s=wIf) {t:S57} {a1 a2 a3:Int} {l:List S59} {b1 b2 b3:Int} (h1:qhv (WW L0) ((i+1:Nat):Int) ((m+1:Nat):Int) (-1) 1=some (tup t,(a1,(a2,a3)))) (h2:qpq (WW L0) a1 a2 a3 ((d+1:Nat):Int)=some (l,(b1,(b2,b3)))) (hb:0≤b3)
  {z:L2o} (hz:qfw (WW L0) (d:Int) (out.length+1) b1 b2 b3 0 0 0 (out++[ruI t l []])=some z):qfw (WW L0) (d:Int) out.length (i:Int) (m:Int) (-1) 0 0 0 out=some z:=by
 obtain ⟨w1,w2,w3⟩:=q169 L0 hi
 have wi:IntKind.i64.wrap ((i:Int)+1)=((i+1:Nat):Int):=q168 w1 (by omega)
 have wm:IntKind.i64.wrap ((m:Int)+1)=((m+1:Nat):Int):=q168 (n:=1000) (by omega) (by omega)
 have wd:IntKind.i64.wrap ((d:Int)+1)=((d+1:Nat):Int):=q168 (n:=1000) (by omega) (by omega)
 have hm100:¬ ((m+1:Nat):Int)>100:=by omega
 have wk:((wordW x).Kind==119)=true:=by simp [wordW,hx,kindW]
 have wt:(wordW x).Text=baL x.s:=rfl
 have e1:decide ((out.length+1+(out.length+1) / 4+192)*184≤281474976710656)=true:=by simp;omega
 have e2:decide (out.length+1≤9223372036854775807)=true:=by simp;omega
 have n0:q5u.encL []=[]:=rfl
 have d0:q5u.decL []=[]:=rfl
 have d1:q5t.decL []=[]:=rfl
 have twIf:(ByteArray.toList (baL x.s)==ByteArray.toList (ByteArray.mk (List.toArray [(105:UInt8),(102:UInt8)])))=true:=by rw [hw];exact (q3m wIf wIf).trans (by decide)
 refine qg5 ?_
 simp only [qga,z1b,gL,dL,eC,wI,p0,aL,dQ,q3w,q8t,EC.decL_encL,EC.isL_encL,EC.encL_length,q1m,q22,qa9,q27,q28,show (-1:Int)<0 by omega,decide_true,beq_self_eq_true,if_true,show (0:Int)≤(i:Int) by omega,Int.toNat_natCast,List.length_map,w1,Bool.and_self,w3,wk,show ¬ (d:Int)>8 by omega,decide_false,hm100,Bool.false_eq_true,if_false,wi,wm,Option.bind_some,wt,twIf,h1,wd,h2,show ¬ b3<0 by omega,show (false==true)=false from rfl,apd_I0,List.length_cons,List.length_nil,Nat.zero_add,e1,e2,List.all_cons,List.all_nil,hz]
theorem qb2 {d m i:Nat} {x:Tok} {R:List Tok} (hi:L0.drop i=x::R) (hx:x.k=2) (hd:d≤8) (hm:m+1≤100) (out:List S59) (ho:out.length≤4001) (hw:x.s=wIf) {t:S57} {a1 a2 a3:Int} {l:List S59} {b1 b2 b3:Int} (h1:qhv (WW L0) ((i+1:Nat):Int) ((m+1:Nat):Int) (-1) 1=some (tup t,(a1,(a2,a3)))) (h2:qpq (WW L0) a1 a2 a3 ((d+1:Nat):Int)=some (l,(b1,(b2,-1)))) (h3:qog (WW L0) b1 b2 (-1) 119 (baL wElse)=some false)
  {z:L2o} (hz:qfw (WW L0) (d:Int) (out.length+1) b1 b2 (-1) 0 0 0 (out++[ruI t l []])=some z):qfw (WW L0) (d:Int) out.length (i:Int) (m:Int) (-1) 0 0 0 out=some z:=by
 obtain ⟨w1,w2,w3⟩:=q169 L0 hi
 have wi:IntKind.i64.wrap ((i:Int)+1)=((i+1:Nat):Int):=q168 w1 (by omega)
 have wm:IntKind.i64.wrap ((m:Int)+1)=((m+1:Nat):Int):=q168 (n:=1000) (by omega) (by omega)
 have wd:IntKind.i64.wrap ((d:Int)+1)=((d+1:Nat):Int):=q168 (n:=1000) (by omega) (by omega)
 have hm100:¬ ((m+1:Nat):Int)>100:=by omega
 have wk:((wordW x).Kind==119)=true:=by simp [wordW,hx,kindW]
 have wt:(wordW x).Text=baL x.s:=rfl
 have e1:decide ((out.length+1+(out.length+1) / 4+192)*184≤281474976710656)=true:=by simp;omega
 have e2:decide (out.length+1≤9223372036854775807)=true:=by simp;omega
 have n0:q5u.encL []=[]:=rfl
 have d0:q5u.decL []=[]:=rfl
 have d1:q5t.decL []=[]:=rfl
 have twIf:(ByteArray.toList (baL x.s)==ByteArray.toList (ByteArray.mk (List.toArray [(105:UInt8),(102:UInt8)])))=true:=by rw [hw];exact (q3m wIf wIf).trans (by decide)
 have h3:qog (WW L0) b1 b2 (-1) 119 (ByteArray.mk (List.toArray [(101:UInt8),(108:UInt8),(115:UInt8),(101:UInt8)]))=some false:=h3
 refine qg5 ?_
 simp only [qga,z1b,gL,dL,eC,wI,p0,aL,dQ,q3w,q8t,EC.decL_encL,EC.isL_encL,EC.encL_length,q1m,q22,qa9,q27,q28,show (-1:Int)<0 by omega,decide_true,beq_self_eq_true,if_true,show (0:Int)≤(i:Int) by omega,Int.toNat_natCast,List.length_map,w1,Bool.and_self,w3,wk,show ¬ (d:Int)>8 by omega,decide_false,hm100,Bool.false_eq_true,if_false,wi,wm,Option.bind_some,wt,twIf,h1,wd,h2,h3,apd_I0,List.length_cons,List.length_nil,Nat.zero_add,e1,e2,List.all_cons,List.all_nil,hz]
theorem qb3 {d m i:Nat} {x:Tok} {R:List Tok} (hi:L0.drop i=x::R) (hx:x.k=2) (hd:d≤8) (hm:m+1≤100) (out:List S59) (ho:out.length≤4001) (hw:x.s=wIf) {t:S57} {a1 a2 a3:Int} {l:List S59} {b1 b2 b3:Int} {l2:List S59} {c1 c2 c3:Int} {j:Nat} (hj:j<5000) (h1:qhv (WW L0) ((i+1:Nat):Int) ((m+1:Nat):Int) (-1) 1=some (tup t,(a1,(a2,a3)))) (h2:qpq (WW L0) a1 a2 a3 ((d+1:Nat):Int)=some (l,((j:Int),(b2,-1)))) (h3:qog (WW L0) (j:Int) b2 (-1) 119 (baL wElse)=some true) (h4:qpq (WW L0) ((j+1:Nat):Int) b2 (-1) ((d+1:Nat):Int)=some (l2,(c1,(c2,c3))))
  {z:L2o} (hz:qfw (WW L0) (d:Int) (out.length+1) c1 c2 c3 0 0 0 (out++[ruI t l l2])=some z):qfw (WW L0) (d:Int) out.length (i:Int) (m:Int) (-1) 0 0 0 out=some z:=by
 obtain ⟨w1,w2,w3⟩:=q169 L0 hi
 have wi:IntKind.i64.wrap ((i:Int)+1)=((i+1:Nat):Int):=q168 w1 (by omega)
 have wm:IntKind.i64.wrap ((m:Int)+1)=((m+1:Nat):Int):=q168 (n:=1000) (by omega) (by omega)
 have wd:IntKind.i64.wrap ((d:Int)+1)=((d+1:Nat):Int):=q168 (n:=1000) (by omega) (by omega)
 have hm100:¬ ((m+1:Nat):Int)>100:=by omega
 have wk:((wordW x).Kind==119)=true:=by simp [wordW,hx,kindW]
 have wt:(wordW x).Text=baL x.s:=rfl
 have e1:decide ((out.length+1+(out.length+1) / 4+192)*184≤281474976710656)=true:=by simp;omega
 have e2:decide (out.length+1≤9223372036854775807)=true:=by simp;omega
 have n0:q5u.encL []=[]:=rfl
 have d0:q5u.decL []=[]:=rfl
 have d1:q5t.decL []=[]:=rfl
 have twIf:(ByteArray.toList (baL x.s)==ByteArray.toList (ByteArray.mk (List.toArray [(105:UInt8),(102:UInt8)])))=true:=by rw [hw];exact (q3m wIf wIf).trans (by decide)
 have h3:qog (WW L0) (j:Int) b2 (-1) 119 (ByteArray.mk (List.toArray [(101:UInt8),(108:UInt8),(115:UInt8),(101:UInt8)]))=some true:=h3
 have wj:IntKind.i64.wrap ((j:Int)+1)=((j+1:Nat):Int):=q168 hj (by omega)
 refine qg5 ?_
 simp only [qga,z1b,gL,dL,eC,wI,p0,aL,dQ,q3w,q8t,EC.decL_encL,EC.isL_encL,EC.encL_length,q1m,q22,qa9,q27,q28,show (-1:Int)<0 by omega,decide_true,beq_self_eq_true,if_true,show (0:Int)≤(i:Int) by omega,Int.toNat_natCast,List.length_map,w1,Bool.and_self,w3,wk,show ¬ (d:Int)>8 by omega,decide_false,hm100,Bool.false_eq_true,if_false,wi,wm,Option.bind_some,wt,twIf,h1,wd,h2,h3,wj,h4,apd_I0,List.length_cons,List.length_nil,Nat.zero_add,e1,e2,List.all_cons,List.all_nil]
 exact hz
theorem qb5 {d m i:Nat} {x:Tok} {R:List Tok} (hi:L0.drop i=x::R) (hx:x.k=2) (hd:d≤8) (hm:m+1≤100) (out:List S59) (ho:out.length≤4001) (hw:x.s=wStop) {b1 b2 b3:Int} (hs:qpw (WW L0) ((i+1:Nat):Int) ((m+1:Nat):Int) (-1) 115 (baL [59])=some (b1,(b2,b3)))
  {z:L2o} (hz:qfw (WW L0) (d:Int) (out.length+1) b1 b2 b3 0 0 0 (out++[ruT])=some z):qfw (WW L0) (d:Int) out.length (i:Int) (m:Int) (-1) 0 0 0 out=some z:=by
 obtain ⟨w1,w2,w3⟩:=q169 L0 hi
 have wi:IntKind.i64.wrap ((i:Int)+1)=((i+1:Nat):Int):=q168 w1 (by omega)
 have wm:IntKind.i64.wrap ((m:Int)+1)=((m+1:Nat):Int):=q168 (n:=1000) (by omega) (by omega)
 have wd:IntKind.i64.wrap ((d:Int)+1)=((d+1:Nat):Int):=q168 (n:=1000) (by omega) (by omega)
 have hm100:¬ ((m+1:Nat):Int)>100:=by omega
 have wk:((wordW x).Kind==119)=true:=by simp [wordW,hx,kindW]
 have wt:(wordW x).Text=baL x.s:=rfl
 have e1:decide ((out.length+1+(out.length+1) / 4+192)*184≤281474976710656)=true:=by simp;omega
 have e2:decide (out.length+1≤9223372036854775807)=true:=by simp;omega
 have n0:q5u.encL []=[]:=rfl
 have d0:q5u.decL []=[]:=rfl
 have d1:q5t.decL []=[]:=rfl
 have hwIf:¬ x.s=wIf:=by rw [hw];decide
 have twIf:(ByteArray.toList (baL x.s)==ByteArray.toList (ByteArray.mk (List.toArray [(105:UInt8),(102:UInt8)])))=false:=(q3m x.s wIf).trans (by simpa using hwIf)
 have twStop:(ByteArray.toList (baL x.s)==ByteArray.toList (ByteArray.mk (List.toArray [(115:UInt8),(116:UInt8),(111:UInt8),(112:UInt8)])))=true:=by rw [hw];exact (q3m wStop wStop).trans (by decide)
 have g:=g36_s (WW L0) (d:Int) ((i+1:Nat):Int) ((m+1:Nat):Int) (-1) b1 b2 b3 0 0 0 0 0 0 out (by omega) (ruT) hs
 have g:qfp (WW L0) (d:Int) out.length ((i+1:Nat):Int) ((m+1:Nat):Int) (-1) 0 0 0 out 4 0 0 noTx 0 noTx 0 0 0 0 noTx noTx 0 [] [] []=_:=g
 refine qg5 ?_
 simp only [qga,z1b,gL,dL,eC,wI,p0,aL,dQ,q3w,q8t,EC.decL_encL,EC.isL_encL,EC.encL_length,q1m,q22,qa9,q27,q28,show (-1:Int)<0 by omega,decide_true,beq_self_eq_true,if_true,show (0:Int)≤(i:Int) by omega,Int.toNat_natCast,List.length_map,w1,Bool.and_self,w3,wk,show ¬ (d:Int)>8 by omega,decide_false,hm100,Bool.false_eq_true,if_false,wi,wm,Option.bind_some,wt,twIf,twStop,d0,d1,g,hz]
theorem l2_set {d m i:Nat} {x:Tok} {R:List Tok} (hi:L0.drop i=x::R) (hx:x.k=2) (hd:d≤8) (hm:m+1≤100) (out:List S59) (ho:out.length≤4001) (hw:x.s=wSet) {nm tx:ByteArray} {a1 a2 a3 c1 c2 c3 b1 b2 b3:Int} (h1:qq2 (WW L0) ((i+1:Nat):Int) ((m+1:Nat):Int) (-1) 119=some (nm,(a1,(a2,a3)))) (h2:qq2 (WW L0) a1 a2 a3 113=some (tx,(c1,(c2,c3)))) (hs:qpw (WW L0) c1 c2 c3 115 (baL [59])=some (b1,(b2,b3)))
  {z:L2o} (hz:qfw (WW L0) (d:Int) (out.length+1) b1 b2 b3 0 0 0 (out++[ruS nm tx])=some z):qfw (WW L0) (d:Int) out.length (i:Int) (m:Int) (-1) 0 0 0 out=some z:=by
 obtain ⟨w1,w2,w3⟩:=q169 L0 hi
 have wi:IntKind.i64.wrap ((i:Int)+1)=((i+1:Nat):Int):=q168 w1 (by omega)
 have wm:IntKind.i64.wrap ((m:Int)+1)=((m+1:Nat):Int):=q168 (n:=1000) (by omega) (by omega)
 have wd:IntKind.i64.wrap ((d:Int)+1)=((d+1:Nat):Int):=q168 (n:=1000) (by omega) (by omega)
 have hm100:¬ ((m+1:Nat):Int)>100:=by omega
 have wk:((wordW x).Kind==119)=true:=by simp [wordW,hx,kindW]
 have wt:(wordW x).Text=baL x.s:=rfl
 have e1:decide ((out.length+1+(out.length+1) / 4+192)*184≤281474976710656)=true:=by simp;omega
 have e2:decide (out.length+1≤9223372036854775807)=true:=by simp;omega
 have n0:q5u.encL []=[]:=rfl
 have d0:q5u.decL []=[]:=rfl
 have d1:q5t.decL []=[]:=rfl
 have hwIf:¬ x.s=wIf:=by rw [hw];decide
 have hwStop:¬ x.s=wStop:=by rw [hw];decide
 have twIf:(ByteArray.toList (baL x.s)==ByteArray.toList (ByteArray.mk (List.toArray [(105:UInt8),(102:UInt8)])))=false:=(q3m x.s wIf).trans (by simpa using hwIf)
 have twStop:(ByteArray.toList (baL x.s)==ByteArray.toList (ByteArray.mk (List.toArray [(115:UInt8),(116:UInt8),(111:UInt8),(112:UInt8)])))=false:=(q3m x.s wStop).trans (by simpa using hwStop)
 have twSet:(ByteArray.toList (baL x.s)==ByteArray.toList (ByteArray.mk (List.toArray [(115:UInt8),(101:UInt8),(116:UInt8)])))=true:=by rw [hw];exact (q3m wSet wSet).trans (by decide)
 have g:=g36_s (WW L0) (d:Int) c1 c2 c3 b1 b2 b3 0 0 0 0 0 0 out (by omega) (ruS nm tx) hs
 have g:qfp (WW L0) (d:Int) out.length c1 c2 c3 0 0 0 out 3 0 0 noTx 0 noTx 0 0 0 0 nm tx 0 [] [] []=_:=g
 refine qg5 ?_
 simp only [qga,z1b,gL,dL,eC,wI,p0,aL,dQ,q3w,q8t,EC.decL_encL,EC.isL_encL,EC.encL_length,q1m,q22,qa9,q27,q28,show (-1:Int)<0 by omega,decide_true,beq_self_eq_true,if_true,show (0:Int)≤(i:Int) by omega,Int.toNat_natCast,List.length_map,w1,Bool.and_self,w3,wk,show ¬ (d:Int)>8 by omega,decide_false,hm100,Bool.false_eq_true,if_false,wi,wm,Option.bind_some,wt,twIf,twStop,twSet,d0,d1,h1,h2,g,hz]
theorem qb4 {d m i:Nat} {x:Tok} {R:List Tok} (hi:L0.drop i=x::R) (hx:x.k=2) (hd:d≤8) (hm:m+1≤100) (out:List S59) (ho:out.length≤4001) (hwIf:¬ x.s=wIf) (hwStop:¬ x.s=wStop) (hwSet:¬ x.s=wSet) {z:L2o} (ha:actN x.s=0) (hzz:z=.inl ((out.length,()),(out,(((i+1:Nat):Int),(((m+1:Nat):Int),((x.o:Nat):Int))))))
  : qfw (WW L0) (d:Int) out.length (i:Int) (m:Int) (-1) 0 0 0 out=some z:=by
 obtain ⟨w1,w2,w3⟩:=q169 L0 hi
 have wi:IntKind.i64.wrap ((i:Int)+1)=((i+1:Nat):Int):=q168 w1 (by omega)
 have wm:IntKind.i64.wrap ((m:Int)+1)=((m+1:Nat):Int):=q168 (n:=1000) (by omega) (by omega)
 have wd:IntKind.i64.wrap ((d:Int)+1)=((d+1:Nat):Int):=q168 (n:=1000) (by omega) (by omega)
 have hm100:¬ ((m+1:Nat):Int)>100:=by omega
 have wk:((wordW x).Kind==119)=true:=by simp [wordW,hx,kindW]
 have wt:(wordW x).Text=baL x.s:=rfl
 have e1:decide ((out.length+1+(out.length+1) / 4+192)*184≤281474976710656)=true:=by simp;omega
 have e2:decide (out.length+1≤9223372036854775807)=true:=by simp;omega
 have n0:q5u.encL []=[]:=rfl
 have d0:q5u.decL []=[]:=rfl
 have d1:q5t.decL []=[]:=rfl
 have twIf:(ByteArray.toList (baL x.s)==ByteArray.toList (ByteArray.mk (List.toArray [(105:UInt8),(102:UInt8)])))=false:=(q3m x.s wIf).trans (by simpa using hwIf)
 have twStop:(ByteArray.toList (baL x.s)==ByteArray.toList (ByteArray.mk (List.toArray [(115:UInt8),(116:UInt8),(111:UInt8),(112:UInt8)])))=false:=(q3m x.s wStop).trans (by simpa using hwStop)
 have twSet:(ByteArray.toList (baL x.s)==ByteArray.toList (ByteArray.mk (List.toArray [(115:UInt8),(101:UInt8),(116:UInt8)])))=false:=(q3m x.s wSet).trans (by simpa using hwSet)
 have h26:=l26_s (WW L0) (d:Int) (i:Int) x.s ((i+1:Nat):Int) ((m+1:Nat):Int) (-1) 0 0 0 out
 have hwr:=q110 L0 hi ((i+1:Nat):Int) ((m+1:Nat):Int)
 refine qg5 ?_
 simp only [qga,z1b,gL,dL,eC,wI,p0,aL,dQ,q3w,q8t,EC.decL_encL,EC.isL_encL,EC.encL_length,q1m,q22,qa9,q27,q28,show (-1:Int)<0 by omega,decide_true,beq_self_eq_true,if_true,show (0:Int)≤(i:Int) by omega,Int.toNat_natCast,List.length_map,w1,Bool.and_self,w3,wk,show ¬ (d:Int)>8 by omega,decide_false,hm100,Bool.false_eq_true,if_false,wi,wm,Option.bind_some,wt,twIf,twStop,twSet,d0,d1,h26,ha,show (((0:Nat):Int)==0)=true from rfl,hwr,hzz]
theorem l2_num {d m i:Nat} {x:Tok} {R:List Tok} (hi:L0.drop i=x::R) (hx:x.k=2) (hd:d≤8) (hm:m+1≤100) (out:List S59) (ho:out.length≤4001) (hwIf:¬ x.s=wIf) (hwStop:¬ x.s=wStop) (hwSet:¬ x.s=wSet) (ha:actN x.s=6) {v a1 a2 a3 b1 b2 b3:Int} (h1:qp7 (WW L0) ((i+1:Nat):Int) ((m+1:Nat):Int) (-1)=some (v,(a1,(a2,a3)))) (hs:qpw (WW L0) a1 a2 a3 115 (baL [59])=some (b1,(b2,b3)))
  {z:L2o} (hz:qfw (WW L0) (d:Int) (out.length+1) b1 b2 b3 0 0 0 (out++[ruA ((6:Nat):Int) noTx v])=some z):qfw (WW L0) (d:Int) out.length (i:Int) (m:Int) (-1) 0 0 0 out=some z:=by
 obtain ⟨w1,w2,w3⟩:=q169 L0 hi
 have wi:IntKind.i64.wrap ((i:Int)+1)=((i+1:Nat):Int):=q168 w1 (by omega)
 have wm:IntKind.i64.wrap ((m:Int)+1)=((m+1:Nat):Int):=q168 (n:=1000) (by omega) (by omega)
 have wd:IntKind.i64.wrap ((d:Int)+1)=((d+1:Nat):Int):=q168 (n:=1000) (by omega) (by omega)
 have hm100:¬ ((m+1:Nat):Int)>100:=by omega
 have wk:((wordW x).Kind==119)=true:=by simp [wordW,hx,kindW]
 have wt:(wordW x).Text=baL x.s:=rfl
 have e1:decide ((out.length+1+(out.length+1) / 4+192)*184≤281474976710656)=true:=by simp;omega
 have e2:decide (out.length+1≤9223372036854775807)=true:=by simp;omega
 have n0:q5u.encL []=[]:=rfl
 have d0:q5u.decL []=[]:=rfl
 have d1:q5t.decL []=[]:=rfl
 have twIf:(ByteArray.toList (baL x.s)==ByteArray.toList (ByteArray.mk (List.toArray [(105:UInt8),(102:UInt8)])))=false:=(q3m x.s wIf).trans (by simpa using hwIf)
 have twStop:(ByteArray.toList (baL x.s)==ByteArray.toList (ByteArray.mk (List.toArray [(115:UInt8),(116:UInt8),(111:UInt8),(112:UInt8)])))=false:=(q3m x.s wStop).trans (by simpa using hwStop)
 have twSet:(ByteArray.toList (baL x.s)==ByteArray.toList (ByteArray.mk (List.toArray [(115:UInt8),(101:UInt8),(116:UInt8)])))=false:=(q3m x.s wSet).trans (by simpa using hwSet)
 have h26:=l26_s (WW L0) (d:Int) (i:Int) x.s ((i+1:Nat):Int) ((m+1:Nat):Int) (-1) 0 0 0 out
 rw [ha] at h26
 have h34:qfh (WW L0) (d:Int) out.length ((i+1:Nat):Int) ((m+1:Nat):Int) (-1) 0 0 0 out 2 0 0 noTx 0 noTx 0 0 0 ((6:Nat):Int) noTx noTx 0 [] [] [] =
   some (.inr ((WW L0,((d:Int),((),((),(out.length,()))))),((a1,(a2,a3)),((0,(0,0)),(out,((2,(0,(0,(noTx,(0,(noTx,(0,(0,(0,(((6:Nat):Int),(noTx,(noTx,v)))))))))))),([],([],[]))))))) ):=by
  refine qfj ?_
  simp only [qfo,gL,dL,q3w,q8t,EC.decL_encL,EC.isL_encL,show (((6:Nat):Int)==6)=true from rfl,if_true,h1,Option.bind_some]
 have ht:txtB ((6:Nat):Int)=false:=rfl
 have g:=g36_s (WW L0) (d:Int) a1 a2 a3 b1 b2 b3 0 0 0 0 0 0 out (by omega) (ruA ((6:Nat):Int) noTx v) hs
 have g:qfp (WW L0) (d:Int) out.length a1 a2 a3 0 0 0 out 2 0 0 noTx 0 noTx 0 0 0 ((6:Nat):Int) noTx noTx v [] [] []=_:=g
 refine qg5 ?_
 simp only [qga,z1b,gL,dL,eC,wI,p0,aL,dQ,q3w,q8t,EC.decL_encL,EC.isL_encL,EC.encL_length,q1m,q22,qa9,q27,q28,show (-1:Int)<0 by omega,decide_true,beq_self_eq_true,if_true,show (0:Int)≤(i:Int) by omega,Int.toNat_natCast,List.length_map,w1,Bool.and_self,w3,wk,show ¬ (d:Int)>8 by omega,decide_false,hm100,Bool.false_eq_true,if_false,wi,wm,Option.bind_some,wt,twIf,twStop,twSet,d0,d1,h26,show (((6:Nat):Int)==0)=false from rfl,qs0,ht,h34,Sum.elim_inr,g,hz]
theorem l2_txt {d m i:Nat} {x:Tok} {R:List Tok} (hi:L0.drop i=x::R) (hx:x.k=2) (hd:d≤8) (hm:m+1≤100) (out:List S59) (ho:out.length≤4001) (hwIf:¬ x.s=wIf) (hwStop:¬ x.s=wStop) (hwSet:¬ x.s=wSet) (ha:actN x.s≠0) (ha6:actN x.s≠6) (ht:txtB ((actN x.s:Nat):Int)=true) {tx:ByteArray} {a1 a2 a3 b1 b2 b3:Int} (h1:qq2 (WW L0) ((i+1:Nat):Int) ((m+1:Nat):Int) (-1) 113=some (tx,(a1,(a2,a3)))) (hs:qpw (WW L0) a1 a2 a3 115 (baL [59])=some (b1,(b2,b3)))
  {z:L2o} (hz:qfw (WW L0) (d:Int) (out.length+1) b1 b2 b3 0 0 0 (out++[ruA ((actN x.s:Nat):Int) tx 0])=some z):qfw (WW L0) (d:Int) out.length (i:Int) (m:Int) (-1) 0 0 0 out=some z:=by
 obtain ⟨w1,w2,w3⟩:=q169 L0 hi
 have wi:IntKind.i64.wrap ((i:Int)+1)=((i+1:Nat):Int):=q168 w1 (by omega)
 have wm:IntKind.i64.wrap ((m:Int)+1)=((m+1:Nat):Int):=q168 (n:=1000) (by omega) (by omega)
 have wd:IntKind.i64.wrap ((d:Int)+1)=((d+1:Nat):Int):=q168 (n:=1000) (by omega) (by omega)
 have hm100:¬ ((m+1:Nat):Int)>100:=by omega
 have wk:((wordW x).Kind==119)=true:=by simp [wordW,hx,kindW]
 have wt:(wordW x).Text=baL x.s:=rfl
 have e1:decide ((out.length+1+(out.length+1) / 4+192)*184≤281474976710656)=true:=by simp;omega
 have e2:decide (out.length+1≤9223372036854775807)=true:=by simp;omega
 have n0:q5u.encL []=[]:=rfl
 have d0:q5u.decL []=[]:=rfl
 have d1:q5t.decL []=[]:=rfl
 have twIf:(ByteArray.toList (baL x.s)==ByteArray.toList (ByteArray.mk (List.toArray [(105:UInt8),(102:UInt8)])))=false:=(q3m x.s wIf).trans (by simpa using hwIf)
 have twStop:(ByteArray.toList (baL x.s)==ByteArray.toList (ByteArray.mk (List.toArray [(115:UInt8),(116:UInt8),(111:UInt8),(112:UInt8)])))=false:=(q3m x.s wStop).trans (by simpa using hwStop)
 have twSet:(ByteArray.toList (baL x.s)==ByteArray.toList (ByteArray.mk (List.toArray [(115:UInt8),(101:UInt8),(116:UInt8)])))=false:=(q3m x.s wSet).trans (by simpa using hwSet)
 have h26:=l26_s (WW L0) (d:Int) (i:Int) x.s ((i+1:Nat):Int) ((m+1:Nat):Int) (-1) 0 0 0 out
 have ha0:(((actN x.s:Nat):Int)==0)=false:=by simp;omega
 have h6:(((actN x.s:Nat):Int)==6)=false:=by simp;omega
 have h34:qfh (WW L0) (d:Int) out.length a1 a2 a3 0 0 0 out 2 0 0 noTx 0 noTx 0 0 0 ((actN x.s:Nat):Int) noTx tx 0 [] [] [] =
   some (.inl ((WW L0,((d:Int),((),((),(out.length,((),false)))))),((a1,(a2,a3)),((0,(0,0)),(out,((2,(0,(0,(noTx,(0,(noTx,(0,(0,(0,(((actN x.s:Nat):Int),(noTx,(tx,0)))))))))))),([],([],[]))))))) ):=by
  refine qfj ?_
  simp only [qfo,gL,dL,q3w,q8t,EC.decL_encL,EC.isL_encL,h6,Bool.false_eq_true,if_false,if_true]
 have g:=g36_s (WW L0) (d:Int) a1 a2 a3 b1 b2 b3 0 0 0 0 0 0 out (by omega) (ruA ((actN x.s:Nat):Int) tx 0) hs
 have g:qfp (WW L0) (d:Int) out.length a1 a2 a3 0 0 0 out 2 0 0 noTx 0 noTx 0 0 0 ((actN x.s:Nat):Int) noTx tx 0 [] [] []=_:=g
 refine qg5 ?_
 simp only [qga,z1b,gL,dL,eC,wI,p0,aL,dQ,q3w,q8t,EC.decL_encL,EC.isL_encL,EC.encL_length,q1m,q22,qa9,q27,q28,show (-1:Int)<0 by omega,decide_true,beq_self_eq_true,if_true,show (0:Int)≤(i:Int) by omega,Int.toNat_natCast,List.length_map,w1,Bool.and_self,w3,wk,show ¬ (d:Int)>8 by omega,decide_false,hm100,Bool.false_eq_true,if_false,wi,wm,Option.bind_some,wt,twIf,twStop,twSet,d0,d1,h26,ha0,qs0,ht,h1,h34,Sum.elim_inl,g,hz]
theorem l2_pl {d m i:Nat} {x:Tok} {R:List Tok} (hi:L0.drop i=x::R) (hx:x.k=2) (hd:d≤8) (hm:m+1≤100) (out:List S59) (ho:out.length≤4001) (hwIf:¬ x.s=wIf) (hwStop:¬ x.s=wStop) (hwSet:¬ x.s=wSet) (ha:actN x.s≠0) (ha6:actN x.s≠6) (ht:txtB ((actN x.s:Nat):Int)=false) {b1 b2 b3:Int} (hs:qpw (WW L0) ((i+1:Nat):Int) ((m+1:Nat):Int) (-1) 115 (baL [59])=some (b1,(b2,b3)))
  {z:L2o} (hz:qfw (WW L0) (d:Int) (out.length+1) b1 b2 b3 0 0 0 (out++[ruA ((actN x.s:Nat):Int) noTx 0])=some z):qfw (WW L0) (d:Int) out.length (i:Int) (m:Int) (-1) 0 0 0 out=some z:=by
 obtain ⟨w1,w2,w3⟩:=q169 L0 hi
 have wi:IntKind.i64.wrap ((i:Int)+1)=((i+1:Nat):Int):=q168 w1 (by omega)
 have wm:IntKind.i64.wrap ((m:Int)+1)=((m+1:Nat):Int):=q168 (n:=1000) (by omega) (by omega)
 have wd:IntKind.i64.wrap ((d:Int)+1)=((d+1:Nat):Int):=q168 (n:=1000) (by omega) (by omega)
 have hm100:¬ ((m+1:Nat):Int)>100:=by omega
 have wk:((wordW x).Kind==119)=true:=by simp [wordW,hx,kindW]
 have wt:(wordW x).Text=baL x.s:=rfl
 have e1:decide ((out.length+1+(out.length+1) / 4+192)*184≤281474976710656)=true:=by simp;omega
 have e2:decide (out.length+1≤9223372036854775807)=true:=by simp;omega
 have n0:q5u.encL []=[]:=rfl
 have d0:q5u.decL []=[]:=rfl
 have d1:q5t.decL []=[]:=rfl
 have twIf:(ByteArray.toList (baL x.s)==ByteArray.toList (ByteArray.mk (List.toArray [(105:UInt8),(102:UInt8)])))=false:=(q3m x.s wIf).trans (by simpa using hwIf)
 have twStop:(ByteArray.toList (baL x.s)==ByteArray.toList (ByteArray.mk (List.toArray [(115:UInt8),(116:UInt8),(111:UInt8),(112:UInt8)])))=false:=(q3m x.s wStop).trans (by simpa using hwStop)
 have twSet:(ByteArray.toList (baL x.s)==ByteArray.toList (ByteArray.mk (List.toArray [(115:UInt8),(101:UInt8),(116:UInt8)])))=false:=(q3m x.s wSet).trans (by simpa using hwSet)
 have h26:=l26_s (WW L0) (d:Int) (i:Int) x.s ((i+1:Nat):Int) ((m+1:Nat):Int) (-1) 0 0 0 out
 have ha0:(((actN x.s:Nat):Int)==0)=false:=by simp;omega
 have h6:(((actN x.s:Nat):Int)==6)=false:=by simp;omega
 have h34:qfh (WW L0) (d:Int) out.length ((i+1:Nat):Int) ((m+1:Nat):Int) (-1) 0 0 0 out 2 0 0 noTx 0 noTx 0 0 0 ((actN x.s:Nat):Int) noTx noTx 0 [] [] [] =
   some (.inl ((WW L0,((d:Int),((),((),(out.length,((),false)))))),((((i+1:Nat):Int),(((m+1:Nat):Int),-1)),((0,(0,0)),(out,((2,(0,(0,(noTx,(0,(noTx,(0,(0,(0,(((actN x.s:Nat):Int),(noTx,(noTx,0)))))))))))),([],([],[]))))))) ):=by
  refine qfj ?_
  simp only [qfo,gL,dL,q3w,q8t,EC.decL_encL,EC.isL_encL,h6,Bool.false_eq_true,if_false,if_true]
 have g:=g36_s (WW L0) (d:Int) ((i+1:Nat):Int) ((m+1:Nat):Int) (-1) b1 b2 b3 0 0 0 0 0 0 out (by omega) (ruA ((actN x.s:Nat):Int) noTx 0) hs
 have g:qfp (WW L0) (d:Int) out.length ((i+1:Nat):Int) ((m+1:Nat):Int) (-1) 0 0 0 out 2 0 0 noTx 0 noTx 0 0 0 ((actN x.s:Nat):Int) noTx noTx 0 [] [] []=_:=g
 refine qg5 ?_
 simp only [qga,z1b,gL,dL,eC,wI,p0,aL,dQ,q3w,q8t,EC.decL_encL,EC.isL_encL,EC.encL_length,q1m,q22,qa9,q27,q28,show (-1:Int)<0 by omega,decide_true,beq_self_eq_true,if_true,show (0:Int)≤(i:Int) by omega,Int.toNat_natCast,List.length_map,w1,Bool.and_self,w3,wk,show ¬ (d:Int)>8 by omega,decide_false,hm100,Bool.false_eq_true,if_false,wi,wm,Option.bind_some,wt,twIf,twStop,twSet,d0,d1,h26,ha0,qs0,ht,h34,Sum.elim_inl,g,hz]
omit hL in
theorem qri {d m i:Nat} {x:Tok} {R:List Tok} (hi:L0.drop i=x::R) (hx:x.k≠2) (out:List S59) :
  qfw (WW L0) (d:Int) out.length (i:Int) (m:Int) (-1) 0 0 0 out=some (.inr ((WW L0,((d:Int),((),((),(out.length,false))))),(((i:Int),((m:Int),-1)),((0,(0,0)),out)))):=by
 obtain ⟨w1,w2,w3⟩:=q169 L0 hi
 have wk:((wordW x).Kind==119)=false:=by
  have:=qav x.k (k:=2) (by decide)
  have e:((wordW x).Kind==119)=(kindW x.k==kindW 2):=rfl
  rw [e,this];simpa using hx
 refine qg5 ?_
 simp only [qga,z1b,gL,dL,eC,wI,p0,aL,dQ,q3w,q8t,EC.decL_encL,EC.isL_encL,EC.encL_length,q1m,q22,qa9,q27,q28,show (-1:Int)<0 by omega,decide_true,beq_self_eq_true,if_true,show (0:Int)≤(i:Int) by omega,Int.toNat_natCast,List.length_map,w1,Bool.and_self,w3,wk,Bool.false_eq_true,if_false]
omit hL in
theorem qrh {d m i:Nat} {x:Tok} {R:List Tok} (hi:L0.drop i=x::R) (hx:x.k=2) (hm:m≤1000) (h:100<m+1∨8<d) (out:List S59) :
  qfw (WW L0) (d:Int) out.length (i:Int) (m:Int) (-1) 0 0 0 out=some (.inl ((out.length,()),(out,((i:Int),(((m+1:Nat):Int),((x.o:Nat):Int)))))):=by
 obtain ⟨w1,w2,w3⟩:=q169 L0 hi
 have wm:IntKind.i64.wrap ((m:Int)+1)=((m+1:Nat):Int):=q168 (n:=2000) (by omega) (by omega)
 have wk:((wordW x).Kind==119)=true:=by simp [wordW,hx,kindW]
 have hw:=q110 L0 hi (i:Int) ((m+1:Nat):Int)
 refine qg5 ?_
 by_cases h8:(d:Int)>8
 ·simp only [qga,z1b,gL,dL,eC,wI,p0,aL,dQ,q3w,q8t,EC.decL_encL,EC.isL_encL,EC.encL_length,q1m,q22,qa9,q27,q28,show (-1:Int)<0 by omega,decide_true,beq_self_eq_true,if_true,show (0:Int)≤(i:Int) by omega,Int.toNat_natCast,List.length_map,w1,Bool.and_self,w3,wk,h8,show (true==false)=false from rfl,Bool.false_eq_true,if_false,wm,hw,Option.bind_some]
 ·simp only [qga,z1b,gL,dL,eC,wI,p0,aL,dQ,q3w,q8t,EC.decL_encL,EC.isL_encL,EC.encL_length,q1m,q22,qa9,q27,q28,show (-1:Int)<0 by omega,decide_true,beq_self_eq_true,if_true,show (0:Int)≤(i:Int) by omega,Int.toNat_natCast,List.length_map,w1,Bool.and_self,w3,wk,h8,decide_false,show ((m+1:Nat):Int)>100 by omega,wm,hw,Option.bind_some]
def SpOk (sp:Nat⊕(S59×List Tok×Nat)) (t:S59) (b1 b2 b3:Int):Prop:=match sp with|.inr y=>t=y.1∧y.2.2≤100∧∃ (j:Nat) (z:Tok) (R':List Tok),L0.drop j=z::R'∧y.2.1=z::R'∧Good (z::R')∧b1=(j:Int)∧b2=((y.2.2:Nat):Int)∧b3=-1|.inl o=>b3=((o:Nat):Int)
omit hL in
theorem qrq (out:List S59) {f:Nat} (ihs:RS L0 f) {d:Nat} {x:Tok} {R:List Tok} (hd:d≤9) (hf:2*(x::R).length+4≤f+1) (ho:out.length+(x::R).length≤4001) {t:S59} {b1 b2 b3:Int} {sp:Nat⊕(S59×List Tok×Nat)}
  (hlen:∀ y,sp=.inr y→y.2.1.length<(x::R).length)
  (hsp:SpOk L0 sp t b1 b2 b3)
  (K:L2o→Prop) (hK:∀ z,qfw (WW L0) (d:Int) (out.length+1) b1 b2 b3 0 0 0 (out++[t])=some z→K z) :
  ∃ z,K z∧ROL L0 out (thn sp fun y=>thn (sRules f d y.2.2 y.2.1) fun z=>.inr (y.1::z.1,z.2.1,z.2.2)) (l2v z):=by
 have eL:(out++[t]).length=out.length+1:=by simp
 cases sp with
 |inl o =>
  have hsp:b3=((o:Nat):Int):=hsp
  subst hsp
  have:=qrg (WW L0) (d:Int) b1 b2 (bd:=((o:Nat):Int)) (by omega) 0 0 0 (out++[t])
  rw [eL] at this
  exact ⟨_,hK _ this,.inl ⟨b1,b2,rfl⟩⟩
 |inr y =>
  obtain ⟨rfl,hy,j,z,R',k1,k2,k3,rfl,rfl,rfl⟩:=hsp
  have hl:=hlen y rfl
  rw [k2] at hl
  simp only [List.length_cons] at hl hf ho
  obtain ⟨v,q1,q2⟩:=ihs d y.2.2 j (z::R') (out++[y.1]) k1 k3 hd hy (by simp only [List.length_cons];omega) (by rw [eL];simp only [List.length_cons];omega)
  rw [eL] at q1
  refine ⟨v,hK _ q1,?_⟩
  dsimp only [thn]
  rw [k2]
  cases hs:sRules f d y.2.2 (z::R') with
  |inl o=>rw [hs] at q2;exact q2
  |inr w =>
   rw [hs] at q2
   obtain ⟨e0,q3,q4⟩:=q2
   exact ⟨by rw [e0];simp,q3,q4⟩
theorem rs_end {m n:Nat} {L:List Tok} (hi:L0.drop n=L) (hg:Good L) (hm:m+1≤100) (t:S59):∃ b1 b2 b3,qpw (WW L0) (n:Int) ((m+1:Nat):Int) (-1) 115 (baL [59])=some (b1,(b2,b3)) ∧
  SpOk L0 (thn (sNeed [59] L) fun r1=>Sum.inr (t,r1,m+1)) t b1 b2 b3:=by
 obtain ⟨x,R,rfl⟩:=hg.ne
 have hs:=qrt L0 hL hi ((m+1:Nat):Int) (k:=4) (by decide) (kd:=115) rfl [59]
 simp only [sNeed]
 cases hc:isT 4 [59] (x::R) with
 |false =>
  rw [hc,if_neg (by simp)] at hs
  exact ⟨_,_,_,hs,rfl⟩
 |true =>
  rw [hc,if_pos rfl] at hs
  have hR:=hg.tail (by rw [(qaf hc).1];rfl)
  obtain ⟨z,R',e⟩:=hR.ne
  exact ⟨_,_,_,hs,rfl,hm,n+1,z,R',by rw [(q169 L0 hi).2.1,e],e,by rw [←e];exact hR,rfl,rfl,rfl⟩
theorem qrr {f:Nat} (ihb:RB L0 (f - 1)) (ihs:RS L0 f):RS L0 (f+1):=by
 intro d m i L out hi hg hd hm hf ho
 obtain ⟨x,R,rfl⟩:=hg.ne
 have hf':=hf
 have ho':=ho
 simp only [List.length_cons] at hf ho
 obtain ⟨f,rfl⟩:∃ g,f=g+1:=⟨f - 1,by omega⟩
 have ihb:RB L0 f:=ihb
 simp only [sRules]
 by_cases hx:x.k=2
 case neg =>
  have h:=qri L0 (d:=d) (m:=m) hi hx out
  cases hst:stopB x with
  |true =>
   rw [if_pos rfl]
   exact ⟨_,h,by simp [l2v],hm,i,x,R,hi,rfl,hg,rfl⟩
  |false =>
   rw [if_neg (by simp)]
   simp only [sRule]
   rw [if_pos (by omega)]
   exact ⟨_,h,.inr ⟨i,x,R,_,hi,hg,rfl,rfl,hst⟩⟩
 have hst:stopB x=false:=by simp [stopB,hx]
 rw [hst,if_neg (by simp)]
 by_cases hdeep:100<m+1∨8<d
 ·simp only [sRule]
  rw [if_pos (by omega)]
  exact ⟨_,qrh L0 hi hx (by omega) hdeep out,.inl ⟨_,_,rfl⟩⟩
 have hm1:m+1≤100:=by omega
 have hd8:d≤8:=by omega
 have hR:=hg.tail (by rw [hx];rfl)
 have hi2:=(q169 L0 hi).2.1
 have hlr:∀ y,sRule (f+1) d m (x::R)=.inr y→y.2.1.length<(x::R).length:=fun y h=>qbv h
 generalize hsr:sRule (f+1) d m (x::R)=sp at hlr ⊢
 simp only [sRule] at hsr
 rw [if_neg (by omega)] at hsr
 by_cases h1:x.s=wIf
 ·rw [if_pos h1] at hsr
  obtain ⟨t,rd,q1,q2⟩:=(rt_all L0 hL f).1 1 R (i+1) ((m+1:Nat):Int) hi2 hR (by omega) (by omega)
  obtain ⟨a1,a2,a3⟩:=rd
  cases hs:sTest f 1 R with
  |inl o =>
   rw [hs] at q2 hsr
   obtain ⟨n,e⟩:=q2
   injection e with e1 e;injection e with e2 e3
   subst e1;have e2:=e2.symm;subst e2;subst e3
   exact qrq L0 out ihs hd hf' ho' hlr (by rw [←hsr];rfl) _ (fun z hz=>qb1 L0 hL hi hx hd8 hm1 out (by omega) h1 q1 (qqs _ _ _ _ (by omega)) (by omega) hz)
  |inr w =>
   have hlw:=qbw hs
   rw [hs] at q2 hsr
   obtain ⟨rfl,j,j1,j2,e⟩:=q2
   injection e with e1 e;injection e with e2 e3
   subst e1;have e2:=e2.symm;subst e2;subst e3
   dsimp only [thn] at hsr
   obtain ⟨l,rd,k1,k2⟩:=ihb d (m+1) j w.2 j1 j2 hd8 hm1 (by omega)
   obtain ⟨b1,b2,b3⟩:=rd
   cases hs2:sBlock f (d+1) (m+1) w.2 with
   |inl o =>
    rw [hs2] at k2 hsr
    obtain ⟨n,m',e⟩:=k2
    injection e with e1 e;injection e with e2 e3
    subst e1;subst e2;subst e3
    exact qrq L0 out ihs hd hf' ho' hlr (by rw [←hsr];rfl) _ (fun z hz=>qb1 L0 hL hi hx hd8 hm1 out (by omega) h1 q1 k1 (by omega) hz)
   |inr v =>
    have hlv:=qbt hs2
    rw [hs2] at k2 hsr
    obtain ⟨rfl,k3,j3,z3,R3,u1,u2,u3,e⟩:=k2
    injection e with e1 e;injection e with e2 e3
    subst e1;subst e2;subst e3
    dsimp only at hsr
    rw [u2] at hsr hlv
    have his:=ris_s L0 u1 ((v.2.2:Nat):Int) (-1) (k:=2) (by decide) (kd:=119) rfl wElse
    cases hc:isT 2 wElse (z3::R3) with
    |false =>
     rw [hc] at his
     rw [hc,if_neg (by simp)] at hsr
     exact qrq L0 out ihs hd hf' ho' hlr (by rw [←hsr];exact ⟨rfl,k3,j3,z3,R3,u1,rfl,u3,rfl,rfl,rfl⟩) _ (fun z hz=>qb2 L0 hL (b3:=0) hi hx hd8 hm1 out (by omega) h1 q1 k1 his hz)
    |true =>
     rw [hc] at his
     rw [hc,if_pos rfl] at hsr
     have hR3:=u3.tail (by rw [(qaf hc).1];rfl)
     have hj3:=(q169 L0 u1).1
     simp only [List.tail_cons,List.length_cons] at hsr hlv
     obtain ⟨l2,rd,k5,k6⟩:=ihb d v.2.2 (j3+1) R3 (q169 L0 u1).2.1 hR3 hd8 k3 (by omega)
     obtain ⟨c1,c2,c3⟩:=rd
     refine qrq L0 out ihs hd hf' ho' (t:=ruI w.1 v.1 l2) (b1:=c1) (b2:=c2) (b3:=c3) hlr ?_ _ (fun z hz=>qb3 L0 hL (b1:=0) (b3:=0) hi hx hd8 hm1 out (by omega) h1 (by omega) q1 k1 his k5 hz)
     cases hs3:sBlock f (d+1) v.2.2 R3 with
     |inl o =>
      rw [hs3] at k6 hsr
      obtain ⟨n,m',e⟩:=k6
      injection e with e1 e;injection e with e2 e3
      rw [←hsr];exact e3
     |inr y =>
      rw [hs3] at k6 hsr
      obtain ⟨rfl,k7,j4,z4,R4,v1,v2,v3,e⟩:=k6
      injection e with e1 e;injection e with e2 e3
      rw [←hsr]
      exact ⟨rfl,k7,j4,z4,R4,v1,v2,v3,e1,e2,e3⟩
 rw [if_neg h1] at hsr
 obtain ⟨y0,R0,hR0⟩:=hR.ne
 by_cases h2:x.s=wSet
 ·rw [if_pos h2] at hsr
  have t1:=qrz L0 hL (by rw [hi2,hR0]:L0.drop (i+1)=y0::R0) ((m+1:Nat):Int) (k:=2) (by decide) (kd:=119) rfl
  rw [hR0] at hsr hR hi2
  simp only [sTake] at hsr
  by_cases hy:y0.k=2
  ·rw [if_pos hy] at t1 hsr
   have hR1:=hR.tail (by rw [hy];rfl)
   have hi3:=(q169 L0 hi2).2.1
   obtain ⟨y1,R1,rfl⟩:=hR1.ne
   have t2:=qrz L0 hL hi3 ((m+1:Nat):Int) (k:=1) (by decide) (kd:=113) rfl
   dsimp only [thn] at hsr
   by_cases hz:y1.k=1
   ·rw [if_pos hz] at t2 hsr
    have hR2:=hR1.tail (by rw [hz];rfl)
    obtain ⟨b1,b2,b3,s1,s2⟩:=rs_end L0 hL (q169 L0 hi3).2.1 hR2 hm1 (rul 3 t0 [] [] 0 y0.s y1.s 0)
    exact qrq L0 out ihs hd hf' ho' hlr (by rw [←hsr];exact s2) _ (fun z hz=>l2_set L0 hL hi hx hd8 hm1 out (by omega) h2 t1 t2 s1 hz)
   ·rw [if_neg hz] at t2 hsr
    exact qrq L0 out ihs hd hf' ho' hlr (by rw [←hsr];rfl) _ (fun z hz=>l2_set L0 hL hi hx hd8 hm1 out (by omega) h2 t1 t2 (qrs _ _ _ _ _ (by omega)) hz)
  ·rw [if_neg hy] at t1 hsr
   exact qrq L0 out ihs hd hf' ho' hlr (by rw [←hsr];rfl) _ (fun z hz=>l2_set L0 hL hi hx hd8 hm1 out (by omega) h2 t1 (qry _ _ _ _ (by omega)) (qrs _ _ _ _ _ (by omega)) hz)
 rw [if_neg h2] at hsr
 by_cases h3:x.s=wStop
 ·rw [if_pos h3] at hsr
  obtain ⟨b1,b2,b3,s1,s2⟩:=rs_end L0 hL hi2 hR hm1 (rul 4 t0 [] [] 0 [] [] 0)
  exact qrq L0 out ihs hd hf' ho' hlr (by rw [←hsr];exact s2) _ (fun z hz=>qb5 L0 hL hi hx hd8 hm1 out (by omega) h3 s1 hz)
 rw [if_neg h3] at hsr
 by_cases ha:actN x.s=0
 ·rw [if_pos ha] at hsr
  rw [←hsr]
  exact ⟨_,qb4 L0 hL hi hx hd8 hm1 out (by omega) h1 h3 h2 ha rfl,.inl ⟨_,_,rfl⟩⟩
 rw [if_neg ha] at hsr
 by_cases ha6:actN x.s=6
 ·rw [if_pos ha6] at hsr
  have hn:=qrj L0 hL (by rw [hi2,hR0]:L0.drop (i+1)=y0::R0) (by rw [←hR0];exact hR) ((m+1:Nat):Int)
  rw [hR0] at hsr hR hi2
  simp only [sNum] at hsr
  by_cases hz:y0.k=3∧numOk y0.s=true
  ·rw [if_pos hz] at hn hsr
   dsimp only [thn] at hsr
   obtain ⟨b1,b2,b3,s1,s2⟩:=rs_end L0 hL (q169 L0 hi2).2.1 (hR.tail (by rw [hz.1];rfl)) hm1 (rul 2 t0 [] [] 6 [] [] (numV y0.s))
   exact qrq L0 out ihs hd hf' ho' hlr (by rw [←hsr];exact s2) _ (fun z hz=>l2_num L0 hL hi hx hd8 hm1 out (by omega) h1 h3 h2 ha6 hn s1 hz)
  ·rw [if_neg hz] at hn hsr
   exact qrq L0 out ihs hd hf' ho' hlr (by rw [←hsr];rfl) _ (fun z hz=>l2_num L0 hL hi hx hd8 hm1 out (by omega) h1 h3 h2 ha6 hn (qrs _ _ _ _ _ (by omega)) hz)
 rw [if_neg ha6] at hsr
 by_cases ht:txtB ((actN x.s:Nat):Int)=true
 ·rw [if_pos ht] at hsr
  have t1:=qrz L0 hL (by rw [hi2,hR0]:L0.drop (i+1)=y0::R0) ((m+1:Nat):Int) (k:=1) (by decide) (kd:=113) rfl
  rw [hR0] at hsr hR hi2
  simp only [sTake] at hsr
  by_cases hy:y0.k=1
  ·rw [if_pos hy] at t1 hsr
   dsimp only [thn] at hsr
   obtain ⟨b1,b2,b3,s1,s2⟩:=rs_end L0 hL (q169 L0 hi2).2.1 (hR.tail (by rw [hy];rfl)) hm1 (rul 2 t0 [] [] (actN x.s) [] y0.s 0)
   exact qrq L0 out ihs hd hf' ho' hlr (by rw [←hsr];exact s2) _ (fun z hz=>l2_txt L0 hL hi hx hd8 hm1 out (by omega) h1 h3 h2 ha ha6 ht t1 s1 hz)
  ·rw [if_neg hy] at t1 hsr
   exact qrq L0 out ihs hd hf' ho' hlr (by rw [←hsr];rfl) _ (fun z hz=>l2_txt L0 hL hi hx hd8 hm1 out (by omega) h1 h3 h2 ha ha6 ht t1 (qrs _ _ _ _ _ (by omega)) hz)
 ·rw [if_neg ht] at hsr
  obtain ⟨b1,b2,b3,s1,s2⟩:=rs_end L0 hL hi2 hR hm1 (rul 2 t0 [] [] (actN x.s) [] [] 0)
  exact qrq L0 out ihs hd hf' ho' hlr (by rw [←hsr];exact s2) _ (fun z hz=>l2_pl L0 hL hi hx hd8 hm1 out (by omega) h1 h3 h2 ha ha6 (by simpa using ht) s1 hz)
theorem rs_all:∀ f,RB L0 f∧RS L0 f
 |0=>⟨fun d m i L _ hg _ _ h=>by omega,fun d m i L out _ hg _ _ h=>by omega⟩
 |1=>⟨qqr L0 hL (rs_all 0).2,qrr L0 hL (rs_all 0).1 (rs_all 0).2⟩
 |f+2=>⟨qqr L0 hL (rs_all (f+1)).2,qrr L0 hL (rs_all f).1 (rs_all (f+1)).2⟩
end
end Go.Proofs.YtognhcibcocbkaaGreatDoor
