/- What the check of a script answers: the program's and the reference's are the same. -/
import Derived.Test.YtokahibbkdbndaaGreatDoorZ28
namespace Go.Proofs.YtokahibbkdbndaaGreatDoor
open Go.RowKit
theorem qvu (a b:List S50):([[.sl (qb1.encL a)],[.sl (qb1.encL b)]]:List (List C))=qaw.encL [a,b]:=rfl
def rc (r:S50) (d:Nat):Int:=if decide ((d:Int)>8)=true then 5 else rHead r
mutual
def ckR:S50→Nat→Nat→(Int×Int)⊕Nat
 |⟨_,_,_,_,_,_,_,t,e,_,_,_,_⟩,n,d=>match ckL t (n+1) (d+1) with
  |.inl f=>.inl f
  |.inr n1=>ckL e n1 (d+1)
def ckL:List S50→Nat→Nat→(Int×Int)⊕Nat
 |[],n,_=>.inr n
 |r::l,n,d=>if 100≤n then .inl (2,-1) else if rc r d≠0 then .inl (rc r d,n) else match ckR r n d with
  |.inl f=>.inl f
  |.inr n2=>ckL l n2 d
end
theorem ckR_eq (r:S50) (n d:Nat):ckR r n d=match ckL r.Then (n+1) (d+1) with|.inl f=>.inl f|.inr n1=>ckL r.Else n1 (d+1):=by cases r;rfl
theorem ck_sz:∀ (q:Nat) (l:List S50),szL l=q→∀ n d,n≤100→(∀ m,ckL l n d=.inr m→m=n+szL l∧m≤100)∧(∀ f,ckL l n d=.inl f→f.1≠0):=by
 intro q
 induction q using Nat.strongRecOn with
 |_ q ih =>
  intro l
  induction l with
  |nil =>
   intro _ n d hn
   refine ⟨fun m h=>?_,fun f h=>by cases h⟩
   injection h with h
   subst h
   exact ⟨by simp [szL],hn⟩
  |cons r l ihl =>
   intro hq n d hn
   have h1:=q1ht (l:=r::l) (r:=r) (by simp)
   have h2:=q1hs (l:=r::l) (r:=r) (by simp)
   have hR:n<100→(∀ m,ckR r n d=.inr m→m=n+szR r∧m≤100)∧(∀ f,ckR r n d=.inl f→f.1≠0):=by
    intro hlt
    obtain ⟨a1,a2⟩:=ih _ (hq ▸ h1) r.Then rfl (n+1) (d+1) (by omega)
    rw [ckR_eq]
    cases ht:ckL r.Then (n+1) (d+1) with
    |inl f=>exact ⟨fun m h=>(by cases h),fun f' h=>(by injection h with h;subst h;exact a2 _ ht)⟩
    |inr n1 =>
     obtain ⟨b1,b2⟩:=a1 n1 ht
     obtain ⟨c1,c2⟩:=ih _ (hq ▸ h2) r.Else rfl n1 (d+1) b2
     refine ⟨fun m h=>?_,fun f h=>c2 f h⟩
     obtain ⟨e1,e2⟩:=c1 m h
     exact ⟨by rw [e1,b1,q1hr];omega,e2⟩
   have hl:∀ n2,n2≤100→(∀ m,ckL l n2 d=.inr m→m=n2+szL l∧m≤100)∧(∀ f,ckL l n2 d=.inl f→f.1≠0):=by
    intro n2 hn2
    exact ih (szL l) (by rw [←hq];simp only [szL];have:=q1hr r;omega) l rfl n2 d hn2
   simp only [ckL]
   split
   ·exact ⟨fun m h=>(by cases h),fun f h=>(by injection h with h;subst h;decide)⟩
   ·rename_i hlt
    split
    ·rename_i hne
     exact ⟨fun m h=>(by cases h),fun f h=>(by injection h with h;subst h;exact hne)⟩
    ·obtain ⟨a1,a2⟩:=hR (by omega)
     cases hr:ckR r n d with
     |inl f=>exact ⟨fun m h=>(by cases h),fun f' h=>(by injection h with h;subst h;exact a2 _ hr)⟩
     |inr n2 =>
      obtain ⟨b1,b2⟩:=a1 n2 hr
      obtain ⟨c1,c2⟩:=hl n2 b2
      refine ⟨fun m h=>?_,fun f h=>c2 f h⟩
      obtain ⟨e1,e2⟩:=c1 m h
      exact ⟨by rw [e1,b1];simp only [szL];omega,e2⟩
theorem ck_inr {l:List S50} {n d m:Nat} (hn:n≤100) (h:ckL l n d=.inr m):m=n+szL l∧m≤100:=(ck_sz _ l rfl n d hn).1 m h
theorem ck_inl {l:List S50} {n d:Nat} {f:Int×Int} (hn:n≤100) (h:ckL l n d=.inl f):f.1≠0:=(ck_sz _ l rfl n d hn).2 f h
def VR (c:(Int×Int)⊕Nat) (x:(Int×Int)×((Int×Int)×(Int×(Unit×Unit)))):Prop:=match c with
 |.inl f=>x.1=f
 |.inr m=>x.1=(0,0)∧x.2.2.1=(m:Int)
def VL (c:(Int×Int)⊕Nat) {α:Type} (x:(Unit×((Int×Int)×Int×(Unit×Unit)))⊕α) (y:Nat→α→Prop):Prop:=match c with
 |.inl f=>∃ n',x=.inl ((),(f,(n',((),()))))
 |.inr m=>∃ z,x=.inr z∧y m z
theorem q1lc (d:Nat) (hd:d≤8) (l:List S50) (t14 t15 b2 b21:Int) (r:S50) (n:Nat) (hn:n<100)
  (i1:∀ n:Nat,n≤100→∃ x,q1bo r.Then ((d+1:Nat):Int) (n:Int)=some x∧VR (ckL r.Then n (d+1)) x) (i2:∀ n:Nat,n≤100→∃ x,q1bo r.Else ((d+1:Nat):Int) (n:Int)=some x∧VR (ckL r.Else n (d+1)) x) :
  ∃ x,q1br d l t14 t15 2 2 0 ((n+1:Nat):Int) b2 b21 [r.Then,r.Else]=some x∧VL (ckR r n d) x (fun (m:Nat) z=>z=(((d:Int),(),(),(),l,t14,t15,2,2,2,false),((m:Int),((),()),(b2,b21),[r.Then,r.Else]))):=by
 have e3:IntKind.i64.wrap ((d:Int)+1)=((d+1:Nat):Int):=q1m2 (n:=100) (by omega) (by omega)
 have w1:IntKind.i64.wrap ((0:Int)+1)=1:=q1m1 (by omega)
 have w2:IntKind.i64.wrap ((1:Int)+1)=2:=q1m1 (by omega)
 have f0:((List.getD (qaw.encL [r.Then,r.Else]) 0 []).length==1)=true:=rfl
 have f1:((List.getD (qaw.encL [r.Then,r.Else]) 1 []).length==1)=true:=rfl
 have p0:isP [K1.sl] 0 (List.getD (qaw.encL [r.Then,r.Else]) 0 [])=true:=rfl
 have p1:isP [K1.sl] 0 (List.getD (qaw.encL [r.Then,r.Else]) 1 [])=true:=rfl
 have q0:∀ z,List.getD [r.Then,r.Else] 0 z=r.Then:=fun _=>rfl
 have q1:∀ z,List.getD [r.Then,r.Else] 1 z=r.Else:=fun _=>rfl
 have l0:decide (0<List.length [r.Then,r.Else])=true:=rfl
 have l1:decide (1<List.length [r.Then,r.Else])=true:=rfl
 have n0:Int.toNat 0=0:=rfl
 have n1:Int.toNat 1=1:=rfl
 have c1:decide ((0:Int)<2)=true:=rfl
 have c2:decide ((1:Int)<2)=true:=rfl
 have c3:decide ((2:Int)<2)=false:=rfl
 have c4:decide ((0:Int)≤0)=true:=rfl
 have c5:decide ((0:Int)≤1)=true:=rfl
 have c6:decide ((0:Int)<((2:Nat):Int))=true:=rfl
 have c7:decide ((1:Int)<((2:Nat):Int))=true:=rfl
 have s2:∀ m:Nat,q1br d l t14 t15 2 2 2 m b2 b21 [r.Then,r.Else]=some (.inr (((d:Int),(),(),(),l,t14,t15,2,2,2,false),((m:Int),((),()),(b2,b21),[r.Then,r.Else]))):=fun m=>q1bt (by
  simp only [q1by,gL,dL,lN,wI,p0,uL,q7r,qn6,EC.decL_encL,EC.isL_encL,EC.encL_length,q47,c3,Bool.false_eq_true,if_false,if_true])
 have s1:∀ m:Nat,m≤100→∃ x,q1br d l t14 t15 2 2 1 m b2 b21 [r.Then,r.Else]=some x∧VL (ckL r.Else m (d+1)) x (fun (m:Nat) z=>z=(((d:Int),(),(),(),l,t14,t15,2,2,2,false),((m:Int),((),()),(b2,b21),[r.Then,r.Else]))):=by
  intro m hm
  obtain ⟨x,h1,h2⟩:=i2 m hm
  cases hc:ckL r.Else m (d+1) with
  |inl f =>
   rw [hc] at h2
   have h2:x.1=f:=h2
   have hf:(f.1 != 0)=true:=by simpa using ck_inl hm hc
   refine ⟨.inl ((),(f,(x.2.2.1,((),())))),q1bt ?_,⟨_,rfl⟩⟩
   simp only [q1by,gL,dL,lN,wI,p0,uL,q7r,qn6,EC.decL_encL,EC.isL_encL,EC.encL_length,q47,c2,c5,c7,n1,l1,f1,p1,q1,Bool.and_self,if_true,e3,h1,qjo,Option.bind_some,h2,hf]
  |inr q =>
   rw [hc] at h2
   obtain ⟨h2,h3⟩:x.1=(0,0)∧x.2.2.1=(q:Int):=h2
   refine ⟨_,q1bt (r:=.inr (((d:Int),(),(),(),l,t14,t15,2,2,2,false),((q:Int),((),()),(b2,b21),[r.Then,r.Else]))) ?_,⟨_,rfl,rfl⟩⟩
   simp only [q1by,gL,dL,lN,wI,p0,uL,q7r,qn6,EC.decL_encL,EC.isL_encL,EC.encL_length,q47,c2,c5,c7,n1,l1,f1,p1,q1,Bool.and_self,if_true,e3,h1,qjo,Option.bind_some,h2,h3,w2,s2,bne_self_eq_false,Bool.false_eq_true,if_false]
 obtain ⟨x,h1,h2⟩:=i1 (n+1) (by omega)
 rw [ckR_eq]
 cases hc:ckL r.Then (n+1) (d+1) with
 |inl f =>
  rw [hc] at h2
  have h2:x.1=f:=h2
  have hf:(f.1 != 0)=true:=by simpa using ck_inl (by omega) hc
  refine ⟨.inl ((),(f,(x.2.2.1,((),())))),q1bt ?_,⟨_,rfl⟩⟩
  simp only [q1by,gL,dL,lN,wI,p0,uL,q7r,qn6,EC.decL_encL,EC.isL_encL,EC.encL_length,q47,c1,c4,c6,n0,l0,f0,p0,q0,Bool.and_self,if_true,e3,h1,qjo,Option.bind_some,h2,hf]
 |inr q =>
  rw [hc] at h2
  obtain ⟨h2,h3⟩:x.1=(0,0)∧x.2.2.1=(q:Int):=h2
  obtain ⟨y,g1,g2⟩:=s1 q (ck_inr (by omega) hc).2
  refine ⟨y,q1bt ?_,g2⟩
  simp only [q1by,gL,dL,lN,wI,p0,uL,q7r,qn6,EC.decL_encL,EC.isL_encL,EC.encL_length,q47,c1,c4,c6,n0,l0,f0,p0,q0,Bool.and_self,if_true,e3,h1,qjo,Option.bind_some,h2,h3,w1,g1,bne_self_eq_false,Bool.false_eq_true,if_false]
theorem val_l2 (d:Nat) (hd:d≤9) (l:List S50) (hl:l.length≤big) (ho:okL l)
  (ih:d≤8→∀ r∈l,(∀ n:Nat,n≤100→∃ x,q1bo r.Then ((d+1:Nat):Int) (n:Int)=some x∧VR (ckL r.Then n (d+1)) x)∧(∀ n:Nat,n≤100→∃ x,q1bo r.Else ((d+1:Nat):Int) (n:Int)=some x∧VR (ckL r.Else n (d+1)) x)) :
  ∀ m k (n:Nat) b2 b21,n≤100→k+m=l.length→∃ x,q1bz d l l.length k n b2 b21=some x∧VL (ckL (l.drop k) n d) x (fun (m:Nat) z=>z.2.1=(m:Int)):=by
 intro m
 induction m with
 |zero =>
  intro k n b2 b21 hn hk
  have hk:k=l.length:=by omega
  subst hk
  refine ⟨_,q1c1 (r:=.inr (((d:Int),(),(),(),l,(l.length:Int),(l.length:Int),false),((n:Int),((),()),(b2,b21)))) (by
   simp only [q1c6,z22,gL,dL,eC,wI,p0,uL,q7r,qn6,EC.decL_encL,EC.isL_encL,EC.encL_length,qqq,q4i,q4j,q4n,q4o,q4p,q4q,q4r,q4s,q4t,q4u,q4k,q4l,q4m]
   simp),?_⟩
  rw [List.drop_length]
  exact ⟨_,rfl,rfl⟩
 |succ m ihm =>
  intro k n b2 b21 hn hk
  have hlt:k<l.length:=by omega
  have hr:=List.getElem_mem hlt
  have e1:decide ((k:Int)<(l.length:Int))=true:=by simp;omega
  have e0:decide ((0:Int)≤(k:Int))=true:=by simp
  have e2:IntKind.i64.wrap ((k:Int)+1)=((k+1:Nat):Int):=q1m2 hlt (by unfold big at hl;omega)
  have e3:IntKind.i64.wrap ((n:Int)+1)=((n+1:Nat):Int):=q1m2 (n:=1000) (by omega) (by omega)
  have hd2:decide (k<l.length)=true:=by simp [hlt]
  rw [qag hlt,ckL]
  by_cases h100:100≤n
  ·have hn100:n=100:=by omega
   subst hn100
   refine ⟨_,q1c1 (r:=.inl ((),((2,-1),((100:Nat),((),()))))) ?_,?_⟩
   ·simp only [q1c6,z22,gL,dL,eC,wI,p0,uL,q7r,qn6,EC.decL_encL,EC.isL_encL,EC.encL_length,qqq,q4i,q4j,q4n,q4o,q4p,q4q,q4r,q4s,q4t,q4u,q4k,q4l,q4m,e1,e0,if_true,Int.toNat_natCast,hd2,Bool.and_self,qjs,Option.bind_some]
    rfl
   ·rw [if_pos h100];exact ⟨_,rfl⟩
  rw [if_neg h100]
  have en:((n:Int)==100)=false:=by simp;omega
  have hrule:=rule_s l[k] (qv5 ho hr) d
  have hrule:q1d3 l[k].Kind l[k].Test_Kind l[k].Test_Tests l[k].Test_Name l[k].Test_Pattern l[k].Test_Text l[k].Test_N l[k].Then l[k].Else l[k].Act l[k].Name l[k].Text l[k].N d=some (rc l[k] d):=hrule
  by_cases hc:rc l[k] d=0
  case neg =>
   refine ⟨_,q1c1 (r:=.inl ((),((rc l[k] d,(n:Int)),((n:Int),((),()))))) ?_,?_⟩
   ·have hcb:(rc l[k] d != 0)=true:=by simpa using hc
    simp only [q1c6,z22,gL,dL,eC,wI,p0,uL,q7r,qn6,EC.decL_encL,EC.isL_encL,EC.encL_length,qqq,q4i,q4j,q4n,q4o,q4p,q4q,q4r,q4s,q4t,q4u,q4k,q4l,q4m,e1,e0,if_true,Int.toNat_natCast,hd2,Bool.and_self,qjs,Option.bind_some,en,Bool.false_eq_true,if_false,qn9 hlt,hrule,hcb]
   ·rw [if_pos hc];exact ⟨_,rfl⟩
  have hcb:(rc l[k] d != 0)=false:=by simpa using hc
  have hd8:d≤8:=by
   rcases Nat.lt_or_ge 8 d with h|h
   ·unfold rc at hc
    rw [if_pos (by simp;omega)] at hc
    cases hc
   ·exact h
  rw [if_neg (by simpa using hc)]
  obtain ⟨i1,i2⟩:=ih hd8 l[k] hr
  obtain ⟨x,h1,h2⟩:=q1lc d hd8 l (l.length:Int) (k:Int) b2 b21 l[k] n (by omega) i1 i2
  cases hq:ckR l[k] n d with
  |inl f =>
   rw [hq] at h2
   obtain ⟨n',rfl⟩:=h2
   refine ⟨_,q1c1 (r:=.inl ((),(f,(n',((),()))))) ?_,⟨_,rfl⟩⟩
   simp only [q1c6,z22,gL,dL,eC,wI,p0,uL,q7r,qn6,EC.decL_encL,EC.isL_encL,EC.encL_length,qqq,q4i,q4j,q4n,q4o,q4p,q4q,q4r,q4s,q4t,q4u,q4k,q4l,q4m,e1,e0,if_true,Int.toNat_natCast,hd2,Bool.and_self,Option.bind_some,en,Bool.false_eq_true,if_false,qn9 hlt,hrule,hcb,qvu,e3]
   have h1':q1br d l l.length k 2 ((2:Nat):Int) 0 ((n+1:Nat):Int) b2 b21 [l[k].Then,l[k].Else]=_:=h1
   rw [h1']
   rfl
  |inr q =>
   rw [hq] at h2
   obtain ⟨z,rfl,rfl⟩:=h2
   have hq100:q≤100:=by
    have:=(ck_sz (szL [l[k]]) [l[k]] rfl n d hn).1 q (by simp only [ckL];rw [if_neg h100,if_neg (by simpa using hc),hq])
    exact this.2
   obtain ⟨y,g1,g2⟩:=ihm (k+1) q b2 b21 hq100 (by omega)
   refine ⟨y,q1c1 ?_,g2⟩
   simp only [q1c6,z22,gL,dL,eC,wI,p0,uL,q7r,qn6,EC.decL_encL,EC.isL_encL,EC.encL_length,qqq,q4i,q4j,q4n,q4o,q4p,q4q,q4r,q4s,q4t,q4u,q4k,q4l,q4m,e1,e0,if_true,Int.toNat_natCast,hd2,Bool.and_self,Option.bind_some,en,Bool.false_eq_true,if_false,qn9 hlt,hrule,hcb,qvu,e3]
   have h1':q1br d l l.length k 2 ((2:Nat):Int) 0 ((n+1:Nat):Int) b2 b21 [l[k].Then,l[k].Else]=_:=h1
   rw [h1']
   simp only [Option.bind_some,Sum.elim_inr,e2]
   exact g1
theorem val_h2:∀ (q:Nat) (l:List S50),szL l=q→l.length≤big→okL l→∀ d:Nat,d≤9→∀ n:Nat,n≤100→∃ x,q1bo l (d:Int) (n:Int)=some x∧VR (ckL l n d) x:=by
 intro q
 induction q using Nat.strongRecOn with
 |_ q ih =>
  intro l hq hl ho d hd n hn
  obtain ⟨x,h1,h2⟩:=val_l2 d hd l hl ho (fun hd8 r hr=>by
   have:=(qv6 r).1 (qv5 ho hr)
   exact ⟨fun n hn=>ih _ (hq ▸ q1ht hr) r.Then rfl this.2.1.1 this.2.1.2 (d+1) (by omega) n hn,fun n hn=>ih _ (hq ▸ q1hs hr) r.Else rfl this.2.2.1.1 this.2.2.1.2 (d+1) (by omega) n hn⟩) l.length 0 n 0 0 hn (by omega)
  have e:q1bz d l l.length 0 n 0 0=some x:=h1
  rw [List.drop_zero] at h2
  cases hc:ckL l n d with
  |inl f =>
   rw [hc] at h2
   obtain ⟨n',rfl⟩:=h2
   refine ⟨_,q1bq (r:=(f,(f,(n',((),()))))) ?_,rfl⟩
   simp only [q1ca,gL,dL,lN,qn6,EC.decL_encL,EC.isL_encL,EC.encL_length,if_true,e,Option.bind_some,Sum.elim_inl]
  |inr m =>
   rw [hc] at h2
   obtain ⟨z,rfl,h3⟩:=h2
   refine ⟨_,q1bq (r:=((0,0),((0,0),((m:Int),((),()))))) ?_,⟨rfl,rfl⟩⟩
   simp only [q1ca,gL,dL,lN,qn6,EC.decL_encL,EC.isL_encL,EC.encL_length,if_true,e,Option.bind_some,Sum.elim_inr,none_s,h3]
def scriptF (l:List S50):Int×Int:=match ckL l 0 1 with
 |.inl f=>f
 |.inr _=>(0,0)
theorem q1le (l:List S50) (hl:l.length≤big) (ho:okL l):q1cf l=some (scriptF l):=by
 obtain ⟨x,h1,h2⟩:=val_h2 _ l rfl hl ho 1 (by omega) 0 (by omega)
 refine q1ce ?_
 have e:q1bo l 1 0=some x:=h1
 simp only [q1cg,gL,dL,qn6,EC.decL_encL,EC.isL_encL,if_true,e,Option.bind_some]
 unfold scriptF
 cases hc:ckL l 0 1 with
 |inl f=>rw [hc] at h2;have h2:x.1=f:=h2;simp only [h2]
 |inr m=>rw [hc] at h2;have h2:x.1=(0,0):=h2.1;simp only [h2]
end Go.Proofs.YtokahibbkdbndaaGreatDoor
namespace Go.Proofs.YtokahibbkdbndaaGreatDoor
open Go.RowKit
def LR (c:(Int×Int)⊕Nat):Int×Int:=match c with
 |.inl f=>f
 |.inr _=>(0,0)
theorem qs7 (d:Nat) (hd:d≤9) (l:List S50) (hl:l.length≤big) (ho:okL l)
  (ih:d≤8→∀ r∈l,(∀ n:Nat,n≤100→q19i r.Then (n:Int) ((d+1:Nat):Int)=some (LR (ckL r.Then n (d+1))))∧(∀ n:Nat,n≤100→q19i r.Else (n:Int) ((d+1:Nat):Int)=some (LR (ckL r.Else n (d+1))))) :
  ∀ m k (n:Nat) b0 b01,n≤100→k+m=l.length→∃ x,q19a l n d k b0 b01=some x∧(match ckL (l.drop k) n d with|.inl f=>x=.inl ((),f)|.inr _=>∃ z,x=.inr z):=by
 intro m
 induction m with
 |zero =>
  intro k n b2 b21 hn hk
  have hk:k=l.length:=by omega
  subst hk
  refine ⟨_,q19c (r:=.inr ((l,(n:Int),(d:Int),(),(l.length:Int),false),(b2,b21))) (by
   simp only [q19h,z27,z28,z29,gL,dL,lN,eC,wI,p0,uL,q7r,qn6,EC.decL_encL,EC.isL_encL,EC.encL_length,qqq,q4i,q4j,q4n,q4o,q4p,q4q,q4r,q4s,q4t,q4u,q4k,q4l,q4m]
   simp),?_⟩
  rw [List.drop_length]
  exact ⟨_,rfl⟩
 |succ m ihm =>
  intro k n b2 b21 hn hk
  have hlt:k<l.length:=by omega
  have hr:=List.getElem_mem hlt
  have e1:decide ((k:Int)<(l.length:Int))=true:=by simp;omega
  have e0:decide ((0:Int)≤(k:Int))=true:=by simp
  have e2:IntKind.i64.wrap ((k:Int)+1)=((k+1:Nat):Int):=q1m2 hlt (by unfold big at hl;omega)
  have e3:IntKind.i64.wrap ((n:Int)+1)=((n+1:Nat):Int):=q1m2 (n:=1000) (by omega) (by omega)
  have hd2:decide (k<l.length)=true:=by simp [hlt]
  rw [qag hlt,ckL]
  by_cases h100:100≤n
  ·rw [if_pos h100]
   refine ⟨_,q19c (r:=.inl ((),(2,-1))) ?_,rfl⟩
   have:decide ((n:Int)≥100)=true:=by simp;omega
   simp only [q19h,z27,z28,z29,gL,dL,lN,eC,wI,p0,uL,q7r,qn6,EC.decL_encL,EC.isL_encL,EC.encL_length,qqq,q4i,q4j,q4n,q4o,q4p,q4q,q4r,q4s,q4t,q4u,q4k,q4l,q4m,e1,if_true,this,at_s,Option.bind_some]
  rw [if_neg h100]
  have en:decide ((n:Int)≥100)=false:=by simp;omega
  by_cases h8:(d:Int)>8
  ·have hc:rc l[k] d=5:=by unfold rc;rw [if_pos (by simpa using h8)]
   rw [if_pos (by rw [hc];decide),hc]
   refine ⟨_,q19c (r:=.inl ((),(5,(n:Int)))) ?_,rfl⟩
   simp only [q19h,z27,z28,z29,gL,dL,lN,eC,wI,p0,uL,q7r,qn6,EC.decL_encL,EC.isL_encL,EC.encL_length,qqq,q4i,q4j,q4n,q4o,q4p,q4q,q4r,q4s,q4t,q4u,q4k,q4l,q4m,e1,if_true,en,Bool.false_eq_true,if_false,decide_eq_true h8,at_s,Option.bind_some]
  have hd8:d≤8:=by omega
  have e4:IntKind.i64.wrap ((d:Int)+1)=((d+1:Nat):Int):=q1m2 (n:=100) (by omega) (by omega)
  have h8b:decide ((d:Int)>8)=false:=decide_eq_false h8
  have hrc:rc l[k] d=rHead l[k]:=by unfold rc;rw [h8b];rfl
  have hrule:=q1b2 l[k] (qv5 ho hr)
  rw [←hrc] at hrule
  by_cases hc:rc l[k] d=0
  case neg =>
   rw [if_pos hc]
   refine ⟨_,q19c (r:=.inl ((),(rc l[k] d,(n:Int)))) ?_,rfl⟩
   have hcb:(rc l[k] d != 0)=true:=by simpa using hc
   simp only [q19h,z27,z28,z29,gL,dL,lN,eC,wI,p0,uL,q7r,qn6,EC.decL_encL,EC.isL_encL,EC.encL_length,qqq,q4i,q4j,q4n,q4o,q4p,q4q,q4r,q4s,q4t,q4u,q4k,q4l,q4m,e1,e0,if_true,Int.toNat_natCast,hd2,Bool.and_self,at_s,Option.bind_some,en,Bool.false_eq_true,if_false,qn9 hlt,hrule,hcb,h8b]
  have hcb:(rc l[k] d != 0)=false:=by simpa using hc
  rw [if_neg (by simpa using hc)]
  obtain ⟨i1,i2⟩:=ih hd8 l[k] hr
  have j1:=i1 (n+1) (by omega)
  rw [ckR_eq]
  cases hq1:ckL l[k].Then (n+1) (d+1) with
  |inl f =>
   rw [hq1] at j1
   have hf:(f.1 != 0)=true:=by simpa using ck_inl (by omega) hq1
   refine ⟨_,q19c (r:=.inl ((),f)) ?_,rfl⟩
   simp only [q19h,z27,z28,z29,gL,dL,lN,eC,wI,p0,uL,q7r,qn6,EC.decL_encL,EC.isL_encL,EC.encL_length,qqq,q4i,q4j,q4n,q4o,q4p,q4q,q4r,q4s,q4t,q4u,q4k,q4l,q4m,e1,e0,if_true,Int.toNat_natCast,hd2,Bool.and_self,Option.bind_some,en,Bool.false_eq_true,if_false,qn9 hlt,hrule,hcb,h8b,e3,e4,j1,LR,hf]
  |inr n1 =>
   dsimp only
   rw [hq1] at j1
   obtain ⟨a1,a2⟩:=ck_inr (by omega) hq1
   obtain ⟨⟨_,_⟩,⟨o3,o4⟩,⟨o5,o6⟩,_⟩:=(qv6 l[k]).1 (qv5 ho hr)
   have c1:=q9e l[k].Then o3 o4
   have c2:=q9e l[k].Else o5 o6
   have w1:IntKind.i64.wrap ((szL l[k].Then:Nat):Int)=(szL l[k].Then:Nat):=q1m1 (by omega)
   rw [w1] at c1
   have e5:IntKind.i64.wrap (((n+1:Nat):Int)+(szL l[k].Then:Nat))=(n1:Int):=by rw [q1m1 (by omega)];omega
   have j2:=i2 n1 a2
   cases hq2:ckL l[k].Else n1 (d+1) with
   |inl f =>
    rw [hq2] at j2
    have hf:(f.1 != 0)=true:=by simpa using ck_inl a2 hq2
    refine ⟨_,q19c (r:=.inl ((),f)) ?_,rfl⟩
    simp only [q19h,z27,z28,z29,gL,dL,lN,eC,wI,p0,uL,q7r,qn6,EC.decL_encL,EC.isL_encL,EC.encL_length,qqq,q4i,q4j,q4n,q4o,q4p,q4q,q4r,q4s,q4t,q4u,q4k,q4l,q4m,e1,e0,if_true,Int.toNat_natCast,hd2,Bool.and_self,Option.bind_some,en,Bool.false_eq_true,if_false,qn9 hlt,hrule,hcb,h8b,e3,e4,j1,LR,bne_self_eq_false,c1,e5,j2,hf]
   |inr n2 =>
    rw [hq2] at j2
    obtain ⟨b1,b2'⟩:=ck_inr a2 hq2
    have w2:IntKind.i64.wrap ((szL l[k].Else:Nat):Int)=(szL l[k].Else:Nat):=q1m1 (by omega)
    rw [w2] at c2
    have e6:IntKind.i64.wrap ((n:Int)+IntKind.i64.wrap (IntKind.i64.wrap (1+((szL l[k].Then:Nat):Int))+((szL l[k].Else:Nat):Int)))=(n2:Int):=by
     rw [q1ly,q1lz,q1m1 (by omega)];omega
    obtain ⟨y,g1,g2⟩:=ihm (k+1) n2 b2 b21 b2' (by omega)
    refine ⟨y,q19c ?_,g2⟩
    simp only [q19h,z27,z28,z29,gL,dL,lN,eC,wI,p0,uL,q7r,qn6,EC.decL_encL,EC.isL_encL,EC.encL_length,qqq,q4i,q4j,q4n,q4o,q4p,q4q,q4r,q4s,q4t,q4u,q4k,q4l,q4m,e1,e0,if_true,Int.toNat_natCast,hd2,Bool.and_self,Option.bind_some,en,Bool.false_eq_true,if_false,qn9 hlt,hrule,hcb,h8b,e3,e4,j1,LR,bne_self_eq_false,c1,c2,e5,j2,e6,e2]
    exact g1
theorem lf_s:∀ (q:Nat) (l:List S50),szL l=q→l.length≤big→okL l→∀ d:Nat,d≤9→∀ n:Nat,n≤100→q19i l (n:Int) (d:Int)=some (LR (ckL l n d)):=by
 intro q
 induction q using Nat.strongRecOn with
 |_ q ih =>
  intro l hq hl ho d hd n hn
  obtain ⟨x,h1,h2⟩:=qs7 d hd l hl ho (fun hd8 r hr=>by
   have:=(qv6 r).1 (qv5 ho hr)
   exact ⟨fun n hn=>ih _ (hq ▸ q1ht hr) r.Then rfl this.2.1.1 this.2.1.2 (d+1) (by omega) n hn,fun n hn=>ih _ (hq ▸ q1hs hr) r.Else rfl this.2.2.1.1 this.2.2.1.2 (d+1) (by omega) n hn⟩) l.length 0 n 0 0 hn (by omega)
  have e:q19a l n d 0 0 0=some x:=h1
  rw [List.drop_zero] at h2
  refine q199 ?_
  simp only [q19j,gL,dL,qn6,EC.decL_encL,EC.isL_encL,if_true,e,Option.bind_some]
  cases hc:ckL l n d with
  |inl f=>rw [hc] at h2;subst h2;rfl
  |inr m=>rw [hc] at h2;obtain ⟨z,rfl⟩:=h2;rfl
theorem q1ba (l:List S50) (hl:l.length≤big) (ho:okL l):q144 l=some (scriptF l):=by
 have h:=lf_s _ l rfl hl ho 1 (by omega) 0 (by omega)
 have e:q19i l 0 1=some (scriptF l):=by
  have:scriptF l=LR (ckL l 0 1):=by unfold scriptF LR;rfl
  rw [this];exact h
 refine q143 ?_
 simp only [q145,gL,dL,qn6,EC.decL_encL,EC.isL_encL,if_true,e,Option.bind_some]
theorem q1fo {l:List S50} (h:(scriptF l).1=0):∃ m,ckL l 0 1=.inr m∧m=szL l∧szL l≤100:=by
 unfold scriptF at h
 cases hc:ckL l 0 1 with
 |inl f=>rw [hc] at h;exact absurd h (ck_inl (by omega) hc)
 |inr m =>
  obtain ⟨a,b⟩:=ck_inr (by omega) hc
  exact ⟨m,rfl,by omega,by omega⟩
def Ok {α:Type} (o:Option α) (Q:α→Prop):Prop:=∃ r,o=some r∧Q r
theorem qvc {α:Type} {x:α} {Q:α→Prop} (h:Q x):Ok (some x) Q:=⟨x,rfl,h⟩
theorem Ok.mono {α:Type} {o:Option α} {Q R:α→Prop} (h:Ok o Q) (k:∀ r,Q r→R r):Ok o R:=by obtain ⟨r,e,q⟩:=h;exact ⟨r,e,k r q⟩
theorem Ok.via {α:Type} {t s:Option α} {Q:α→Prop} (e:∀ {r},t=some r→s=some r) (h:Ok t Q):Ok s Q:=by obtain ⟨r,e1,q⟩:=h;exact ⟨r,e e1,q⟩
theorem qv9 {α:Type} {q:Bool} {a b:Option α} {Q:α→Prop} (h1:q=true→Ok a Q) (h2:q=false→Ok b Q):Ok (brE q a b) Q:=by
 cases q with
 |true=>exact h1 rfl
 |false=>exact h2 rfl
theorem qvb {α:Type} {q:Bool} {a:Option α} {Q:α→Prop} (hq:q=true) (h:Ok a Q):Ok (gdE q a) Q:=by subst hq;exact h
theorem qv8 {α β:Type} {o:Option α} {f:α→Option β} {P:α→Prop} {Q:β→Prop} (h:Ok o P) (k:∀ r,P r→Ok (f r) Q):Ok (o.bind f) Q:=by
 obtain ⟨r,rfl,p⟩:=h
 exact k r p
theorem qva {α:Type} {o:Option α} {x:α} (h:o=some x):Ok o fun r=>r=x:=⟨x,h,rfl⟩
theorem qna {o:Option Bool} (h:Ok o fun _=>True):o=some (o.getD false):=by obtain ⟨r,rfl,_⟩:=h;rfl
theorem qjr (a b:Int):Ok (q61 a b) fun r=>r=(a,b):=⟨_,qjs a b,rfl⟩
theorem qv0:Ok q72 fun r=>r=(0,0):=⟨_,none_s,rfl⟩
theorem qs6 (c:Int):Ok (q67 c) fun _=>True:=.via q66 (by
 unfold q68
 repeat' (first
  |exact ⟨_,rfl,trivial⟩
  |(refine qv9 ?_ ?_ <;> intro _)
  |(refine qv8 (qjr _ _) ?_;intro _ _)
  |(refine qv8 qv0 ?_;intro _ _)))
theorem q7k (c:Int):Ok (q5b c) fun _=>True:=.via q5a (by
 unfold q5c
 repeat' (first
  |exact ⟨_,rfl,trivial⟩
  |(refine qv9 ?_ ?_ <;> intro _)
  |(refine qv8 (qjr _ _) ?_;intro _ _)
  |(refine qv8 qv0 ?_;intro _ _)))
theorem quj (c:Int):Ok (q6q c) fun _=>True:=.via q6p (by
 unfold q6r
 repeat' (first
  |exact ⟨_,rfl,trivial⟩
  |(refine qv9 ?_ ?_ <;> intro _)
  |(refine qv8 (qjr _ _) ?_;intro _ _)
  |(refine qv8 qv0 ?_;intro _ _)
  |(refine qv8 (qs6 _) ?_;intro _ _)))
theorem qac (c:Int):Ok (qc7 c) fun _=>True:=.via qc6 (by
 unfold qc8
 repeat' (first
  |exact ⟨_,rfl,trivial⟩
  |(refine qv9 ?_ ?_ <;> intro _)
  |(refine qv8 (qjr _ _) ?_;intro _ _)
  |(refine qv8 qv0 ?_;intro _ _)))
theorem qr1 (s:ByteArray) (c:Int):Ok (ixbP s c) fun _=>True:=⟨_,rfl,trivial⟩
theorem qsf (c:Int):Ok (qd3 c) fun _=>True:=.via qd2 (by
 unfold qd4
 repeat' (first
  |exact ⟨_,rfl,trivial⟩
  |(refine qv9 ?_ ?_ <;> intro _)
  |(refine qv8 (qjr _ _) ?_;intro _ _)
  |(refine qv8 qv0 ?_;intro _ _)
  |(refine qv8 (qs6 _) ?_;intro _ _)
  |(refine qv8 (qr1 _ _) ?_;intro _ _)))
def fnB (c:Int):Bool:=decide (c≥33)&&(decide (c≤126)&&c != 58)
theorem fnC_s (c:Int):qlj c=some (fnB c):=qli (by
 simp only [qlk,q7r,fnB]
 cases decide (c≥33) <;> cases decide (c≤126) <;> rfl)
noncomputable def q2z (b:UInt8):Bool:=(fun b=>(q6q (nb b)).getD false) b
theorem q2y (s:ByteArray) (hs:s.size≤9223372036854775807):∀ m k:Nat,k+m=s.size→∃ x,q2q s s.size k=some x∧Sum.elim (fun r=>r.1) (fun _=>true) x=((L s).drop k).all q2z:=by
 intro m
 induction m with
 |zero =>
  intro k hk
  refine ⟨.inr ((s,((),((s.size:Int),((k:Int),false)))),()),q2s (by
   simp only [q2x,wI,p0,q7r]
   rw [if_neg (by simp;omega)]),?_⟩
  rw [List.drop_eq_nil_of_le (by rw [ql];omega)];rfl
 |succ m ih =>
  intro k hk
  have hlt:k<(L s).length:=by rw [ql];omega
  have e1:decide ((k:Int)<(s.size:Int))=true:=by simp;omega
  have e0:decide ((0:Int)≤(k:Int))=true:=by simp
  have e2:IntKind.i64.wrap ((k:Int)+1)=((k+1:Nat):Int):=q1m3 (n:=s.size) (by omega) hs
  have e3:decide (k<s.size)=true:=by simp;omega
  have hc:q6q (nb (L s)[k])=some (q2z (L s)[k]):=qna (quj _)
  rw [qag hlt,List.all_cons]
  cases hp:q2z (L s)[k] with
  |false =>
   rw [hp] at hc
   refine ⟨.inl (false,()),q2s ?_,rfl⟩
   simp only [q2x,wI,p0,q7r,qn6,e1,e0,e3,if_true,Int.toNat_natCast,Bool.and_self,q52 s hlt,hc,Option.bind_some,Bool.not_false]
  |true =>
   rw [hp] at hc
   obtain ⟨x,h1,h2⟩:=ih (k+1) (by omega)
   refine ⟨x,q2s ?_,by rw [Bool.true_and];exact h2⟩
   simp only [q2x,wI,p0,q7r,qn6,e1,e0,e3,if_true,Int.toNat_natCast,Bool.and_self,q52 s hlt,hc,Option.bind_some,Bool.not_true,Bool.false_eq_true,if_false,e2]
   exact h1
theorem q31 (s:ByteArray) (hs:s.size≤9223372036854775807):q30 s=some ((L s).all q2z):=by
 obtain ⟨x,h1,h2⟩:=q2y s hs s.size 0 (by omega)
 rw [List.drop_zero] at h2
 have h1:q2q s s.size 0=some x:=h1
 refine q2p ?_
 simp only [q32,h1,Option.bind_some,←h2]
 rcases x with x|x <;> rfl
noncomputable def q20 (b:UInt8):Bool:=(fun b=>fnB (nb b)) b
theorem q1z (s:ByteArray) (hs:s.size≤9223372036854775807):∀ m k:Nat,k+m=s.size→∃ x,q1r s s.size k=some x∧Sum.elim (fun r=>r.1) (fun _=>true) x=((L s).drop k).all q20:=by
 intro m
 induction m with
 |zero =>
  intro k hk
  refine ⟨.inr ((s,((),((s.size:Int),((k:Int),false)))),()),q1t (by
   simp only [q1y,wI,p0,q7r]
   rw [if_neg (by simp;omega)]),?_⟩
  rw [List.drop_eq_nil_of_le (by rw [ql];omega)];rfl
 |succ m ih =>
  intro k hk
  have hlt:k<(L s).length:=by rw [ql];omega
  have e1:decide ((k:Int)<(s.size:Int))=true:=by simp;omega
  have e0:decide ((0:Int)≤(k:Int))=true:=by simp
  have e2:IntKind.i64.wrap ((k:Int)+1)=((k+1:Nat):Int):=q1m3 (n:=s.size) (by omega) hs
  have e3:decide (k<s.size)=true:=by simp;omega
  have hc:qlj (nb (L s)[k])=some (q20 (L s)[k]):=fnC_s _
  rw [qag hlt,List.all_cons]
  cases hp:q20 (L s)[k] with
  |false =>
   rw [hp] at hc
   refine ⟨.inl (false,()),q1t ?_,rfl⟩
   simp only [q1y,wI,p0,q7r,qn6,e1,e0,e3,if_true,Int.toNat_natCast,Bool.and_self,q52 s hlt,hc,Option.bind_some,Bool.not_false]
  |true =>
   rw [hp] at hc
   obtain ⟨x,h1,h2⟩:=ih (k+1) (by omega)
   refine ⟨x,q1t ?_,by rw [Bool.true_and];exact h2⟩
   simp only [q1y,wI,p0,q7r,qn6,e1,e0,e3,if_true,Int.toNat_natCast,Bool.and_self,q52 s hlt,hc,Option.bind_some,Bool.not_true,Bool.false_eq_true,if_false,e2]
   exact h1
theorem q22 (s:ByteArray) (hs:s.size≤9223372036854775807):q21 s=some ((L s).all q20):=by
 obtain ⟨x,h1,h2⟩:=q1z s hs s.size 0 (by omega)
 rw [List.drop_zero] at h2
 have h1:q1r s s.size 0=some x:=h1
 refine q1q ?_
 simp only [q23,h1,Option.bind_some,←h2]
 rcases x with x|x <;> rfl
noncomputable def q1j (b:UInt8):Bool:=(fun b=>(qc7 (nb b)).getD false) b
theorem q1i (s:ByteArray) (hs:s.size≤9223372036854775807):∀ m k:Nat,k+m=s.size→∃ x,q1a s s.size k=some x∧Sum.elim (fun r=>r.1) (fun _=>true) x=((L s).drop k).all q1j:=by
 intro m
 induction m with
 |zero =>
  intro k hk
  refine ⟨.inr ((s,((),((s.size:Int),((k:Int),false)))),()),q1c (by
   simp only [q1h,wI,p0,q7r]
   rw [if_neg (by simp;omega)]),?_⟩
  rw [List.drop_eq_nil_of_le (by rw [ql];omega)];rfl
 |succ m ih =>
  intro k hk
  have hlt:k<(L s).length:=by rw [ql];omega
  have e1:decide ((k:Int)<(s.size:Int))=true:=by simp;omega
  have e0:decide ((0:Int)≤(k:Int))=true:=by simp
  have e2:IntKind.i64.wrap ((k:Int)+1)=((k+1:Nat):Int):=q1m3 (n:=s.size) (by omega) hs
  have e3:decide (k<s.size)=true:=by simp;omega
  have hc:qc7 (nb (L s)[k])=some (q1j (L s)[k]):=qna (qac _)
  rw [qag hlt,List.all_cons]
  cases hp:q1j (L s)[k] with
  |false =>
   rw [hp] at hc
   refine ⟨.inl (false,()),q1c ?_,rfl⟩
   simp only [q1h,wI,p0,q7r,qn6,e1,e0,e3,if_true,Int.toNat_natCast,Bool.and_self,q52 s hlt,hc,Option.bind_some,Bool.not_false]
  |true =>
   rw [hp] at hc
   obtain ⟨x,h1,h2⟩:=ih (k+1) (by omega)
   refine ⟨x,q1c ?_,by rw [Bool.true_and];exact h2⟩
   simp only [q1h,wI,p0,q7r,qn6,e1,e0,e3,if_true,Int.toNat_natCast,Bool.and_self,q52 s hlt,hc,Option.bind_some,Bool.not_true,Bool.false_eq_true,if_false,e2]
   exact h1
theorem q1l (s:ByteArray) (hs:s.size≤9223372036854775807):q1k s=some ((L s).all q1j):=by
 obtain ⟨x,h1,h2⟩:=q1i s hs s.size 0 (by omega)
 rw [List.drop_zero] at h2
 have h1:q1a s s.size 0=some x:=h1
 refine q19 ?_
 simp only [q1m,h1,Option.bind_some,←h2]
 rcases x with x|x <;> rfl
noncomputable def q2i (b:UInt8):Bool:=(fun b=>(qd3 (nb b)).getD false) b
theorem q2h (s:ByteArray) (hs:s.size≤9223372036854775807):∀ m k:Nat,k+m=s.size→∃ x,q29 s s.size k=some x∧Sum.elim (fun r=>r.1) (fun _=>true) x=((L s).drop k).all q2i:=by
 intro m
 induction m with
 |zero =>
  intro k hk
  refine ⟨.inr ((s,((),((s.size:Int),((k:Int),false)))),()),q2b (by
   simp only [q2g,wI,p0,q7r]
   rw [if_neg (by simp;omega)]),?_⟩
  rw [List.drop_eq_nil_of_le (by rw [ql];omega)];rfl
 |succ m ih =>
  intro k hk
  have hlt:k<(L s).length:=by rw [ql];omega
  have e1:decide ((k:Int)<(s.size:Int))=true:=by simp;omega
  have e0:decide ((0:Int)≤(k:Int))=true:=by simp
  have e2:IntKind.i64.wrap ((k:Int)+1)=((k+1:Nat):Int):=q1m3 (n:=s.size) (by omega) hs
  have e3:decide (k<s.size)=true:=by simp;omega
  have hc:qd3 (nb (L s)[k])=some (q2i (L s)[k]):=qna (qsf _)
  rw [qag hlt,List.all_cons]
  cases hp:q2i (L s)[k] with
  |false =>
   rw [hp] at hc
   refine ⟨.inl (false,()),q2b ?_,rfl⟩
   simp only [q2g,wI,p0,q7r,qn6,e1,e0,e3,if_true,Int.toNat_natCast,Bool.and_self,q52 s hlt,hc,Option.bind_some,Bool.not_false]
  |true =>
   rw [hp] at hc
   obtain ⟨x,h1,h2⟩:=ih (k+1) (by omega)
   refine ⟨x,q2b ?_,by rw [Bool.true_and];exact h2⟩
   simp only [q2g,wI,p0,q7r,qn6,e1,e0,e3,if_true,Int.toNat_natCast,Bool.and_self,q52 s hlt,hc,Option.bind_some,Bool.not_true,Bool.false_eq_true,if_false,e2]
   exact h1
theorem q2k (s:ByteArray) (hs:s.size≤9223372036854775807):q2j s=some ((L s).all q2i):=by
 obtain ⟨x,h1,h2⟩:=q2h s hs s.size 0 (by omega)
 rw [List.drop_zero] at h2
 have h1:q29 s s.size 0=some x:=h1
 refine q28 ?_
 simp only [q2l,h1,Option.bind_some,←h2]
 rcases x with x|x <;> rfl
noncomputable def fnameB (s:ByteArray):Bool:=!em s&&(decide ((s.size:Int)≤60)&&(L s).all q20)
theorem qki (s:ByteArray):qlp s=some (fnameB s):=qlo (by
 simp only [qlq,q7r,qbg,fnameB]
 cases em s with
 |true=>rfl
 |false =>
  cases h:decide ((s.size:Int)≤60) with
  |false=>simp
  |true=>simp [q22 s (by have:=of_decide_eq_true h;omega)])
theorem qbw (s:ByteArray) (hs:s.size<4294967281):Ok (qlb s) fun r=>s.size=0→r=false:=.via qla (by
 unfold qlc canyP
 rw [if_pos ⟨hs,rfl⟩]
 refine qvc ?_
 intro h0
 have:s.data.toList=[]:=by
  apply List.eq_nil_of_length_eq_zero
  rw [Array.length_toList]
  exact h0
 rw [this]
 rfl)
theorem q1lk (s:ByteArray) (hs:s.size<4294967281):Ok (qma s) fun r=>s.size=0→r=true:=.via qm9 (by
 unfold qmb
 try simp only [p0]
 refine qv8 (qbw s hs) ?_
 intro r hr
 refine qv9 ?_ ?_
 ·intro _
  simp only [qbg]
  refine qv9 ?_ ?_
  ·intro he
   have h0:s.size≠0:=by intro h0;rw [qbh] at he;simp [h0] at he
   have hw:IntKind.i64.wrap ((s.size:Int) - 1)=((s.size - 1:Nat):Int):=by rw [q1m1 (by omega)];omega
   refine qvb (by simp;omega) ?_
   refine qv8 (q7k _) ?_
   intro r1 _
   refine qv9 ?_ ?_
   ·intro _
    rw [hw]
    refine qvb (by simp;omega) ?_
    refine qv8 (q7k _) ?_
    intro r2 _
    exact qvc (fun h=>absurd h h0)
   ·intro _
    exact qvc (fun h=>absurd h h0)
  ·intro _
   exact qvc (fun _=>rfl)
 ·intro h
  exact qvc (fun h0=>by rw [hr h0] at h;cases h))
end Go.Proofs.YtokahibbkdbndaaGreatDoor
