/- What the check of a script answers: the program's and the reference's are the same. -/
import Derived.Test.YtokahibbkdbndaaGreatDoorZ24
namespace Go.Proofs.YtokahibbkdbndaaGreatDoor
open Go.RowKit
theorem qpt (a b:List S50):([[.sl (q26r.encL a)],[.sl (q26r.encL b)]]:List (List C))=q26m.encL [a,b]:=rfl
def rc (r:S50) (d:Nat):Int:=if decide ((d:Int) > 8)=true then 5 else rHead r
mutual
def ckR:S50→Nat→Nat→(Int × Int) ⊕ Nat
 |⟨_,_,_,_,_,_,_,t,e,_,_,_,_⟩,n,d=>match ckL t (n+1) (d+1) with
  |.inl f=>.inl f
  |.inr n1=>ckL e n1 (d+1)
def ckL:List S50→Nat→Nat→(Int × Int) ⊕ Nat
 |[],n,_=>.inr n
 |r::l,n,d=>if 100≤n then .inl (2,-1) else if rc r d≠0 then .inl (rc r d,n) else match ckR r n d with
  |.inl f=>.inl f
  |.inr n2=>ckL l n2 d
end
theorem ckR_eq (r:S50) (n d:Nat):ckR r n d=match ckL r.Then (n+1) (d+1) with|.inl f=>.inl f|.inr n1=>ckL r.Else n1 (d+1):=by cases r;rfl
theorem ck_sz:∀ (q:Nat) (l:List S50),szL l=q→∀ n d,n≤100→(∀ m,ckL l n d=.inr m→m=n+szL l∧m≤100)∧(∀ f,ckL l n d=.inl f→f.1≠0):=by
 intro q
 induction q using Nat.strongRecOn with
 |_ q ih =>
  intro l
  induction l with
  |nil =>
   intro _ n d hn
   refine ⟨fun m h=>?_,fun f h=>by cases h⟩
   injection h with h
   subst h
   exact ⟨by simp [szL],hn⟩
  |cons r l ihl =>
   intro hq n d hn
   have h1:=qz5 (l:=r::l) (r:=r) (by simp)
   have h2:=qz4 (l:=r::l) (r:=r) (by simp)
   have hR:n<100→(∀ m,ckR r n d=.inr m→m=n+szR r∧m≤100)∧(∀ f,ckR r n d=.inl f→f.1≠0):=by
    intro hlt
    obtain ⟨a1,a2⟩:=ih _ (hq ▸ h1) r.Then rfl (n+1) (d+1) (by omega)
    rw [ckR_eq]
    cases ht:ckL r.Then (n+1) (d+1) with
    |inl f=>exact ⟨fun m h=>(by cases h),fun f' h=>(by injection h with h;subst h;exact a2 _ ht)⟩
    |inr n1 =>
     obtain ⟨b1,b2⟩:=a1 n1 ht
     obtain ⟨c1,c2⟩:=ih _ (hq ▸ h2) r.Else rfl n1 (d+1) b2
     refine ⟨fun m h=>?_,fun f h=>c2 f h⟩
     obtain ⟨e1,e2⟩:=c1 m h
     exact ⟨by rw [e1,b1,q27t];omega,e2⟩
   have hl:∀ n2,n2≤100→(∀ m,ckL l n2 d=.inr m→m=n2+szL l∧m≤100)∧(∀ f,ckL l n2 d=.inl f→f.1≠0):=by
    intro n2 hn2
    exact ih (szL l) (by rw [←hq];simp only [szL];have:=q27t r;omega) l rfl n2 d hn2
   simp only [ckL]
   split
   ·exact ⟨fun m h=>(by cases h),fun f h=>(by injection h with h;subst h;decide)⟩
   ·rename_i hlt
    split
    ·rename_i hne
     exact ⟨fun m h=>(by cases h),fun f h=>(by injection h with h;subst h;exact hne)⟩
    ·obtain ⟨a1,a2⟩:=hR (by omega)
     cases hr:ckR r n d with
     |inl f=>exact ⟨fun m h=>(by cases h),fun f' h=>(by injection h with h;subst h;exact a2 _ hr)⟩
     |inr n2 =>
      obtain ⟨b1,b2⟩:=a1 n2 hr
      obtain ⟨c1,c2⟩:=hl n2 b2
      refine ⟨fun m h=>?_,fun f h=>c2 f h⟩
      obtain ⟨e1,e2⟩:=c1 m h
      exact ⟨by rw [e1,b1];simp only [szL];omega,e2⟩
theorem ck_inr {l:List S50} {n d m:Nat} (hn:n≤100) (h:ckL l n d=.inr m):m=n+szL l∧m≤100:=(ck_sz _ l rfl n d hn).1 m h
theorem ck_inl {l:List S50} {n d:Nat} {f:Int × Int} (hn:n≤100) (h:ckL l n d=.inl f):f.1≠0:=(ck_sz _ l rfl n d hn).2 f h
def VR (c:(Int × Int) ⊕ Nat) (x:(Int × Int) × ((Int × Int) × (Int × (Unit × Unit)))):Prop:=match c with
 |.inl f=>x.1=f
 |.inr m=>x.1=(0,0)∧x.2.2.1=(m:Int)
def VL (c:(Int × Int) ⊕ Nat) {α:Type} (x:(Unit × ((Int × Int) × Int × (Unit × Unit))) ⊕ α) (y:Nat→α→Prop):Prop:=match c with
 |.inl f=>∃ n',x=.inl ((),(f,(n',((),()))))
 |.inr m=>∃ z,x=.inr z∧y m z
theorem q11l (d:Nat) (hd:d≤8) (l:List S50) (t14 t15 b2 b21:Int) (r:S50) (n:Nat) (hn:n<100)
  (i1:∀ n:Nat,n≤100→∃ x,qtr r.Then ((d+1:Nat):Int) (n:Int)=some x∧VR (ckL r.Then n (d+1)) x) (i2:∀ n:Nat,n≤100→∃ x,qtr r.Else ((d+1:Nat):Int) (n:Int)=some x∧VR (ckL r.Else n (d+1)) x) :
  ∃ x,qtu d l t14 t15 2 2 0 ((n+1:Nat):Int) b2 b21 [r.Then,r.Else]=some x∧VL (ckR r n d) x (fun (m:Nat) z=>z=(((d:Int),(),(),(),l,t14,t15,2,2,2,false),((m:Int),((),()),(b2,b21),[r.Then,r.Else]))):=by
 have e3:IntKind.i64.wrap ((d:Int)+1)=((d+1:Nat):Int):=q27y (n:=100) (by omega) (by omega)
 have w1:IntKind.i64.wrap ((0:Int)+1)=1:=q27x (by omega)
 have w2:IntKind.i64.wrap ((1:Int)+1)=2:=q27x (by omega)
 have f0:((List.getD (q26m.encL [r.Then,r.Else]) 0 []).length==1)=true:=rfl
 have f1:((List.getD (q26m.encL [r.Then,r.Else]) 1 []).length==1)=true:=rfl
 have p0:isP [K1.sl] 0 (List.getD (q26m.encL [r.Then,r.Else]) 0 [])=true:=rfl
 have p1:isP [K1.sl] 0 (List.getD (q26m.encL [r.Then,r.Else]) 1 [])=true:=rfl
 have q0:∀ z,List.getD [r.Then,r.Else] 0 z=r.Then:=fun _=>rfl
 have q1:∀ z,List.getD [r.Then,r.Else] 1 z=r.Else:=fun _=>rfl
 have l0:decide (0<List.length [r.Then,r.Else])=true:=rfl
 have l1:decide (1<List.length [r.Then,r.Else])=true:=rfl
 have n0:Int.toNat 0=0:=rfl
 have n1:Int.toNat 1=1:=rfl
 have c1:decide ((0:Int)<2)=true:=rfl
 have c2:decide ((1:Int)<2)=true:=rfl
 have c3:decide ((2:Int)<2)=false:=rfl
 have c4:decide ((0:Int)≤0)=true:=rfl
 have c5:decide ((0:Int)≤1)=true:=rfl
 have c6:decide ((0:Int)<((2:Nat):Int))=true:=rfl
 have c7:decide ((1:Int)<((2:Nat):Int))=true:=rfl
 have s2:∀ m:Nat,qtu d l t14 t15 2 2 2 m b2 b21 [r.Then,r.Else]=some (.inr (((d:Int),(),(),(),l,t14,t15,2,2,2,false),((m:Int),((),()),(b2,b21),[r.Then,r.Else]))):=fun m=>qtw (by
  simp only [qu1,q26i,q26z,EC.decL_encL,EC.isL_encL,EC.encL_length,q3t,c3,Bool.false_eq_true,if_false,if_true])
 have s1:∀ m:Nat,m≤100→∃ x,qtu d l t14 t15 2 2 1 m b2 b21 [r.Then,r.Else]=some x∧VL (ckL r.Else m (d+1)) x (fun (m:Nat) z=>z=(((d:Int),(),(),(),l,t14,t15,2,2,2,false),((m:Int),((),()),(b2,b21),[r.Then,r.Else]))):=by
  intro m hm
  obtain ⟨x,h1,h2⟩:=i2 m hm
  cases hc:ckL r.Else m (d+1) with
  |inl f =>
   rw [hc] at h2
   have h2:x.1=f:=h2
   have hf:(f.1 != 0)=true:=by simpa using ck_inl hm hc
   refine ⟨.inl ((),(f,(x.2.2.1,((),())))),qtw ?_,⟨_,rfl⟩⟩
   simp only [qu1,q26i,q26z,EC.decL_encL,EC.isL_encL,EC.encL_length,q3t,c2,c5,c7,n1,l1,f1,p1,q1,Bool.and_self,if_true,e3,h1,qf3,Option.bind_some,h2,hf]
  |inr q =>
   rw [hc] at h2
   obtain ⟨h2,h3⟩:x.1=(0,0)∧x.2.2.1=(q:Int):=h2
   refine ⟨_,qtw (r:=.inr (((d:Int),(),(),(),l,t14,t15,2,2,2,false),((q:Int),((),()),(b2,b21),[r.Then,r.Else]))) ?_,⟨_,rfl,rfl⟩⟩
   simp only [qu1,q26i,q26z,EC.decL_encL,EC.isL_encL,EC.encL_length,q3t,c2,c5,c7,n1,l1,f1,p1,q1,Bool.and_self,if_true,e3,h1,qf3,Option.bind_some,h2,h3,w2,s2,bne_self_eq_false,Bool.false_eq_true,if_false]
 obtain ⟨x,h1,h2⟩:=i1 (n+1) (by omega)
 rw [ckR_eq]
 cases hc:ckL r.Then (n+1) (d+1) with
 |inl f =>
  rw [hc] at h2
  have h2:x.1=f:=h2
  have hf:(f.1 != 0)=true:=by simpa using ck_inl (by omega) hc
  refine ⟨.inl ((),(f,(x.2.2.1,((),())))),qtw ?_,⟨_,rfl⟩⟩
  simp only [qu1,q26i,q26z,EC.decL_encL,EC.isL_encL,EC.encL_length,q3t,c1,c4,c6,n0,l0,f0,p0,q0,Bool.and_self,if_true,e3,h1,qf3,Option.bind_some,h2,hf]
 |inr q =>
  rw [hc] at h2
  obtain ⟨h2,h3⟩:x.1=(0,0)∧x.2.2.1=(q:Int):=h2
  obtain ⟨y,g1,g2⟩:=s1 q (ck_inr (by omega) hc).2
  refine ⟨y,qtw ?_,g2⟩
  simp only [qu1,q26i,q26z,EC.decL_encL,EC.isL_encL,EC.encL_length,q3t,c1,c4,c6,n0,l0,f0,p0,q0,Bool.and_self,if_true,e3,h1,qf3,Option.bind_some,h2,h3,w1,g1,bne_self_eq_false,Bool.false_eq_true,if_false]
theorem val_l2 (d:Nat) (hd:d≤9) (l:List S50) (hl:l.length≤big) (ho:okL l)
  (ih:d≤8→∀ r∈l,(∀ n:Nat,n≤100→∃ x,qtr r.Then ((d+1:Nat):Int) (n:Int)=some x∧VR (ckL r.Then n (d+1)) x)∧(∀ n:Nat,n≤100→∃ x,qtr r.Else ((d+1:Nat):Int) (n:Int)=some x∧VR (ckL r.Else n (d+1)) x)) :
  ∀ m k (n:Nat) b2 b21,n≤100→k+m=l.length→∃ x,qu2 d l l.length k n b2 b21=some x∧VL (ckL (l.drop k) n d) x (fun (m:Nat) z=>z.2.1=(m:Int)):=by
 intro m
 induction m with
 |zero =>
  intro k n b2 b21 hn hk
  have hk:k=l.length:=by omega
  subst hk
  refine ⟨_,qu4 (r:=.inr (((d:Int),(),(),(),l,(l.length:Int),(l.length:Int),false),((n:Int),((),()),(b2,b21)))) (by
   simp only [qu9,q26i,q26z,EC.decL_encL,EC.isL_encL,EC.encL_length,q277,q41,q42,q46,q47,q48,q49,q4a,q4b,q4c,q4d,q43,q44,q45]
   simp),?_⟩
  rw [List.drop_length]
  exact ⟨_,rfl,rfl⟩
 |succ m ihm =>
  intro k n b2 b21 hn hk
  have hlt:k<l.length:=by omega
  have hr:=List.getElem_mem hlt
  have e1:decide ((k:Int)<(l.length:Int))=true:=by simp;omega
  have e0:decide ((0:Int)≤(k:Int))=true:=by simp
  have e2:IntKind.i64.wrap ((k:Int)+1)=((k+1:Nat):Int):=q27y hlt (by unfold big at hl;omega)
  have e3:IntKind.i64.wrap ((n:Int)+1)=((n+1:Nat):Int):=q27y (n:=1000) (by omega) (by omega)
  have hd2:decide (k<l.length)=true:=by simp [hlt]
  rw [q97 hlt,ckL]
  by_cases h100:100≤n
  ·have hn100:n=100:=by omega
   subst hn100
   refine ⟨_,qu4 (r:=.inl ((),((2,-1),((100:Nat),((),()))))) ?_,?_⟩
   ·simp only [qu9,q26i,q26z,EC.decL_encL,EC.isL_encL,EC.encL_length,q277,q41,q42,q46,q47,q48,q49,q4a,q4b,q4c,q4d,q43,q44,q45,e1,e0,if_true,Int.toNat_natCast,hd2,Bool.and_self,qf5,Option.bind_some]
    rfl
   ·rw [if_pos h100];exact ⟨_,rfl⟩
  rw [if_neg h100]
  have en:((n:Int)==100)=false:=by simp;omega
  have hrule:=rule_s l[k] (qpa ho hr) d
  have hrule:qv7 l[k].Kind l[k].Test_Kind l[k].Test_Tests l[k].Test_Name l[k].Test_Pattern l[k].Test_Text l[k].Test_N l[k].Then l[k].Else l[k].Act l[k].Name l[k].Text l[k].N d=some (rc l[k] d):=hrule
  by_cases hc:rc l[k] d=0
  case neg =>
   refine ⟨_,qu4 (r:=.inl ((),((rc l[k] d,(n:Int)),((n:Int),((),()))))) ?_,?_⟩
   ·have hcb:(rc l[k] d != 0)=true:=by simpa using hc
    simp only [qu9,q26i,q26z,EC.decL_encL,EC.isL_encL,EC.encL_length,q277,q41,q42,q46,q47,q48,q49,q4a,q4b,q4c,q4d,q43,q44,q45,e1,e0,if_true,Int.toNat_natCast,hd2,Bool.and_self,qf5,Option.bind_some,en,Bool.false_eq_true,if_false,qik hlt,hrule,hcb]
   ·rw [if_pos hc];exact ⟨_,rfl⟩
  have hcb:(rc l[k] d != 0)=false:=by simpa using hc
  have hd8:d≤8:=by
   rcases Nat.lt_or_ge 8 d with h|h
   ·unfold rc at hc
    rw [if_pos (by simp;omega)] at hc
    cases hc
   ·exact h
  rw [if_neg (by simpa using hc)]
  obtain ⟨i1,i2⟩:=ih hd8 l[k] hr
  obtain ⟨x,h1,h2⟩:=q11l d hd8 l (l.length:Int) (k:Int) b2 b21 l[k] n (by omega) i1 i2
  cases hq:ckR l[k] n d with
  |inl f =>
   rw [hq] at h2
   obtain ⟨n',rfl⟩:=h2
   refine ⟨_,qu4 (r:=.inl ((),(f,(n',((),()))))) ?_,⟨_,rfl⟩⟩
   simp only [qu9,q26i,q26z,EC.decL_encL,EC.isL_encL,EC.encL_length,q277,q41,q42,q46,q47,q48,q49,q4a,q4b,q4c,q4d,q43,q44,q45,e1,e0,if_true,Int.toNat_natCast,hd2,Bool.and_self,Option.bind_some,en,Bool.false_eq_true,if_false,qik hlt,hrule,hcb,qpt,e3]
   have h1':qtu d l l.length k 2 ((2:Nat):Int) 0 ((n+1:Nat):Int) b2 b21 [l[k].Then,l[k].Else]=_:=h1
   rw [h1']
   rfl
  |inr q =>
   rw [hq] at h2
   obtain ⟨z,rfl,rfl⟩:=h2
   have hq100:q≤100:=by
    have:=(ck_sz (szL [l[k]]) [l[k]] rfl n d hn).1 q (by simp only [ckL];rw [if_neg h100,if_neg (by simpa using hc),hq])
    exact this.2
   obtain ⟨y,g1,g2⟩:=ihm (k+1) q b2 b21 hq100 (by omega)
   refine ⟨y,qu4 ?_,g2⟩
   simp only [qu9,q26i,q26z,EC.decL_encL,EC.isL_encL,EC.encL_length,q277,q41,q42,q46,q47,q48,q49,q4a,q4b,q4c,q4d,q43,q44,q45,e1,e0,if_true,Int.toNat_natCast,hd2,Bool.and_self,Option.bind_some,en,Bool.false_eq_true,if_false,qik hlt,hrule,hcb,qpt,e3]
   have h1':qtu d l l.length k 2 ((2:Nat):Int) 0 ((n+1:Nat):Int) b2 b21 [l[k].Then,l[k].Else]=_:=h1
   rw [h1']
   simp only [Option.bind_some,Sum.elim_inr,e2]
   exact g1
theorem val_h2:∀ (q:Nat) (l:List S50),szL l=q→l.length≤big→okL l→∀ d:Nat,d≤9→∀ n:Nat,n≤100→∃ x,qtr l (d:Int) (n:Int)=some x∧VR (ckL l n d) x:=by
 intro q
 induction q using Nat.strongRecOn with
 |_ q ih =>
  intro l hq hl ho d hd n hn
  obtain ⟨x,h1,h2⟩:=val_l2 d hd l hl ho (fun hd8 r hr=>by
   have:=(q27h r).1 (qpa ho hr)
   exact ⟨fun n hn=>ih _ (hq ▸ qz5 hr) r.Then rfl this.2.1.1 this.2.1.2 (d+1) (by omega) n hn,fun n hn=>ih _ (hq ▸ qz4 hr) r.Else rfl this.2.2.1.1 this.2.2.1.2 (d+1) (by omega) n hn⟩) l.length 0 n 0 0 hn (by omega)
  have e:qu2 d l l.length 0 n 0 0=some x:=h1
  rw [List.drop_zero] at h2
  cases hc:ckL l n d with
  |inl f =>
   rw [hc] at h2
   obtain ⟨n',rfl⟩:=h2
   refine ⟨_,qtt (r:=(f,(f,(n',((),()))))) ?_,rfl⟩
   simp only [qud,q26z,EC.decL_encL,EC.isL_encL,EC.encL_length,if_true,e,Option.bind_some,Sum.elim_inl]
  |inr m =>
   rw [hc] at h2
   obtain ⟨z,rfl,h3⟩:=h2
   refine ⟨_,qtt (r:=((0,0),((0,0),((m:Int),((),()))))) ?_,⟨rfl,rfl⟩⟩
   simp only [qud,q26z,EC.decL_encL,EC.isL_encL,EC.encL_length,if_true,e,Option.bind_some,Sum.elim_inr,none_s,h3]
def scriptF (l:List S50):Int × Int:=match ckL l 0 1 with
 |.inl f=>f
 |.inr _=>(0,0)
theorem q11m (l:List S50) (hl:l.length≤big) (ho:okL l):qui l=some (scriptF l):=by
 obtain ⟨x,h1,h2⟩:=val_h2 _ l rfl hl ho 1 (by omega) 0 (by omega)
 refine quh ?_
 have e:qtr l 1 0=some x:=h1
 simp only [quj,q26z,EC.decL_encL,EC.isL_encL,if_true,e,Option.bind_some]
 unfold scriptF
 cases hc:ckL l 0 1 with
 |inl f=>rw [hc] at h2;have h2:x.1=f:=h2;simp only [h2]
 |inr m=>rw [hc] at h2;have h2:x.1=(0,0):=h2.1;simp only [h2]
end Go.Proofs.YtokahibbkdbndaaGreatDoor
namespace Go.Proofs.YtokahibbkdbndaaGreatDoor
open Go.RowKit
theorem qx9 {l:List S50} (h:(scriptF l).1=0):∃ m,ckL l 0 1=.inr m∧m=szL l∧szL l≤100:=by
 unfold scriptF at h
 cases hc:ckL l 0 1 with
 |inl f=>rw [hc] at h;exact absurd h (ck_inl (by omega) hc)
 |inr m =>
  obtain ⟨a,b⟩:=ck_inr (by omega) hc
  exact ⟨m,rfl,by omega,by omega⟩
def Ok {α:Type} (o:Option α) (Q:α→Prop):Prop:=∃ r,o=some r∧Q r
theorem qpd {α:Type} {x:α} {Q:α→Prop} (h:Q x):Ok (some x) Q:=⟨x,rfl,h⟩
theorem Ok.mono {α:Type} {o:Option α} {Q R:α→Prop} (h:Ok o Q) (k:∀ r,Q r→R r):Ok o R:=by obtain ⟨r,e,q⟩:=h;exact ⟨r,e,k r q⟩
theorem Ok.via {α:Type} {t s:Option α} {Q:α→Prop} (e:∀ {r},t=some r→s=some r) (h:Ok t Q):Ok s Q:=by obtain ⟨r,e1,q⟩:=h;exact ⟨r,e e1,q⟩
theorem q27i {α:Type} {q:Bool} {a b:Option α} {Q:α→Prop} (h1:q=true→Ok a Q) (h2:q=false→Ok b Q):Ok (brE q a b) Q:=by
 cases q with
 |true=>exact h1 rfl
 |false=>exact h2 rfl
theorem q27k {α:Type} {q:Bool} {a:Option α} {Q:α→Prop} (hq:q=true) (h:Ok a Q):Ok (gdE q a) Q:=by subst hq;exact h
theorem qpc {α β:Type} {o:Option α} {f:α→Option β} {P:α→Prop} {Q:β→Prop} (h:Ok o P) (k:∀ r,P r→Ok (f r) Q):Ok (o.bind f) Q:=by
 obtain ⟨r,rfl,p⟩:=h
 exact k r p
theorem q27j {α:Type} {o:Option α} {x:α} (h:o=some x):Ok o fun r=>r=x:=⟨x,h,rfl⟩
theorem qil {o:Option Bool} (h:Ok o fun _=>True):o=some (o.getD false):=by obtain ⟨r,rfl,_⟩:=h;rfl
theorem qf4 (a b:Int):Ok (q5d a b) fun r=>r=(a,b):=⟨_,qf5 a b,rfl⟩
theorem qp6:Ok q6e fun r=>r=(0,0):=⟨_,none_s,rfl⟩
theorem qmr (c:Int):Ok (q5j c) fun _=>True:=.via q5i (by
 unfold q5k
 repeat' (first
  |exact ⟨_,rfl,trivial⟩
  |(refine q27i ?_ ?_ <;> intro _)
  |(refine qpc (qf4 _ _) ?_;intro _ _)
  |(refine qpc qp6 ?_;intro _ _)))
theorem q6u (c:Int):Ok (q4n c) fun _=>True:=.via q4m (by
 unfold q4o
 repeat' (first
  |exact ⟨_,rfl,trivial⟩
  |(refine q27i ?_ ?_ <;> intro _)
  |(refine qpc (qf4 _ _) ?_;intro _ _)
  |(refine qpc qp6 ?_;intro _ _)))
theorem qor (c:Int):Ok (q62 c) fun _=>True:=.via q61 (by
 unfold q63
 repeat' (first
  |exact ⟨_,rfl,trivial⟩
  |(refine q27i ?_ ?_ <;> intro _)
  |(refine qpc (qf4 _ _) ?_;intro _ _)
  |(refine qpc qp6 ?_;intro _ _)
  |(refine qpc (qmr _) ?_;intro _ _)))
theorem q93 (c:Int):Ok (qa5 c) fun _=>True:=.via qa4 (by
 unfold qa6
 repeat' (first
  |exact ⟨_,rfl,trivial⟩
  |(refine q27i ?_ ?_ <;> intro _)
  |(refine qpc (qf4 _ _) ?_;intro _ _)
  |(refine qpc qp6 ?_;intro _ _)))
theorem qls (s:ByteArray) (c:Int):Ok (ixbP s c) fun _=>True:=⟨_,rfl,trivial⟩
theorem qmz (c:Int):Ok (qb1 c) fun _=>True:=.via qb0 (by
 unfold qb2
 repeat' (first
  |exact ⟨_,rfl,trivial⟩
  |(refine q27i ?_ ?_ <;> intro _)
  |(refine qpc (qf4 _ _) ?_;intro _ _)
  |(refine qpc qp6 ?_;intro _ _)
  |(refine qpc (qmr _) ?_;intro _ _)
  |(refine qpc (qls _ _) ?_;intro _ _)))
def fnB (c:Int):Bool:=decide (c ≥ 33)&&(decide (c≤126)&&c != 58)
theorem fnC_s (c:Int):qgv c=some (fnB c):=qgu (by
 simp only [qgw,q26i,fnB]
 cases decide (c ≥ 33) <;> cases decide (c≤126) <;> rfl)
noncomputable def q2s (b:UInt8):Bool:=(fun b=>(q62 (nb b)).getD false) b
theorem q2r (s:ByteArray) (hs:s.size≤9223372036854775807):∀ m k:Nat,k+m=s.size→∃ x,q2j s s.size k=some x∧Sum.elim (fun r=>r.1) (fun _=>true) x=((L s).drop k).all q2s:=by
 intro m
 induction m with
 |zero =>
  intro k hk
  refine ⟨.inr ((s,((),((s.size:Int),((k:Int),false)))),()),q2l (by
   simp only [q2q,q26i]
   rw [if_neg (by simp;omega)]),?_⟩
  rw [List.drop_eq_nil_of_le (by rw [q264];omega)];rfl
 |succ m ih =>
  intro k hk
  have hlt:k<(L s).length:=by rw [q264];omega
  have e1:decide ((k:Int)<(s.size:Int))=true:=by simp;omega
  have e0:decide ((0:Int)≤(k:Int))=true:=by simp
  have e2:IntKind.i64.wrap ((k:Int)+1)=((k+1:Nat):Int):=q122 (n:=s.size) (by omega) hs
  have e3:decide (k<s.size)=true:=by simp;omega
  have hc:q62 (nb (L s)[k])=some (q2s (L s)[k]):=qil (qor _)
  rw [q97 hlt,List.all_cons]
  cases hp:q2s (L s)[k] with
  |false =>
   rw [hp] at hc
   refine ⟨.inl (false,()),q2l ?_,rfl⟩
   simp only [q2q,q26i,q26z,e1,e0,e3,if_true,Int.toNat_natCast,Bool.and_self,q26d s hlt,hc,Option.bind_some,Bool.not_false]
  |true =>
   rw [hp] at hc
   obtain ⟨x,h1,h2⟩:=ih (k+1) (by omega)
   refine ⟨x,q2l ?_,by rw [Bool.true_and];exact h2⟩
   simp only [q2q,q26i,q26z,e1,e0,e3,if_true,Int.toNat_natCast,Bool.and_self,q26d s hlt,hc,Option.bind_some,Bool.not_true,Bool.false_eq_true,if_false,e2]
   exact h1
theorem q2u (s:ByteArray) (hs:s.size≤9223372036854775807):q2t s=some ((L s).all q2s):=by
 obtain ⟨x,h1,h2⟩:=q2r s hs s.size 0 (by omega)
 rw [List.drop_zero] at h2
 have h1:q2j s s.size 0=some x:=h1
 refine q2i ?_
 simp only [q2v,h1,Option.bind_some,←h2]
 rcases x with x|x <;> rfl
noncomputable def q1t (b:UInt8):Bool:=(fun b=>fnB (nb b)) b
theorem q1s (s:ByteArray) (hs:s.size≤9223372036854775807):∀ m k:Nat,k+m=s.size→∃ x,q1k s s.size k=some x∧Sum.elim (fun r=>r.1) (fun _=>true) x=((L s).drop k).all q1t:=by
 intro m
 induction m with
 |zero =>
  intro k hk
  refine ⟨.inr ((s,((),((s.size:Int),((k:Int),false)))),()),q1m (by
   simp only [q1r,q26i]
   rw [if_neg (by simp;omega)]),?_⟩
  rw [List.drop_eq_nil_of_le (by rw [q264];omega)];rfl
 |succ m ih =>
  intro k hk
  have hlt:k<(L s).length:=by rw [q264];omega
  have e1:decide ((k:Int)<(s.size:Int))=true:=by simp;omega
  have e0:decide ((0:Int)≤(k:Int))=true:=by simp
  have e2:IntKind.i64.wrap ((k:Int)+1)=((k+1:Nat):Int):=q122 (n:=s.size) (by omega) hs
  have e3:decide (k<s.size)=true:=by simp;omega
  have hc:qgv (nb (L s)[k])=some (q1t (L s)[k]):=fnC_s _
  rw [q97 hlt,List.all_cons]
  cases hp:q1t (L s)[k] with
  |false =>
   rw [hp] at hc
   refine ⟨.inl (false,()),q1m ?_,rfl⟩
   simp only [q1r,q26i,q26z,e1,e0,e3,if_true,Int.toNat_natCast,Bool.and_self,q26d s hlt,hc,Option.bind_some,Bool.not_false]
  |true =>
   rw [hp] at hc
   obtain ⟨x,h1,h2⟩:=ih (k+1) (by omega)
   refine ⟨x,q1m ?_,by rw [Bool.true_and];exact h2⟩
   simp only [q1r,q26i,q26z,e1,e0,e3,if_true,Int.toNat_natCast,Bool.and_self,q26d s hlt,hc,Option.bind_some,Bool.not_true,Bool.false_eq_true,if_false,e2]
   exact h1
theorem q1v (s:ByteArray) (hs:s.size≤9223372036854775807):q1u s=some ((L s).all q1t):=by
 obtain ⟨x,h1,h2⟩:=q1s s hs s.size 0 (by omega)
 rw [List.drop_zero] at h2
 have h1:q1k s s.size 0=some x:=h1
 refine q1j ?_
 simp only [q1w,h1,Option.bind_some,←h2]
 rcases x with x|x <;> rfl
noncomputable def q1c (b:UInt8):Bool:=(fun b=>(qa5 (nb b)).getD false) b
theorem q1b (s:ByteArray) (hs:s.size≤9223372036854775807):∀ m k:Nat,k+m=s.size→∃ x,q13 s s.size k=some x∧Sum.elim (fun r=>r.1) (fun _=>true) x=((L s).drop k).all q1c:=by
 intro m
 induction m with
 |zero =>
  intro k hk
  refine ⟨.inr ((s,((),((s.size:Int),((k:Int),false)))),()),q15 (by
   simp only [q1a,q26i]
   rw [if_neg (by simp;omega)]),?_⟩
  rw [List.drop_eq_nil_of_le (by rw [q264];omega)];rfl
 |succ m ih =>
  intro k hk
  have hlt:k<(L s).length:=by rw [q264];omega
  have e1:decide ((k:Int)<(s.size:Int))=true:=by simp;omega
  have e0:decide ((0:Int)≤(k:Int))=true:=by simp
  have e2:IntKind.i64.wrap ((k:Int)+1)=((k+1:Nat):Int):=q122 (n:=s.size) (by omega) hs
  have e3:decide (k<s.size)=true:=by simp;omega
  have hc:qa5 (nb (L s)[k])=some (q1c (L s)[k]):=qil (q93 _)
  rw [q97 hlt,List.all_cons]
  cases hp:q1c (L s)[k] with
  |false =>
   rw [hp] at hc
   refine ⟨.inl (false,()),q15 ?_,rfl⟩
   simp only [q1a,q26i,q26z,e1,e0,e3,if_true,Int.toNat_natCast,Bool.and_self,q26d s hlt,hc,Option.bind_some,Bool.not_false]
  |true =>
   rw [hp] at hc
   obtain ⟨x,h1,h2⟩:=ih (k+1) (by omega)
   refine ⟨x,q15 ?_,by rw [Bool.true_and];exact h2⟩
   simp only [q1a,q26i,q26z,e1,e0,e3,if_true,Int.toNat_natCast,Bool.and_self,q26d s hlt,hc,Option.bind_some,Bool.not_true,Bool.false_eq_true,if_false,e2]
   exact h1
theorem q1e (s:ByteArray) (hs:s.size≤9223372036854775807):q1d s=some ((L s).all q1c):=by
 obtain ⟨x,h1,h2⟩:=q1b s hs s.size 0 (by omega)
 rw [List.drop_zero] at h2
 have h1:q13 s s.size 0=some x:=h1
 refine q12 ?_
 simp only [q1f,h1,Option.bind_some,←h2]
 rcases x with x|x <;> rfl
noncomputable def q2b (b:UInt8):Bool:=(fun b=>(qb1 (nb b)).getD false) b
theorem q2a (s:ByteArray) (hs:s.size≤9223372036854775807):∀ m k:Nat,k+m=s.size→∃ x,q22 s s.size k=some x∧Sum.elim (fun r=>r.1) (fun _=>true) x=((L s).drop k).all q2b:=by
 intro m
 induction m with
 |zero =>
  intro k hk
  refine ⟨.inr ((s,((),((s.size:Int),((k:Int),false)))),()),q24 (by
   simp only [q29,q26i]
   rw [if_neg (by simp;omega)]),?_⟩
  rw [List.drop_eq_nil_of_le (by rw [q264];omega)];rfl
 |succ m ih =>
  intro k hk
  have hlt:k<(L s).length:=by rw [q264];omega
  have e1:decide ((k:Int)<(s.size:Int))=true:=by simp;omega
  have e0:decide ((0:Int)≤(k:Int))=true:=by simp
  have e2:IntKind.i64.wrap ((k:Int)+1)=((k+1:Nat):Int):=q122 (n:=s.size) (by omega) hs
  have e3:decide (k<s.size)=true:=by simp;omega
  have hc:qb1 (nb (L s)[k])=some (q2b (L s)[k]):=qil (qmz _)
  rw [q97 hlt,List.all_cons]
  cases hp:q2b (L s)[k] with
  |false =>
   rw [hp] at hc
   refine ⟨.inl (false,()),q24 ?_,rfl⟩
   simp only [q29,q26i,q26z,e1,e0,e3,if_true,Int.toNat_natCast,Bool.and_self,q26d s hlt,hc,Option.bind_some,Bool.not_false]
  |true =>
   rw [hp] at hc
   obtain ⟨x,h1,h2⟩:=ih (k+1) (by omega)
   refine ⟨x,q24 ?_,by rw [Bool.true_and];exact h2⟩
   simp only [q29,q26i,q26z,e1,e0,e3,if_true,Int.toNat_natCast,Bool.and_self,q26d s hlt,hc,Option.bind_some,Bool.not_true,Bool.false_eq_true,if_false,e2]
   exact h1
theorem q2d (s:ByteArray) (hs:s.size≤9223372036854775807):q2c s=some ((L s).all q2b):=by
 obtain ⟨x,h1,h2⟩:=q2a s hs s.size 0 (by omega)
 rw [List.drop_zero] at h2
 have h1:q22 s s.size 0=some x:=h1
 refine q21 ?_
 simp only [q2e,h1,Option.bind_some,←h2]
 rcases x with x|x <;> rfl
noncomputable def fnameB (s:ByteArray):Bool:=!em s&&(decide ((s.size:Int)≤60)&&(L s).all q1t)
theorem qfu (s:ByteArray):qh1 s=some (fnameB s):=qh0 (by
 simp only [qh2,q26i,q26w,fnameB]
 cases em s with
 |true=>rfl
 |false =>
  cases h:decide ((s.size:Int)≤60) with
  |false=>simp
  |true=>simp [q1v s (by have:=of_decide_eq_true h;omega)])
theorem q9u (s:ByteArray) (hs:s.size<4294967281):Ok (qgn s) fun r=>s.size=0→r=false:=.via qgm (by
 unfold qgo canyP
 rw [if_pos ⟨hs,rfl⟩]
 refine qpd ?_
 intro h0
 have:s.data.toList=[]:=by
  apply List.eq_nil_of_length_eq_zero
  rw [Array.length_toList]
  exact h0
 rw [this]
 rfl)
theorem q11p (s:ByteArray) (hs:s.size<4294967281):Ok (qhm s) fun r=>s.size=0→r=true:=.via qhl (by
 unfold qhn
 refine qpc (q9u s hs) ?_
 intro r hr
 refine q27i ?_ ?_
 ·intro _
  simp only [q26w]
  refine q27i ?_ ?_
  ·intro he
   have h0:s.size≠0:=by intro h0;rw [q9h] at he;simp [h0] at he
   have hw:IntKind.i64.wrap ((s.size:Int) - 1)=((s.size - 1:Nat):Int):=by rw [q27x (by omega)];omega
   refine q27k (by simp;omega) ?_
   refine qpc (q6u _) ?_
   intro r1 _
   refine q27i ?_ ?_
   ·intro _
    rw [hw]
    refine q27k (by simp;omega) ?_
    refine qpc (q6u _) ?_
    intro r2 _
    exact qpd (fun h=>absurd h h0)
   ·intro _
    exact qpd (fun h=>absurd h h0)
  ·intro _
   exact qpd (fun _=>rfl)
 ·intro h
  exact qpd (fun h0=>by rw [hr h0] at h;cases h))
theorem maxI:IntKind.max IntKind.i64=9223372036854775807:=rfl
def ptP (s:ByteArray) (v:Int):Prop:=0≤v∧v≤s.size
theorem qrj (s:ByteArray) (hs:s.size≤100000):∀ (m:Nat) (k:Nat) (b:Int),1≤k→s.size - k≤m→k≤9223372036854775806→ptP s b→Ok (qh8 s b k) fun x=>Sum.elim (fun r=>ptP s r.1.2.1) (fun r=>ptP s r.1.2.1) x:=by
 intro m
 induction m with
 |zero =>
  intro k b h1 hk hk2 hb
  refine .via qha ?_
  unfold qhf
  refine q27i (fun h=>?_) (fun _=>qpd hb)
  have:=of_decide_eq_true h
  omega
 |succ m ih =>
  intro k b h1 hk hk2 hb
  refine .via qha ?_
  unfold qhf
  refine q27i (fun h=>?_) (fun _=>qpd hb)
  have hlt:k<s.size:=by have:=of_decide_eq_true h;omega
  have e2:IntKind.i64.wrap ((k:Int)+1)=((k+1:Nat):Int):=by rw [q27x (by omega)];rfl
  have e3:IntKind.i64.wrap ((k:Int) - 1)=((k - 1:Nat):Int):=by rw [q27x (by omega)];omega
  have hi:=fun b' hb'=>ih (k+1) b' (by omega) (by omega) (by omega) hb'
  have hk':ptP s k:=⟨by omega,by omega⟩
  rw [e2,e3]
  refine q27k (by simp;omega) (qpc (q6u _) fun r0 _=>q27i (fun _=>q27k (by simp;omega) (qpc (q6u _) fun r1 _=>q27i (fun _=>hi b hb) (fun _=>q27i (fun _=>q27i (fun _=>qpd hb) (fun _=>hi k hk')) (fun _=>hi k hk')))) (fun _=>hi b hb))
theorem qrk (s:ByteArray) (hs:s.size≤100000) (f:Int) (hf:f≤9223372036854775806):Ok (qhg s f) (ptP s):=.via qh7 (by
 unfold qhh
 have hx:∃ k:Nat,1≤k∧k≤9223372036854775806∧(ite (true=true) (ite (f<(1:Int)) (1:Int) f) (ite ((1:Int)<f) (1:Int) f))=(k:Int):=by
  rw [if_pos rfl]
  split
  ·exact ⟨1,by omega,by omega,rfl⟩
  ·exact ⟨f.toNat,by omega,by omega,by omega⟩
 obtain ⟨k,h1,h2,h3⟩:=hx
 rw [h3]
 refine qpc (qrj s hs _ k 0 h1 (Nat.le_refl _) h2 ⟨by omega,by omega⟩) ?_
 rintro (r|r) hr
 ·exact qpd hr
 ·exact qpd hr)
def flQ (x:((Unit × ByteArray × Int × Nat × Bool) × ((Int × Int) × (List ByteArray))) ⊕ ((Unit × ByteArray × Nat × Int × Bool) × ((Int × Int) × (List ByteArray)))):ByteArray × Nat × List ByteArray:=Sum.elim (fun r=>(r.1.2.1,r.1.2.2.2.1,r.2.2)) (fun r=>(r.1.2.1,r.1.2.2.1,r.2.2)) x
def szB (l:List ByteArray):Prop:=∀ e∈l,e.size≤100000
theorem qz0 {l:List ByteArray} {s:ByteArray} (h:szB l) (hs:s.size≤100000):szB (l++[s]):=by
 intro e he
 rcases List.mem_append.1 he with he|he
 ·exact h e he
 ·have:e=s:=by simpa using he
  rw [this];exact hs
theorem qgq:∀ (m:Nat) (s:ByteArray) (f:Int) (out:Nat) (l:List ByteArray),s.size≤m→out=l.length→out+s.size≤100000→f≤100000→szB l→Ok (qg9 s f out 0 0 l) fun x=>(flQ x).2.1=(flQ x).2.2.length∧(flQ x).2.1≤100000∧(flQ x).1.size≤100000∧szB (flQ x).2.2∧(s.size≤78→flQ x=(s,out,l)):=by
 intro m
 induction m with
 |zero =>
  intro s f out l hm ho hb hf hz
  refine .via qgb ?_
  unfold qgg
  refine q27i (fun h=>?_) (fun _=>q27k (by simp [EC.isL_encL]) (qpd ?_))
  ·have:=of_decide_eq_true h
   omega
  ·simp only [EC.decL_encL,flQ,Sum.elim_inl]
   exact ⟨ho,by omega,by omega,hz,fun _=>trivial⟩
 |succ m ih =>
  intro s f out l hm ho hb hf hz
  refine .via qgb ?_
  unfold qgg
  refine q27i (fun h=>?_) (fun _=>q27k (by simp [EC.isL_encL]) (qpd ?_))
  ·have h78:=of_decide_eq_true h
   refine qpc (qrk s (by omega) f (by omega)) fun r hr=>?_
   obtain ⟨p0,p1⟩:=hr
   refine q27i (fun _=>q27k (by simp [EC.isL_encL]) (qpd ?_)) (fun hne=>?_)
   ·simp only [EC.decL_encL,flQ,Sum.elim_inr]
    exact ⟨ho,by omega,by omega,hz,fun h=>by omega⟩
   ·have hne:r≠0:=by simpa using hne
    have hz1:(s.extract r.toNat s.size).size=s.size - r.toNat:=by rw [ByteArray.size_extract];omega
    have hz2:(s.extract 0 r.toNat).size≤100000:=by rw [ByteArray.size_extract];omega
    simp only [EC.decL_encL,EC.isL_encL,q268,q26a]
    refine q27k (by simp;omega) (q27k (by simp;omega) (q27k (by simp;omega) ?_))
    refine (ih _ 0 (out+1) (l++[s.extract 0 r.toNat]) (by rw [hz1];omega) (by simp [ho]) (by rw [hz1];omega) (by omega) (qz0 hz hz2)).mono fun x hx=>⟨hx.1,hx.2.1,hx.2.2.1,hx.2.2.2.1,fun h=>by omega⟩
  ·simp only [EC.decL_encL,flQ,Sum.elim_inl]
   exact ⟨ho,by omega,by omega,hz,fun _=>trivial⟩
theorem qll (l:List ByteArray) (k:Nat) (h:k<l.length):isP [K1.str] 0 ((q26v.encL l).getD k [])=true:=by rw [EC.getD_lt _ _ h];rfl
theorem q11w (out:Nat) (c d:Int) (l:List ByteArray) (hl:l.length≤100001):∀ m k:Nat,k+m=l.length→Ok (qg1 out l.length l.length k c d l) fun x=>Sum.elim (fun r=>r.1.1=0∧r.2.1=[]∧r.2.2.1=1∧¬ ∀ e∈l,e.size≤998) (fun r=>r.1.2.1=out∧r.2.2=l) x:=by
 intro m
 induction m with
 |zero =>
  intro k hk
  refine .via qg3 ?_
  unfold qg8
  refine q27i (fun h=>?_) (fun _=>q27k (by simp [EC.isL_encL]) (qpd ?_))
  ·have:=of_decide_eq_true h
   omega
  ·simp only [EC.decL_encL,Sum.elim_inr,and_self]
 |succ m ih =>
  intro k hk
  have hlt:k<l.length:=by omega
  have e2:IntKind.i64.wrap ((k:Int)+1)=((k+1:Nat):Int):=by rw [q27x (by omega)];rfl
  refine .via qg3 ?_
  unfold qg8
  simp only [EC.decL_encL,EC.isL_encL,EC.encL_length,q26c,Int.toNat_natCast,e2]
  refine q27i (fun h=>?_) (fun h=>?_)
  ·refine q27k (by simp;omega) (q27k (by rw [q27z l k hlt];simp [hlt]) (q27k (qll l k hlt) ?_))
   refine q27i (fun hw=>?_) (fun _=>?_)
   ·refine qpc (qf4 _ _) fun r hr=>qpd ?_
    subst hr
    refine ⟨rfl,rfl,rfl,fun hall=>?_⟩
    have h1:=hall l[k] (List.getElem_mem hlt)
    have h2:=of_decide_eq_true hw
    rw [qik hlt] at h2
    omega
   ·exact q27k rfl (ih (k+1) (by omega))
  ·have:=of_decide_eq_false h
   omega
end Go.Proofs.YtokahibbkdbndaaGreatDoor
