/- What the checks of rules answer: the program's and the reference's are the same. -/
import Derived.Test.YtognhcibcocbkaaGreatDoorZ24
namespace Go.Proofs.YtognhcibcocbkaaGreatDoor
open Go.RowKit
def txtB (act:Int):Bool:=act==2||act==4||act==5||act==7
theorem qum (act:Int):qq1 act=some (txtB act):=by
 refine qq0 ?_
 simp only [qq2,q3l,txtB]
 cases act==2 <;> cases act==4 <;> cases act==5 <;> cases act==7 <;> rfl
theorem q16g (act:Int):q15b act=some (txtB act):=by
 refine q15a ?_
 simp only [q15c,q3l,txtB]
 cases act==2 <;> cases act==4 <;> cases act==5 <;> cases act==7 <;> rfl
def noB (k:Int) (nt:Nat) (nm:ByteArray) (p:Int) (tx:ByteArray) (n:Int):Bool:=k==0&&(nt==0&&(em nm&&(p==0&&(em tx&&n==0))))
theorem qco (k:Int) (ts:List S57) (nm:ByteArray) (p:Int) (tx:ByteArray) (n:Int):qiz k ts nm p tx n=some (noB k ts.length nm p tx n):=by
 refine qiy ?_
 simp only [qj0,lN,q3l,EC.encL_length,qwb,noB]
 have e1:(((ts.length:Nat):Int)==0)=(ts.length==0):=by rw [Bool.eq_iff_iff];simp
 rw [e1]
 cases k==0 <;> cases ts.length==0 <;> cases em nm <;> cases p==0 <;> cases em tx <;> cases n==0 <;> rfl
def pHead (no len:Bool) (k act:Int) (nm tx:ByteArray) (n:Int):Int :=
 if (!no||len||(!(k==2)&&(!(act==0)||!(n==0)))||(!(k==3)&&!em nm)||((k==4)&&!em tx))=true then 5
 else if ((k==2)&&(decide (act<1)||decide (act>7)))=true then 4
 else if ((k==2)&&((!txtB act&&!em tx)||(!(act==6)&&!(n==0))))=true then 5
 else if ((k==3)&&!varB nm)=true then 10
 else if decide ((tx.size:Int)>200)=true then 1
 else if (decide (n<0)||decide (n>63))=true then 3
 else 0
theorem qb4 {a b:Nat} (ha:a≤big) (hb:b≤big):decide (IntKind.i64.wrap (((a:Nat):Int)+((b:Nat):Int))>0)=(!(a==0)||!(b==0)):=by
 rw [qvs (by unfold big at *;omega)]
 rw [Bool.eq_iff_iff]
 simp only [decide_eq_true_eq,Bool.or_eq_true,Bool.not_eq_true',beq_eq_false_iff_ne]
 omega
theorem qec (k tk:Int) (tts:List S57) (tnm:ByteArray) (tp:Int) (ttx:ByteArray) (tn:Int) (t e:List S59) (act:Int) (nm tx:ByteArray) (n:Int) (ht:t.length≤big) (he:e.length≤big) :
  qp4 k tk tts tnm tp ttx tn t e act nm tx n=some (pHead (noB tk tts.length tnm tp ttx tn) (!(t.length==0)||!(e.length==0)) k act nm tx n):=by
 refine qp3 ?_
 simp only [qp5,z6,z7,z8,za,zb,gL,dL,lN,q3l,q8h,EC.decL_encL,EC.isL_encL,EC.encL_length,qco,qum,qvh,Option.bind_some,qwb,if_true,qb4 ht he,bne]
 unfold pHead
 generalize noB tk tts.length tnm tp ttx tn=c1
 generalize (!(t.length==0)||!(e.length==0))=c2
 generalize hk2:(k==2)=k2
 generalize hk3:(k==3)=k3
 generalize hk4:(k==4)=k4
 generalize (act==0)=c3
 generalize (n==0)=c4
 generalize em nm=c5
 generalize em tx=c6
 generalize decide (act<1)=c7
 generalize decide (act>7)=c8
 generalize txtB act=c9
 generalize (act==6)=c10
 generalize varB nm=c11
 generalize decide ((tx.size:Int)>200)=c12
 generalize decide (n<0)=c13
 generalize decide (n>63)=c14
 cases c1 <;> first|rfl|skip
 cases c2 <;> first|rfl|skip
 cases k2 <;> cases k3 <;> cases k4
 all_goals first|(exfalso;simp at hk2 hk3 hk4;omega)|skip
 all_goals cases c3 <;> cases c4 <;> first|rfl|skip
 all_goals cases c5 <;> first|rfl|skip
 all_goals cases c6 <;> first|rfl|skip
 all_goals cases c7 <;> first|rfl|skip
 all_goals cases c8 <;> first|rfl|skip
 all_goals cases c9 <;> first|rfl|skip
 all_goals cases c10 <;> first|rfl|skip
 all_goals cases c11 <;> first|rfl|skip
 all_goals cases c12 <;> first|rfl|skip
 all_goals cases c13 <;> first|rfl|skip
 all_goals cases c14 <;> rfl
def rHead (r:S59):Int :=
 if (decide (r.Kind<1)||decide (r.Kind>4))=true then 4
 else if (r.Kind==1)=true then (if (!(r.Act==0)||!em r.Name||!em r.Text||!(r.N==0))=true then 5 else tfT ⟨r.Test_Kind,r.Test_Tests,r.Test_Name,r.Test_Pattern,r.Test_Text,r.Test_N⟩ 1)
 else pHead (noB r.Test_Kind r.Test_Tests.length r.Test_Name r.Test_Pattern r.Test_Text r.Test_N) (!(r.Then.length==0)||!(r.Else.length==0)) r.Kind r.Act r.Name r.Text r.N
theorem rule_s (r:S59) (ho:okR r) (d:Nat):qpa r.Kind r.Test_Kind r.Test_Tests r.Test_Name r.Test_Pattern r.Test_Text r.Test_N r.Then r.Else r.Act r.Name r.Text r.N d=some (if decide ((d:Int)>8)=true then 5 else rHead r):=by
 obtain ⟨⟨o1,o2⟩,⟨o3,o4⟩,⟨o5,o6⟩,o7⟩:=(okR_eq r).1 ho
 have ht:=test_s ⟨r.Test_Kind,r.Test_Tests,r.Test_Name,r.Test_Pattern,r.Test_Text,r.Test_N⟩ ⟨o1,o2⟩ 1
 refine qp9 ?_
 simp only [qpb,gL,dL,q3l,q8h,EC.decL_encL,EC.isL_encL,qec _ _ _ _ _ _ _ _ _ _ _ _ _ o3 o5,Option.bind_some,qwb,if_true,bne]
 have ht':qpv r.Test_Kind r.Test_Tests r.Test_Name r.Test_Pattern r.Test_Text r.Test_N 1=some (tfT ⟨r.Test_Kind,r.Test_Tests,r.Test_Name,r.Test_Pattern,r.Test_Text,r.Test_N⟩ 1):=ht
 rw [ht']
 unfold rHead
 generalize pHead _ _ r.Kind r.Act r.Name r.Text r.N=x1
 generalize tfT _ 1=x2
 generalize decide ((d:Int)>8)=c1
 generalize decide (r.Kind<1)=c2
 generalize decide (r.Kind>4)=c3
 generalize (r.Kind==1)=c4
 generalize (r.Act==0)=c5
 generalize em r.Name=c6
 generalize em r.Text=c7
 generalize (r.N==0)=c8
 cases c1 <;> cases c2 <;> cases c3 <;> cases c4 <;> cases c5 <;> cases c6 <;> cases c7 <;> cases c8 <;> rfl
end Go.Proofs.YtognhcibcocbkaaGreatDoor
namespace Go.Proofs.YtognhcibcocbkaaGreatDoor
open Go.RowKit
section
variable {k tk tp tn act n e:Int} {tts:List S57} {tnm ttx nm tx:ByteArray} {t el:List S59}
theorem rg21:qzs k tk tts tnm tp ttx tn t el act nm tx n=some (if (decide (n<0)||decide (n>63))=true then 3 else 0,()):=by
 refine qzu ?_
 simp only [qzy,q3l,qwd,Option.bind_some,in_not]
 generalize (decide (n<0)||decide (n>63))=c
 cases c <;> rfl
theorem rg19:qzl k tk tts tnm tp ttx tn t el act nm tx n=some (if decide ((tx.size:Int)>200)=true then 1 else if (decide (n<0)||decide (n>63))=true then 3 else 0,()):=by
 refine qzn ?_
 simp only [qzr,gL,dL,q3l,q8h,EC.decL_encL,EC.isL_encL,rg21,Option.bind_some,if_true]
 generalize decide ((tx.size:Int)>200)=c
 cases c <;> rfl
theorem rg17 (hn:nm.size≤big):qze k tk tts tnm tp ttx tn t el act nm tx n=some (if ((k==3)&&!varB nm)=true then 10 else if decide ((tx.size:Int)>200)=true then 1 else if (decide (n<0)||decide (n>63))=true then 3 else 0,()):=by
 refine qzg ?_
 simp only [qzk,gL,dL,q3l,q8h,EC.decL_encL,EC.isL_encL,rg19,rvar_s nm hn,Option.bind_some,if_true]
 generalize varB nm=c
 cases (k==3) <;> cases c <;> rfl
theorem rg15:qz6 k tk tts tnm tp ttx tn t el act nm tx n=some (if ((!txtB act&&!em tx)||(!(act==6)&&!(n==0)))=true then .inr (5,()) else .inl (((),false),(k,tk,tts,tnm,tp,ttx,tn,t,el,act,nm,tx,n))):=by
 refine qz8 ?_
 simp only [qzd,gL,dL,q3l,q8h,EC.decL_encL,EC.isL_encL,q16g,Option.bind_some,if_true,qwb,bne]
 cases txtB act <;> cases em tx <;> cases (act==6) <;> cases (n==0) <;> rfl
theorem rg12 (hn:nm.size≤big):qyz k tk tts tnm tp ttx tn t el act nm tx n=some (if ((k==2)&&(decide (act<1)||decide (act>7)))=true then 4
  else if ((k==2)&&((!txtB act&&!em tx)||(!(act==6)&&!(n==0))))=true then 5
  else if ((k==3)&&!varB nm)=true then 10 else if decide ((tx.size:Int)>200)=true then 1 else if (decide (n<0)||decide (n>63))=true then 3 else 0,()):=by
 refine qz1 ?_
 simp only [qz5,gL,dL,q3l,q8h,EC.decL_encL,EC.isL_encL,qwd,in_not,rg15,rg17 hn,Option.bind_some,if_true]
 generalize (decide (act<1)||decide (act>7))=c1
 generalize ((!txtB act&&!em tx)||(!(act==6)&&!(n==0)))=c2
 cases (k==2) <;> cases c1 <;> cases c2 <;> first|rfl|(simp only [if_true,if_false,Bool.false_eq_true,Sum.elim_inl,rg17 hn,Option.bind_some];rfl)
theorem rg10 (hn:nm.size≤big):qys k tk tts tnm tp ttx tn t el act nm tx n=some (if ((!(k==2)&&(!(act==0)||!(n==0)))||(!(k==3)&&!em nm)||((k==4)&&!em tx))=true then 5
  else if ((k==2)&&(decide (act<1)||decide (act>7)))=true then 4
  else if ((k==2)&&((!txtB act&&!em tx)||(!(act==6)&&!(n==0))))=true then 5
  else if ((k==3)&&!varB nm)=true then 10 else if decide ((tx.size:Int)>200)=true then 1 else if (decide (n<0)||decide (n>63))=true then 3 else 0,()):=by
 refine qyu ?_
 simp only [qyy,zy,gL,dL,q3l,q8h,EC.decL_encL,EC.isL_encL,rg12 hn,Option.bind_some,if_true,qwb,bne]
 generalize (if ((k==2)&&(decide (act<1)||decide (act>7)))=true then (4:Int)
  else if ((k==2)&&((!txtB act&&!em tx)||(!(act==6)&&!(n==0))))=true then 5
  else if ((k==3)&&!varB nm)=true then 10 else if decide ((tx.size:Int)>200)=true then 1 else if (decide (n<0)||decide (n>63))=true then 3 else 0)=x
 cases (k==2) <;> cases (act==0) <;> cases (n==0) <;> cases (k==3) <;> cases em nm <;> cases (k==4) <;> cases em tx <;> rfl
theorem rg8 (hn:nm.size≤big):qzz k tk tts tnm tp ttx tn t el act nm tx n tk tts tnm tp ttx tn=some (pHead (noB tk tts.length tnm tp ttx tn) (!(t.length==0)||!(el.length==0)) k act nm tx n,()):=by
 refine q101 ?_
 have e2:∀ q:Nat,decide ((q:Int)>0)=!(q==0):=by
  intro q
  by_cases h:q=0
  ·simp [h]
  ·have h':(q:Int)>0:=by omega
   rw [decide_eq_true h',show (q==0)=false by simpa using h]
   rfl
 simp only [q105,gL,dL,lN,q3l,q8h,EC.decL_encL,EC.isL_encL,EC.encL_length,rg10 hn,Option.bind_some,if_true,qwb,bne,e2]
 unfold pHead noB
 generalize ((!(k==2)&&(!(act==0)||!(n==0))))=d1
 generalize (!(k==3)&&!em nm)=d2
 generalize ((k==4)&&!em tx)=d3
 generalize (if ((k==2)&&(decide (act<1)||decide (act>7)))=true then (4:Int)
  else if ((k==2)&&((!txtB act&&!em tx)||(!(act==6)&&!(n==0))))=true then 5
  else if ((k==3)&&!varB nm)=true then 10 else if decide ((tx.size:Int)>200)=true then 1 else if (decide (n<0)||decide (n>63))=true then 3 else 0)=x
 generalize (tk==0)=c1
 generalize (tts.length==0)=c2
 generalize em tnm=c3
 generalize (tp==0)=c4
 generalize em ttx=c5
 generalize (tn==0)=c6
 generalize (t.length==0)=c7
 generalize (el.length==0)=c8
 cases c1 <;> first|rfl|skip
 cases c2 <;> first|rfl|skip
 cases c3 <;> first|rfl|skip
 cases c4 <;> first|rfl|skip
 cases c5 <;> first|rfl|skip
 cases c6 <;> first|rfl|skip
 cases c7 <;> first|rfl|skip
 cases c8 <;> first|rfl|(cases d1 <;> cases d2 <;> cases d3 <;> rfl)
end
theorem q16e (r:S59) (ho:okR r):q106 r.Kind r.Test_Kind r.Test_Tests r.Test_Name r.Test_Pattern r.Test_Text r.Test_N r.Then r.Else r.Act r.Name r.Text r.N=some (rHead r):=by
 obtain ⟨⟨o1,o2⟩,⟨o3,o4⟩,⟨o5,o6⟩,o7⟩:=(okR_eq r).1 ho
 have ht:=q173 ⟨r.Test_Kind,r.Test_Tests,r.Test_Name,r.Test_Pattern,r.Test_Text,r.Test_N⟩ ⟨o1,o2⟩ 1
 have ht':q13t r.Test_Kind r.Test_Tests r.Test_Name r.Test_Pattern r.Test_Text r.Test_N 1=some (tfT ⟨r.Test_Kind,r.Test_Tests,r.Test_Name,r.Test_Pattern,r.Test_Text,r.Test_N⟩ 1):=ht
 refine qyr ?_
 simp only [q107,gL,dL,q3l,q8h,EC.decL_encL,EC.isL_encL,qwd,in_not,ht',rg8 o7,Option.bind_some,qwb,if_true,bne]
 unfold rHead
 generalize pHead _ _ r.Kind r.Act r.Name r.Text r.N=x1
 generalize tfT _ 1=x2
 generalize (decide (r.Kind<1)||decide (r.Kind>4))=c2
 generalize (r.Kind==1)=c4
 generalize (r.Act==0)=c5
 generalize em r.Name=c6
 generalize em r.Text=c7
 generalize (r.N==0)=c8
 cases c2 <;> cases c4 <;> cases c5 <;> cases c6 <;> cases c7 <;> cases c8 <;> rfl
theorem qe2 (a b:List S59):([[.sl (q5l.encL a)],[.sl (q5l.encL b)]]:List (List C))=q5i.encL [a,b]:=rfl
def rc (r:S59) (d:Nat):Int:=if decide ((d:Int)>8)=true then 5 else rHead r
mutual
def ckR:S59→Nat→Nat→(Int×Int)⊕Nat
 |⟨_,_,_,_,_,_,_,t,e,_,_,_,_⟩,n,d=>match ckL t (n+1) (d+1) with
  |.inl f=>.inl f
  |.inr n1=>ckL e n1 (d+1)
def ckL:List S59→Nat→Nat→(Int×Int)⊕Nat
 |[],n,_=>.inr n
 |r::l,n,d=>if 100≤n then .inl (2,-1) else if rc r d≠0 then .inl (rc r d,n) else match ckR r n d with
  |.inl f=>.inl f
  |.inr n2=>ckL l n2 d
end
theorem ckR_eq (r:S59) (n d:Nat):ckR r n d=match ckL r.Then (n+1) (d+1) with|.inl f=>.inl f|.inr n1=>ckL r.Else n1 (d+1):=by cases r;rfl
theorem ck_sz:∀ (q:Nat) (l:List S59),szL l=q→∀ n d,n≤100→(∀ m,ckL l n d=.inr m→m=n+szL l∧m≤100)∧(∀ f,ckL l n d=.inl f→f.1≠0):=by
 intro q
 induction q using Nat.strongRecOn with
 |_ q ih =>
  intro l
  induction l with
  |nil =>
   intro _ n d hn
   refine ⟨fun m h=>?_,fun f h=>by cases h⟩
   injection h with h
   subst h
   exact ⟨by simp [szL],hn⟩
  |cons r l ihl =>
   intro hq n d hn
   have h1:=qt4 (l:=r::l) (r:=r) (by simp)
   have h2:=qt3 (l:=r::l) (r:=r) (by simp)
   have hR:n<100→(∀ m,ckR r n d=.inr m→m=n+szR r∧m≤100)∧(∀ f,ckR r n d=.inl f→f.1≠0):=by
    intro hlt
    obtain ⟨a1,a2⟩:=ih _ (hq ▸ h1) r.Then rfl (n+1) (d+1) (by omega)
    rw [ckR_eq]
    cases ht:ckL r.Then (n+1) (d+1) with
    |inl f=>exact ⟨fun m h=>(by cases h),fun f' h=>(by injection h with h;subst h;exact a2 _ ht)⟩
    |inr n1 =>
     obtain ⟨b1,b2⟩:=a1 n1 ht
     obtain ⟨c1,c2⟩:=ih _ (hq ▸ h2) r.Else rfl n1 (d+1) b2
     refine ⟨fun m h=>?_,fun f h=>c2 f h⟩
     obtain ⟨e1,e2⟩:=c1 m h
     exact ⟨by rw [e1,b1,szR_eq];omega,e2⟩
   have hl:∀ n2,n2≤100→(∀ m,ckL l n2 d=.inr m→m=n2+szL l∧m≤100)∧(∀ f,ckL l n2 d=.inl f→f.1≠0):=by
    intro n2 hn2
    exact ih (szL l) (by rw [←hq];simp only [szL];have:=szR_eq r;omega) l rfl n2 d hn2
   simp only [ckL]
   split
   ·exact ⟨fun m h=>(by cases h),fun f h=>(by injection h with h;subst h;decide)⟩
   ·rename_i hlt
    split
    ·rename_i hne
     exact ⟨fun m h=>(by cases h),fun f h=>(by injection h with h;subst h;exact hne)⟩
    ·obtain ⟨a1,a2⟩:=hR (by omega)
     cases hr:ckR r n d with
     |inl f=>exact ⟨fun m h=>(by cases h),fun f' h=>(by injection h with h;subst h;exact a2 _ hr)⟩
     |inr n2 =>
      obtain ⟨b1,b2⟩:=a1 n2 hr
      obtain ⟨c1,c2⟩:=hl n2 b2
      refine ⟨fun m h=>?_,fun f h=>c2 f h⟩
      obtain ⟨e1,e2⟩:=c1 m h
      exact ⟨by rw [e1,b1];simp only [szL];omega,e2⟩
theorem ck_inr {l:List S59} {n d m:Nat} (hn:n≤100) (h:ckL l n d=.inr m):m=n+szL l∧m≤100:=(ck_sz _ l rfl n d hn).1 m h
theorem ck_inl {l:List S59} {n d:Nat} {f:Int×Int} (hn:n≤100) (h:ckL l n d=.inl f):f.1≠0:=(ck_sz _ l rfl n d hn).2 f h
def VR (c:(Int×Int)⊕Nat) (x:(Int×Int)×((Int×Int)×(Int×(Unit×Unit)))):Prop:=match c with
 |.inl f=>x.1=f
 |.inr m=>x.1=(0,0)∧x.2.2.1=(m:Int)
def VL (c:(Int×Int)⊕Nat) {α:Type} (x:(Unit×((Int×Int)×Int×(Unit×Unit)))⊕α) (y:Nat→α→Prop):Prop:=match c with
 |.inl f=>∃ n',x=.inl ((),(f,(n',((),()))))
 |.inr m=>∃ z,x=.inr z∧y m z
theorem qve (d:Nat) (hd:d≤8) (l:List S59) (t14 t15 b2 b21:Int) (r:S59) (n:Nat) (hn:n<100)
  (i1:∀ n:Nat,n≤100→∃ x,qhd r.Then ((d+1:Nat):Int) (n:Int)=some x∧VR (ckL r.Then n (d+1)) x) (i2:∀ n:Nat,n≤100→∃ x,qhd r.Else ((d+1:Nat):Int) (n:Int)=some x∧VR (ckL r.Else n (d+1)) x) :
  ∃ x,qhg d l t14 t15 2 2 0 ((n+1:Nat):Int) b2 b21 [r.Then,r.Else]=some x∧VL (ckR r n d) x (fun (m:Nat) z=>z=(((d:Int),(),(),(),l,t14,t15,2,2,2,false),((m:Int),((),()),(b2,b21),[r.Then,r.Else]))):=by
 have e3:IntKind.i64.wrap ((d:Int)+1)=((d+1:Nat):Int):=qvt (n:=100) (by omega) (by omega)
 have w1:IntKind.i64.wrap ((0:Int)+1)=1:=qvs (by omega)
 have w2:IntKind.i64.wrap ((1:Int)+1)=2:=qvs (by omega)
 have f0:((List.getD (q5i.encL [r.Then,r.Else]) 0 []).length==1)=true:=rfl
 have f1:((List.getD (q5i.encL [r.Then,r.Else]) 1 []).length==1)=true:=rfl
 have p0:isP [K1.sl] 0 (List.getD (q5i.encL [r.Then,r.Else]) 0 [])=true:=rfl
 have p1:isP [K1.sl] 0 (List.getD (q5i.encL [r.Then,r.Else]) 1 [])=true:=rfl
 have q0:∀ z,List.getD [r.Then,r.Else] 0 z=r.Then:=fun _=>rfl
 have q1:∀ z,List.getD [r.Then,r.Else] 1 z=r.Else:=fun _=>rfl
 have l0:decide (0<List.length [r.Then,r.Else])=true:=rfl
 have l1:decide (1<List.length [r.Then,r.Else])=true:=rfl
 have n0:Int.toNat 0=0:=rfl
 have n1:Int.toNat 1=1:=rfl
 have c1:decide ((0:Int)<2)=true:=rfl
 have c2:decide ((1:Int)<2)=true:=rfl
 have c3:decide ((2:Int)<2)=false:=rfl
 have c4:decide ((0:Int)≤0)=true:=rfl
 have c5:decide ((0:Int)≤1)=true:=rfl
 have c6:decide ((0:Int)<((2:Nat):Int))=true:=rfl
 have c7:decide ((1:Int)<((2:Nat):Int))=true:=rfl
 have s2:∀ m:Nat,qhg d l t14 t15 2 2 2 m b2 b21 [r.Then,r.Else]=some (.inr (((d:Int),(),(),(),l,t14,t15,2,2,2,false),((m:Int),((),()),(b2,b21),[r.Then,r.Else]))):=fun m=>qhi (by
  simp only [qhn,gL,dL,lN,wI,p0,uL,q3l,q8h,EC.decL_encL,EC.isL_encL,EC.encL_length,q20,c3,Bool.false_eq_true,if_false,if_true])
 have s1:∀ m:Nat,m≤100→∃ x,qhg d l t14 t15 2 2 1 m b2 b21 [r.Then,r.Else]=some x∧VL (ckL r.Else m (d+1)) x (fun (m:Nat) z=>z=(((d:Int),(),(),(),l,t14,t15,2,2,2,false),((m:Int),((),()),(b2,b21),[r.Then,r.Else]))):=by
  intro m hm
  obtain ⟨x,h1,h2⟩:=i2 m hm
  cases hc:ckL r.Else m (d+1) with
  |inl f =>
   rw [hc] at h2
   have h2:x.1=f:=h2
   have hf:(f.1 != 0)=true:=by simpa using ck_inl hm hc
   refine ⟨.inl ((),(f,(x.2.2.1,((),())))),qhi ?_,⟨_,rfl⟩⟩
   simp only [qhn,gL,dL,lN,wI,p0,uL,q3l,q8h,EC.decL_encL,EC.isL_encL,EC.encL_length,q20,c2,c5,c7,n1,l1,f1,p1,q1,Bool.and_self,if_true,e3,h1,q71,Option.bind_some,h2,hf]
  |inr q =>
   rw [hc] at h2
   obtain ⟨h2,h3⟩:x.1=(0,0)∧x.2.2.1=(q:Int):=h2
   refine ⟨_,qhi (r:=.inr (((d:Int),(),(),(),l,t14,t15,2,2,2,false),((q:Int),((),()),(b2,b21),[r.Then,r.Else]))) ?_,⟨_,rfl,rfl⟩⟩
   simp only [qhn,gL,dL,lN,wI,p0,uL,q3l,q8h,EC.decL_encL,EC.isL_encL,EC.encL_length,q20,c2,c5,c7,n1,l1,f1,p1,q1,Bool.and_self,if_true,e3,h1,q71,Option.bind_some,h2,h3,w2,s2,bne_self_eq_false,Bool.false_eq_true,if_false]
 obtain ⟨x,h1,h2⟩:=i1 (n+1) (by omega)
 rw [ckR_eq]
 cases hc:ckL r.Then (n+1) (d+1) with
 |inl f =>
  rw [hc] at h2
  have h2:x.1=f:=h2
  have hf:(f.1 != 0)=true:=by simpa using ck_inl (by omega) hc
  refine ⟨.inl ((),(f,(x.2.2.1,((),())))),qhi ?_,⟨_,rfl⟩⟩
  simp only [qhn,gL,dL,lN,wI,p0,uL,q3l,q8h,EC.decL_encL,EC.isL_encL,EC.encL_length,q20,c1,c4,c6,n0,l0,f0,p0,q0,Bool.and_self,if_true,e3,h1,q71,Option.bind_some,h2,hf]
 |inr q =>
  rw [hc] at h2
  obtain ⟨h2,h3⟩:x.1=(0,0)∧x.2.2.1=(q:Int):=h2
  obtain ⟨y,g1,g2⟩:=s1 q (ck_inr (by omega) hc).2
  refine ⟨y,qhi ?_,g2⟩
  simp only [qhn,gL,dL,lN,wI,p0,uL,q3l,q8h,EC.decL_encL,EC.isL_encL,EC.encL_length,q20,c1,c4,c6,n0,l0,f0,p0,q0,Bool.and_self,if_true,e3,h1,q71,Option.bind_some,h2,h3,w1,g1,bne_self_eq_false,Bool.false_eq_true,if_false]
theorem val_l2 (d:Nat) (hd:d≤9) (l:List S59) (hl:l.length≤big) (ho:okL l)
  (ih:d≤8→∀ r∈l,(∀ n:Nat,n≤100→∃ x,qhd r.Then ((d+1:Nat):Int) (n:Int)=some x∧VR (ckL r.Then n (d+1)) x)∧(∀ n:Nat,n≤100→∃ x,qhd r.Else ((d+1:Nat):Int) (n:Int)=some x∧VR (ckL r.Else n (d+1)) x)) :
  ∀ m k (n:Nat) b2 b21,n≤100→k+m=l.length→∃ x,qho d l l.length k n b2 b21=some x∧VL (ckL (l.drop k) n d) x (fun (m:Nat) z=>z.2.1=(m:Int)):=by
 intro m
 induction m with
 |zero =>
  intro k n b2 b21 hn hk
  have hk:k=l.length:=by omega
  subst hk
  refine ⟨_,qhq (r:=.inr (((d:Int),(),(),(),l,(l.length:Int),(l.length:Int),false),((n:Int),((),()),(b2,b21)))) (by
   simp only [qhv,zo,gL,dL,eC,wI,p0,uL,q3l,q8h,EC.decL_encL,EC.isL_encL,EC.encL_length,q9u,q27,q28,q2c,q2d,q2e,q2f,q2g,q2h,q2i,q2j,q29,q2a,q2b]
   simp),?_⟩
  rw [List.drop_length]
  exact ⟨_,rfl,rfl⟩
 |succ m ihm =>
  intro k n b2 b21 hn hk
  have hlt:k<l.length:=by omega
  have hr:=List.getElem_mem hlt
  have e1:decide ((k:Int)<(l.length:Int))=true:=by simp;omega
  have e0:decide ((0:Int)≤(k:Int))=true:=by simp
  have e2:IntKind.i64.wrap ((k:Int)+1)=((k+1:Nat):Int):=qvt hlt (by unfold big at hl;omega)
  have e3:IntKind.i64.wrap ((n:Int)+1)=((n+1:Nat):Int):=qvt (n:=1000) (by omega) (by omega)
  have hd2:decide (k<l.length)=true:=by simp [hlt]
  rw [q5h hlt,ckL]
  by_cases h100:100≤n
  ·have hn100:n=100:=by omega
   subst hn100
   refine ⟨_,qhq (r:=.inl ((),((2,-1),((100:Nat),((),()))))) ?_,?_⟩
   ·simp only [qhv,zo,gL,dL,eC,wI,p0,uL,q3l,q8h,EC.decL_encL,EC.isL_encL,EC.encL_length,q9u,q27,q28,q2c,q2d,q2e,q2f,q2g,q2h,q2i,q2j,q29,q2a,q2b,e1,e0,if_true,Int.toNat_natCast,hd2,Bool.and_self,q72,Option.bind_some]
    rfl
   ·rw [if_pos h100];exact ⟨_,rfl⟩
  rw [if_neg h100]
  have en:((n:Int)==100)=false:=by simp;omega
  have hrule:=rule_s l[k] (qdj ho hr) d
  have hrule:qpa l[k].Kind l[k].Test_Kind l[k].Test_Tests l[k].Test_Name l[k].Test_Pattern l[k].Test_Text l[k].Test_N l[k].Then l[k].Else l[k].Act l[k].Name l[k].Text l[k].N d=some (rc l[k] d):=hrule
  by_cases hc:rc l[k] d=0
  case neg =>
   refine ⟨_,qhq (r:=.inl ((),((rc l[k] d,(n:Int)),((n:Int),((),()))))) ?_,?_⟩
   ·have hcb:(rc l[k] d != 0)=true:=by simpa using hc
    simp only [qhv,zo,gL,dL,eC,wI,p0,uL,q3l,q8h,EC.decL_encL,EC.isL_encL,EC.encL_length,q9u,q27,q28,q2c,q2d,q2e,q2f,q2g,q2h,q2i,q2j,q29,q2a,q2b,e1,e0,if_true,Int.toNat_natCast,hd2,Bool.and_self,q72,Option.bind_some,en,Bool.false_eq_true,if_false,q8k hlt,hrule,hcb]
   ·rw [if_pos hc];exact ⟨_,rfl⟩
  have hcb:(rc l[k] d != 0)=false:=by simpa using hc
  have hd8:d≤8:=by
   rcases Nat.lt_or_ge 8 d with h|h
   ·unfold rc at hc
    rw [if_pos (by simp;omega)] at hc
    cases hc
   ·exact h
  rw [if_neg (by simpa using hc)]
  obtain ⟨i1,i2⟩:=ih hd8 l[k] hr
  obtain ⟨x,h1,h2⟩:=qve d hd8 l (l.length:Int) (k:Int) b2 b21 l[k] n (by omega) i1 i2
  cases hq:ckR l[k] n d with
  |inl f =>
   rw [hq] at h2
   obtain ⟨n',rfl⟩:=h2
   refine ⟨_,qhq (r:=.inl ((),(f,(n',((),()))))) ?_,⟨_,rfl⟩⟩
   simp only [qhv,zo,gL,dL,eC,wI,p0,uL,q3l,q8h,EC.decL_encL,EC.isL_encL,EC.encL_length,q9u,q27,q28,q2c,q2d,q2e,q2f,q2g,q2h,q2i,q2j,q29,q2a,q2b,e1,e0,if_true,Int.toNat_natCast,hd2,Bool.and_self,Option.bind_some,en,Bool.false_eq_true,if_false,q8k hlt,hrule,hcb,qe2,e3]
   have h1':qhg d l l.length k 2 ((2:Nat):Int) 0 ((n+1:Nat):Int) b2 b21 [l[k].Then,l[k].Else]=_:=h1
   rw [h1']
   rfl
  |inr q =>
   rw [hq] at h2
   obtain ⟨z,rfl,rfl⟩:=h2
   have hq100:q≤100:=by
    have:=(ck_sz (szL [l[k]]) [l[k]] rfl n d hn).1 q (by simp only [ckL];rw [if_neg h100,if_neg (by simpa using hc),hq])
    exact this.2
   obtain ⟨y,g1,g2⟩:=ihm (k+1) q b2 b21 hq100 (by omega)
   refine ⟨y,qhq ?_,g2⟩
   simp only [qhv,zo,gL,dL,eC,wI,p0,uL,q3l,q8h,EC.decL_encL,EC.isL_encL,EC.encL_length,q9u,q27,q28,q2c,q2d,q2e,q2f,q2g,q2h,q2i,q2j,q29,q2a,q2b,e1,e0,if_true,Int.toNat_natCast,hd2,Bool.and_self,Option.bind_some,en,Bool.false_eq_true,if_false,q8k hlt,hrule,hcb,qe2,e3]
   have h1':qhg d l l.length k 2 ((2:Nat):Int) 0 ((n+1:Nat):Int) b2 b21 [l[k].Then,l[k].Else]=_:=h1
   rw [h1']
   simp only [Option.bind_some,Sum.elim_inr,e2]
   exact g1
theorem val_h2:∀ (q:Nat) (l:List S59),szL l=q→l.length≤big→okL l→∀ d:Nat,d≤9→∀ n:Nat,n≤100→∃ x,qhd l (d:Int) (n:Int)=some x∧VR (ckL l n d) x:=by
 intro q
 induction q using Nat.strongRecOn with
 |_ q ih =>
  intro l hq hl ho d hd n hn
  obtain ⟨x,h1,h2⟩:=val_l2 d hd l hl ho (fun hd8 r hr=>by
   have:=(okR_eq r).1 (qdj ho hr)
   exact ⟨fun n hn=>ih _ (hq ▸ qt4 hr) r.Then rfl this.2.1.1 this.2.1.2 (d+1) (by omega) n hn,fun n hn=>ih _ (hq ▸ qt3 hr) r.Else rfl this.2.2.1.1 this.2.2.1.2 (d+1) (by omega) n hn⟩) l.length 0 n 0 0 hn (by omega)
  have e:qho d l l.length 0 n 0 0=some x:=h1
  rw [List.drop_zero] at h2
  cases hc:ckL l n d with
  |inl f =>
   rw [hc] at h2
   obtain ⟨n',rfl⟩:=h2
   refine ⟨_,qhf (r:=(f,(f,(n',((),()))))) ?_,rfl⟩
   simp only [qhz,gL,dL,lN,q8h,EC.decL_encL,EC.isL_encL,EC.encL_length,if_true,e,Option.bind_some,Sum.elim_inl]
  |inr m =>
   rw [hc] at h2
   obtain ⟨z,rfl,h3⟩:=h2
   refine ⟨_,qhf (r:=((0,0),((0,0),((m:Int),((),()))))) ?_,⟨rfl,rfl⟩⟩
   simp only [qhz,gL,dL,lN,q8h,EC.decL_encL,EC.isL_encL,EC.encL_length,if_true,e,Option.bind_some,Sum.elim_inr,none_s,h3]
def scriptF (l:List S59):Int×Int:=match ckL l 0 1 with
 |.inl f=>f
 |.inr _=>(0,0)
theorem qvf (l:List S59) (hl:l.length≤big) (ho:okL l):qi4 l=some (scriptF l):=by
 obtain ⟨x,h1,h2⟩:=val_h2 _ l rfl hl ho 1 (by omega) 0 (by omega)
 refine qi3 ?_
 have e:qhd l 1 0=some x:=h1
 simp only [qi5,gL,dL,q8h,EC.decL_encL,EC.isL_encL,if_true,e,Option.bind_some]
 unfold scriptF
 cases hc:ckL l 0 1 with
 |inl f=>rw [hc] at h2;have h2:x.1=f:=h2;simp only [h2]
 |inr m=>rw [hc] at h2;have h2:x.1=(0,0):=h2.1;simp only [h2]
theorem at_s (c i:Int):qx0 c i=some (c,i):=qwz rfl
def LR (c:(Int×Int)⊕Nat):Int×Int:=match c with
 |.inl f=>f
 |.inr _=>(0,0)
theorem qwo (d:Nat) (hd:d≤9) (l:List S59) (hl:l.length≤big) (ho:okL l)
  (ih:d≤8→∀ r∈l,(∀ n:Nat,n≤100→q163 r.Then (n:Int) ((d+1:Nat):Int)=some (LR (ckL r.Then n (d+1))))∧(∀ n:Nat,n≤100→q163 r.Else (n:Int) ((d+1:Nat):Int)=some (LR (ckL r.Else n (d+1))))) :
  ∀ m k (n:Nat) b0 b01,n≤100→k+m=l.length→∃ x,q15v l n d k b0 b01=some x∧(match ckL (l.drop k) n d with|.inl f=>x=.inl ((),f)|.inr _=>∃ z,x=.inr z):=by
 intro m
 induction m with
 |zero =>
  intro k n b2 b21 hn hk
  have hk:k=l.length:=by omega
  subst hk
  refine ⟨_,q15x (r:=.inr ((l,(n:Int),(d:Int),(),(l.length:Int),false),(b2,b21))) (by
   simp only [q162,z10,z11,z12,gL,dL,lN,eC,wI,p0,uL,q3l,q8h,EC.decL_encL,EC.isL_encL,EC.encL_length,q9u,q27,q28,q2c,q2d,q2e,q2f,q2g,q2h,q2i,q2j,q29,q2a,q2b]
   simp),?_⟩
  rw [List.drop_length]
  exact ⟨_,rfl⟩
 |succ m ihm =>
  intro k n b2 b21 hn hk
  have hlt:k<l.length:=by omega
  have hr:=List.getElem_mem hlt
  have e1:decide ((k:Int)<(l.length:Int))=true:=by simp;omega
  have e0:decide ((0:Int)≤(k:Int))=true:=by simp
  have e2:IntKind.i64.wrap ((k:Int)+1)=((k+1:Nat):Int):=qvt hlt (by unfold big at hl;omega)
  have e3:IntKind.i64.wrap ((n:Int)+1)=((n+1:Nat):Int):=qvt (n:=1000) (by omega) (by omega)
  have hd2:decide (k<l.length)=true:=by simp [hlt]
  rw [q5h hlt,ckL]
  by_cases h100:100≤n
  ·rw [if_pos h100]
   refine ⟨_,q15x (r:=.inl ((),(2,-1))) ?_,rfl⟩
   have:decide ((n:Int)≥100)=true:=by simp;omega
   simp only [q162,z10,z11,z12,gL,dL,lN,eC,wI,p0,uL,q3l,q8h,EC.decL_encL,EC.isL_encL,EC.encL_length,q9u,q27,q28,q2c,q2d,q2e,q2f,q2g,q2h,q2i,q2j,q29,q2a,q2b,e1,if_true,this,at_s,Option.bind_some]
  rw [if_neg h100]
  have en:decide ((n:Int)≥100)=false:=by simp;omega
  by_cases h8:(d:Int)>8
  ·have hc:rc l[k] d=5:=by unfold rc;rw [if_pos (by simpa using h8)]
   rw [if_pos (by rw [hc];decide),hc]
   refine ⟨_,q15x (r:=.inl ((),(5,(n:Int)))) ?_,rfl⟩
   simp only [q162,z10,z11,z12,gL,dL,lN,eC,wI,p0,uL,q3l,q8h,EC.decL_encL,EC.isL_encL,EC.encL_length,q9u,q27,q28,q2c,q2d,q2e,q2f,q2g,q2h,q2i,q2j,q29,q2a,q2b,e1,if_true,en,Bool.false_eq_true,if_false,decide_eq_true h8,at_s,Option.bind_some]
  have hd8:d≤8:=by omega
  have e4:IntKind.i64.wrap ((d:Int)+1)=((d+1:Nat):Int):=qvt (n:=100) (by omega) (by omega)
  have h8b:decide ((d:Int)>8)=false:=decide_eq_false h8
  have hrc:rc l[k] d=rHead l[k]:=by unfold rc;rw [h8b];rfl
  have hrule:=q16e l[k] (qdj ho hr)
  rw [←hrc] at hrule
  by_cases hc:rc l[k] d=0
  case neg =>
   rw [if_pos hc]
   refine ⟨_,q15x (r:=.inl ((),(rc l[k] d,(n:Int)))) ?_,rfl⟩
   have hcb:(rc l[k] d != 0)=true:=by simpa using hc
   simp only [q162,z10,z11,z12,gL,dL,lN,eC,wI,p0,uL,q3l,q8h,EC.decL_encL,EC.isL_encL,EC.encL_length,q9u,q27,q28,q2c,q2d,q2e,q2f,q2g,q2h,q2i,q2j,q29,q2a,q2b,e1,e0,if_true,Int.toNat_natCast,hd2,Bool.and_self,at_s,Option.bind_some,en,Bool.false_eq_true,if_false,q8k hlt,hrule,hcb,h8b]
  have hcb:(rc l[k] d != 0)=false:=by simpa using hc
  rw [if_neg (by simpa using hc)]
  obtain ⟨i1,i2⟩:=ih hd8 l[k] hr
  have j1:=i1 (n+1) (by omega)
  rw [ckR_eq]
  cases hq1:ckL l[k].Then (n+1) (d+1) with
  |inl f =>
   rw [hq1] at j1
   have hf:(f.1 != 0)=true:=by simpa using ck_inl (by omega) hq1
   refine ⟨_,q15x (r:=.inl ((),f)) ?_,rfl⟩
   simp only [q162,z10,z11,z12,gL,dL,lN,eC,wI,p0,uL,q3l,q8h,EC.decL_encL,EC.isL_encL,EC.encL_length,q9u,q27,q28,q2c,q2d,q2e,q2f,q2g,q2h,q2i,q2j,q29,q2a,q2b,e1,e0,if_true,Int.toNat_natCast,hd2,Bool.and_self,Option.bind_some,en,Bool.false_eq_true,if_false,q8k hlt,hrule,hcb,h8b,e3,e4,j1,LR,hf]
  |inr n1 =>
   dsimp only
   rw [hq1] at j1
   obtain ⟨a1,a2⟩:=ck_inr (by omega) hq1
   obtain ⟨⟨_,_⟩,⟨o3,o4⟩,⟨o5,o6⟩,_⟩:=(okR_eq l[k]).1 (qdj ho hr)
   have c1:=qw7 l[k].Then o3 o4
   have c2:=qw7 l[k].Else o5 o6
   have w1:IntKind.i64.wrap ((szL l[k].Then:Nat):Int)=(szL l[k].Then:Nat):=qvs (by omega)
   rw [w1] at c1
   have e5:IntKind.i64.wrap (((n+1:Nat):Int)+(szL l[k].Then:Nat))=(n1:Int):=by rw [qvs (by omega)];omega
   have j2:=i2 n1 a2
   cases hq2:ckL l[k].Else n1 (d+1) with
   |inl f =>
    rw [hq2] at j2
    have hf:(f.1 != 0)=true:=by simpa using ck_inl a2 hq2
    refine ⟨_,q15x (r:=.inl ((),f)) ?_,rfl⟩
    simp only [q162,z10,z11,z12,gL,dL,lN,eC,wI,p0,uL,q3l,q8h,EC.decL_encL,EC.isL_encL,EC.encL_length,q9u,q27,q28,q2c,q2d,q2e,q2f,q2g,q2h,q2i,q2j,q29,q2a,q2b,e1,e0,if_true,Int.toNat_natCast,hd2,Bool.and_self,Option.bind_some,en,Bool.false_eq_true,if_false,q8k hlt,hrule,hcb,h8b,e3,e4,j1,LR,bne_self_eq_false,c1,e5,j2,hf]
   |inr n2 =>
    rw [hq2] at j2
    obtain ⟨b1,b2'⟩:=ck_inr a2 hq2
    have w2:IntKind.i64.wrap ((szL l[k].Else:Nat):Int)=(szL l[k].Else:Nat):=qvs (by omega)
    rw [w2] at c2
    have e6:IntKind.i64.wrap ((n:Int)+IntKind.i64.wrap (IntKind.i64.wrap (1+((szL l[k].Then:Nat):Int))+((szL l[k].Else:Nat):Int)))=(n2:Int):=by
     rw [q178,q179,qvs (by omega)];omega
    obtain ⟨y,g1,g2⟩:=ihm (k+1) n2 b2 b21 b2' (by omega)
    refine ⟨y,q15x ?_,g2⟩
    simp only [q162,z10,z11,z12,gL,dL,lN,eC,wI,p0,uL,q3l,q8h,EC.decL_encL,EC.isL_encL,EC.encL_length,q9u,q27,q28,q2c,q2d,q2e,q2f,q2g,q2h,q2i,q2j,q29,q2a,q2b,e1,e0,if_true,Int.toNat_natCast,hd2,Bool.and_self,Option.bind_some,en,Bool.false_eq_true,if_false,q8k hlt,hrule,hcb,h8b,e3,e4,j1,LR,bne_self_eq_false,c1,c2,e5,j2,e6,e2]
    exact g1
theorem lf_s:∀ (q:Nat) (l:List S59),szL l=q→l.length≤big→okL l→∀ d:Nat,d≤9→∀ n:Nat,n≤100→q163 l (n:Int) (d:Int)=some (LR (ckL l n d)):=by
 intro q
 induction q using Nat.strongRecOn with
 |_ q ih =>
  intro l hq hl ho d hd n hn
  obtain ⟨x,h1,h2⟩:=qwo d hd l hl ho (fun hd8 r hr=>by
   have:=(okR_eq r).1 (qdj ho hr)
   exact ⟨fun n hn=>ih _ (hq ▸ qt4 hr) r.Then rfl this.2.1.1 this.2.1.2 (d+1) (by omega) n hn,fun n hn=>ih _ (hq ▸ qt3 hr) r.Else rfl this.2.2.1.1 this.2.2.1.2 (d+1) (by omega) n hn⟩) l.length 0 n 0 0 hn (by omega)
  have e:q15v l n d 0 0 0=some x:=h1
  rw [List.drop_zero] at h2
  refine q15u ?_
  simp only [q164,gL,dL,q8h,EC.decL_encL,EC.isL_encL,if_true,e,Option.bind_some]
  cases hc:ckL l n d with
  |inl f=>rw [hc] at h2;subst h2;rfl
  |inr m=>rw [hc] at h2;obtain ⟨z,rfl⟩:=h2;rfl
theorem q16h (l:List S59) (hl:l.length≤big) (ho:okL l):q10c l=some (scriptF l):=by
 have h:=lf_s _ l rfl hl ho 1 (by omega) 0 (by omega)
 have e:q163 l 0 1=some (scriptF l):=by
  have:scriptF l=LR (ckL l 0 1):=by unfold scriptF LR;rfl
  rw [this];exact h
 refine q10b ?_
 simp only [q10d,gL,dL,q8h,EC.decL_encL,EC.isL_encL,if_true,e,Option.bind_some]
structure Tok where
 k:Nat
 s:List UInt8
 o:Nat
def wsB (c:UInt8):Bool:=c==32||c==9||c==13||c==10
def wsN (l:List UInt8):Nat:=(l.takeWhile wsB).length
def strq:List UInt8→Option (List UInt8×Nat)
 |[]=>none
 |[c]=>if c=34 then some ([],1) else none
 |c::d::r=>if c=34 then some ([],1) else if c=92 then (if d=34∨d=92 then (strq r).map fun x=>(d::x.1,x.2+2) else none) else (strq (d::r)).map fun x=>(c::x.1,x.2+1)
def lexT:List UInt8→(Nat×List UInt8)×Nat
 |[]=>((0,[]),0)
 |c::r=>if c=34 then (match strq r with|some x=>((1,x.1),x.2+1)|none=>((5,[]),0))
  else if letterB c=true then ((2,c::r.takeWhile smallB),(r.takeWhile smallB).length+1)
  else if digitB c=true then ((3,c::r.takeWhile digitB),(r.takeWhile digitB).length+1)
  else ((4,[c]),1)
def endK (k:Nat):Bool:=k==0||k==5
def toks:Nat→List UInt8→Nat→List Tok
 |0,_,_=>[]
 |f+1,l,o=>⟨(lexT (l.drop (wsN l))).1.1,(lexT (l.drop (wsN l))).1.2,o+wsN l⟩ ::
  (if endK (lexT (l.drop (wsN l))).1.1=true then [] else toks f (l.drop (wsN l+(lexT (l.drop (wsN l))).2)) (o+wsN l+(lexT (l.drop (wsN l))).2))
def wIs:List UInt8:=[105,115]
def wContains:List UInt8:=[99,111,110,116,97,105,110,115]
def wLike:List UInt8:=[108,105,107,101]
def wTrue:List UInt8:=[116,114,117,101]
def wNot:List UInt8:=[110,111,116]
def wAll:List UInt8:=[97,108,108]
def wAny:List UInt8:=[97,110,121]
def wHeader:List UInt8:=[104,101,97,100,101,114]
def wFrom:List UInt8:=[102,114,111,109]
def wTo:List UInt8:=[116,111]
def wSize:List UInt8:=[115,105,122,101]
def wExists:List UInt8:=[101,120,105,115,116,115]
def wKeep:List UInt8:=[107,101,101,112]
def wFile:List UInt8:=[102,105,108,101]
def wDiscard:List UInt8:=[100,105,115,99,97,114,100]
def wRedirect:List UInt8:=[114,101,100,105,114,101,99,116]
def wReject:List UInt8:=[114,101,106,101,99,116]
def wFlag:List UInt8:=[102,108,97,103]
def wReply:List UInt8:=[114,101,112,108,121]
def wIf:List UInt8:=[105,102]
def wElse:List UInt8:=[101,108,115,101]
def wSet:List UInt8:=[115,101,116]
def wStop:List UInt8:=[115,116,111,112]
def baL (l:List UInt8):ByteArray:=⟨l.toArray⟩
def tst (k:Nat) (ts:List S57) (nm:List UInt8) (p:Nat) (tx:List UInt8) (n:Nat):S57:=⟨k,ts,baL nm,p,baL tx,n⟩
def t0:S57:=tst 0 [] [] 0 [] 0
def fuel (t:List UInt8):Nat:=4*t.length+16
end Go.Proofs.YtognhcibcocbkaaGreatDoor
