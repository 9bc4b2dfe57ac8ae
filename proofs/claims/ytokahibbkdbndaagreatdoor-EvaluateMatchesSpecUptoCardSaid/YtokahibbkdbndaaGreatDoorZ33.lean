/- One instance of match and fields of a run, in plain words. -/
import Derived.Test.YtokahibbkdbndaaGreatDoorZ31
import Derived.Test.YtokahibbkdbndaaGreatDoorH5
namespace Go.Proofs.YtokahibbkdbndaaGreatDoor
open Go.RowKit
section
variable (f:ByteArray) (rc:List S118) (i:ByteArray) (fs:List S55) (bd:List Int) (sz:Int) (na:Nat) (ac:List S45)
theorem qaq (ps:List ByteArray) (hp:ps.length≤1000) (hv:∀ v∈ps,v.size≤2000000):∀ (m k:Nat) (mm:MM),k+m=ps.length→mm.length+m≤100000000→qha ps.length ps.length k f rc i fs bd sz na ps mm ac=some (((),(ps.length,((ps.length:Int),((ps.length:Int),false)))),((f,(rc,(i,(fs,(bd,(sz,((),(na,())))))))),(ps,(putP (ps.drop k) k mm,ac)))):=by
 intro m
 induction m with
 |zero =>
  intro k mm hk hs
  have hk:k=ps.length:=by omega
  subst hk
  refine qhc ?_
  rw [List.drop_length,putP]
  simp only [qhg,gL,dL,lN,wI,p0,q7r,qn6,EC.decL_encL,EC.isL_encL,EC.encL_length,q51]
  simp
 |succ m ih =>
  intro k mm hk hs
  have hlt:k<ps.length:=by omega
  have e1:decide ((k:Int)<(ps.length:Int))=true:=by simp;omega
  have e0:decide ((0:Int)≤(k:Int))=true:=by simp
  have e2:IntKind.i64.wrap ((k:Int)+1)=((k+1:Nat):Int):=q1m2 hlt (by omega)
  have e3:decide (k<ps.length)=true:=by simp [hlt]
  have hi:itoaP ((k+1:Nat):Int)=some (itB ((k+1:Nat):Int)):=by unfold itoaP;rw [if_pos (by omega)];rfl
  have g1:decide ((itB ((k+1:Nat):Int)).size≤maxLen)=true:=decide_eq_true (by have:=qqw (k+1);unfold maxLen;omega)
  have g2:decide (ps[k].size≤maxLen)=true:=decide_eq_true (by have:=hv _ (List.getElem_mem hlt);unfold maxLen;omega)
  have g3:decide (mm.length<maxLen)=true:=decide_eq_true (by unfold maxLen;omega)
  refine qhc ?_
  rw [qag hlt,putP]
  simp only [qhg,gL,dL,lN,wI,p0,q7r,qn6,EC.decL_encL,EC.isL_encL,EC.encL_length,q51,e1,e0,e3,if_true,Int.toNat_natCast,Bool.and_self,qs3 ps k hlt,qqu ps k hlt,qn9 hlt,beq_self_eq_true,e2,hi,Option.bind_some,g1,g2,g3]
  exact ih (k+1) _ (by omega) (by have:=q19r mm (itB ((k+1:Nat):Int)) ps[k];omega)
theorem qan (t:S48) (ht:t.Text.size≤2000000) (l:List ByteArray) (hl:l.length≤2000000) (hv:∀ v∈l,v.size≤2000000) (n:Nat) (hn:n≤1000000) (mm:MM) (hm:Inv n mm):∀ (m k:Nat),k+m=l.length→∃ x,qh2 l.length l.length k f rc i fs bd sz na t.Kind t.Tests t.Name t.Pattern t.Text t.N l mm ac=some x ∧
  Sum.elim (fun r=>(r.1,(r.1,r.2))) (fun r=>(false,(false,(r.2.1,(r.2.2.2.2.1,r.2.2.2.2.2))))) x=((matL t.Pattern t.Text mm (l.drop k)).1,((matL t.Pattern t.Text mm (l.drop k)).1,((f,(rc,(i,(fs,(bd,(sz,((),(na,())))))))),((matL t.Pattern t.Text mm (l.drop k)).2,ac)))):=by
 intro m
 induction m with
 |zero =>
  intro k hk
  have hk:k=l.length:=by omega
  subst hk
  refine ⟨.inr (((),((),(l.length,((l.length:Int),((l.length:Int),false))))),((f,(rc,(i,(fs,(bd,(sz,((),(na,())))))))),((t.Kind,(t.Tests,(t.Name,(t.Pattern,(t.Text,t.N))))),(l,(mm,ac))))),qh4 (by
   simp only [qh9,gL,dL,lN,wI,p0,q7r,qn6,EC.decL_encL,EC.isL_encL,EC.encL_length,q51]
   simp),?_⟩
  rw [List.drop_length];rfl
 |succ m ih =>
  intro k hk
  have hlt:k<l.length:=by omega
  have e1:decide ((k:Int)<(l.length:Int))=true:=by simp;omega
  have e0:decide ((0:Int)≤(k:Int))=true:=by simp
  have e2:IntKind.i64.wrap ((k:Int)+1)=((k+1:Nat):Int):=q1m2 hlt (by omega)
  have e3:decide (k<l.length)=true:=by simp [hlt]
  have hs:=hv _ (List.getElem_mem hlt)
  have hM:=qta t.Pattern t.Text l[k] (by omega) (by omega)
  obtain ⟨p1,p2,p3⟩:=qt9 t.Pattern t.Text l[k]
  obtain ⟨x,h1,h2⟩:=ih (k+1) (by omega)
  rw [qag hlt,matL]
  generalize matchR t.Pattern t.Text l[k]=r at hM p1 p2 p3
  cases hf:(r.1.2.2.1 != 0) with
  |true =>
   have hf':¬ (r.1.2.2.1=0∧r.1.1=true):=fun h=>by rw [h.1] at hf;cases hf
   rw [if_neg hf']
   refine ⟨x,qh4 ?_,h2⟩
   simp only [qh9,gL,dL,lN,wI,p0,q7r,qn6,EC.decL_encL,EC.isL_encL,EC.encL_length,q51,e1,e0,e3,if_true,Int.toNat_natCast,Bool.and_self,qs3 l k hlt,qqu l k hlt,qn9 hlt,beq_self_eq_true,e2,hM,Option.bind_some,qjo,hf,show (true==false)=false from rfl,Bool.false_eq_true,if_false]
   exact h1
  |false =>
   have hf0:r.1.2.2.1=0:=by simpa using hf
   cases hb:r.1.1 with
   |false =>
    rw [if_neg (by simp)]
    refine ⟨x,qh4 ?_,h2⟩
    simp only [qh9,gL,dL,lN,wI,p0,q7r,qn6,EC.decL_encL,EC.isL_encL,EC.encL_length,q51,e1,e0,e3,if_true,Int.toNat_natCast,Bool.and_self,qs3 l k hlt,qqu l k hlt,qn9 hlt,beq_self_eq_true,e2,hM,Option.bind_some,qjo,hf,hb,Bool.not_false]
    exact h1
   |true =>
    rw [if_pos ⟨hf0,rfl⟩]
    cases h3:(t.Pattern==3) with
    |false =>
     have h3':¬ t.Pattern=3:=by simpa using h3
     refine ⟨.inl (true,((f,(rc,(i,(fs,(bd,(sz,((),(na,())))))))),(mm,ac))),qh4 ?_,by rw [if_neg h3'];rfl⟩
     simp only [qh9,gL,dL,lN,wI,p0,q7r,qn6,EC.decL_encL,EC.isL_encL,EC.encL_length,q51,e1,e0,e3,if_true,Int.toNat_natCast,Bool.and_self,qs3 l k hlt,qqu l k hlt,qn9 hlt,beq_self_eq_true,e2,hM,Option.bind_some,qjo,hf,hb,h3,Bool.not_true,Bool.false_eq_true,if_false]
    |true =>
     have h3':t.Pattern=3:=by simpa using h3
     have hd:delP mm=some (noDig mm):=by
      unfold delP
      rw [if_pos (List.all_eq_true.2 fun p hp=>decide_eq_true (hm.key p hp))]
      rfl
     have hln:=quw mm
     have hma:=hm.all
     have hpc:=qaq f rc i fs bd sz na ac r.2 p2 p3 r.2.length 0 (noDig mm) (by omega) (by omega)
     rw [List.drop_zero] at hpc
     have hpc:qha r.2.length r.2.length 0 f rc i fs bd sz na r.2 (noDig mm) ac=_:=hpc
     refine ⟨.inl (true,((f,(rc,(i,(fs,(bd,(sz,((),(na,())))))))),(putP r.2 0 (noDig mm),ac))),qh4 ?_,by rw [if_pos h3'];rfl⟩
     simp only [qh9,gL,dL,lN,wI,p0,q7r,qn6,EC.decL_encL,EC.isL_encL,EC.encL_length,q51,e1,e0,e3,if_true,Int.toNat_natCast,Bool.and_self,qs3 l k hlt,qqu l k hlt,qn9 hlt,beq_self_eq_true,e2,hM,Option.bind_some,qjo,hf,hb,h3,Bool.not_true,Bool.false_eq_true,if_false,hd,p1,hpc]
theorem qao (t:S48) (ht:t.Text.size≤2000000) (l:List ByteArray) (hl:l.length≤2000000) (hv:∀ v∈l,v.size≤2000000) (n:Nat) (hn:n≤1000000) (mm:MM) (hm:Inv n mm) :
  qgz t.Kind t.Tests t.Name t.Pattern t.Text t.N l.length f rc i fs bd sz na l mm ac=some ((matL t.Pattern t.Text mm l).1,((matL t.Pattern t.Text mm l).1,((f,(rc,(i,(fs,(bd,(sz,((),(na,())))))))),((matL t.Pattern t.Text mm l).2,ac)))):=by
 obtain ⟨x,h1,h2⟩:=qan f rc i fs bd sz na ac t ht l hl hv n hn mm hm l.length 0 (by omega)
 rw [List.drop_zero] at h2
 have h1:qh2 l.length l.length 0 f rc i fs bd sz na t.Kind t.Tests t.Name t.Pattern t.Text t.N l mm ac=some x:=h1
 refine qh1 ?_
 simp only [qhk,gL,dL,qn6,EC.decL_encL,EC.isL_encL,if_true,h1,Option.bind_some]
 rcases x with x|x
 ·simp only [Sum.elim_inl] at h2 ⊢
  exact congrArg some h2
 ·simp only [Sum.elim_inr] at h2 ⊢
  exact congrArg some h2
theorem qam (h:HdrOk fs) (n:ByteArray) (hn:n.size≤2000000) (mm:MM) :
  qg6 n f rc i fs bd sz na mm ac=some ((valsL fs n).length,((valsL fs n).length,(valsL fs n,((f,(rc,(i,(fs,(bd,(sz,((),(na,())))))))),(mm,ac))))):=by
 obtain ⟨r,e,h1,h2⟩:=get_s h n hn
 refine qg8 ?_
 simp only [qgc,gL,dL,qn6,EC.decL_encL,EC.isL_encL,if_true,e,Option.bind_some]
 rw [h2,h1]
end
end Go.Proofs.YtokahibbkdbndaaGreatDoor
namespace Go.Proofs.YtokahibbkdbndaaGreatDoor
open Go.RowKit
def tOf (r:S50):S48:=⟨r.Test_Kind,r.Test_Tests,r.Test_Name,r.Test_Pattern,r.Test_Text,r.Test_N⟩
def okvT (t:S48):Prop:=∃ d,tfT t d=0
def okvL (l:List S50):Prop:=∃ n d m,n≤100∧ckL l n d=.inr m
theorem q1ko {d:Nat}:∀ {ts:List S48},tfL ts d=0→∀ t∈ts,tfT t d=0
 |[],_,t,h=>by cases h
 |x::ts,h0,t,h=>by
  unfold tfL at h0
  split at h0
  ·rename_i hne;exact absurd h0 hne
  ·rename_i hx
   rcases List.mem_cons.1 h with rfl|h
   ·simpa using hx
   ·exact q1ko h0 t h
theorem qvf {t:S48} (h:okvT t) {t':S48} (ht:t'∈t.Tests):okvT t':=by
 obtain ⟨d,h⟩:=h
 rw [tfT_eq] at h
 split at h
 ·rename_i hne;exact absurd h hne
 ·exact ⟨d+1,q1ko h t' ht⟩
theorem qvg {t:S48} (h:okvT t):(1≤t.Kind∧t.Kind≤9)∧innerB t.Kind t.Tests.length=true:=by
 obtain ⟨d,h⟩:=h
 rw [tfT_eq] at h
 split at h
 ·rename_i hne;exact absurd h hne
 ·rename_i h0
  have h0:tHead t.Kind t.Tests.length t.Name t.Pattern t.Text t.N d=0:=by simpa using h0
  unfold tHead at h0
  split at h0
  ·cases h0
  split at h0
  ·cases h0
  rename_i h2
  split at h0
  ·cases h0
  rename_i h3
  simp only [Bool.or_eq_true,decide_eq_true_eq,not_or] at h2
  exact ⟨by omega,by simpa using h3⟩
theorem okvR {l:List S50} (h:okvL l) {r:S50} (hr:r∈l):rHead r=0∧okvL r.Then∧okvL r.Else:=by
 obtain ⟨n,d,m,hn,hc⟩:=h
 induction l generalizing n with
 |nil=>cases hr
 |cons x l ih =>
  unfold ckL at hc
  split at hc
  ·cases hc
  rename_i h100
  split at hc
  ·cases hc
  rename_i hrc
  cases hq:ckR x n d with
  |inl f=>rw [hq] at hc;cases hc
  |inr n2 =>
   rw [hq] at hc
   have hn2:n2≤100:=by
    have:=(ck_sz (szL [x]) [x] rfl n d hn).1 n2 (by simp only [ckL];rw [if_neg h100,if_neg hrc,hq])
    exact this.2
   rcases List.mem_cons.1 hr with rfl|hr
   ·have h0:rc r d=0:=by simpa using hrc
    refine ⟨?_,?_⟩
    ·unfold rc at h0
     split at h0
     ·cases h0
     ·exact h0
    ·rw [ckR_eq] at hq
     cases ht:ckL r.Then (n+1) (d+1) with
     |inl f=>rw [ht] at hq;cases hq
     |inr n1 =>
      rw [ht] at hq
      exact ⟨⟨n+1,d+1,n1,by omega,ht⟩,⟨n1,d+1,n2,(ck_inr (by omega) ht).2,hq⟩⟩
   ·exact ih hr n2 hn2 hc
theorem qve {r:S50} (h:rHead r=0) (hk:(r.Kind==1)=true):okvT (tOf r):=by
 unfold rHead at h
 split at h
 ·cases h
 split at h
 ·cases h
 ·exact ⟨1,h⟩
theorem qvh {t:S48} (h:okvT t):t.Text.size≤200∧t.Name.size≤60:=by
 obtain ⟨d,h⟩:=h
 rw [tfT_eq] at h
 split at h
 ·rename_i hne;exact absurd h hne
 ·rename_i h0
  have h0:tHead t.Kind t.Tests.length t.Name t.Pattern t.Text t.N d=0:=by simpa using h0
  unfold tHead at h0
  split at h0
  ·cases h0
  split at h0
  ·cases h0
  split at h0
  ·cases h0
  split at h0
  ·cases h0
  rename_i h4
  split at h0
  ·cases h0
  rename_i h5
  split at h0
  ·cases h0
  split at h0
  ·cases h0
  rename_i h7
  have h7:¬ (t.Text.size:Int)>200:=by simpa using h7
  refine ⟨by omega,?_⟩
  cases hk:(t.Kind==5||t.Kind==9) with
  |true =>
   rw [hk] at h5
   have h5:¬ (em t.Name=true∨(t.Name.size:Int)>60):=by simpa using h5
   omega
  |false =>
   rw [hk] at h4
   have he:em t.Name=true:=by
    cases he:em t.Name with
    |true=>rfl
    |false=>rw [he] at h4;simp at h4
   rw [qbh] at he
   have:=of_decide_eq_true he
   omega
theorem q1b9 {r:S50} (h:rHead r=0):(1≤r.Kind∧r.Kind≤4)∧(r.Kind≠1→r.Text.size≤200)∧(r.Kind=3→varB r.Name=true)∧(r.Kind≠1→r.Then=[]∧r.Else=[]):=by
 unfold rHead at h
 split at h
 ·cases h
 rename_i hk
 have hk:¬ (r.Kind<1∨r.Kind>4):=by simpa using hk
 refine ⟨by omega,?_⟩
 split at h
 ·rename_i h1
  have h1:r.Kind=1:=by simpa using h1
  exact ⟨fun h=>absurd h1 h,fun h=>by omega,fun h=>absurd h1 h⟩
 ·unfold pHead at h
  split at h
  ·cases h
  rename_i h0
  split at h
  ·cases h
  split at h
  ·cases h
  split at h
  ·cases h
  rename_i h4
  split at h
  ·cases h
  rename_i h5
  have h5:¬ (r.Text.size:Int)>200:=by simpa using h5
  refine ⟨fun _=>by omega,fun h3=>?_,fun _=>?_⟩
  ·rw [h3] at h4
   simpa using h4
  ·simp only [Bool.or_eq_true,not_or] at h0
   have:=h0.1.1.1.2
   simp at this
   exact this
theorem eta_T (t:S48):(⟨t.Kind,t.Tests,t.Name,t.Pattern,t.Text,t.N⟩:S48)=t:=by cases t;rfl
mutual
def tsz:S50→Nat
 |⟨_,k,ts,nm,p,tx,n,t,e,_,_,_,_⟩=>tzT ⟨k,ts,nm,p,tx,n⟩+tszL t+tszL e
def tszL:List S50→Nat
 |[]=>0
 |r::l=>tsz r+tszL l
end
theorem tsz_eq (r:S50):tsz r=tzT (tOf r)+tszL r.Then+tszL r.Else:=by cases r;rfl
section
variable (f:ByteArray) (rc:List S118) (fs:List S55) (sz:Int)
mutual
def tsT:S48→MM→Bool×MM
 |⟨k,ts,nm,p,tx,n⟩,m =>
  if k=2 then tsH ts m else if k=3∨k=4 then tsA k ts m else if k=5 then matL p tx m (valsL fs nm) else if k=6 then matL p tx m [f] else if k=7 then matL p tx m (rc.map fun x=>x.Address)
  else if k=8 then (decide (sz>n),m) else if k=9 then (decide (((valsL fs nm).length:Int)>0),m) else (true,m)
def tsH:List S48→MM→Bool×MM
 |[],m=>(true,m)
 |t::_,m=>(!(tsT t m).1,(tsT t m).2)
def tsA (k:Int):List S48→MM→Bool×MM
 |[],m=>(k==3,m)
 |t::l,m=>if (tsT t m).1=(k==4) then (k==4,(tsT t m).2) else tsA k l (tsT t m).2
end
theorem tsT_eq (t:S48) (m:MM):tsT f rc fs sz t m=if t.Kind=2 then tsH f rc fs sz t.Tests m else if t.Kind=3∨t.Kind=4 then tsA f rc fs sz t.Kind t.Tests m else if t.Kind=5 then matL t.Pattern t.Text m (valsL fs t.Name) else if t.Kind=6 then matL t.Pattern t.Text m [f] else if t.Kind=7 then matL t.Pattern t.Text m (rc.map fun x=>x.Address)
  else if t.Kind=8 then (decide (sz>t.N),m) else if t.Kind=9 then (decide (((valsL fs t.Name).length:Int)>0),m) else (true,m):=by cases t;rw [tsT]
mutual
theorem q1l3 (n:Nat):∀ (t:S48) (m:MM),Inv n m→Inv n (tsT f rc fs sz t m).2
 |⟨k,ts,nm,p,tx,q⟩,m,h=>by
  rw [tsT]
  split
  ·exact q1l2 n ts m h
  ·split
   ·exact q1l1 n k ts m h
   ·split
    ·exact qt8 h _ _ _
    ·split
     ·exact qt8 h _ _ _
     ·split
      ·exact qt8 h _ _ _
      ·split
       ·exact h
       ·split
        ·exact h
        ·exact h
theorem q1l2 (n:Nat):∀ (ts:List S48) (m:MM),Inv n m→Inv n (tsH f rc fs sz ts m).2
 |[],m,h=>by rw [tsH];exact h
 |t::_,m,h=>by rw [tsH];exact q1l3 n t m h
theorem q1l1 (n:Nat) (k:Int):∀ (ts:List S48) (m:MM),Inv n m→Inv n (tsA f rc fs sz k ts m).2
 |[],m,h=>by rw [tsA];exact h
 |t::l,m,h=>by
  rw [tsA]
  split
  ·exact q1l3 n t m h
  ·exact q1l1 n k l _ (q1l3 n t m h)
end
end
section
variable (f:ByteArray) (rc:List S118) (i:ByteArray) (fs:List S55) (bd:List Int) (sz:Int) (na:Nat) (ac:List S45)
theorem qah (t:S48) (mm:MM) (hl:rc.length≤60):∀ (m k:Nat) (acc:List ByteArray),k+m=rc.length→acc.length≤k→qia acc.length rc rc.length k f rc i fs bd sz na t.Kind t.Tests t.Name t.Pattern t.Text t.N acc mm ac=some (((),((),(acc.length+m,(rc,((rc.length:Int),((rc.length:Int),false)))))),((f,(rc,(i,(fs,(bd,(sz,((),(na,())))))))),((t.Kind,(t.Tests,(t.Name,(t.Pattern,(t.Text,t.N))))),(acc++(rc.drop k).map (fun x=>x.Address),(mm,ac))))):=by
 intro m
 induction m with
 |zero =>
  intro k acc hk ha
  have hk:k=rc.length:=by omega
  subst hk
  refine qic ?_
  rw [List.drop_length]
  simp only [qig,z2b,gL,dL,eC,wI,p0,aL,dQ,q7r,qn6,EC.decL_encL,EC.isL_encL,EC.encL_length,q3l,q3z,qqm,q42]
  simp
 |succ m ih =>
  intro k acc hk ha
  have hlt:k<rc.length:=by omega
  have e1:decide ((k:Int)<(rc.length:Int))=true:=by simp;omega
  have e0:decide ((0:Int)≤(k:Int))=true:=by simp
  have e2:IntKind.i64.wrap ((k:Int)+1)=((k+1:Nat):Int):=q1m2 hlt (by omega)
  have e3:decide (k<rc.length)=true:=by simp [hlt]
  have g1:decide ((acc.length+1+(acc.length+1) / 4+192)*16≤281474976710656)=true:=decide_eq_true (by omega)
  have g2:decide (acc.length+1≤9223372036854775807)=true:=decide_eq_true (by omega)
  have hi:=ih (k+1) (acc++[rc[k].Address]) (by omega) (by simp;omega)
  rw [List.length_append] at hi
  refine qic ?_
  rw [qag hlt,List.map_cons]
  simp only [qig,z2b,gL,dL,eC,wI,p0,aL,dQ,q7r,qn6,EC.decL_encL,EC.isL_encL,EC.encL_length,q3l,q3z,qqm,q42,e1,e0,e3,if_true,Int.toNat_natCast,Bool.and_self,qn9 hlt,List.all_cons,List.all_nil,List.length_cons,List.length_nil,Nat.zero_add,beq_self_eq_true,g1,g2,e2]
  rw [show acc++rc[k].Address::(rc.drop (k+1)).map (fun x=>x.Address)=acc++[rc[k].Address]++(rc.drop (k+1)).map (fun x=>x.Address) by simp,show acc.length+(m+1)=acc.length+[rc[k].Address].length+m by simp;omega]
  exact hi
def qas (t:S48):Prop:=∀ (n:Nat) (mm:MM),n≤1000000→Inv n mm→qi7 t.Kind t.Tests t.Name t.Pattern t.Text t.N f rc i fs bd sz na mm ac=some ((tsT f rc fs sz t mm).1,((tsT f rc fs sz t mm).1,((f,(rc,(i,(fs,(bd,(sz,((),(na,())))))))),((tsT f rc fs sz t mm).2,ac))))
theorem qai (t:S48) (n:Nat) (hn:n≤1000000) (hl:t.Tests.length≤2000000) (ih0:∀ x∈t.Tests,qas f rc i fs bd sz na ac x):∀ (m k:Nat) (mm:MM),k+m=t.Tests.length→Inv n mm→∃ x,qih t.Tests t.Tests.length k f rc i fs bd sz na t.Kind t.Tests t.Name t.Pattern t.Text t.N mm ac=some x ∧
  Sum.elim (fun r=>(r.1,(r.1,r.2))) (fun r=>((r.2.2.1.1==3),((r.2.2.1.1==3),(r.2.1,(r.2.2.2.1,r.2.2.2.2))))) x=((tsA f rc fs sz t.Kind (t.Tests.drop k) mm).1,((tsA f rc fs sz t.Kind (t.Tests.drop k) mm).1,((f,(rc,(i,(fs,(bd,(sz,((),(na,())))))))),((tsA f rc fs sz t.Kind (t.Tests.drop k) mm).2,ac)))):=by
 intro m
 induction m with
 |zero =>
  intro k mm hk hI
  have hk:k=t.Tests.length:=by omega
  subst hk
  refine ⟨.inr (((),((),(t.Tests,((t.Tests.length:Int),((t.Tests.length:Int),false))))),((f,(rc,(i,(fs,(bd,(sz,((),(na,())))))))),((t.Kind,(t.Tests,(t.Name,(t.Pattern,(t.Text,t.N))))),(mm,ac)))),qij (by
   simp only [qio,z2a,gL,dL,eC,wI,p0,uL,q7r,qn6,EC.decL_encL,EC.isL_encL,EC.encL_length,qqp,q4b,q4c,q4d,q4e,q4f,q4g]
   simp),?_⟩
  rw [List.drop_length,tsA];rfl
 |succ m ih =>
  intro k mm hk hI
  have hlt:k<t.Tests.length:=by omega
  have e1:decide ((k:Int)<(t.Tests.length:Int))=true:=by simp;omega
  have e0:decide ((0:Int)≤(k:Int))=true:=by simp
  have e2:IntKind.i64.wrap ((k:Int)+1)=((k+1:Nat):Int):=q1m2 hlt (by omega)
  have e3:decide (k<t.Tests.length)=true:=by simp [hlt]
  have h0:=ih0 t.Tests[k] (List.getElem_mem hlt) n mm hn hI
  have hI2:=q1l3 f rc fs sz n t.Tests[k] mm hI
  rw [qag hlt,tsA]
  generalize tsT f rc fs sz t.Tests[k] mm=u at h0 hI2
  obtain ⟨x,h1,h2⟩:=ih (k+1) u.2 (by omega) hI2
  by_cases hb:u.1=(t.Kind==4)
  ·have hb':(u.1==(t.Kind==4))=true:=by simpa using hb
   rw [if_pos hb]
   refine ⟨.inl ((t.Kind==4),((f,(rc,(i,(fs,(bd,(sz,((),(na,())))))))),(u.2,ac))),qij ?_,rfl⟩
   simp only [qio,z2a,gL,dL,eC,wI,p0,uL,q7r,qn6,EC.decL_encL,EC.isL_encL,EC.encL_length,qqp,q4b,q4c,q4d,q4e,q4f,q4g,e1,e0,e3,if_true,Int.toNat_natCast,Bool.and_self,qn9 hlt,h0,Option.bind_some,hb']
  ·have hb':(u.1==(t.Kind==4))=false:=by simpa using hb
   rw [if_neg hb]
   refine ⟨x,qij ?_,h2⟩
   simp only [qio,z2a,gL,dL,eC,wI,p0,uL,q7r,qn6,EC.decL_encL,EC.isL_encL,EC.encL_length,qqp,q4b,q4c,q4d,q4e,q4f,q4g,e1,e0,e3,if_true,Int.toNat_natCast,Bool.and_self,qn9 hlt,h0,Option.bind_some,hb',Bool.false_eq_true,if_false,e2]
   exact h1
theorem qat (hH:HdrOk fs) (hE:envB f rc):∀ (q:Nat) (t:S48),tzT t=q→okT t→okvT t→t.Tests.length≤2000000→qas f rc i fs bd sz na ac t:=by
 intro q
 induction q using Nat.strongRecOn with
 |_ q ihq =>
  intro t hq ho hv hlen n mm hn hI
  subst hq
  obtain ⟨hl,hol⟩:=(okT_eq t).1 ho
  obtain ⟨⟨k1,k9⟩,hinn⟩:=qvg hv
  obtain ⟨ht1,ht2⟩:=qvh hv
  obtain ⟨he1,he2,he3⟩:=hE
  have hkid:∀ x∈t.Tests,x.Tests.length≤60:=fun x hx=>by
   have:=(qvg (qvf hv hx)).2
   unfold innerB at this
   split at this
   ·have:x.Tests.length=1:=by simpa using this
    omega
   ·split at this
    ·simp at this;omega
    ·have:x.Tests.length=0:=by simpa using this
     omega
  have ihc:∀ x∈t.Tests,qas f rc i fs bd sz na ac x:=fun x hx=>ihq (tzT x) (by have:=tz_mem hx;have e:=tzT_eq t;omega) x rfl (qv7 hol hx) (qvf hv hx) (by have:=hkid x hx;omega)
  have hvl:(valsL fs t.Name).length≤60:=Nat.le_trans (q1lg _ _) hH.len
  have hvs:∀ v∈valsL fs t.Name,v.size≤2000000:=fun v hv=>by
   unfold valsL at hv
   obtain ⟨x,hx,rfl⟩:=List.mem_map.1 hv
   have:=(hH.all x (List.mem_filter.1 hx).1).2
   omega
  refine qi9 ?_
  rw [tsT_eq]
  by_cases h2:t.Kind=2
  ·rw [if_pos h2]
   cases hts:t.Tests with
   |nil =>
    unfold innerB at hinn
    rw [if_pos h2,hts] at hinn
    cases hinn
   |cons x l =>
    have hx:x∈t.Tests:=by rw [hts];exact List.mem_cons_self ..
    have h0:=ihc x hx n mm hn hI
    rw [tsH]
    have c2:(t.Kind==2)=true:=by simpa using h2
    simp only [qis,z2c,gL,dL,lN,eC,uL,q7r,qn6,EC.decL_encL,EC.isL_encL,EC.encL_length,qqp,q4b,q4c,q4d,q4e,q4f,q4g,c2,if_true]
    simp only [Int.toNat_zero,List.length_cons,List.getD_cons_zero,h0,Option.bind_some]
    simp
  have c2:(t.Kind==2)=false:=by simpa using h2
  rw [if_neg h2]
  by_cases h3:t.Kind=3
  ·rw [if_pos (.inl h3)]
   obtain ⟨x,h1,h2'⟩:=qai f rc i fs bd sz na ac t n hn hlen ihc t.Tests.length 0 mm (by omega) hI
   rw [List.drop_zero] at h2'
   have h1:qih t.Tests t.Tests.length 0 f rc i fs bd sz na t.Kind t.Tests t.Name t.Pattern t.Text t.N mm ac=some x:=h1
   have c3:(t.Kind==3)=true:=by simpa using h3
   simp only [qis,z2c,gL,dL,lN,eC,uL,q7r,qn6,EC.decL_encL,EC.isL_encL,EC.encL_length,qqp,q4b,q4c,q4d,q4e,q4f,q4g,c2,c3,if_true,Bool.false_eq_true,if_false,h1,Option.bind_some]
   rw [←h2']
   rcases x with x|x <;> rfl
  have c3:(t.Kind==3)=false:=by simpa using h3
  by_cases h4:t.Kind=4
  ·rw [if_pos (.inr h4)]
   obtain ⟨x,h1,h2'⟩:=qai f rc i fs bd sz na ac t n hn hlen ihc t.Tests.length 0 mm (by omega) hI
   rw [List.drop_zero] at h2'
   have h1:qih t.Tests t.Tests.length 0 f rc i fs bd sz na t.Kind t.Tests t.Name t.Pattern t.Text t.N mm ac=some x:=h1
   have c4:(t.Kind==4)=true:=by simpa using h4
   simp only [qis,z2c,gL,dL,lN,eC,uL,q7r,qn6,EC.decL_encL,EC.isL_encL,EC.encL_length,qqp,q4b,q4c,q4d,q4e,q4f,q4g,c2,c3,c4,if_true,Bool.false_eq_true,if_false,h1,Option.bind_some]
   rw [←h2']
   rcases x with x|x <;> rfl
  have c4:(t.Kind==4)=false:=by simpa using h4
  rw [if_neg (by rintro (h|h);exact h3 h;exact h4 h)]
  by_cases h5:t.Kind=5
  ·rw [if_pos h5]
   have c5:(t.Kind==5)=true:=by simpa using h5
   have hf:=qam f rc i fs bd sz na ac hH t.Name (by omega) mm
   have hm:=qao f rc i fs bd sz na ac t (by omega) (valsL fs t.Name) (by omega) hvs n hn mm hI
   simp only [qis,z2c,gL,dL,lN,eC,uL,q7r,qn6,EC.decL_encL,EC.isL_encL,EC.encL_length,qqp,q4b,q4c,q4d,q4e,q4f,q4g,c2,c3,c4,c5,if_true,Bool.false_eq_true,if_false,hf,Option.bind_some,hm]
  have c5:(t.Kind==5)=false:=by simpa using h5
  rw [if_neg h5]
  by_cases h6:t.Kind=6
  ·rw [if_pos h6]
   have c6:(t.Kind==6)=true:=by simpa using h6
   have hm:=qao f rc i fs bd sz na ac t (by omega) [f] (by simp) (fun v hv=>by obtain rfl:v=f:=(by simpa using hv);omega) n hn mm hI
   have hm:qgz t.Kind t.Tests t.Name t.Pattern t.Text t.N 1 f rc i fs bd sz na [f] mm ac=_:=hm
   have hd:qb5.decL [[(C.str f)]]=[f]:=rfl
   have hi:qb5.isL [[(C.str f)]]=true:=rfl
   simp only [qis,z2c,gL,dL,lN,eC,uL,q7r,qn6,EC.decL_encL,EC.isL_encL,EC.encL_length,qqp,q4b,q4c,q4d,q4e,q4f,q4g,c2,c3,c4,c5,c6,if_true,Bool.false_eq_true,if_false,hd]
   first
    |(rw [hm];rfl)
    |(simp only [hm,Option.bind_some])
  have c6:(t.Kind==6)=false:=by simpa using h6
  rw [if_neg h6]
  by_cases h7:t.Kind=7
  ·rw [if_pos h7]
   have c7:(t.Kind==7)=true:=by simpa using h7
   have ha:=qah f rc i fs bd sz na ac t mm he2 rc.length 0 [] (by omega) (by simp)
   have ha:qia 0 rc rc.length 0 f rc i fs bd sz na t.Kind t.Tests t.Name t.Pattern t.Text t.N [] mm ac=_:=ha
   rw [List.drop_zero,List.nil_append,List.length_nil,Nat.zero_add] at ha
   have hm:=qao f rc i fs bd sz na ac t (by omega) (rc.map fun x=>x.Address) (by simp;omega) (fun v hv=>by
    obtain ⟨x,hx,rfl⟩:=List.mem_map.1 hv
    have:=he3 x hx
    omega) n hn mm hI
   rw [List.length_map] at hm
   simp only [qis,z2c,gL,dL,lN,eC,uL,q7r,qn6,EC.decL_encL,EC.isL_encL,EC.encL_length,qqp,q4b,q4c,q4d,q4e,q4f,q4g,qg,c2,c3,c4,c5,c6,c7,if_true,Bool.false_eq_true,if_false,ha,Option.bind_some,hm]
  have c7:(t.Kind==7)=false:=by simpa using h7
  rw [if_neg h7]
  by_cases h8:t.Kind=8
  ·rw [if_pos h8]
   have c8:(t.Kind==8)=true:=by simpa using h8
   simp only [qis,z2c,gL,dL,lN,eC,uL,q7r,qn6,EC.decL_encL,EC.isL_encL,EC.encL_length,qqp,q4b,q4c,q4d,q4e,q4f,q4g,c2,c3,c4,c5,c6,c7,c8,if_true,Bool.false_eq_true,if_false]
  have c8:(t.Kind==8)=false:=by simpa using h8
  rw [if_neg h8]
  by_cases h9:t.Kind=9
  ·rw [if_pos h9]
   have c9:(t.Kind==9)=true:=by simpa using h9
   have hf:=qam f rc i fs bd sz na ac hH t.Name (by omega) mm
   simp only [qis,z2c,gL,dL,lN,eC,uL,q7r,qn6,EC.decL_encL,EC.isL_encL,EC.encL_length,qqp,q4b,q4c,q4d,q4e,q4f,q4g,c2,c3,c4,c5,c6,c7,c8,c9,if_true,Bool.false_eq_true,if_false,hf,Option.bind_some]
  have c9:(t.Kind==9)=false:=by simpa using h9
  rw [if_neg h9]
  simp only [qis,z2c,gL,dL,lN,eC,uL,q7r,qn6,EC.decL_encL,EC.isL_encL,EC.encL_length,qqp,q4b,q4c,q4d,q4e,q4f,q4g,c2,c3,c4,c5,c6,c7,c8,c9,if_true,Bool.false_eq_true,if_false]
end
set_option maxRecDepth 100000
noncomputable section
structure S62 where
 Rule:Int
 Outcome:Bool
 Text:ByteArray
abbrev L62:=List S62
def qb3:EC S62 where
 enc x:=[.int .i64 x.Rule,.bool x.Outcome,.str x.Text]
 dec c:=⟨qqd (c.getD 0 .ne),q7q (c.getD 1 .ne),q1gu (c.getD 2 .ne)⟩
 is c:=isE [.int .i64,.bool,.str] 0 c
 enc_dec h:=q9x h
 dec_enc x:=by rfl
 is_enc x:=by simp [isE,isK]
theorem enc_62 (x:S62):qb3.enc x=[.int .i64 x.Rule,.bool x.Outcome,.str x.Text]:=rfl
theorem lit_62 (a0:Int) (a1:Bool) (a2:ByteArray):([.int .i64 a0,.bool a1,.str a2]:List C)=qb3.enc (⟨a0,a1,a2⟩:S62):=rfl
theorem apd_62 (xs:List S62) (a0:Int) (a1:Bool) (a2:ByteArray):qb3.encL xs++[[.int .i64 a0,.bool a1,.str a2]]=qb3.encL (xs++[(⟨a0,a1,a2⟩:S62)]):=by rw [lit_62];simp [EC.encL]
theorem all_62 (xs:List S62):(qb3.encL xs).all (fun (el:List C)=>el.length==3)=true:=by induction xs with|nil=>rfl|cons x xs ih=>first|(simp [EC.encL,enc_62];done)|simpa [EC.encL,enc_62] using ih
end
def exF (l:MM):Nat→List UInt8→List UInt8→List UInt8
 |0,_,out=>out
 |n+1,s,out =>
  if (Lib.cut s [36,123]).2.2=false∨(Lib.cut (Lib.cut s [36,123]).2.1 [125]).2.2=false then out++s
  else exF l n (Lib.cut (Lib.cut s [36,123]).2.1 [125]).2.1 (out++((Lib.cut s [36,123]).1++getM l (Lib.cut (Lib.cut s [36,123]).2.1 [125]).1))
def exT (m:MM) (s:ByteArray):ByteArray:=⟨((exF m (s.size+1) s.data.toList []).take 4000).toArray⟩
theorem qnf {l:MM} (k:List UInt8) (h:∀ p∈l,p.2.size≤2000000):(getM l k).length≤2000000:=by
 unfold getM
 cases hf:l.find? fun p=>p.1.data.toList==k with
 |none=>simp
 |some p =>
  have:=h p (List.mem_of_find?_eq_some hf)
  show p.2.data.toList.length≤2000000
  rw [Array.length_toList]
  exact this
theorem expF_s {l:MM} (h:∀ p∈l,p.2.size≤2000000):∀ (n:Nat) (s out:List UInt8),s.length<n→s.length≤1000→out.length+s.length*3000000≤100000000000000→expF l n s out=some (exF l n s out):=by
 intro n
 induction n with
 |zero=>intro s out h;omega
 |succ n ih =>
  intro s out hn hs ho
  rw [expF,exF]
  split
  ·rw [if_pos (by omega)]
  ·rename_i hc
   have h1:(Lib.cut s [36,123]).2.2=true:=by
    cases hh:(Lib.cut s [36,123]).2.2 with
    |true=>rfl
    |false=>exact absurd (.inl hh) hc
   have h2:(Lib.cut (Lib.cut s [36,123]).2.1 [125]).2.2=true:=by
    cases hh:(Lib.cut (Lib.cut s [36,123]).2.1 [125]).2.2 with
    |true=>rfl
    |false=>exact absurd (.inr hh) hc
   have c1:=q9o s [36,123] h1
   have c2:=q9o (Lib.cut s [36,123]).2.1 [125] h2
   have hv:=qnf (Lib.cut (Lib.cut s [36,123]).2.1 [125]).1 h
   simp only [List.length_cons,List.length_nil] at c1 c2
   rw [if_pos (by omega)]
   refine ih _ _ (by omega) (by omega) ?_
   simp only [List.length_append]
   omega
theorem expP_s {l:MM} (h:∀ p∈l,p.2.size≤2000000) (s:ByteArray) (hs:s.size≤1000):expP l s=some (exT l s):=by
 have e:s.data.toList.length=s.size:=by rw [Array.length_toList];rfl
 unfold expP exT
 rw [if_pos (by omega),expF_s h (s.size+1) s.data.toList [] (by omega) (by omega) (by simp;omega)]
 rfl
theorem qiz (m:MM) (s:ByteArray):(exT m s).size≤4000:=by
 show ((exF m (s.size+1) s.data.toList []).take 4000).toArray.size≤4000
 rw [List.size_toArray,List.length_take]
 omega
def noTx:ByteArray:=ByteArray.mk (List.toArray [])
section
variable (f:ByteArray) (rc:List S118) (fs:List S55) (sz:Int)
mutual
def exR:S50→Int→MM→List S45→List S62→Bool×MM×List S45×List S62
 |⟨kd,k,ts,nm,p,tx,n,t,e,ak,name,text,q⟩,i,m,a,st =>
  if kd=1 then (if (tsT f rc fs sz ⟨k,ts,nm,p,tx,n⟩ m).1=true then exL t (i+1) (tsT f rc fs sz ⟨k,ts,nm,p,tx,n⟩ m).2 a (st++[⟨i,true,noTx⟩]) else exL e (i+1+szL t) (tsT f rc fs sz ⟨k,ts,nm,p,tx,n⟩ m).2 a (st++[⟨i,false,noTx⟩]))
  else if kd=2 then (true,m,a++[⟨ak,exT m text,q⟩],st++[⟨i,false,exT m text⟩])
  else if kd=3 then (true,putM m name (exT m text),a,st++[⟨i,false,exT m text⟩])
  else (false,m,a,st++[⟨i,false,noTx⟩])
def exL:List S50→Int→MM→List S45→List S62→Bool×MM×List S45×List S62
 |[],_,m,a,st=>(true,m,a,st)
 |r::l,i,m,a,st=>if (exR r i m a st).1=true then exL l (i+szR r) (exR r i m a st).2.1 (exR r i m a st).2.2.1 (exR r i m a st).2.2.2 else exR r i m a st
end
theorem exR_eq (r:S50) (i:Int) (m:MM) (a:List S45) (st:List S62):exR f rc fs sz r i m a st=if r.Kind=1 then (if (tsT f rc fs sz (tOf r) m).1=true then exL f rc fs sz r.Then (i+1) (tsT f rc fs sz (tOf r) m).2 a (st++[⟨i,true,noTx⟩]) else exL f rc fs sz r.Else (i+1+szL r.Then) (tsT f rc fs sz (tOf r) m).2 a (st++[⟨i,false,noTx⟩]))
  else if r.Kind=2 then (true,m,a++[⟨r.Act,exT m r.Text,r.N⟩],st++[⟨i,false,exT m r.Text⟩])
  else if r.Kind=3 then (true,putM m r.Name (exT m r.Text),a,st++[⟨i,false,exT m r.Text⟩])
  else (false,m,a,st++[⟨i,false,noTx⟩]):=by cases r;rw [exR];rfl
def exP (n:Nat) (a:List S45) (st:List S62) (q:Nat) (u:Bool×MM×List S45×List S62):Prop:=Inv (n+q) u.2.1∧u.2.2.1.length≤a.length+q∧u.2.2.2.length≤st.length+q
theorem qiu:∀ (q:Nat) (s:List S50),szL s=q→okvL s→∀ (n:Nat) (i:Int) (m:MM) (a:List S45) (st:List S62),Inv n m→exP n a st q (exL f rc fs sz s i m a st):=by
 intro q
 induction q using Nat.strongRecOn with
 |_ q ihq =>
  intro s
  induction s with
  |nil =>
   intro hq hv n i m a st hI
   rw [exL]
   have:q=0:=by simpa [szL] using hq.symm
   subst this
   exact ⟨hI,Nat.le_refl _,Nat.le_refl _⟩
  |cons r l ihl =>
   intro hq hv n i m a st hI
   have hsz:szR r+szL l=q:=by simpa [szL] using hq
   have hr:=q1hr r
   obtain ⟨hh,hvt,hve⟩:=okvR hv (List.mem_cons_self ..)
   have hvl:okvL l:=by
    obtain ⟨n0,d0,m0,hn0,hc0⟩:=hv
    unfold ckL at hc0
    split at hc0
    ·cases hc0
    rename_i h100
    split at hc0
    ·cases hc0
    rename_i hrc
    cases hq:ckR r n0 d0 with
    |inl g=>rw [hq] at hc0;cases hc0
    |inr n2 =>
     rw [hq] at hc0
     have:=(ck_sz (szL [r]) [r] rfl n0 d0 hn0).1 n2 (by simp only [ckL];rw [if_neg h100,if_neg hrc,hq])
     exact ⟨n2,d0,m0,this.2,hc0⟩
   obtain ⟨hk,htx,hvar,_⟩:=q1b9 hh
   have h1:exP n a st (szR r) (exR f rc fs sz r i m a st):=by
    rw [exR_eq]
    split
    ·rename_i hk1
     have hI2:=q1l3 f rc fs sz n (tOf r) m hI
     split
     ·obtain ⟨g1,g2,g3⟩:=ihq (szL r.Then) (by omega) r.Then rfl hvt n (i+1) _ a (st++[⟨i,true,noTx⟩]) hI2
      simp only [List.length_append,List.length_singleton] at g3
      exact ⟨g1.mono (by omega),by omega,by omega⟩
     ·obtain ⟨g1,g2,g3⟩:=ihq (szL r.Else) (by omega) r.Else rfl hve n (i+1+szL r.Then) _ a (st++[⟨i,false,noTx⟩]) hI2
      simp only [List.length_append,List.length_singleton] at g3
      exact ⟨g1.mono (by omega),by omega,by omega⟩
    ·split
     ·exact ⟨hI.mono (by omega),by simp;omega,by simp;omega⟩
     ·split
      ·rename_i hk3
       have hvb:=hvar hk3
       have hne:r.Name.size≠0:=by
        unfold varB at hvb
        simp at hvb
        omega
       have:=hI.set (k:=r.Name) (v:=exT m r.Text) hne (by have:=qiz m r.Text;omega)
       exact ⟨this.mono (by omega),by simp,by simp;omega⟩
      ·exact ⟨hI.mono (by omega),by simp,by simp;omega⟩
   rw [exL]
   obtain ⟨g1,g2,g3⟩:=h1
   split
   ·obtain ⟨k1,k2,k3⟩:exP (n+szR r) (exR f rc fs sz r i m a st).2.2.1 (exR f rc fs sz r i m a st).2.2.2 (szL l) (exL f rc fs sz l (i+szR r) (exR f rc fs sz r i m a st).2.1 (exR f rc fs sz r i m a st).2.2.1 (exR f rc fs sz r i m a st).2.2.2):=by
     exact ihq (szL l) (by omega) l rfl hvl (n+szR r) _ _ _ _ g1
    exact ⟨k1.mono (by omega),by omega,by omega⟩
   ·exact ⟨g1.mono (by omega),by omega,by omega⟩
end
end Go.Proofs.YtokahibbkdbndaaGreatDoor
