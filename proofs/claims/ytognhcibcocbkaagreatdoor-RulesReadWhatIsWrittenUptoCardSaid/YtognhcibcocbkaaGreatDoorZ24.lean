/- Functions of the program as plain functions: made by program from the machine. -/
import Derived.Test.YtognhcibcocbkaaGreatDoorZ23
import Derived.Test.YtognhcibcocbkaaGreatDoorZ22
namespace Go.Proofs.YtognhcibcocbkaaGreatDoor
open Go.RowKit
set_option maxRecDepth 100000
noncomputable section
def qef:=(qaj (vC (cSl q5l)))
def qeg:Cod (V×List B) Bool:=(cFstU (cPair (vC cBool) qai))
def qei (s:L59):=fS Tryz.prog lv X0 5 qef qeg s
def qej (s:L59):Oq Bool :=
 (gL q5l s<|
 ((qhb (dL q5l s)).bind fun r0 =>
 (brE (r0.2.1 != 0)
 (some true)
 ((qh5 r0.1).bind fun r1 =>
 (brE ((r1.2.1==0)==true)
 (gL q5l s<|
 (gL q5l r1.1<|
 ((qew (dL q5l s) (dL q5l r1.1)).bind fun r2 =>
 (brE (r2==true)
 (some true)
 (some false)))))
 (some false))))))
theorem qeh {s r} (h:qej s=some r):qei s=some r :=
 q6x (es:=tabk) (hs:=q93) [] Tryz.func5 rfl (by kernel_rfl) rfl (by kernel_rfl) (by kernel_rfl) trivial trivial (by kernel_rfl) h
end
end Go.Proofs.YtognhcibcocbkaaGreatDoor
namespace Go.Proofs.YtognhcibcocbkaaGreatDoor
open Go.RowKit
theorem q3l {β:Type} (q:Bool) (a b:Option β):brE q a b=if q=true then a else b:=by cases q <;> rfl
theorem q8h {β:Type} (q:Bool) (a:Option β):gdE q a=if q=true then a else none:=by cases q <;> rfl
theorem q8k {α:Type} {l:List α} {k:Nat} {d:α} (h:k<l.length):l.getD k d=l[k]:=by simp [List.getD_eq_getElem?_getD,h]
theorem q5h {α:Type} {l:List α} {k:Nat} (h:k<l.length):l.drop k=l[k]::l.drop (k+1):=List.drop_eq_getElem_cons h
theorem qvs {n:Int} (h:-9223372036854775808≤n∧n≤9223372036854775807):IntKind.i64.wrap n=n:=IntWalk.i64_in n h
theorem qvt {k n:Nat} (h:k<n) (hn:n≤9223372036854775807):IntKind.i64.wrap ((k:Int)+1)=((k+1:Nat):Int):=by rw [qvs (by omega)];rfl
theorem q72 (a b:Int):q32 a b=some (a,b):=q31 rfl
theorem none_s:q38=some (0,0):=q37 rfl
theorem q71 (a b:Int):q2w a b=some (a != 0):=by
 refine q2v ?_
 simp [q2x]
theorem beq_t (q:Bool):(q==true)=q:=by cases q <;> rfl
theorem beq_f (q:Bool):(q==false)=!q:=by cases q <;> rfl
mutual
def szR:S59→Nat
 |⟨_,_,_,_,_,_,_,t,e,_,_,_,_⟩=>1+szL t+szL e
def szL:List S59→Nat
 |[]=>0
 |r::l=>szR r+szL l
end
theorem szR_eq (r:S59):szR r=1+szL r.Then+szL r.Else:=by cases r;rfl
theorem qt2 {l:List S59} {r:S59} (h:r∈l):szR r≤szL l:=by
 induction l with
 |nil=>cases h
 |cons x l ih =>
  rcases List.mem_cons.1 h with rfl|h
  ·simp only [szL];omega
  ·have:=ih h;simp only [szL];omega
theorem qt4 {l:List S59} {r:S59} (h:r∈l):szL r.Then<szL l:=by have:=qt2 h;rw [szR_eq] at this;omega
theorem qt3 {l:List S59} {r:S59} (h:r∈l):szL r.Else<szL l:=by have:=qt2 h;rw [szR_eq] at this;omega
abbrev big:Nat:=1000000000000000
mutual
def okT:S57→Prop
 |⟨_,ts,_,_,_,_⟩=>ts.length≤big∧okTL ts
def okTL:List S57→Prop
 |[]=>True
 |r::l=>okT r∧okTL l
end
mutual
def okR:S59→Prop
 |⟨_,_,ts,_,_,_,_,t,e,_,nm,_,_⟩=>(ts.length≤big∧okTL ts)∧(t.length≤big∧okL t)∧(e.length≤big∧okL e)∧nm.size≤big
def okL:List S59→Prop
 |[]=>True
 |r::l=>okR r∧okL l
end
theorem qdl (t:S57):okT t ↔ t.Tests.length≤big∧okTL t.Tests:=by cases t;rfl
theorem okR_eq (r:S59):okR r ↔ (r.Test_Tests.length≤big∧okTL r.Test_Tests)∧(r.Then.length≤big∧okL r.Then)∧(r.Else.length≤big∧okL r.Else)∧r.Name.size≤big:=by cases r;rfl
theorem qdk {l:List S57} (h:okTL l) {t:S57} (ht:t∈l):okT t:=by
 induction l with
 |nil=>cases ht
 |cons x l ih =>
  rcases List.mem_cons.1 ht with rfl|ht
  ·exact h.1
  ·exact ih h.2 ht
theorem qdj {l:List S59} (h:okL l) {r:S59} (hr:r∈l):okR r:=by
 induction l with
 |nil=>cases hr
 |cons x l ih =>
  rcases List.mem_cons.1 hr with rfl|hr
  ·exact h.1
  ·exact ih h.2 hr
mutual
def tzT:S57→Nat
 |⟨_,ts,_,_,_,_⟩=>1+tzL ts
def tzL:List S57→Nat
 |[]=>0
 |r::l=>tzT r+tzL l
end
theorem tzT_eq (t:S57):tzT t=1+tzL t.Tests:=by cases t;rfl
theorem tz_mem {l:List S57} {t:S57} (h:t∈l):tzT t≤tzL l:=by
 induction l with
 |nil=>cases h
 |cons x l ih =>
  rcases List.mem_cons.1 h with rfl|h
  ·simp only [tzL];omega
  ·have:=ih h;simp only [tzL];omega
def em (s:ByteArray):Bool:=(ByteArray.toList s)==(ByteArray.toList (ByteArray.mk (List.toArray [])))
theorem em_def (s:ByteArray):((ByteArray.toList s)==(ByteArray.toList (ByteArray.mk (List.toArray []))))=em s:=rfl
theorem q5p (s:ByteArray):em s=decide (s.size=0):=by
 have e0:ByteArray.toList (ByteArray.mk (List.toArray []))=[]:=by rw [ByteArray.toList_eq]
 have hl:(ByteArray.toList s).length=s.size:=by rw [ByteArray.toList_eq,Array.length_toList];rfl
 unfold em
 rw [e0]
 cases h:ByteArray.toList s with
 |nil=>rw [h] at hl;simp at hl;simp [←hl]
 |cons x l =>
  rw [h] at hl
  simp only [List.length_cons] at hl
  have h0:s.size≠0:=by omega
  simp [h0]
theorem used_s (k:Int):qq7 k=some (k==5||k==9,k==5||k==6||k==7,k==8):=by
 refine qq6 ?_
 simp only [qq8,q3l]
 by_cases h5:k=5
 ·subst h5;rfl
 by_cases h6:k=6
 ·subst h6;rfl
 by_cases h7:k=7
 ·subst h7;rfl
 by_cases h8:k=8
 ·subst h8;rfl
 by_cases h9:k=9
 ·subst h9;rfl
 simp [h5,h6,h7,h8,h9]
def innerB (k:Int) (n:Nat):Bool:=if k=2 then n==1 else if k=3∨k=4 then decide (1≤n)&&decide (n≤60) else n==0
theorem q9k (k:Int) (ts:List S57) (nm:ByteArray) (p:Int) (tx:ByteArray) (n:Int):qig k ts nm p tx n=some (innerB k ts.length):=by
 refine qif ?_
 simp only [qih,lN,q3l,EC.encL_length]
 unfold innerB
 by_cases h2:k=2
 ·subst h2;simp;rw [Bool.eq_iff_iff];simp;omega
 by_cases h3:k=3
 ·subst h3;by_cases h:1≤ts.length <;> simp [h,show ((1:Int)≤ts.length) ↔ 1≤ts.length by omega,show ((ts.length:Int)≤60) ↔ ts.length≤60 by omega]
 by_cases h4:k=4
 ·subst h4;by_cases h:1≤ts.length <;> simp [h,show ((1:Int)≤ts.length) ↔ 1≤ts.length by omega,show ((ts.length:Int)≤60) ↔ ts.length≤60 by omega]
 simp [h2,h3,h4]
 rw [Bool.eq_iff_iff];simp
def tHead (k:Int) (nt:Nat) (nm:ByteArray) (p:Int) (tx:ByteArray) (n d:Int):Int :=
 if decide (d>8)=true then 5
 else if (decide (k<1)||decide (k>9))=true then 4
 else if (!innerB k nt)=true then 5
 else if ((!(k==5||k==9)&&!em nm)||(!(k==5||k==6||k==7)&&(!(p==0)||!em tx))||(!(k==8)&&!(n==0)))=true then 5
 else if ((k==5||k==9)&&(em nm||decide ((nm.size:Int)>60)))=true then 10
 else if ((k==5||k==6||k==7)&&(decide (p<1)||decide (p>3)))=true then 4
 else if decide ((tx.size:Int)>200)=true then 1
 else if (decide (n<0)||decide (n>1000000))=true then 3
 else 0
mutual
def tfT:S57→Nat→Int
 |⟨k,ts,nm,p,tx,n⟩,d=>if tHead k ts.length nm p tx n d≠0 then tHead k ts.length nm p tx n d else tfL ts (d+1)
def tfL:List S57→Nat→Int
 |[],_=>0
 |t::ts,d=>if tfT t d≠0 then tfT t d else tfL ts d
end
theorem tfT_eq (t:S57) (d:Nat):tfT t d=if tHead t.Kind t.Tests.length t.Name t.Pattern t.Text t.N d≠0 then tHead t.Kind t.Tests.length t.Name t.Pattern t.Text t.N d else tfL t.Tests (d+1):=by cases t;rfl
theorem qug (d:Nat) (hd:d≤8) (ts:List S57) (hl:ts.length≤big) (ih:∀ t∈ts,qpv t.Kind t.Tests t.Name t.Pattern t.Text t.N ((d+1:Nat):Int)=some (tfT t (d+1))) :
  ∀ m k,k+m=ts.length→∃ x,qpn d ts ts.length k=some x∧Sum.elim (fun r=>r.1) (fun _=>0) x=tfL (ts.drop k) (d+1):=by
 intro m
 induction m with
 |zero =>
  intro k hk
  have hk:k=ts.length:=by omega
  subst hk
  refine ⟨.inr (((d:Int),ts,(ts.length:Int),(ts.length:Int),false),()),qpp (by
   simp only [qpu,ze,gL,dL,eC,wI,p0,uL,q3l,q8h,EC.decL_encL,EC.isL_encL,EC.encL_length,isE_57,q21,q22,q23,q24,q25,q26]
   simp),?_⟩
  simp [tfL]
 |succ m ihm =>
  intro k hk
  have hlt:k<ts.length:=by omega
  have i1:=ih ts[k] (List.getElem_mem hlt)
  have e1:((k:Int)<(ts.length:Int)):=by omega
  have e2:IntKind.i64.wrap ((k:Int)+1)=((k+1:Nat):Int):=qvt hlt (by unfold big at hl;omega)
  have e3:IntKind.i64.wrap ((d:Int)+1)=((d+1:Nat):Int):=qvt (n:=100) (by omega) (by omega)
  rw [q5h hlt,tfL]
  by_cases h0:tfT ts[k] (d+1)=0
  ·obtain ⟨x,h1,h2⟩:=ihm (k+1) (by omega)
   refine ⟨x,qpp ?_,?_⟩
   ·simp only [qpu,ze,gL,dL,eC,wI,p0,uL,q3l,q8h,EC.decL_encL,EC.isL_encL,EC.encL_length,isE_57,q21,q22,q23,q24,q25,q26]
    simp only [e1,decide_true,if_true,show (0:Int)≤(k:Int) by omega,Int.toNat_natCast,hlt,Bool.and_self,q8k hlt,e3,i1,Option.bind_some,h0,e2]
    exact h1
   ·rw [if_neg (by simpa using h0)];exact h2
  ·refine ⟨.inl (tfT ts[k] (d+1),()),qpp ?_,?_⟩
   ·simp only [qpu,ze,gL,dL,eC,wI,p0,uL,q3l,q8h,EC.decL_encL,EC.isL_encL,EC.encL_length,isE_57,q21,q22,q23,q24,q25,q26]
    simp only [e1,decide_true,if_true,show (0:Int)≤(k:Int) by omega,Int.toNat_natCast,hlt,Bool.and_self,q8k hlt,e3,i1,Option.bind_some]
    simp [h0]
   ·rw [if_pos h0];rfl
theorem qud (k:Int) (ts:List S57) (nm:ByteArray) (p:Int) (tx:ByteArray) (n:Int) (d:Nat) (e:Int) (hg:d≤8→qpg d k ts nm p tx n=some (e,())) :
  qpv k ts nm p tx n d=some (if (tHead k ts.length nm p tx n d != 0)=true then tHead k ts.length nm p tx n d else e):=by
 refine qpf ?_
 simp only [qpw,zg,zh,zi,zj,zk,zm,zn,zo,gL,dL,q3l,q8h,EC.decL_encL,EC.isL_encL,used_s,q9k,Option.bind_some,em_def,if_true]
 unfold tHead
 cases hd:decide ((d:Int)>8) with
 |true=>rfl
 |false =>
 rw [hg (by have:=of_decide_eq_false hd;omega)]
 simp only [bne,Option.bind_some]
 generalize (k==5||k==9)=c1
 generalize (k==5||k==6||k==7)=c2
 generalize (k==8)=c3
 generalize decide (k<1)=a1
 generalize decide (k>9)=a2
 generalize innerB k ts.length=a3
 generalize em nm=b1
 generalize decide ((nm.size:Int)>60)=b2
 generalize (p==0)=b3
 generalize decide (p<1)=b4
 generalize decide (p>3)=b5
 generalize em tx=b6
 generalize decide ((tx.size:Int)>200)=b7
 generalize (n==0)=b8
 generalize decide (n<0)=b9
 generalize decide (n>1000000)=b10
 cases a1 <;> first|rfl|skip
 cases a2 <;> first|rfl|skip
 cases a3 <;> first|rfl|skip
 cases c1 <;> cases b1 <;> first|rfl|skip
 all_goals cases c2 <;> cases b3 <;> first|rfl|skip
 all_goals cases b6 <;> first|rfl|skip
 all_goals cases c3 <;> cases b8 <;> first|rfl|skip
 all_goals cases b2 <;> first|rfl|skip
 all_goals cases b4 <;> first|rfl|skip
 all_goals cases b5 <;> first|rfl|skip
 all_goals cases b7 <;> first|rfl|skip
 all_goals cases b9 <;> first|rfl|skip
 all_goals cases b10 <;> rfl
theorem test_s (t:S57) (ho:okT t) (d:Nat):qpv t.Kind t.Tests t.Name t.Pattern t.Text t.N d=some (tfT t d):=by
 generalize hn:tzT t=n
 induction n using Nat.strongRecOn generalizing t d with
 |_ n ih =>
  subst hn
  obtain ⟨hl,hol⟩:=(qdl t).1 ho
  rw [qud (e:=tfL t.Tests (d+1)),tfT_eq]
  ·congr 1
   by_cases h:tHead t.Kind t.Tests.length t.Name t.Pattern t.Text t.N d=0 <;> simp [h]
  ·intro hd
   obtain ⟨x,h1,h2⟩:=qug d hd t.Tests hl (fun t' ht'=>ih (tzT t') (by have:=tz_mem ht';rw [tzT_eq t];omega) t' (qdk hol ht') (d+1) rfl) t.Tests.length 0 (by omega)
   refine qpi ?_
   simp only [qpm,gL,dL,lN,q8h,EC.decL_encL,EC.isL_encL,EC.encL_length]
   have e:qpn d t.Tests t.Tests.length 0=some x:=h1
   rw [List.drop_zero] at h2
   simp only [if_true,e,Option.bind_some]
   cases x <;> simp only [Sum.elim_inl,Sum.elim_inr] at h2 ⊢ <;> rw [←h2]
def letterB (c:UInt8):Bool:=decide (97≤c.toNat)&&decide (c.toNat≤122)
def digitB (c:UInt8):Bool:=decide (48≤c.toNat)&&decide (c.toNat≤57)
def smallB (c:UInt8):Bool:=letterB c||digitB c
def vOk:Bool→List UInt8→Bool
 |_,[]=>true
 |b,c::l=>(letterB c||(!b&&digitB c))&&vOk false l
def varB (s:ByteArray):Bool:=vOk true s.data.toList&&(decide (1≤s.size)&&decide (s.size≤60))
theorem qvc (l:List UInt8):vOk false l=l.all smallB:=by
 induction l with
 |nil=>rfl
 |cons c l ih=>simp only [vOk,List.all_cons,ih,smallB,Bool.not_false,Bool.true_and]
theorem q4t (s:ByteArray) {k:Nat} (h:k<s.size):s.data.toList.drop k=s.data.getD k 0::s.data.toList.drop (k+1):=by
 have h':k<s.data.toList.length:=by simpa using h
 rw [q5h h']
 congr 1
 have:k<s.data.size:=h
 show _=if h:k<s.data.size then s.data[k] else 0
 rw [dif_pos this]
 simp
theorem var1_s (c:UInt8):qqd ((c.toNat:Nat):Int)=some (smallB c):=by
 refine qqc ?_
 simp only [qqe,q3l,smallB,letterB,digitB]
 by_cases h1:(97:Int)≤c.toNat <;> by_cases h2:(c.toNat:Int)≤122 <;> by_cases h3:(48:Int)≤c.toNat <;> by_cases h4:(c.toNat:Int)≤57 <;>
  simp [h1,h2,h3,h4,show (97≤c.toNat) ↔ ((97:Int)≤c.toNat) by omega,show (c.toNat≤122) ↔ ((c.toNat:Int)≤122) by omega,show (48≤c.toNat) ↔ ((48:Int)≤c.toNat) by omega,show (c.toNat≤57) ↔ ((c.toNat:Int)≤57) by omega]
theorem q1o (s:ByteArray) (hl:s.size≤big):∀ m k,k+m=s.size→∃ x,q1d s s.size k=some x∧Sum.elim (fun r=>r.1) (fun _=>true) x=(s.data.toList.drop k).all smallB:=by
 intro m
 induction m with
 |zero =>
  intro k hk
  have hk:k=s.size:=by omega
  subst hk
  refine ⟨.inr ((s,(),(s.size:Int),(s.size:Int),false),()),q1f (by
   simp only [q1k,wI,p0,q3l,q8h]
   simp),?_⟩
  have:s.data.toList.drop s.size=[]:=List.drop_eq_nil_of_le (by simp <;> rfl)
  rw [this];rfl
 |succ m ihm =>
  intro k hk
  have hlt:k<s.size:=by omega
  have e1:((k:Int)<(s.size:Int)):=by omega
  have e2:IntKind.i64.wrap ((k:Int)+1)=((k+1:Nat):Int):=qvt hlt (by unfold big at hl;omega)
  rw [q4t s hlt,List.all_cons]
  cases h0:smallB (s.data.getD k 0) with
  |true =>
   obtain ⟨x,h1,h2⟩:=ihm (k+1) (by omega)
   refine ⟨x,q1f ?_,by simpa using h2⟩
   simp only [q1k,wI,p0,q3l,q8h]
   simp only [e1,decide_true,if_true,show (0:Int)≤(k:Int) by omega,Int.toNat_natCast,hlt,Bool.and_self,var1_s,h0,Option.bind_some,e2]
   exact h1
  |false =>
   refine ⟨.inl (false,()),q1f ?_,rfl⟩
   simp only [q1k,wI,p0,q3l,q8h]
   simp only [e1,decide_true,if_true,show (0:Int)≤(k:Int) by omega,Int.toNat_natCast,hlt,Bool.and_self,var1_s,h0,Option.bind_some]
   rfl
theorem q1l (s:ByteArray) (hl:s.size≤big):q1m s=some (s.data.toList.all smallB):=by
 obtain ⟨x,h1,h2⟩:=q1o s hl s.size 0 (by omega)
 refine q1c ?_
 have e:q1d s s.size 0=some x:=h1
 simp only [q1n,e,Option.bind_some]
 rw [List.drop_zero] at h2
 cases x <;> simp only [Sum.elim_inl,Sum.elim_inr] at h2 ⊢ <;> rw [←h2]
theorem qvh (s:ByteArray):qqj s=some (varB s):=by
 refine qqi ?_
 simp only [qqk,q3l,q8h,em_def]
 unfold varB
 by_cases h0:s.size=0
 ·have:em s=true:=by rw [q5p];simpa using h0
  simp [this,h0]
 have hem:em s=false:=by rw [q5p];simpa using h0
 by_cases h1:s.size≤60
 case neg =>
  simp [hem,show ¬ ((s.size:Int)≤60) by omega,h1]
 have hb:s.size≤big:=by unfold big;omega
 have h2:=q4t s (k:=0) (by omega)
 rw [List.drop_zero] at h2
 rw [q1l s hb,h2]
 simp only [hem,show ((s.size:Int)≤60) by omega,decide_true,Option.bind_some,List.all_cons,vOk,qvc,h1,show 1≤s.size by omega,Bool.and_true,Int.toNat_zero,show 0<s.size by omega,Bool.not_true,Bool.false_and,Bool.or_false]
 cases (List.drop 1 s.data.toList).all smallB with
 |false=>simp
 |true =>
  simp only [Bool.and_true,Bool.not_false,beq_self_eq_true,if_true,show (0:Int)≤0 by omega,decide_true]
  have key:∀ c:UInt8,(if (smallB c==true)=true then some (decide (((c.toNat:Nat):Int)>57)) else some false)=some (letterB c):=by
   intro c
   unfold smallB letterB digitB
   by_cases h5:97≤c.toNat <;> by_cases h6:c.toNat≤122 <;> by_cases h7:48≤c.toNat <;> by_cases h8:c.toNat≤57 <;> simp [h5,h6,h7,h8] <;> omega
  exact key _
def txtB (act:Int):Bool:=act==2||act==4||act==5||act==7
theorem qum (act:Int):qq1 act=some (txtB act):=by
 refine qq0 ?_
 simp only [qq2,q3l,txtB]
 cases act==2 <;> cases act==4 <;> cases act==5 <;> cases act==7 <;> rfl
def noB (k:Int) (nt:Nat) (nm:ByteArray) (p:Int) (tx:ByteArray) (n:Int):Bool:=k==0&&(nt==0&&(em nm&&(p==0&&(em tx&&n==0))))
theorem qco (k:Int) (ts:List S57) (nm:ByteArray) (p:Int) (tx:ByteArray) (n:Int):qiz k ts nm p tx n=some (noB k ts.length nm p tx n):=by
 refine qiy ?_
 simp only [qj0,lN,q3l,EC.encL_length,em_def,noB]
 have e1:(((ts.length:Nat):Int)==0)=(ts.length==0):=by rw [Bool.eq_iff_iff];simp
 rw [e1]
 cases k==0 <;> cases ts.length==0 <;> cases em nm <;> cases p==0 <;> cases em tx <;> cases n==0 <;> rfl
def pHead (no len:Bool) (k act:Int) (nm tx:ByteArray) (n:Int):Int :=
 if (!no||len||(!(k==2)&&(!(act==0)||!(n==0)))||(!(k==3)&&!em nm)||((k==4)&&!em tx))=true then 5
 else if ((k==2)&&(decide (act<1)||decide (act>7)))=true then 4
 else if ((k==2)&&((!txtB act&&!em tx)||(!(act==6)&&!(n==0))))=true then 5
 else if ((k==3)&&!varB nm)=true then 10
 else if decide ((tx.size:Int)>200)=true then 1
 else if (decide (n<0)||decide (n>63))=true then 3
 else 0
theorem qb4 {a b:Nat} (ha:a≤big) (hb:b≤big):decide (IntKind.i64.wrap (((a:Nat):Int)+((b:Nat):Int))>0)=(!(a==0)||!(b==0)):=by
 rw [qvs (by unfold big at *;omega)]
 rw [Bool.eq_iff_iff]
 simp only [decide_eq_true_eq,Bool.or_eq_true,Bool.not_eq_true',beq_eq_false_iff_ne]
 omega
theorem qec (k tk:Int) (tts:List S57) (tnm:ByteArray) (tp:Int) (ttx:ByteArray) (tn:Int) (t e:List S59) (act:Int) (nm tx:ByteArray) (n:Int) (ht:t.length≤big) (he:e.length≤big) :
  qp4 k tk tts tnm tp ttx tn t e act nm tx n=some (pHead (noB tk tts.length tnm tp ttx tn) (!(t.length==0)||!(e.length==0)) k act nm tx n):=by
 refine qp3 ?_
 simp only [qp5,z7,z8,za,zb,zd,gL,dL,lN,q3l,q8h,EC.decL_encL,EC.isL_encL,EC.encL_length,qco,qum,qvh,Option.bind_some,em_def,if_true,qb4 ht he,bne]
 unfold pHead
 generalize noB tk tts.length tnm tp ttx tn=c1
 generalize (!(t.length==0)||!(e.length==0))=c2
 generalize hk2:(k==2)=k2
 generalize hk3:(k==3)=k3
 generalize hk4:(k==4)=k4
 generalize (act==0)=c3
 generalize (n==0)=c4
 generalize em nm=c5
 generalize em tx=c6
 generalize decide (act<1)=c7
 generalize decide (act>7)=c8
 generalize txtB act=c9
 generalize (act==6)=c10
 generalize varB nm=c11
 generalize decide ((tx.size:Int)>200)=c12
 generalize decide (n<0)=c13
 generalize decide (n>63)=c14
 cases c1 <;> first|rfl|skip
 cases c2 <;> first|rfl|skip
 cases k2 <;> cases k3 <;> cases k4
 all_goals first|(exfalso;simp at hk2 hk3 hk4;omega)|skip
 all_goals cases c3 <;> cases c4 <;> first|rfl|skip
 all_goals cases c5 <;> first|rfl|skip
 all_goals cases c6 <;> first|rfl|skip
 all_goals cases c7 <;> first|rfl|skip
 all_goals cases c8 <;> first|rfl|skip
 all_goals cases c9 <;> first|rfl|skip
 all_goals cases c10 <;> first|rfl|skip
 all_goals cases c11 <;> first|rfl|skip
 all_goals cases c12 <;> first|rfl|skip
 all_goals cases c13 <;> first|rfl|skip
 all_goals cases c14 <;> rfl
def rHead (r:S59):Int :=
 if (decide (r.Kind<1)||decide (r.Kind>4))=true then 4
 else if (r.Kind==1)=true then (if (!(r.Act==0)||!em r.Name||!em r.Text||!(r.N==0))=true then 5 else tfT ⟨r.Test_Kind,r.Test_Tests,r.Test_Name,r.Test_Pattern,r.Test_Text,r.Test_N⟩ 1)
 else pHead (noB r.Test_Kind r.Test_Tests.length r.Test_Name r.Test_Pattern r.Test_Text r.Test_N) (!(r.Then.length==0)||!(r.Else.length==0)) r.Kind r.Act r.Name r.Text r.N
theorem rule_s (r:S59) (ho:okR r) (d:Nat):qpa r.Kind r.Test_Kind r.Test_Tests r.Test_Name r.Test_Pattern r.Test_Text r.Test_N r.Then r.Else r.Act r.Name r.Text r.N d=some (if decide ((d:Int)>8)=true then 5 else rHead r):=by
 obtain ⟨⟨o1,o2⟩,⟨o3,o4⟩,⟨o5,o6⟩,o7⟩:=(okR_eq r).1 ho
 have ht:=test_s ⟨r.Test_Kind,r.Test_Tests,r.Test_Name,r.Test_Pattern,r.Test_Text,r.Test_N⟩ ⟨o1,o2⟩ 1
 refine qp9 ?_
 simp only [qpb,gL,dL,q3l,q8h,EC.decL_encL,EC.isL_encL,qec _ _ _ _ _ _ _ _ _ _ _ _ _ o3 o5,Option.bind_some,em_def,if_true,bne]
 have ht':qpv r.Test_Kind r.Test_Tests r.Test_Name r.Test_Pattern r.Test_Text r.Test_N 1=some (tfT ⟨r.Test_Kind,r.Test_Tests,r.Test_Name,r.Test_Pattern,r.Test_Text,r.Test_N⟩ 1):=ht
 rw [ht']
 unfold rHead
 generalize pHead _ _ r.Kind r.Act r.Name r.Text r.N=x1
 generalize tfT _ 1=x2
 generalize decide ((d:Int)>8)=c1
 generalize decide (r.Kind<1)=c2
 generalize decide (r.Kind>4)=c3
 generalize (r.Kind==1)=c4
 generalize (r.Act==0)=c5
 generalize em r.Name=c6
 generalize em r.Text=c7
 generalize (r.N==0)=c8
 cases c1 <;> cases c2 <;> cases c3 <;> cases c4 <;> cases c5 <;> cases c6 <;> cases c7 <;> cases c8 <;> rfl
theorem qe2 (a b:List S59):([[.sl (q5l.encL a)],[.sl (q5l.encL b)]]:List (List C))=q5i.encL [a,b]:=rfl
def rc (r:S59) (d:Nat):Int:=if decide ((d:Int)>8)=true then 5 else rHead r
mutual
def ckR:S59→Nat→Nat→(Int×Int)⊕Nat
 |⟨_,_,_,_,_,_,_,t,e,_,_,_,_⟩,n,d=>match ckL t (n+1) (d+1) with
  |.inl f=>.inl f
  |.inr n1=>ckL e n1 (d+1)
def ckL:List S59→Nat→Nat→(Int×Int)⊕Nat
 |[],n,_=>.inr n
 |r::l,n,d=>if 100≤n then .inl (2,-1) else if rc r d≠0 then .inl (rc r d,n) else match ckR r n d with
  |.inl f=>.inl f
  |.inr n2=>ckL l n2 d
end
theorem ckR_eq (r:S59) (n d:Nat):ckR r n d=match ckL r.Then (n+1) (d+1) with|.inl f=>.inl f|.inr n1=>ckL r.Else n1 (d+1):=by cases r;rfl
theorem ck_sz:∀ (q:Nat) (l:List S59),szL l=q→∀ n d,n≤100→(∀ m,ckL l n d=.inr m→m=n+szL l∧m≤100)∧(∀ f,ckL l n d=.inl f→f.1≠0):=by
 intro q
 induction q using Nat.strongRecOn with
 |_ q ih =>
  intro l
  induction l with
  |nil =>
   intro _ n d hn
   refine ⟨fun m h=>?_,fun f h=>by cases h⟩
   injection h with h
   subst h
   exact ⟨by simp [szL],hn⟩
  |cons r l ihl =>
   intro hq n d hn
   have h1:=qt4 (l:=r::l) (r:=r) (by simp)
   have h2:=qt3 (l:=r::l) (r:=r) (by simp)
   have hR:n<100→(∀ m,ckR r n d=.inr m→m=n+szR r∧m≤100)∧(∀ f,ckR r n d=.inl f→f.1≠0):=by
    intro hlt
    obtain ⟨a1,a2⟩:=ih _ (hq ▸ h1) r.Then rfl (n+1) (d+1) (by omega)
    rw [ckR_eq]
    cases ht:ckL r.Then (n+1) (d+1) with
    |inl f=>exact ⟨fun m h=>(by cases h),fun f' h=>(by injection h with h;subst h;exact a2 _ ht)⟩
    |inr n1 =>
     obtain ⟨b1,b2⟩:=a1 n1 ht
     obtain ⟨c1,c2⟩:=ih _ (hq ▸ h2) r.Else rfl n1 (d+1) b2
     refine ⟨fun m h=>?_,fun f h=>c2 f h⟩
     obtain ⟨e1,e2⟩:=c1 m h
     exact ⟨by rw [e1,b1,szR_eq];omega,e2⟩
   have hl:∀ n2,n2≤100→(∀ m,ckL l n2 d=.inr m→m=n2+szL l∧m≤100)∧(∀ f,ckL l n2 d=.inl f→f.1≠0):=by
    intro n2 hn2
    exact ih (szL l) (by rw [←hq];simp only [szL];have:=szR_eq r;omega) l rfl n2 d hn2
   simp only [ckL]
   split
   ·exact ⟨fun m h=>(by cases h),fun f h=>(by injection h with h;subst h;decide)⟩
   ·rename_i hlt
    split
    ·rename_i hne
     exact ⟨fun m h=>(by cases h),fun f h=>(by injection h with h;subst h;exact hne)⟩
    ·obtain ⟨a1,a2⟩:=hR (by omega)
     cases hr:ckR r n d with
     |inl f=>exact ⟨fun m h=>(by cases h),fun f' h=>(by injection h with h;subst h;exact a2 _ hr)⟩
     |inr n2 =>
      obtain ⟨b1,b2⟩:=a1 n2 hr
      obtain ⟨c1,c2⟩:=hl n2 b2
      refine ⟨fun m h=>?_,fun f h=>c2 f h⟩
      obtain ⟨e1,e2⟩:=c1 m h
      exact ⟨by rw [e1,b1];simp only [szL];omega,e2⟩
theorem ck_inr {l:List S59} {n d m:Nat} (hn:n≤100) (h:ckL l n d=.inr m):m=n+szL l∧m≤100:=(ck_sz _ l rfl n d hn).1 m h
theorem ck_inl {l:List S59} {n d:Nat} {f:Int×Int} (hn:n≤100) (h:ckL l n d=.inl f):f.1≠0:=(ck_sz _ l rfl n d hn).2 f h
def VR (c:(Int×Int)⊕Nat) (x:(Int×Int)×((Int×Int)×(Int×(Unit×Unit)))):Prop:=match c with
 |.inl f=>x.1=f
 |.inr m=>x.1=(0,0)∧x.2.2.1=(m:Int)
def VL (c:(Int×Int)⊕Nat) {α:Type} (x:(Unit×((Int×Int)×Int×(Unit×Unit)))⊕α) (y:Nat→α→Prop):Prop:=match c with
 |.inl f=>∃ n',x=.inl ((),(f,(n',((),()))))
 |.inr m=>∃ z,x=.inr z∧y m z
theorem qve (d:Nat) (hd:d≤8) (l:List S59) (t14 t15 b2 b21:Int) (r:S59) (n:Nat) (hn:n<100)
  (i1:∀ n:Nat,n≤100→∃ x,qhd r.Then ((d+1:Nat):Int) (n:Int)=some x∧VR (ckL r.Then n (d+1)) x) (i2:∀ n:Nat,n≤100→∃ x,qhd r.Else ((d+1:Nat):Int) (n:Int)=some x∧VR (ckL r.Else n (d+1)) x) :
  ∃ x,qhg d l t14 t15 2 2 0 ((n+1:Nat):Int) b2 b21 [r.Then,r.Else]=some x∧VL (ckR r n d) x (fun (m:Nat) z=>z=(((d:Int),(),(),(),l,t14,t15,2,2,2,false),((m:Int),((),()),(b2,b21),[r.Then,r.Else]))):=by
 have e3:IntKind.i64.wrap ((d:Int)+1)=((d+1:Nat):Int):=qvt (n:=100) (by omega) (by omega)
 have w1:IntKind.i64.wrap ((0:Int)+1)=1:=qvs (by omega)
 have w2:IntKind.i64.wrap ((1:Int)+1)=2:=qvs (by omega)
 have f0:((List.getD (q5i.encL [r.Then,r.Else]) 0 []).length==1)=true:=rfl
 have f1:((List.getD (q5i.encL [r.Then,r.Else]) 1 []).length==1)=true:=rfl
 have p0:isP [K1.sl] 0 (List.getD (q5i.encL [r.Then,r.Else]) 0 [])=true:=rfl
 have p1:isP [K1.sl] 0 (List.getD (q5i.encL [r.Then,r.Else]) 1 [])=true:=rfl
 have q0:∀ z,List.getD [r.Then,r.Else] 0 z=r.Then:=fun _=>rfl
 have q1:∀ z,List.getD [r.Then,r.Else] 1 z=r.Else:=fun _=>rfl
 have l0:decide (0<List.length [r.Then,r.Else])=true:=rfl
 have l1:decide (1<List.length [r.Then,r.Else])=true:=rfl
 have n0:Int.toNat 0=0:=rfl
 have n1:Int.toNat 1=1:=rfl
 have c1:decide ((0:Int)<2)=true:=rfl
 have c2:decide ((1:Int)<2)=true:=rfl
 have c3:decide ((2:Int)<2)=false:=rfl
 have c4:decide ((0:Int)≤0)=true:=rfl
 have c5:decide ((0:Int)≤1)=true:=rfl
 have c6:decide ((0:Int)<((2:Nat):Int))=true:=rfl
 have c7:decide ((1:Int)<((2:Nat):Int))=true:=rfl
 have s2:∀ m:Nat,qhg d l t14 t15 2 2 2 m b2 b21 [r.Then,r.Else]=some (.inr (((d:Int),(),(),(),l,t14,t15,2,2,2,false),((m:Int),((),()),(b2,b21),[r.Then,r.Else]))):=fun m=>qhi (by
  simp only [qhn,gL,dL,lN,wI,p0,uL,q3l,q8h,EC.decL_encL,EC.isL_encL,EC.encL_length,q20,c3,Bool.false_eq_true,if_false,if_true])
 have s1:∀ m:Nat,m≤100→∃ x,qhg d l t14 t15 2 2 1 m b2 b21 [r.Then,r.Else]=some x∧VL (ckL r.Else m (d+1)) x (fun (m:Nat) z=>z=(((d:Int),(),(),(),l,t14,t15,2,2,2,false),((m:Int),((),()),(b2,b21),[r.Then,r.Else]))):=by
  intro m hm
  obtain ⟨x,h1,h2⟩:=i2 m hm
  cases hc:ckL r.Else m (d+1) with
  |inl f =>
   rw [hc] at h2
   have h2:x.1=f:=h2
   have hf:(f.1 != 0)=true:=by simpa using ck_inl hm hc
   refine ⟨.inl ((),(f,(x.2.2.1,((),())))),qhi ?_,⟨_,rfl⟩⟩
   simp only [qhn,gL,dL,lN,wI,p0,uL,q3l,q8h,EC.decL_encL,EC.isL_encL,EC.encL_length,q20,c2,c5,c7,n1,l1,f1,p1,q1,Bool.and_self,if_true,e3,h1,q71,Option.bind_some,h2,hf]
  |inr q =>
   rw [hc] at h2
   obtain ⟨h2,h3⟩:x.1=(0,0)∧x.2.2.1=(q:Int):=h2
   refine ⟨_,qhi (r:=.inr (((d:Int),(),(),(),l,t14,t15,2,2,2,false),((q:Int),((),()),(b2,b21),[r.Then,r.Else]))) ?_,⟨_,rfl,rfl⟩⟩
   simp only [qhn,gL,dL,lN,wI,p0,uL,q3l,q8h,EC.decL_encL,EC.isL_encL,EC.encL_length,q20,c2,c5,c7,n1,l1,f1,p1,q1,Bool.and_self,if_true,e3,h1,q71,Option.bind_some,h2,h3,w2,s2,bne_self_eq_false,Bool.false_eq_true,if_false]
 obtain ⟨x,h1,h2⟩:=i1 (n+1) (by omega)
 rw [ckR_eq]
 cases hc:ckL r.Then (n+1) (d+1) with
 |inl f =>
  rw [hc] at h2
  have h2:x.1=f:=h2
  have hf:(f.1 != 0)=true:=by simpa using ck_inl (by omega) hc
  refine ⟨.inl ((),(f,(x.2.2.1,((),())))),qhi ?_,⟨_,rfl⟩⟩
  simp only [qhn,gL,dL,lN,wI,p0,uL,q3l,q8h,EC.decL_encL,EC.isL_encL,EC.encL_length,q20,c1,c4,c6,n0,l0,f0,p0,q0,Bool.and_self,if_true,e3,h1,q71,Option.bind_some,h2,hf]
 |inr q =>
  rw [hc] at h2
  obtain ⟨h2,h3⟩:x.1=(0,0)∧x.2.2.1=(q:Int):=h2
  obtain ⟨y,g1,g2⟩:=s1 q (ck_inr (by omega) hc).2
  refine ⟨y,qhi ?_,g2⟩
  simp only [qhn,gL,dL,lN,wI,p0,uL,q3l,q8h,EC.decL_encL,EC.isL_encL,EC.encL_length,q20,c1,c4,c6,n0,l0,f0,p0,q0,Bool.and_self,if_true,e3,h1,q71,Option.bind_some,h2,h3,w1,g1,bne_self_eq_false,Bool.false_eq_true,if_false]
theorem val_l2 (d:Nat) (hd:d≤9) (l:List S59) (hl:l.length≤big) (ho:okL l)
  (ih:d≤8→∀ r∈l,(∀ n:Nat,n≤100→∃ x,qhd r.Then ((d+1:Nat):Int) (n:Int)=some x∧VR (ckL r.Then n (d+1)) x)∧(∀ n:Nat,n≤100→∃ x,qhd r.Else ((d+1:Nat):Int) (n:Int)=some x∧VR (ckL r.Else n (d+1)) x)) :
  ∀ m k (n:Nat) b2 b21,n≤100→k+m=l.length→∃ x,qho d l l.length k n b2 b21=some x∧VL (ckL (l.drop k) n d) x (fun (m:Nat) z=>z.2.1=(m:Int)):=by
 intro m
 induction m with
 |zero =>
  intro k n b2 b21 hn hk
  have hk:k=l.length:=by omega
  subst hk
  refine ⟨_,qhq (r:=.inr (((d:Int),(),(),(),l,(l.length:Int),(l.length:Int),false),((n:Int),((),()),(b2,b21)))) (by
   simp only [qhv,zp,gL,dL,eC,wI,p0,uL,q3l,q8h,EC.decL_encL,EC.isL_encL,EC.encL_length,q9u,q27,q28,q2c,q2d,q2e,q2f,q2g,q2h,q2i,q2j,q29,q2a,q2b]
   simp),?_⟩
  rw [List.drop_length]
  exact ⟨_,rfl,rfl⟩
 |succ m ihm =>
  intro k n b2 b21 hn hk
  have hlt:k<l.length:=by omega
  have hr:=List.getElem_mem hlt
  have e1:decide ((k:Int)<(l.length:Int))=true:=by simp;omega
  have e0:decide ((0:Int)≤(k:Int))=true:=by simp
  have e2:IntKind.i64.wrap ((k:Int)+1)=((k+1:Nat):Int):=qvt hlt (by unfold big at hl;omega)
  have e3:IntKind.i64.wrap ((n:Int)+1)=((n+1:Nat):Int):=qvt (n:=1000) (by omega) (by omega)
  have hd2:decide (k<l.length)=true:=by simp [hlt]
  rw [q5h hlt,ckL]
  by_cases h100:100≤n
  ·have hn100:n=100:=by omega
   subst hn100
   refine ⟨_,qhq (r:=.inl ((),((2,-1),((100:Nat),((),()))))) ?_,?_⟩
   ·simp only [qhv,zp,gL,dL,eC,wI,p0,uL,q3l,q8h,EC.decL_encL,EC.isL_encL,EC.encL_length,q9u,q27,q28,q2c,q2d,q2e,q2f,q2g,q2h,q2i,q2j,q29,q2a,q2b,e1,e0,if_true,Int.toNat_natCast,hd2,Bool.and_self,q72,Option.bind_some]
    rfl
   ·rw [if_pos h100];exact ⟨_,rfl⟩
  rw [if_neg h100]
  have en:((n:Int)==100)=false:=by simp;omega
  have hrule:=rule_s l[k] (qdj ho hr) d
  have hrule:qpa l[k].Kind l[k].Test_Kind l[k].Test_Tests l[k].Test_Name l[k].Test_Pattern l[k].Test_Text l[k].Test_N l[k].Then l[k].Else l[k].Act l[k].Name l[k].Text l[k].N d=some (rc l[k] d):=hrule
  by_cases hc:rc l[k] d=0
  case neg =>
   refine ⟨_,qhq (r:=.inl ((),((rc l[k] d,(n:Int)),((n:Int),((),()))))) ?_,?_⟩
   ·have hcb:(rc l[k] d != 0)=true:=by simpa using hc
    simp only [qhv,zp,gL,dL,eC,wI,p0,uL,q3l,q8h,EC.decL_encL,EC.isL_encL,EC.encL_length,q9u,q27,q28,q2c,q2d,q2e,q2f,q2g,q2h,q2i,q2j,q29,q2a,q2b,e1,e0,if_true,Int.toNat_natCast,hd2,Bool.and_self,q72,Option.bind_some,en,Bool.false_eq_true,if_false,q8k hlt,hrule,hcb]
   ·rw [if_pos hc];exact ⟨_,rfl⟩
  have hcb:(rc l[k] d != 0)=false:=by simpa using hc
  have hd8:d≤8:=by
   rcases Nat.lt_or_ge 8 d with h|h
   ·unfold rc at hc
    rw [if_pos (by simp;omega)] at hc
    cases hc
   ·exact h
  rw [if_neg (by simpa using hc)]
  obtain ⟨i1,i2⟩:=ih hd8 l[k] hr
  obtain ⟨x,h1,h2⟩:=qve d hd8 l (l.length:Int) (k:Int) b2 b21 l[k] n (by omega) i1 i2
  cases hq:ckR l[k] n d with
  |inl f =>
   rw [hq] at h2
   obtain ⟨n',rfl⟩:=h2
   refine ⟨_,qhq (r:=.inl ((),(f,(n',((),()))))) ?_,⟨_,rfl⟩⟩
   simp only [qhv,zp,gL,dL,eC,wI,p0,uL,q3l,q8h,EC.decL_encL,EC.isL_encL,EC.encL_length,q9u,q27,q28,q2c,q2d,q2e,q2f,q2g,q2h,q2i,q2j,q29,q2a,q2b,e1,e0,if_true,Int.toNat_natCast,hd2,Bool.and_self,Option.bind_some,en,Bool.false_eq_true,if_false,q8k hlt,hrule,hcb,qe2,e3]
   have h1':qhg d l l.length k 2 ((2:Nat):Int) 0 ((n+1:Nat):Int) b2 b21 [l[k].Then,l[k].Else]=_:=h1
   rw [h1']
   rfl
  |inr q =>
   rw [hq] at h2
   obtain ⟨z,rfl,rfl⟩:=h2
   have hq100:q≤100:=by
    have:=(ck_sz (szL [l[k]]) [l[k]] rfl n d hn).1 q (by simp only [ckL];rw [if_neg h100,if_neg (by simpa using hc),hq])
    exact this.2
   obtain ⟨y,g1,g2⟩:=ihm (k+1) q b2 b21 hq100 (by omega)
   refine ⟨y,qhq ?_,g2⟩
   simp only [qhv,zp,gL,dL,eC,wI,p0,uL,q3l,q8h,EC.decL_encL,EC.isL_encL,EC.encL_length,q9u,q27,q28,q2c,q2d,q2e,q2f,q2g,q2h,q2i,q2j,q29,q2a,q2b,e1,e0,if_true,Int.toNat_natCast,hd2,Bool.and_self,Option.bind_some,en,Bool.false_eq_true,if_false,q8k hlt,hrule,hcb,qe2,e3]
   have h1':qhg d l l.length k 2 ((2:Nat):Int) 0 ((n+1:Nat):Int) b2 b21 [l[k].Then,l[k].Else]=_:=h1
   rw [h1']
   simp only [Option.bind_some,Sum.elim_inr,e2]
   exact g1
theorem val_h2:∀ (q:Nat) (l:List S59),szL l=q→l.length≤big→okL l→∀ d:Nat,d≤9→∀ n:Nat,n≤100→∃ x,qhd l (d:Int) (n:Int)=some x∧VR (ckL l n d) x:=by
 intro q
 induction q using Nat.strongRecOn with
 |_ q ih =>
  intro l hq hl ho d hd n hn
  obtain ⟨x,h1,h2⟩:=val_l2 d hd l hl ho (fun hd8 r hr=>by
   have:=(okR_eq r).1 (qdj ho hr)
   exact ⟨fun n hn=>ih _ (hq ▸ qt4 hr) r.Then rfl this.2.1.1 this.2.1.2 (d+1) (by omega) n hn,fun n hn=>ih _ (hq ▸ qt3 hr) r.Else rfl this.2.2.1.1 this.2.2.1.2 (d+1) (by omega) n hn⟩) l.length 0 n 0 0 hn (by omega)
  have e:qho d l l.length 0 n 0 0=some x:=h1
  rw [List.drop_zero] at h2
  cases hc:ckL l n d with
  |inl f =>
   rw [hc] at h2
   obtain ⟨n',rfl⟩:=h2
   refine ⟨_,qhf (r:=(f,(f,(n',((),()))))) ?_,rfl⟩
   simp only [qhz,gL,dL,lN,q8h,EC.decL_encL,EC.isL_encL,EC.encL_length,if_true,e,Option.bind_some,Sum.elim_inl]
  |inr m =>
   rw [hc] at h2
   obtain ⟨z,rfl,h3⟩:=h2
   refine ⟨_,qhf (r:=((0,0),((0,0),((m:Int),((),()))))) ?_,⟨rfl,rfl⟩⟩
   simp only [qhz,gL,dL,lN,q8h,EC.decL_encL,EC.isL_encL,EC.encL_length,if_true,e,Option.bind_some,Sum.elim_inr,none_s,h3]
def scriptF (l:List S59):Int×Int:=match ckL l 0 1 with
 |.inl f=>f
 |.inr _=>(0,0)
theorem qvf (l:List S59) (hl:l.length≤big) (ho:okL l):qi4 l=some (scriptF l):=by
 obtain ⟨x,h1,h2⟩:=val_h2 _ l rfl hl ho 1 (by omega) 0 (by omega)
 refine qi3 ?_
 have e:qhd l 1 0=some x:=h1
 simp only [qi5,gL,dL,q8h,EC.decL_encL,EC.isL_encL,if_true,e,Option.bind_some]
 unfold scriptF
 cases hc:ckL l 0 1 with
 |inl f=>rw [hc] at h2;have h2:x.1=f:=h2;simp only [h2]
 |inr m=>rw [hc] at h2;have h2:x.1=(0,0):=h2.1;simp only [h2]
end Go.Proofs.YtognhcibcocbkaaGreatDoor
