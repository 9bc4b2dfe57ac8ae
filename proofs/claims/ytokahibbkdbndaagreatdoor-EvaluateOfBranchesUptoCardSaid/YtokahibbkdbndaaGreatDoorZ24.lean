/- What small functions of rules and prove answer, in plain words: sizes of scripts, tests that are alike, places of tests. -/
import Derived.Test.YtokahibbkdbndaaGreatDoorZ23
namespace Go.Proofs.YtokahibbkdbndaaGreatDoor
open Go.RowKit
theorem q27x {n:Int} (h:-9223372036854775808≤n∧n≤9223372036854775807):IntKind.i64.wrap n=n:=IntWalk.i64_in n h
theorem q11z (a b:Int):IntKind.i64.wrap (IntKind.i64.wrap a+b)=IntKind.i64.wrap (a+b):=by simp only [IntKind.wrap_i64];omega
theorem q120 (a b:Int):IntKind.i64.wrap (a+IntKind.i64.wrap b)=IntKind.i64.wrap (a+b):=by simp only [IntKind.wrap_i64];omega
theorem q27y {k n:Nat} (h:k<n) (hn:n≤9223372036854775807):IntKind.i64.wrap ((k:Int)+1)=((k+1:Nat):Int):=by rw [q27x (by omega)];rfl
theorem qf3 (a b:Int):q57 a b=some (a != 0):=by
 refine q56 ?_
 simp [q58]
mutual
def szR:S50→Nat
 |⟨_,_,_,_,_,_,_,t,e,_,_,_,_⟩=>1+szL t+szL e
def szL:List S50→Nat
 |[]=>0
 |r::l=>szR r+szL l
end
theorem q27t (r:S50):szR r=1+szL r.Then+szL r.Else:=by cases r;rfl
theorem qz1 (a b:List S50):szL (a++b)=szL a+szL b:=by
 induction a with
 |nil=>simp [szL]
 |cons r a ih=>simp only [List.cons_append,szL,ih];omega
theorem qz2 {l:List S50} {r:S50} (h:r∈l):szR r≤szL l:=by
 induction l with
 |nil=>cases h
 |cons x l ih =>
  rcases List.mem_cons.1 h with rfl|h
  ·simp only [szL];omega
  ·have:=ih h;simp only [szL];omega
theorem qz5 {l:List S50} {r:S50} (h:r∈l):szL r.Then<szL l:=by have:=qz2 h;rw [q27t] at this;omega
theorem qz4 {l:List S50} {r:S50} (h:r∈l):szL r.Else<szL l:=by have:=qz2 h;rw [q27t] at this;omega
theorem qz3 {l:List S50} {k:Nat} (h:k<l.length):szL (l.take (k+1))=szL (l.take k)+szR l[k]:=by
 rw [List.take_succ_eq_append_getElem h,qz1];simp [szL]
abbrev big:Nat:=1000000000000000
mutual
def okT:S48→Prop
 |⟨_,ts,_,_,_,_⟩=>ts.length≤big∧okTL ts
def okTL:List S48→Prop
 |[]=>True
 |r::l=>okT r∧okTL l
end
mutual
def okR:S50→Prop
 |⟨_,_,ts,_,_,_,_,t,e,_,nm,_,_⟩=>(ts.length≤big∧okTL ts)∧(t.length≤big∧okL t)∧(e.length≤big∧okL e)∧nm.size≤big
def okL:List S50→Prop
 |[]=>True
 |r::l=>okR r∧okL l
end
theorem okT_eq (t:S48):okT t ↔ t.Tests.length≤big∧okTL t.Tests:=by cases t;rfl
theorem q27h (r:S50):okR r ↔ (r.Test_Tests.length≤big∧okTL r.Test_Tests)∧(r.Then.length≤big∧okL r.Then)∧(r.Else.length≤big∧okL r.Else)∧r.Name.size≤big:=by cases r;rfl
theorem qpb {l:List S48} (h:okTL l) {t:S48} (ht:t∈l):okT t:=by
 induction l with
 |nil=>cases ht
 |cons x l ih =>
  rcases List.mem_cons.1 ht with rfl|ht
  ·exact h.1
  ·exact ih h.2 ht
theorem qpa {l:List S50} (h:okL l) {r:S50} (hr:r∈l):okR r:=by
 induction l with
 |nil=>cases hr
 |cons x l ih =>
  rcases List.mem_cons.1 hr with rfl|hr
  ·exact h.1
  ·exact ih h.2 hr
mutual
def tzT:S48→Nat
 |⟨_,ts,_,_,_,_⟩=>1+tzL ts
def tzL:List S48→Nat
 |[]=>0
 |r::l=>tzT r+tzL l
end
theorem tzT_eq (t:S48):tzT t=1+tzL t.Tests:=by cases t;rfl
theorem tz_mem {l:List S48} {t:S48} (h:t∈l):tzT t≤tzL l:=by
 induction l with
 |nil=>cases h
 |cons x l ih =>
  rcases List.mem_cons.1 h with rfl|h
  ·simp only [tzL];omega
  ·have:=ih h;simp only [tzL];omega
theorem qxj (l:List S50) (hl:l.length≤big) (ih:∀ r∈l,qtp r.Then=some (IntKind.i64.wrap (szL r.Then))∧qtp r.Else=some (IntKind.i64.wrap (szL r.Else))) :
  ∀ m k,k+m=l.length→∃ x,qti (IntKind.i64.wrap (szL (l.take k))) l l.length k=some x∧x.1.1=IntKind.i64.wrap (szL l):=by
 intro m
 induction m with
 |zero =>
  intro k hk
  have hk:k=l.length:=by omega
  subst hk
  refine ⟨((IntKind.i64.wrap (szL (l.take l.length)),l,(l.length:Int),(l.length:Int),false),()),qtk (by
   simp only [qto,q26i,q26z,EC.decL_encL,EC.isL_encL,EC.encL_length,q277,q4b,q4c]
   simp),?_⟩
  simp
 |succ m ihm =>
  intro k hk
  have hlt:k<l.length:=by omega
  obtain ⟨x,h1,h2⟩:=ihm (k+1) (by omega)
  obtain ⟨i1,i2⟩:=ih l[k] (List.getElem_mem hlt)
  refine ⟨x,qtk ?_,h2⟩
  simp only [qto,q26i,q26z,EC.decL_encL,EC.isL_encL,EC.encL_length,q277,q4b,q4c]
  have e1:((k:Int)<(l.length:Int)):=by omega
  simp only [e1,decide_true,if_true,show (0:Int)≤(k:Int) by omega,Int.toNat_natCast,hlt,Bool.and_self,qik hlt,i1,i2,Option.bind_some]
  have e2:IntKind.i64.wrap ((k:Int)+1)=((k+1:Nat):Int):=q27y hlt (by unfold big at hl;omega)
  have e3:IntKind.i64.wrap (IntKind.i64.wrap (szL (l.take k))+IntKind.i64.wrap (IntKind.i64.wrap (1+IntKind.i64.wrap (szL l[k].Then))+IntKind.i64.wrap (szL l[k].Else)))=IntKind.i64.wrap (szL (l.take (k+1))):=by
   rw [qz3 hlt,q27t]
   simp only [q11z,q120]
   congr 1 <;> omega
  rw [e2,e3]
  exact h1
theorem size_s (l:List S50) (hl:l.length≤big) (ho:okL l):qtp l=some (IntKind.i64.wrap (szL l)):=by
 generalize hn:szL l=n
 induction n using Nat.strongRecOn generalizing l with
 |_ n ih =>
  subst hn
  obtain ⟨x,h1,h2⟩:=qxj l hl (fun r hr=>by
   have:=(q27h r).1 (qpa ho hr)
   exact ⟨ih _ (qz5 hr) _ this.2.1.1 this.2.1.2 rfl,ih _ (qz4 hr) _ this.2.2.1.1 this.2.2.1.2 rfl⟩) l.length 0 (by omega)
  refine qth ?_
  simp only [qtq,q26z,EC.decL_encL,EC.isL_encL,EC.encL_length]
  have e:qti 0 l l.length 0=some x:=h1
  simp [e,h2]
end Go.Proofs.YtokahibbkdbndaaGreatDoor
namespace Go.Proofs.YtokahibbkdbndaaGreatDoor
open Go.RowKit
def em (s:ByteArray):Bool:=(ByteArray.toList s)==(ByteArray.toList (ByteArray.mk (List.toArray [])))
theorem q26w (s:ByteArray):((ByteArray.toList s)==(ByteArray.toList (ByteArray.mk (List.toArray []))))=em s:=rfl
theorem q9h (s:ByteArray):em s=decide (s.size=0):=by
 have e0:ByteArray.toList (ByteArray.mk (List.toArray []))=[]:=by rw [ByteArray.toList_eq]
 have hl:(ByteArray.toList s).length=s.size:=by rw [ByteArray.toList_eq,Array.length_toList];rfl
 unfold em
 rw [e0]
 cases h:ByteArray.toList s with
 |nil=>rw [h] at hl;simp at hl;simp [←hl]
 |cons x l =>
  rw [h] at hl
  simp only [List.length_cons] at hl
  have h0:s.size≠0:=by omega
  simp [h0]
theorem used_s (k:Int):qw4 k=some (k==5||k==9,k==5||k==6||k==7,k==8):=by
 refine qw3 ?_
 simp only [qw5,q26i]
 by_cases h5:k=5
 ·subst h5;rfl
 by_cases h6:k=6
 ·subst h6;rfl
 by_cases h7:k=7
 ·subst h7;rfl
 by_cases h8:k=8
 ·subst h8;rfl
 by_cases h9:k=9
 ·subst h9;rfl
 simp [h5,h6,h7,h8,h9]
def innerB (k:Int) (n:Nat):Bool:=if k=2 then n==1 else if k=3∨k=4 then decide (1≤n)&&decide (n≤60) else n==0
theorem ql4 (k:Int) (ts:List S48) (nm:ByteArray) (p:Int) (tx:ByteArray) (n:Int):qup k ts nm p tx n=some (innerB k ts.length):=by
 refine qun ?_
 simp only [quq,q26i,EC.encL_length]
 unfold innerB
 by_cases h2:k=2
 ·subst h2;simp;rw [Bool.eq_iff_iff];simp;omega
 by_cases h3:k=3
 ·subst h3;by_cases h:1≤ts.length <;> simp [h,show ((1:Int)≤ts.length) ↔ 1≤ts.length by omega,show ((ts.length:Int)≤60) ↔ ts.length≤60 by omega]
 by_cases h4:k=4
 ·subst h4;by_cases h:1≤ts.length <;> simp [h,show ((1:Int)≤ts.length) ↔ 1≤ts.length by omega,show ((ts.length:Int)≤60) ↔ ts.length≤60 by omega]
 simp [h2,h3,h4]
 rw [Bool.eq_iff_iff];simp
def tHead (k:Int) (nt:Nat) (nm:ByteArray) (p:Int) (tx:ByteArray) (n d:Int):Int :=
 if decide (d > 8)=true then 5
 else if (decide (k<1)||decide (k > 9))=true then 4
 else if (!innerB k nt)=true then 5
 else if ((!(k==5||k==9)&&!em nm)||(!(k==5||k==6||k==7)&&(!(p==0)||!em tx))||(!(k==8)&&!(n==0)))=true then 5
 else if ((k==5||k==9)&&(em nm||decide ((nm.size:Int) > 60)))=true then 10
 else if ((k==5||k==6||k==7)&&(decide (p<1)||decide (p > 3)))=true then 4
 else if decide ((tx.size:Int) > 200)=true then 1
 else if (decide (n<0)||decide (n > 1000000))=true then 3
 else 0
mutual
def tfT:S48→Nat→Int
 |⟨k,ts,nm,p,tx,n⟩,d=>if tHead k ts.length nm p tx n d≠0 then tHead k ts.length nm p tx n d else tfL ts (d+1)
def tfL:List S48→Nat→Int
 |[],_=>0
 |t::ts,d=>if tfT t d≠0 then tfT t d else tfL ts d
end
theorem tfT_eq (t:S48) (d:Nat):tfT t d=if tHead t.Kind t.Tests.length t.Name t.Pattern t.Text t.N d≠0 then tHead t.Kind t.Tests.length t.Name t.Pattern t.Text t.N d else tfL t.Tests (d+1):=by cases t;rfl
theorem q10z (d:Nat) (hd:d≤8) (ts:List S48) (hl:ts.length≤big) (ih:∀ t∈ts,qvs t.Kind t.Tests t.Name t.Pattern t.Text t.N ((d+1:Nat):Int)=some (tfT t (d+1))) :
  ∀ m k,k+m=ts.length→∃ x,qvk d ts ts.length k=some x∧Sum.elim (fun r=>r.1) (fun _=>0) x=tfL (ts.drop k) (d+1):=by
 intro m
 induction m with
 |zero =>
  intro k hk
  have hk:k=ts.length:=by omega
  subst hk
  refine ⟨.inr (((d:Int),ts,(ts.length:Int),(ts.length:Int),false),()),qvm (by
   simp only [qvr,q26i,q26z,EC.decL_encL,EC.isL_encL,EC.encL_length,q276,q3v,q3w,q3x,q3y,q3z,q40]
   simp),?_⟩
  simp [tfL]
 |succ m ihm =>
  intro k hk
  have hlt:k<ts.length:=by omega
  have i1:=ih ts[k] (List.getElem_mem hlt)
  have e1:((k:Int)<(ts.length:Int)):=by omega
  have e2:IntKind.i64.wrap ((k:Int)+1)=((k+1:Nat):Int):=q27y hlt (by unfold big at hl;omega)
  have e3:IntKind.i64.wrap ((d:Int)+1)=((d+1:Nat):Int):=q27y (n:=100) (by omega) (by omega)
  rw [q97 hlt,tfL]
  by_cases h0:tfT ts[k] (d+1)=0
  ·obtain ⟨x,h1,h2⟩:=ihm (k+1) (by omega)
   refine ⟨x,qvm ?_,?_⟩
   ·simp only [qvr,q26i,q26z,EC.decL_encL,EC.isL_encL,EC.encL_length,q276,q3v,q3w,q3x,q3y,q3z,q40]
    simp only [e1,decide_true,if_true,show (0:Int)≤(k:Int) by omega,Int.toNat_natCast,hlt,Bool.and_self,qik hlt,e3,i1,Option.bind_some,h0,e2]
    exact h1
   ·rw [if_neg (by simpa using h0)];exact h2
  ·refine ⟨.inl (tfT ts[k] (d+1),()),qvm ?_,?_⟩
   ·simp only [qvr,q26i,q26z,EC.decL_encL,EC.isL_encL,EC.encL_length,q276,q3v,q3w,q3x,q3y,q3z,q40]
    simp only [e1,decide_true,if_true,show (0:Int)≤(k:Int) by omega,Int.toNat_natCast,hlt,Bool.and_self,qik hlt,e3,i1,Option.bind_some]
    simp [h0]
   ·rw [if_pos h0];rfl
theorem q10y (k:Int) (ts:List S48) (nm:ByteArray) (p:Int) (tx:ByteArray) (n:Int) (d:Nat) (e:Int) (hg:d≤8→qvd d k ts nm p tx n=some (e,())) :
  qvs k ts nm p tx n d=some (if (tHead k ts.length nm p tx n d != 0)=true then tHead k ts.length nm p tx n d else e):=by
 refine qvc ?_
 simp only [qvt,q26i,q26z,EC.decL_encL,EC.isL_encL,used_s,ql4,Option.bind_some,q26w,if_true]
 unfold tHead
 cases hd:decide ((d:Int) > 8) with
 |true=>rfl
 |false =>
 rw [hg (by have:=of_decide_eq_false hd;omega)]
 simp only [bne,Option.bind_some]
 generalize (k==5||k==9)=c1
 generalize (k==5||k==6||k==7)=c2
 generalize (k==8)=c3
 generalize decide (k<1)=a1
 generalize decide (k > 9)=a2
 generalize innerB k ts.length=a3
 generalize em nm=b1
 generalize decide ((nm.size:Int) > 60)=b2
 generalize (p==0)=b3
 generalize decide (p<1)=b4
 generalize decide (p > 3)=b5
 generalize em tx=b6
 generalize decide ((tx.size:Int) > 200)=b7
 generalize (n==0)=b8
 generalize decide (n<0)=b9
 generalize decide (n > 1000000)=b10
 cases a1 <;> first|rfl|skip
 cases a2 <;> first|rfl|skip
 cases a3 <;> first|rfl|skip
 cases c1 <;> cases b1 <;> first|rfl|skip
 all_goals cases c2 <;> cases b3 <;> first|rfl|skip
 all_goals cases b6 <;> first|rfl|skip
 all_goals cases c3 <;> cases b8 <;> first|rfl|skip
 all_goals cases b2 <;> first|rfl|skip
 all_goals cases b4 <;> first|rfl|skip
 all_goals cases b5 <;> first|rfl|skip
 all_goals cases b7 <;> first|rfl|skip
 all_goals cases b9 <;> first|rfl|skip
 all_goals cases b10 <;> rfl
theorem test_s (t:S48) (ho:okT t) (d:Nat):qvs t.Kind t.Tests t.Name t.Pattern t.Text t.N d=some (tfT t d):=by
 generalize hn:tzT t=n
 induction n using Nat.strongRecOn generalizing t d with
 |_ n ih =>
  subst hn
  obtain ⟨hl,hol⟩:=(okT_eq t).1 ho
  rw [q10y (e:=tfL t.Tests (d+1)),tfT_eq]
  ·congr 1
   by_cases h:tHead t.Kind t.Tests.length t.Name t.Pattern t.Text t.N d=0 <;> simp [h]
  ·intro hd
   obtain ⟨x,h1,h2⟩:=q10z d hd t.Tests hl (fun t' ht'=>ih (tzT t') (by have:=tz_mem ht';rw [tzT_eq t];omega) t' (qpb hol ht') (d+1) rfl) t.Tests.length 0 (by omega)
   refine qvf ?_
   simp only [qvj,q26z,EC.decL_encL,EC.isL_encL,EC.encL_length]
   have e:qvk d t.Tests t.Tests.length 0=some x:=h1
   rw [List.drop_zero] at h2
   simp only [if_true,e,Option.bind_some]
   cases x <;> simp only [Sum.elim_inl,Sum.elim_inr] at h2 ⊢ <;> rw [←h2]
def letterB (c:UInt8):Bool:=decide (97≤c.toNat)&&decide (c.toNat≤122)
def digitB (c:UInt8):Bool:=decide (48≤c.toNat)&&decide (c.toNat≤57)
def smallB (c:UInt8):Bool:=letterB c||digitB c
def vOk:Bool→List UInt8→Bool
 |_,[]=>true
 |b,c::l=>(letterB c||(!b&&digitB c))&&vOk false l
def varB (s:ByteArray):Bool:=vOk true s.data.toList&&(decide (1≤s.size)&&decide (s.size≤60))
theorem q11k (l:List UInt8):vOk false l=l.all smallB:=by
 induction l with
 |nil=>rfl
 |cons c l ih=>simp only [vOk,List.all_cons,ih,smallB,Bool.not_false,Bool.true_and]
theorem q8n (s:ByteArray) {k:Nat} (h:k<s.size):s.data.toList.drop k=s.data.getD k 0::s.data.toList.drop (k+1):=by
 have h':k<s.data.toList.length:=by simpa using h
 rw [q97 h']
 congr 1
 have:k<s.data.size:=h
 show _=if h:k<s.data.size then s.data[k] else 0
 rw [dif_pos this]
 simp
theorem var1_s (c:UInt8):qwa ((c.toNat:Nat):Int)=some (smallB c):=by
 refine qw9 ?_
 simp only [qwb,q26i,smallB,letterB,digitB]
 by_cases h1:(97:Int)≤c.toNat <;> by_cases h2:(c.toNat:Int)≤122 <;> by_cases h3:(48:Int)≤c.toNat <;> by_cases h4:(c.toNat:Int)≤57 <;>
  simp [h1,h2,h3,h4,show (97≤c.toNat) ↔ ((97:Int)≤c.toNat) by omega,show (c.toNat≤122) ↔ ((c.toNat:Int)≤122) by omega,show (48≤c.toNat) ↔ ((48:Int)≤c.toNat) by omega,show (c.toNat≤57) ↔ ((c.toNat:Int)≤57) by omega]
theorem q3d (s:ByteArray) (hl:s.size≤big):∀ m k,k+m=s.size→∃ x,q30 s s.size k=some x∧Sum.elim (fun r=>r.1) (fun _=>true) x=(s.data.toList.drop k).all smallB:=by
 intro m
 induction m with
 |zero =>
  intro k hk
  have hk:k=s.size:=by omega
  subst hk
  refine ⟨.inr ((s,(),(s.size:Int),(s.size:Int),false),()),q32 (by
   simp only [q37,q26i,q26z]
   simp),?_⟩
  have:s.data.toList.drop s.size=[]:=List.drop_eq_nil_of_le (by simp <;> rfl)
  rw [this];rfl
 |succ m ihm =>
  intro k hk
  have hlt:k<s.size:=by omega
  have e1:((k:Int)<(s.size:Int)):=by omega
  have e2:IntKind.i64.wrap ((k:Int)+1)=((k+1:Nat):Int):=q27y hlt (by unfold big at hl;omega)
  rw [q8n s hlt,List.all_cons]
  cases h0:smallB (s.data.getD k 0) with
  |true =>
   obtain ⟨x,h1,h2⟩:=ihm (k+1) (by omega)
   refine ⟨x,q32 ?_,by simpa using h2⟩
   simp only [q37,q26i,q26z]
   simp only [e1,decide_true,if_true,show (0:Int)≤(k:Int) by omega,Int.toNat_natCast,hlt,Bool.and_self,var1_s,h0,Option.bind_some,e2]
   exact h1
  |false =>
   refine ⟨.inl (false,()),q32 ?_,rfl⟩
   simp only [q37,q26i,q26z]
   simp only [e1,decide_true,if_true,show (0:Int)≤(k:Int) by omega,Int.toNat_natCast,hlt,Bool.and_self,var1_s,h0,Option.bind_some]
   rfl
theorem q38 (s:ByteArray) (hl:s.size≤big):q39 s=some (s.data.toList.all smallB):=by
 obtain ⟨x,h1,h2⟩:=q3d s hl s.size 0 (by omega)
 refine q2z ?_
 have e:q30 s s.size 0=some x:=h1
 simp only [q3a,e,Option.bind_some]
 rw [List.drop_zero] at h2
 cases x <;> simp only [Sum.elim_inl,Sum.elim_inr] at h2 ⊢ <;> rw [←h2]
theorem q11q (s:ByteArray):qwg s=some (varB s):=by
 refine qwf ?_
 simp only [qwh,q26i,q26z,q26w]
 unfold varB
 by_cases h0:s.size=0
 ·have:em s=true:=by rw [q9h];simpa using h0
  simp [this,h0]
 have hem:em s=false:=by rw [q9h];simpa using h0
 by_cases h1:s.size≤60
 case neg =>
  simp [hem,show ¬ ((s.size:Int)≤60) by omega,h1]
 have hb:s.size≤big:=by unfold big;omega
 have h2:=q8n s (k:=0) (by omega)
 rw [List.drop_zero] at h2
 rw [q38 s hb,h2]
 simp only [hem,show ((s.size:Int)≤60) by omega,decide_true,Option.bind_some,List.all_cons,vOk,q11k,h1,show 1≤s.size by omega,Bool.and_true,Int.toNat_zero,show 0<s.size by omega,Bool.not_true,Bool.false_and,Bool.or_false]
 cases (List.drop 1 s.data.toList).all smallB with
 |false=>simp
 |true =>
  simp only [Bool.and_true,Bool.not_false,beq_self_eq_true,if_true,show (0:Int)≤0 by omega,decide_true]
  have key:∀ c:UInt8,(if (smallB c==true)=true then some (decide (((c.toNat:Nat):Int) > 57)) else some false)=some (letterB c):=by
   intro c
   unfold smallB letterB digitB
   by_cases h5:97≤c.toNat <;> by_cases h6:c.toNat≤122 <;> by_cases h7:48≤c.toNat <;> by_cases h8:c.toNat≤57 <;> simp [h5,h6,h7,h8] <;> omega
  exact key _
def txtB (act:Int):Bool:=act==2||act==4||act==5||act==7
theorem q110 (act:Int):qvy act=some (txtB act):=by
 refine qvx ?_
 simp only [qvz,q26i,txtB]
 cases act==2 <;> cases act==4 <;> cases act==5 <;> cases act==7 <;> rfl
def noB (k:Int) (nt:Nat) (nm:ByteArray) (p:Int) (tx:ByteArray) (n:Int):Bool:=k==0&&(nt==0&&(em nm&&(p==0&&(em tx&&n==0))))
theorem qp5 (k:Int) (ts:List S48) (nm:ByteArray) (p:Int) (tx:ByteArray) (n:Int):quv k ts nm p tx n=some (noB k ts.length nm p tx n):=by
 refine quu ?_
 simp only [quw,q26i,EC.encL_length,q26w,noB]
 have e1:(((ts.length:Nat):Int)==0)=(ts.length==0):=by rw [Bool.eq_iff_iff];simp
 rw [e1]
 cases k==0 <;> cases ts.length==0 <;> cases em nm <;> cases p==0 <;> cases em tx <;> cases n==0 <;> rfl
def pHead (no len:Bool) (k act:Int) (nm tx:ByteArray) (n:Int):Int :=
 if (!no||len||(!(k==2)&&(!(act==0)||!(n==0)))||(!(k==3)&&!em nm)||((k==4)&&!em tx))=true then 5
 else if ((k==2)&&(decide (act<1)||decide (act > 7)))=true then 4
 else if ((k==2)&&((!txtB act&&!em tx)||(!(act==6)&&!(n==0))))=true then 5
 else if ((k==3)&&!varB nm)=true then 10
 else if decide ((tx.size:Int) > 200)=true then 1
 else if (decide (n<0)||decide (n > 63))=true then 3
 else 0
theorem qmq {a b:Nat} (ha:a≤big) (hb:b≤big):decide (IntKind.i64.wrap (((a:Nat):Int)+((b:Nat):Int)) > 0)=(!(a==0)||!(b==0)):=by
 rw [q27x (by unfold big at *;omega)]
 rw [Bool.eq_iff_iff]
 simp only [decide_eq_true_eq,Bool.or_eq_true,Bool.not_eq_true',beq_eq_false_iff_ne]
 omega
theorem qri (k tk:Int) (tts:List S48) (tnm:ByteArray) (tp:Int) (ttx:ByteArray) (tn:Int) (t e:List S50) (act:Int) (nm tx:ByteArray) (n:Int) (ht:t.length≤big) (he:e.length≤big) :
  qv1 k tk tts tnm tp ttx tn t e act nm tx n=some (pHead (noB tk tts.length tnm tp ttx tn) (!(t.length==0)||!(e.length==0)) k act nm tx n):=by
 refine qv0 ?_
 simp only [qv2,q26i,q26z,EC.decL_encL,EC.isL_encL,EC.encL_length,qp5,q110,q11q,Option.bind_some,q26w,if_true,qmq ht he,bne]
 unfold pHead
 generalize noB tk tts.length tnm tp ttx tn=c1
 generalize (!(t.length==0)||!(e.length==0))=c2
 generalize hk2:(k==2)=k2
 generalize hk3:(k==3)=k3
 generalize hk4:(k==4)=k4
 generalize (act==0)=c3
 generalize (n==0)=c4
 generalize em nm=c5
 generalize em tx=c6
 generalize decide (act<1)=c7
 generalize decide (act > 7)=c8
 generalize txtB act=c9
 generalize (act==6)=c10
 generalize varB nm=c11
 generalize decide ((tx.size:Int) > 200)=c12
 generalize decide (n<0)=c13
 generalize decide (n > 63)=c14
 cases c1 <;> first|rfl|skip
 cases c2 <;> first|rfl|skip
 cases k2 <;> cases k3 <;> cases k4
 all_goals first|(exfalso;simp at hk2 hk3 hk4;omega)|skip
 all_goals cases c3 <;> cases c4 <;> first|rfl|skip
 all_goals cases c5 <;> first|rfl|skip
 all_goals cases c6 <;> first|rfl|skip
 all_goals cases c7 <;> first|rfl|skip
 all_goals cases c8 <;> first|rfl|skip
 all_goals cases c9 <;> first|rfl|skip
 all_goals cases c10 <;> first|rfl|skip
 all_goals cases c11 <;> first|rfl|skip
 all_goals cases c12 <;> first|rfl|skip
 all_goals cases c13 <;> first|rfl|skip
 all_goals cases c14 <;> rfl
def rHead (r:S50):Int :=
 if (decide (r.Kind<1)||decide (r.Kind > 4))=true then 4
 else if (r.Kind==1)=true then (if (!(r.Act==0)||!em r.Name||!em r.Text||!(r.N==0))=true then 5 else tfT ⟨r.Test_Kind,r.Test_Tests,r.Test_Name,r.Test_Pattern,r.Test_Text,r.Test_N⟩ 1)
 else pHead (noB r.Test_Kind r.Test_Tests.length r.Test_Name r.Test_Pattern r.Test_Text r.Test_N) (!(r.Then.length==0)||!(r.Else.length==0)) r.Kind r.Act r.Name r.Text r.N
theorem rule_s (r:S50) (ho:okR r) (d:Nat):qv7 r.Kind r.Test_Kind r.Test_Tests r.Test_Name r.Test_Pattern r.Test_Text r.Test_N r.Then r.Else r.Act r.Name r.Text r.N d=some (if decide ((d:Int) > 8)=true then 5 else rHead r):=by
 obtain ⟨⟨o1,o2⟩,⟨o3,o4⟩,⟨o5,o6⟩,o7⟩:=(q27h r).1 ho
 have ht:=test_s ⟨r.Test_Kind,r.Test_Tests,r.Test_Name,r.Test_Pattern,r.Test_Text,r.Test_N⟩ ⟨o1,o2⟩ 1
 refine qv6 ?_
 simp only [qv8,q26i,q26z,EC.decL_encL,EC.isL_encL,qri _ _ _ _ _ _ _ _ _ _ _ _ _ o3 o5,Option.bind_some,q26w,if_true,bne]
 have ht':qvs r.Test_Kind r.Test_Tests r.Test_Name r.Test_Pattern r.Test_Text r.Test_N 1=some (tfT ⟨r.Test_Kind,r.Test_Tests,r.Test_Name,r.Test_Pattern,r.Test_Text,r.Test_N⟩ 1):=ht
 rw [ht']
 unfold rHead
 generalize pHead _ _ r.Kind r.Act r.Name r.Text r.N=x1
 generalize tfT _ 1=x2
 generalize decide ((d:Int) > 8)=c1
 generalize decide (r.Kind<1)=c2
 generalize decide (r.Kind > 4)=c3
 generalize (r.Kind==1)=c4
 generalize (r.Act==0)=c5
 generalize em r.Name=c6
 generalize em r.Text=c7
 generalize (r.N==0)=c8
 cases c1 <;> cases c2 <;> cases c3 <;> cases c4 <;> cases c5 <;> cases c6 <;> cases c7 <;> cases c8 <;> rfl
end Go.Proofs.YtokahibbkdbndaaGreatDoor
