/- The closed test 'scripted()' is run by the machine inside the kernel. -/
import Derived.Test.YtognhcibcocbkaaGreatDoorZ23
import Derived.Test.YtognhcibcocbkaaGreatDoorH3
namespace Go.Proofs.YtognhcibcocbkaaGreatDoor
open Go.RowKit
set_option maxRecDepth 1000000 in
theorem qrm:callD Tryz.prog (fzL lv) X0.c (execD Tryz.prog lv X0 200) 11 []=some (.c (.bool true),[]):=by kernel_rfl
def scr_ca:Cod (List V) Unit:=qai
def scr_cr:Cod (V×List B) Bool:=cFstU (cPair (vC cBool) qai)
def scrS:Option Bool:=some true
theorem qrl (x:Unit) (r:Bool) (h:scrS=some r):Call Tryz.prog lv X0 11 (scr_ca.enc x)=some (scr_cr.enc r):=by
 cases r with
 |true=>exact qd qrm
 |false=>unfold scrS at h;cases h
noncomputable def scr_e:=entS Tryz.prog lv X0 11 [] scr_ca scr_cr (fun _=>scrS) qrl
noncomputable def tabk:=scr_e::qtl
end Go.Proofs.YtognhcibcocbkaaGreatDoor
namespace Go.Proofs.YtognhcibcocbkaaGreatDoor
open Go.RowKit
set_option maxRecDepth 100000
noncomputable section
def qwr:=(qaj (vC (cSl q5l)))
def qws:Cod (V×List B) Bool:=(cFstU (cPair (vC cBool) qai))
def qwu (s:L59):=fS Tryz.prog lv X0 4 qwr qws s
def qwv (s:L59):Oq Bool :=
 (gL q5l s<|
 ((qhb (dL q5l s)).bind fun r0 =>
 (gL q5l s<|
 ((q10c (dL q5l s)).bind fun r1 =>
 (gL q5l s<|
 ((qi4 (dL q5l s)).bind fun r2 =>
 (brE (!((r2.1==r1.1)&&((r2.2==r1.2)&&true)))
 (some false)
 (brE ((r1.1==0)==true)
 (gL q5l s<|
 ((q122 (dL q5l s) 1).bind fun r3 =>
 (brE (decide ((r3.size:Int)>4000))
 ((qx0 1 (-1)).bind fun r4 =>
 (brE (r4.1 != 0)
 (brE (((r0.2.1==r4.1)&&((r0.2.2==r4.2)&&true))==true)
 (brE ((r0.1.toList==(ByteArray.toList ⟨#[]⟩))==true)
 (some true)
 (some false))
 (some false))
 (brE ((r0.2.1==0)==true)
 (gL q5l s<|
 ((q122 (dL q5l s) 1).bind fun r5 =>
 (brE ((r0.1.toList==r5.toList)==true)
 (some true)
 (some false))))
 (some false))))
 (brE (r1.1 != 0)
 (brE (((r0.2.1==r1.1)&&((r0.2.2==r1.2)&&true))==true)
 (brE ((r0.1.toList==(ByteArray.toList ⟨#[]⟩))==true)
 (some true)
 (some false))
 (some false))
 (brE ((r0.2.1==0)==true)
 (gL q5l s<|
 ((q122 (dL q5l s) 1).bind fun r4 =>
 (brE ((r0.1.toList==r4.toList)==true)
 (some true)
 (some false))))
 (some false))))))
 (brE (r1.1 != 0)
 (brE (((r0.2.1==r1.1)&&((r0.2.2==r1.2)&&true))==true)
 (brE ((r0.1.toList==(ByteArray.toList ⟨#[]⟩))==true)
 (some true)
 (some false))
 (some false))
 (brE ((r0.2.1==0)==true)
 (gL q5l s<|
 ((q122 (dL q5l s) 1).bind fun r3 =>
 (brE ((r0.1.toList==r3.toList)==true)
 (some true)
 (some false))))
 (some false)))))))))))
theorem qwt {s r} (h:qwv s=some r):qwu s=some r :=
 q6x (es:=tabk) (hs:=q97) [] Tryz.func4 rfl (by kernel_rfl) rfl (by kernel_rfl) (by kernel_rfl) trivial trivial (by kernel_rfl) h
end
theorem q3l {β:Type} (q:Bool) (a b:Option β):brE q a b=if q=true then a else b:=by cases q <;> rfl
theorem q8h {β:Type} (q:Bool) (a:Option β):gdE q a=if q=true then a else none:=by cases q <;> rfl
theorem q8k {α:Type} {l:List α} {k:Nat} {d:α} (h:k<l.length):l.getD k d=l[k]:=by simp [List.getD_eq_getElem?_getD,h]
theorem q5h {α:Type} {l:List α} {k:Nat} (h:k<l.length):l.drop k=l[k]::l.drop (k+1):=List.drop_eq_getElem_cons h
theorem qvs {n:Int} (h:-9223372036854775808≤n∧n≤9223372036854775807):IntKind.i64.wrap n=n:=IntWalk.i64_in n h
theorem q178 (a b:Int):IntKind.i64.wrap (IntKind.i64.wrap a+b)=IntKind.i64.wrap (a+b):=by simp only [IntKind.wrap_i64];omega
theorem q179 (a b:Int):IntKind.i64.wrap (a+IntKind.i64.wrap b)=IntKind.i64.wrap (a+b):=by simp only [IntKind.wrap_i64];omega
theorem qvt {k n:Nat} (h:k<n) (hn:n≤9223372036854775807):IntKind.i64.wrap ((k:Int)+1)=((k+1:Nat):Int):=by rw [qvs (by omega)];rfl
theorem q72 (a b:Int):q32 a b=some (a,b):=q31 rfl
theorem none_s:q38=some (0,0):=q37 rfl
theorem q71 (a b:Int):q2w a b=some (a != 0):=by
 refine q2v ?_
 simp [q2x]
theorem qwd (n a b:Int):qxj n a b=some (decide (a≤n)&&decide (n≤b)):=by
 refine qxi ?_
 simp only [qxk,q3l]
 by_cases h:a≤n <;> simp [h]
mutual
def szR:S59→Nat
 |⟨_,_,_,_,_,_,_,t,e,_,_,_,_⟩=>1+szL t+szL e
def szL:List S59→Nat
 |[]=>0
 |r::l=>szR r+szL l
end
theorem szR_eq (r:S59):szR r=1+szL r.Then+szL r.Else:=by cases r;rfl
theorem q16i (a b:List S59):szL (a++b)=szL a+szL b:=by
 induction a with
 |nil=>simp [szL]
 |cons r a ih=>simp only [List.cons_append,szL,ih];omega
theorem qt2 {l:List S59} {r:S59} (h:r∈l):szR r≤szL l:=by
 induction l with
 |nil=>cases h
 |cons x l ih =>
  rcases List.mem_cons.1 h with rfl|h
  ·simp only [szL];omega
  ·have:=ih h;simp only [szL];omega
theorem qt4 {l:List S59} {r:S59} (h:r∈l):szL r.Then<szL l:=by have:=qt2 h;rw [szR_eq] at this;omega
theorem qt3 {l:List S59} {r:S59} (h:r∈l):szL r.Else<szL l:=by have:=qt2 h;rw [szR_eq] at this;omega
theorem q16j {l:List S59} {k:Nat} (h:k<l.length):szL (l.take (k+1))=szL (l.take k)+szR l[k]:=by
 rw [List.take_succ_eq_append_getElem h,q16i];simp [szL]
abbrev big:Nat:=1000000000000000
mutual
def okT:S57→Prop
 |⟨_,ts,_,_,_,_⟩=>ts.length≤big∧okTL ts
def okTL:List S57→Prop
 |[]=>True
 |r::l=>okT r∧okTL l
end
mutual
def okR:S59→Prop
 |⟨_,_,ts,_,_,_,_,t,e,_,nm,_,_⟩=>(ts.length≤big∧okTL ts)∧(t.length≤big∧okL t)∧(e.length≤big∧okL e)∧nm.size≤big
def okL:List S59→Prop
 |[]=>True
 |r::l=>okR r∧okL l
end
theorem qdl (t:S57):okT t ↔ t.Tests.length≤big∧okTL t.Tests:=by cases t;rfl
theorem okR_eq (r:S59):okR r ↔ (r.Test_Tests.length≤big∧okTL r.Test_Tests)∧(r.Then.length≤big∧okL r.Then)∧(r.Else.length≤big∧okL r.Else)∧r.Name.size≤big:=by cases r;rfl
theorem qdk {l:List S57} (h:okTL l) {t:S57} (ht:t∈l):okT t:=by
 induction l with
 |nil=>cases ht
 |cons x l ih =>
  rcases List.mem_cons.1 ht with rfl|ht
  ·exact h.1
  ·exact ih h.2 ht
theorem qdj {l:List S59} (h:okL l) {r:S59} (hr:r∈l):okR r:=by
 induction l with
 |nil=>cases hr
 |cons x l ih =>
  rcases List.mem_cons.1 hr with rfl|hr
  ·exact h.1
  ·exact ih h.2 hr
mutual
def tzT:S57→Nat
 |⟨_,ts,_,_,_,_⟩=>1+tzL ts
def tzL:List S57→Nat
 |[]=>0
 |r::l=>tzT r+tzL l
end
theorem tzT_eq (t:S57):tzT t=1+tzL t.Tests:=by cases t;rfl
theorem tz_mem {l:List S57} {t:S57} (h:t∈l):tzT t≤tzL l:=by
 induction l with
 |nil=>cases h
 |cons x l ih =>
  rcases List.mem_cons.1 h with rfl|h
  ·simp only [tzL];omega
  ·have:=ih h;simp only [tzL];omega
theorem qw6 (l:List S59) (hl:l.length≤big) (ih:∀ r∈l,qy9 r.Then=some (IntKind.i64.wrap (szL r.Then))∧qy9 r.Else=some (IntKind.i64.wrap (szL r.Else))) :
  ∀ m k,k+m=l.length→∃ x,qy2 l (IntKind.i64.wrap (szL (l.take k)+(l.length - k:Int))) k=some x∧x.1.2.1=IntKind.i64.wrap (szL l):=by
 intro m
 induction m with
 |zero =>
  intro k hk
  have hk:k=l.length:=by omega
  subst hk
  refine ⟨((l,IntKind.i64.wrap (szL (l.take l.length)+(l.length - l.length:Int)),(l.length:Int),false),()),qy4 (by
   simp only [qy8,gL,dL,lN,eC,wI,p0,uL,q3l,q8h,EC.decL_encL,EC.isL_encL,EC.encL_length,q9u,q2h,q2i]
   simp),?_⟩
  simp
 |succ m ihm =>
  intro k hk
  have hlt:k<l.length:=by omega
  obtain ⟨x,h1,h2⟩:=ihm (k+1) (by omega)
  obtain ⟨i1,i2⟩:=ih l[k] (List.getElem_mem hlt)
  refine ⟨x,qy4 ?_,h2⟩
  simp only [qy8,gL,dL,lN,eC,wI,p0,uL,q3l,q8h,EC.decL_encL,EC.isL_encL,EC.encL_length,q9u,q2h,q2i]
  have e1:((k:Int)<(l.length:Int)):=by omega
  simp only [e1,decide_true,if_true,show (0:Int)≤(k:Int) by omega,Int.toNat_natCast,hlt,Bool.and_self,q8k hlt,i1,i2,Option.bind_some]
  have e2:IntKind.i64.wrap ((k:Int)+1)=((k+1:Nat):Int):=qvt hlt (by unfold big at hl;omega)
  have e3:IntKind.i64.wrap (IntKind.i64.wrap (szL (l.take k)+(l.length - k:Int))+IntKind.i64.wrap (IntKind.i64.wrap (szL l[k].Then)+IntKind.i64.wrap (szL l[k].Else)))=IntKind.i64.wrap (szL (l.take (k+1))+(l.length - (k+1:Nat):Int)):=by
   rw [q16j hlt,szR_eq]
   simp only [q178,q179]
   congr 1 <;> omega
  rw [e2,e3]
  exact h1
theorem qw7 (l:List S59) (hl:l.length≤big) (ho:okL l):qy9 l=some (IntKind.i64.wrap (szL l)):=by
 generalize hn:szL l=n
 induction n using Nat.strongRecOn generalizing l with
 |_ n ih =>
  subst hn
  obtain ⟨x,h1,h2⟩:=qw6 l hl (fun r hr=>by
   have:=(okR_eq r).1 (qdj ho hr)
   exact ⟨ih _ (qt4 hr) _ this.2.1.1 this.2.1.2 rfl,ih _ (qt3 hr) _ this.2.2.1.1 this.2.2.1.2 rfl⟩) l.length 0 (by omega)
  refine qy1 ?_
  simp only [qya,gL,dL,lN,q8h,EC.decL_encL,EC.isL_encL,EC.encL_length]
  have e:qy2 l l.length 0=some x:=by
   have e0:IntKind.i64.wrap (szL (l.take 0)+(l.length - (0:Nat):Int))=(l.length:Int):=by
    simp only [List.take_zero,szL]
    rw [qvs (by unfold big at hl;omega)]
    omega
   rw [e0] at h1
   exact h1
  simp [e,h2]
def em (s:ByteArray):Bool:=(ByteArray.toList s)==(ByteArray.toList (ByteArray.mk (List.toArray [])))
theorem qwb (s:ByteArray):((ByteArray.toList s)==(ByteArray.toList (ByteArray.mk (List.toArray []))))=em s:=rfl
theorem q5p (s:ByteArray):em s=decide (s.size=0):=by
 have e0:ByteArray.toList (ByteArray.mk (List.toArray []))=[]:=by rw [ByteArray.toList_eq]
 have hl:(ByteArray.toList s).length=s.size:=by rw [ByteArray.toList_eq,Array.length_toList];rfl
 unfold em
 rw [e0]
 cases h:ByteArray.toList s with
 |nil=>rw [h] at hl;simp at hl;simp [←hl]
 |cons x l =>
  rw [h] at hl
  simp only [List.length_cons] at hl
  have h0:s.size≠0:=by omega
  simp [h0]
theorem used_s (k:Int):qq7 k=some (k==5||k==9,k==5||k==6||k==7,k==8):=by
 refine qq6 ?_
 simp only [qq8,q3l]
 by_cases h5:k=5
 ·subst h5;rfl
 by_cases h6:k=6
 ·subst h6;rfl
 by_cases h7:k=7
 ·subst h7;rfl
 by_cases h8:k=8
 ·subst h8;rfl
 by_cases h9:k=9
 ·subst h9;rfl
 simp [h5,h6,h7,h8,h9]
def innerB (k:Int) (n:Nat):Bool:=if k=2 then n==1 else if k=3∨k=4 then decide (1≤n)&&decide (n≤60) else n==0
theorem q9k (k:Int) (ts:List S57) (nm:ByteArray) (p:Int) (tx:ByteArray) (n:Int):qig k ts nm p tx n=some (innerB k ts.length):=by
 refine qif ?_
 simp only [qih,lN,q3l,EC.encL_length]
 unfold innerB
 by_cases h2:k=2
 ·subst h2;simp;rw [Bool.eq_iff_iff];simp;omega
 by_cases h3:k=3
 ·subst h3;by_cases h:1≤ts.length <;> simp [h,show ((1:Int)≤ts.length) ↔ 1≤ts.length by omega,show ((ts.length:Int)≤60) ↔ ts.length≤60 by omega]
 by_cases h4:k=4
 ·subst h4;by_cases h:1≤ts.length <;> simp [h,show ((1:Int)≤ts.length) ↔ 1≤ts.length by omega,show ((ts.length:Int)≤60) ↔ ts.length≤60 by omega]
 simp [h2,h3,h4]
 rw [Bool.eq_iff_iff];simp
def tHead (k:Int) (nt:Nat) (nm:ByteArray) (p:Int) (tx:ByteArray) (n d:Int):Int :=
 if decide (d>8)=true then 5
 else if (decide (k<1)||decide (k>9))=true then 4
 else if (!innerB k nt)=true then 5
 else if ((!(k==5||k==9)&&!em nm)||(!(k==5||k==6||k==7)&&(!(p==0)||!em tx))||(!(k==8)&&!(n==0)))=true then 5
 else if ((k==5||k==9)&&(em nm||decide ((nm.size:Int)>60)))=true then 10
 else if ((k==5||k==6||k==7)&&(decide (p<1)||decide (p>3)))=true then 4
 else if decide ((tx.size:Int)>200)=true then 1
 else if (decide (n<0)||decide (n>1000000))=true then 3
 else 0
mutual
def tfT:S57→Nat→Int
 |⟨k,ts,nm,p,tx,n⟩,d=>if tHead k ts.length nm p tx n d≠0 then tHead k ts.length nm p tx n d else tfL ts (d+1)
def tfL:List S57→Nat→Int
 |[],_=>0
 |t::ts,d=>if tfT t d≠0 then tfT t d else tfL ts d
end
theorem tfT_eq (t:S57) (d:Nat):tfT t d=if tHead t.Kind t.Tests.length t.Name t.Pattern t.Text t.N d≠0 then tHead t.Kind t.Tests.length t.Name t.Pattern t.Text t.N d else tfL t.Tests (d+1):=by cases t;rfl
theorem qug (d:Nat) (hd:d≤8) (ts:List S57) (hl:ts.length≤big) (ih:∀ t∈ts,qpv t.Kind t.Tests t.Name t.Pattern t.Text t.N ((d+1:Nat):Int)=some (tfT t (d+1))) :
  ∀ m k,k+m=ts.length→∃ x,qpn d ts ts.length k=some x∧Sum.elim (fun r=>r.1) (fun _=>0) x=tfL (ts.drop k) (d+1):=by
 intro m
 induction m with
 |zero =>
  intro k hk
  have hk:k=ts.length:=by omega
  subst hk
  refine ⟨.inr (((d:Int),ts,(ts.length:Int),(ts.length:Int),false),()),qpp (by
   simp only [qpu,zd,gL,dL,eC,wI,p0,uL,q3l,q8h,EC.decL_encL,EC.isL_encL,EC.encL_length,qwf,q21,q22,q23,q24,q25,q26]
   simp),?_⟩
  simp [tfL]
 |succ m ihm =>
  intro k hk
  have hlt:k<ts.length:=by omega
  have i1:=ih ts[k] (List.getElem_mem hlt)
  have e1:((k:Int)<(ts.length:Int)):=by omega
  have e2:IntKind.i64.wrap ((k:Int)+1)=((k+1:Nat):Int):=qvt hlt (by unfold big at hl;omega)
  have e3:IntKind.i64.wrap ((d:Int)+1)=((d+1:Nat):Int):=qvt (n:=100) (by omega) (by omega)
  rw [q5h hlt,tfL]
  by_cases h0:tfT ts[k] (d+1)=0
  ·obtain ⟨x,h1,h2⟩:=ihm (k+1) (by omega)
   refine ⟨x,qpp ?_,?_⟩
   ·simp only [qpu,zd,gL,dL,eC,wI,p0,uL,q3l,q8h,EC.decL_encL,EC.isL_encL,EC.encL_length,qwf,q21,q22,q23,q24,q25,q26]
    simp only [e1,decide_true,if_true,show (0:Int)≤(k:Int) by omega,Int.toNat_natCast,hlt,Bool.and_self,q8k hlt,e3,i1,Option.bind_some,h0,e2]
    exact h1
   ·rw [if_neg (by simpa using h0)];exact h2
  ·refine ⟨.inl (tfT ts[k] (d+1),()),qpp ?_,?_⟩
   ·simp only [qpu,zd,gL,dL,eC,wI,p0,uL,q3l,q8h,EC.decL_encL,EC.isL_encL,EC.encL_length,qwf,q21,q22,q23,q24,q25,q26]
    simp only [e1,decide_true,if_true,show (0:Int)≤(k:Int) by omega,Int.toNat_natCast,hlt,Bool.and_self,q8k hlt,e3,i1,Option.bind_some]
    simp [h0]
   ·rw [if_pos h0];rfl
theorem qud (k:Int) (ts:List S57) (nm:ByteArray) (p:Int) (tx:ByteArray) (n:Int) (d:Nat) (e:Int) (hg:d≤8→qpg d k ts nm p tx n=some (e,())) :
  qpv k ts nm p tx n d=some (if (tHead k ts.length nm p tx n d != 0)=true then tHead k ts.length nm p tx n d else e):=by
 refine qpf ?_
 simp only [qpw,ze,zg,zh,zi,zj,zk,zm,zn,gL,dL,q3l,q8h,EC.decL_encL,EC.isL_encL,used_s,q9k,Option.bind_some,qwb,if_true]
 unfold tHead
 cases hd:decide ((d:Int)>8) with
 |true=>rfl
 |false =>
 rw [hg (by have:=of_decide_eq_false hd;omega)]
 simp only [bne,Option.bind_some]
 generalize (k==5||k==9)=c1
 generalize (k==5||k==6||k==7)=c2
 generalize (k==8)=c3
 generalize decide (k<1)=a1
 generalize decide (k>9)=a2
 generalize innerB k ts.length=a3
 generalize em nm=b1
 generalize decide ((nm.size:Int)>60)=b2
 generalize (p==0)=b3
 generalize decide (p<1)=b4
 generalize decide (p>3)=b5
 generalize em tx=b6
 generalize decide ((tx.size:Int)>200)=b7
 generalize (n==0)=b8
 generalize decide (n<0)=b9
 generalize decide (n>1000000)=b10
 cases a1 <;> first|rfl|skip
 cases a2 <;> first|rfl|skip
 cases a3 <;> first|rfl|skip
 cases c1 <;> cases b1 <;> first|rfl|skip
 all_goals cases c2 <;> cases b3 <;> first|rfl|skip
 all_goals cases b6 <;> first|rfl|skip
 all_goals cases c3 <;> cases b8 <;> first|rfl|skip
 all_goals cases b2 <;> first|rfl|skip
 all_goals cases b4 <;> first|rfl|skip
 all_goals cases b5 <;> first|rfl|skip
 all_goals cases b7 <;> first|rfl|skip
 all_goals cases b9 <;> first|rfl|skip
 all_goals cases b10 <;> rfl
theorem test_s (t:S57) (ho:okT t) (d:Nat):qpv t.Kind t.Tests t.Name t.Pattern t.Text t.N d=some (tfT t d):=by
 generalize hn:tzT t=n
 induction n using Nat.strongRecOn generalizing t d with
 |_ n ih =>
  subst hn
  obtain ⟨hl,hol⟩:=(qdl t).1 ho
  rw [qud (e:=tfL t.Tests (d+1)),tfT_eq]
  ·congr 1
   by_cases h:tHead t.Kind t.Tests.length t.Name t.Pattern t.Text t.N d=0 <;> simp [h]
  ·intro hd
   obtain ⟨x,h1,h2⟩:=qug d hd t.Tests hl (fun t' ht'=>ih (tzT t') (by have:=tz_mem ht';rw [tzT_eq t];omega) t' (qdk hol ht') (d+1) rfl) t.Tests.length 0 (by omega)
   refine qpi ?_
   simp only [qpm,gL,dL,lN,q8h,EC.decL_encL,EC.isL_encL,EC.encL_length]
   have e:qpn d t.Tests t.Tests.length 0=some x:=h1
   rw [List.drop_zero] at h2
   simp only [if_true,e,Option.bind_some]
   cases x <;> simp only [Sum.elim_inl,Sum.elim_inr] at h2 ⊢ <;> rw [←h2]
theorem q16k (k:Int) (nt:Nat) (nm:ByteArray) (p:Int) (tx:ByteArray) (n d e:Int):(if (tHead k nt nm p tx n d != 0)=true then tHead k nt nm p tx n d else e) =
 if decide (d>8)=true then 5
 else if (decide (k<1)||decide (k>9))=true then 4
 else if (!innerB k nt)=true then 5
 else if ((!(k==5||k==9)&&!em nm)||(!(k==5||k==6||k==7)&&(!(p==0)||!em tx))||(!(k==8)&&!(n==0)))=true then 5
 else if ((k==5||k==9)&&(em nm||decide ((nm.size:Int)>60)))=true then 10
 else if ((k==5||k==6||k==7)&&(decide (p<1)||decide (p>3)))=true then 4
 else if decide ((tx.size:Int)>200)=true then 1
 else if (decide (n<0)||decide (n>1000000))=true then 3
 else e:=by
 unfold tHead
 generalize decide (d>8)=c1
 generalize (decide (k<1)||decide (k>9))=c2
 generalize (!innerB k nt)=c3
 generalize ((!(k==5||k==9)&&!em nm)||(!(k==5||k==6||k==7)&&(!(p==0)||!em tx))||(!(k==8)&&!(n==0)))=c4
 generalize ((k==5||k==9)&&(em nm||decide ((nm.size:Int)>60)))=c5
 generalize ((k==5||k==6||k==7)&&(decide (p<1)||decide (p>3)))=c6
 generalize decide ((tx.size:Int)>200)=c7
 generalize (decide (n<0)||decide (n>1000000))=c8
 cases c1 <;> first|rfl|skip
 cases c2 <;> first|rfl|skip
 cases c3 <;> first|rfl|skip
 cases c4 <;> first|rfl|skip
 cases c5 <;> first|rfl|skip
 cases c6 <;> first|rfl|skip
 cases c7 <;> first|rfl|skip
 cases c8 <;> rfl
theorem in_not (n a b:Int):(!(decide (a≤n)&&decide (n≤b)))=(decide (n<a)||decide (n>b)):=by
 rw [Bool.eq_iff_iff]
 simp only [Bool.not_eq_true',Bool.and_eq_false_iff,decide_eq_false_iff_not,Bool.or_eq_true,decide_eq_true_eq]
 omega
theorem in57 (k:Int):(decide (5≤k)&&decide (k≤7))=(k==5||k==6||k==7):=by
 rw [Bool.eq_iff_iff]
 simp only [Bool.and_eq_true,decide_eq_true_eq,Bool.or_eq_true,beq_iff_eq]
 omega
theorem in24 (k:Int):(decide (2≤k)&&decide (k≤4))=(k==2||k==3||k==4):=by
 rw [Bool.eq_iff_iff]
 simp only [Bool.and_eq_true,decide_eq_true_eq,Bool.or_eq_true,beq_iff_eq]
 omega
theorem uses_s (k:Int):q169 k=some (k==2||k==3||k==4,k==5||k==9,k==5||k==6||k==7,k==8):=by
 refine q168 ?_
 simp only [q16a,q3l,qwd,Option.bind_some,in57,in24]
 cases (k==5) <;> simp
section
variable {depth b0 b0_3 b0_5 e:Int} {b0_1:List S57} {b0_2 b0_4:ByteArray}
theorem tg16 (hg:q130 depth b0 b0_1 b0_2 b0_3 b0_4 b0_5=some (e,())):q12t depth b0 b0_1 b0_2 b0_3 b0_4 b0_5=some (if (decide (b0_5<0)||decide (b0_5>1000000))=true then 3 else e,()):=by
 refine q12v ?_
 simp only [q12z,gL,dL,q3l,q8h,EC.decL_encL,EC.isL_encL,qwd,Option.bind_some,in_not,hg,if_true]
 generalize (decide (b0_5<0)||decide (b0_5>1000000))=c
 cases c <;> rfl
theorem tg14 (hg:q12t depth b0 b0_1 b0_2 b0_3 b0_4 b0_5=some (e,())):q12m depth b0 b0_1 b0_2 b0_3 b0_4 b0_5=some (if decide ((b0_4.size:Int)>200)=true then 1 else e,()):=by
 refine q12o ?_
 simp only [q12s,gL,dL,q3l,q8h,EC.decL_encL,EC.isL_encL,hg,Option.bind_some,if_true]
 generalize decide ((b0_4.size:Int)>200)=c
 cases c <;> rfl
theorem tg12 {text:Bool} (hg:q12m depth b0 b0_1 b0_2 b0_3 b0_4 b0_5=some (e,())):q12f depth text b0 b0_1 b0_2 b0_3 b0_4 b0_5=some (if (text&&(decide (b0_3<1)||decide (b0_3>3)))=true then 4 else e,()):=by
 refine q12h ?_
 simp only [q12l,gL,dL,q3l,q8h,EC.decL_encL,EC.isL_encL,qwd,Option.bind_some,in_not,hg,if_true]
 generalize (decide (b0_3<1)||decide (b0_3>3))=c
 cases text <;> cases c <;> rfl
theorem qwe (s:ByteArray):(decide ((s.size:Int)<1)||decide ((s.size:Int)>60))=(em s||decide ((s.size:Int)>60)):=by
 rw [q5p,Bool.eq_iff_iff]
 simp only [Bool.or_eq_true,decide_eq_true_eq]
 omega
theorem tg10 {name text:Bool} (hg:q12f depth text b0 b0_1 b0_2 b0_3 b0_4 b0_5=some (e,())):q128 depth name text b0 b0_1 b0_2 b0_3 b0_4 b0_5=some (if (name&&(em b0_2||decide ((b0_2.size:Int)>60)))=true then 10 else e,()):=by
 refine q12a ?_
 simp only [q12e,gL,dL,q3l,q8h,EC.decL_encL,EC.isL_encL,qwd,Option.bind_some,in_not,hg,if_true,qwe]
 generalize (em b0_2||decide ((b0_2.size:Int)>60))=c
 cases name <;> cases c <;> rfl
theorem tg8 {name text number:Bool} (hg:q128 depth name text b0 b0_1 b0_2 b0_3 b0_4 b0_5=some (e,())):q13e depth name text number b0 b0_1 b0_2 b0_3 b0_4 b0_5=some (if ((!name&&!em b0_2)||(!text&&(!(b0_3==0)||!em b0_4))||(!number&&!(b0_5==0)))=true then 5 else e,()):=by
 refine q13g ?_
 simp only [q13k,zw,gL,dL,q3l,q8h,EC.decL_encL,EC.isL_encL,Option.bind_some,hg,if_true,qwb,bne]
 generalize em b0_2=c1
 generalize em b0_4=c2
 generalize (b0_3==0)=c3
 generalize (b0_5==0)=c4
 cases name <;> cases text <;> cases number <;> cases c1 <;> cases c2 <;> cases c3 <;> cases c4 <;> rfl
theorem tg6 {name text number:Bool} (hg:q13e depth name text number b0 b0_1 b0_2 b0_3 b0_4 b0_5=some (e,())) (hk:1≤b0∧b0≤9):q137 depth (b0==2||b0==3||b0==4) name text number b0 b0_1 b0_2 b0_3 b0_4 b0_5=some (if (!innerB b0 b0_1.length)=true then 5 else e,()):=by
 refine q139 ?_
 simp only [q13d,zx,gL,dL,lN,q3l,q8h,EC.decL_encL,EC.isL_encL,EC.encL_length,Option.bind_some,hg,if_true]
 have e1:(((b0_1.length:Nat):Int)==0)=(b0_1.length==0):=by rw [Bool.eq_iff_iff];simp
 have e2:decide (((b0_1.length:Nat):Int)>0)=!(b0_1.length==0):=by
  by_cases h:b0_1.length=0
  ·simp [h]
  ·have h':((b0_1.length:Nat):Int)>0:=by omega
   rw [decide_eq_true h',show (b0_1.length==0)=false by simpa using h]
   rfl
 have e3:decide (((b0_1.length:Nat):Int)>1)=decide (b0_1.length>1):=by rw [Bool.eq_iff_iff];simp;omega
 have e4:decide (((b0_1.length:Nat):Int)>60)=decide (b0_1.length>60):=by rw [Bool.eq_iff_iff];simp;omega
 rw [e1,e2,e3,e4]
 unfold innerB
 have hk:b0=1∨b0=2∨b0=3∨b0=4∨b0=5∨b0=6∨b0=7∨b0=8∨b0=9:=by omega
 by_cases h0:b0_1.length=0
 ·rcases hk with rfl|rfl|rfl|rfl|rfl|rfl|rfl|rfl|rfl <;> simp [h0]
 by_cases h1:b0_1.length=1
 ·rcases hk with rfl|rfl|rfl|rfl|rfl|rfl|rfl|rfl|rfl <;> simp [h1]
 have h2:b0_1.length>1:=by omega
 have h3:1≤b0_1.length:=by omega
 by_cases h60:b0_1.length>60
 ·rcases hk with rfl|rfl|rfl|rfl|rfl|rfl|rfl|rfl|rfl <;> simp [h0,h1,h2,h3,h60,Nat.not_le.2 h60]
 ·rcases hk with rfl|rfl|rfl|rfl|rfl|rfl|rfl|rfl|rfl <;> simp [h0,h1,h2,h3,h60,Nat.not_lt.1 h60]
end
theorem q171 (k:Int) (ts:List S57) (nm:ByteArray) (p:Int) (tx:ByteArray) (n:Int) (d:Nat) (e:Int) (hg:d≤8→q130 d k ts nm p tx n=some (e,())) :
  q13t k ts nm p tx n d=some (if (tHead k ts.length nm p tx n d != 0)=true then tHead k ts.length nm p tx n d else e):=by
 refine q127 ?_
 rw [q16k]
 simp only [q13u,gL,dL,q3l,q8h,EC.decL_encL,EC.isL_encL,qwd,uses_s,Option.bind_some,if_true,in_not]
 cases hd:decide ((d:Int)>8) with
 |true=>rfl
 |false =>
 cases hk:(decide (k<1)||decide (k>9)) with
 |true=>rfl
 |false =>
  have hk':1≤k∧k≤9:=by
   simp only [Bool.or_eq_false_iff,decide_eq_false_iff_not] at hk;omega
  rw [tg6 (tg8 (tg10 (tg12 (tg14 (tg16 (hg (by have:=of_decide_eq_false hd;omega))))))) hk']
  rfl
theorem q172 (d:Nat) (hd:d≤8) (b0 b0_3 b0_5:Int) (b0_2 b0_4:ByteArray) (ts:List S57) (hl:ts.length≤big) (ih:∀ t∈ts,q13t t.Kind t.Tests t.Name t.Pattern t.Text t.N ((d+1:Nat):Int)=some (tfT t (d+1))) :
  ∀ m k,k+m=ts.length→∃ x,q13l d k b0 ts b0_2 b0_3 b0_4 b0_5=some x∧Sum.elim (fun r=>r.1) (fun _=>0) x=tfL (ts.drop k) (d+1):=by
 intro m
 induction m with
 |zero =>
  intro k hk
  have hk:k=ts.length:=by omega
  subst hk
  refine ⟨.inr (((d:Int),(),(ts.length:Int),false),(b0,ts,b0_2,b0_3,b0_4,b0_5)),q13n (by
   simp only [q13s,zu,gL,dL,lN,eC,wI,p0,uL,q3l,q8h,EC.decL_encL,EC.isL_encL,EC.encL_length,qwf,q21,q22,q23,q24,q25,q26]
   simp),?_⟩
  simp [tfL]
 |succ m ihm =>
  intro k hk
  have hlt:k<ts.length:=by omega
  have i1:=ih ts[k] (List.getElem_mem hlt)
  have e1:((k:Int)<(ts.length:Int)):=by omega
  have e2:IntKind.i64.wrap ((k:Int)+1)=((k+1:Nat):Int):=qvt hlt (by unfold big at hl;omega)
  have e3:IntKind.i64.wrap ((d:Int)+1)=((d+1:Nat):Int):=qvt (n:=100) (by omega) (by omega)
  rw [q5h hlt,tfL]
  by_cases h0:tfT ts[k] (d+1)=0
  ·obtain ⟨x,h1,h2⟩:=ihm (k+1) (by omega)
   refine ⟨x,q13n ?_,?_⟩
   ·simp only [q13s,zu,gL,dL,lN,eC,wI,p0,uL,q3l,q8h,EC.decL_encL,EC.isL_encL,EC.encL_length,qwf,q21,q22,q23,q24,q25,q26]
    simp only [e1,decide_true,if_true,show (0:Int)≤(k:Int) by omega,Int.toNat_natCast,hlt,Bool.and_self,q8k hlt,e3,i1,Option.bind_some,h0,e2]
    exact h1
   ·rw [if_neg (by simpa using h0)];exact h2
  ·refine ⟨.inl (tfT ts[k] (d+1),()),q13n ?_,?_⟩
   ·simp only [q13s,zu,gL,dL,lN,eC,wI,p0,uL,q3l,q8h,EC.decL_encL,EC.isL_encL,EC.encL_length,qwf,q21,q22,q23,q24,q25,q26]
    simp only [e1,decide_true,if_true,show (0:Int)≤(k:Int) by omega,Int.toNat_natCast,hlt,Bool.and_self,q8k hlt,e3,i1,Option.bind_some]
    simp [h0]
   ·rw [if_pos h0];rfl
theorem q173 (t:S57) (ho:okT t) (d:Nat):q13t t.Kind t.Tests t.Name t.Pattern t.Text t.N d=some (tfT t d):=by
 generalize hn:tzT t=n
 induction n using Nat.strongRecOn generalizing t d with
 |_ n ih =>
  subst hn
  obtain ⟨hl,hol⟩:=(qdl t).1 ho
  rw [q171 (e:=tfL t.Tests (d+1)),tfT_eq]
  ·congr 1
   by_cases h:tHead t.Kind t.Tests.length t.Name t.Pattern t.Text t.N d=0 <;> simp [h]
  ·intro hd
   obtain ⟨x,h1,h2⟩:=q172 d hd t.Kind t.Pattern t.N t.Name t.Text t.Tests hl (fun t' ht'=>ih (tzT t') (by have:=tz_mem ht';rw [tzT_eq t];omega) t' (qdk hol ht') (d+1) rfl) t.Tests.length 0 (by omega)
   refine q132 ?_
   simp only [q136,gL,dL,q8h,EC.decL_encL,EC.isL_encL]
   have e:q13l d 0 t.Kind t.Tests t.Name t.Pattern t.Text t.N=some x:=h1
   rw [List.drop_zero] at h2
   simp only [if_true,e,Option.bind_some]
   cases x <;> simp only [Sum.elim_inl,Sum.elim_inr] at h2 ⊢ <;> rw [←h2]
def letterB (c:UInt8):Bool:=decide (97≤c.toNat)&&decide (c.toNat≤122)
def digitB (c:UInt8):Bool:=decide (48≤c.toNat)&&decide (c.toNat≤57)
def smallB (c:UInt8):Bool:=letterB c||digitB c
def vOk:Bool→List UInt8→Bool
 |_,[]=>true
 |b,c::l=>(letterB c||(!b&&digitB c))&&vOk false l
def varB (s:ByteArray):Bool:=vOk true s.data.toList&&(decide (1≤s.size)&&decide (s.size≤60))
theorem qvc (l:List UInt8):vOk false l=l.all smallB:=by
 induction l with
 |nil=>rfl
 |cons c l ih=>simp only [vOk,List.all_cons,ih,smallB,Bool.not_false,Bool.true_and]
theorem q4t (s:ByteArray) {k:Nat} (h:k<s.size):s.data.toList.drop k=s.data.getD k 0::s.data.toList.drop (k+1):=by
 have h':k<s.data.toList.length:=by simpa using h
 rw [q5h h']
 congr 1
 have:k<s.data.size:=h
 show _=if h:k<s.data.size then s.data[k] else 0
 rw [dif_pos this]
 simp
theorem var1_s (c:UInt8):qqd ((c.toNat:Nat):Int)=some (smallB c):=by
 refine qqc ?_
 simp only [qqe,q3l,smallB,letterB,digitB]
 by_cases h1:(97:Int)≤c.toNat <;> by_cases h2:(c.toNat:Int)≤122 <;> by_cases h3:(48:Int)≤c.toNat <;> by_cases h4:(c.toNat:Int)≤57 <;>
  simp [h1,h2,h3,h4,show (97≤c.toNat) ↔ ((97:Int)≤c.toNat) by omega,show (c.toNat≤122) ↔ ((c.toNat:Int)≤122) by omega,show (48≤c.toNat) ↔ ((48:Int)≤c.toNat) by omega,show (c.toNat≤57) ↔ ((c.toNat:Int)≤57) by omega]
theorem q1o (s:ByteArray) (hl:s.size≤big):∀ m k,k+m=s.size→∃ x,q1d s s.size k=some x∧Sum.elim (fun r=>r.1) (fun _=>true) x=(s.data.toList.drop k).all smallB:=by
 intro m
 induction m with
 |zero =>
  intro k hk
  have hk:k=s.size:=by omega
  subst hk
  refine ⟨.inr ((s,(),(s.size:Int),(s.size:Int),false),()),q1f (by
   simp only [q1k,wI,p0,q3l,q8h]
   simp),?_⟩
  have:s.data.toList.drop s.size=[]:=List.drop_eq_nil_of_le (by simp <;> rfl)
  rw [this];rfl
 |succ m ihm =>
  intro k hk
  have hlt:k<s.size:=by omega
  have e1:((k:Int)<(s.size:Int)):=by omega
  have e2:IntKind.i64.wrap ((k:Int)+1)=((k+1:Nat):Int):=qvt hlt (by unfold big at hl;omega)
  rw [q4t s hlt,List.all_cons]
  cases h0:smallB (s.data.getD k 0) with
  |true =>
   obtain ⟨x,h1,h2⟩:=ihm (k+1) (by omega)
   refine ⟨x,q1f ?_,by simpa using h2⟩
   simp only [q1k,wI,p0,q3l,q8h]
   simp only [e1,decide_true,if_true,show (0:Int)≤(k:Int) by omega,Int.toNat_natCast,hlt,Bool.and_self,var1_s,h0,Option.bind_some,e2]
   exact h1
  |false =>
   refine ⟨.inl (false,()),q1f ?_,rfl⟩
   simp only [q1k,wI,p0,q3l,q8h]
   simp only [e1,decide_true,if_true,show (0:Int)≤(k:Int) by omega,Int.toNat_natCast,hlt,Bool.and_self,var1_s,h0,Option.bind_some]
   rfl
theorem q1l (s:ByteArray) (hl:s.size≤big):q1m s=some (s.data.toList.all smallB):=by
 obtain ⟨x,h1,h2⟩:=q1o s hl s.size 0 (by omega)
 refine q1c ?_
 have e:q1d s s.size 0=some x:=h1
 simp only [q1n,e,Option.bind_some]
 rw [List.drop_zero] at h2
 cases x <;> simp only [Sum.elim_inl,Sum.elim_inr] at h2 ⊢ <;> rw [←h2]
theorem qvh (s:ByteArray):qqj s=some (varB s):=by
 refine qqi ?_
 simp only [qqk,q3l,q8h,qwb]
 unfold varB
 by_cases h0:s.size=0
 ·have:em s=true:=by rw [q5p];simpa using h0
  simp [this,h0]
 have hem:em s=false:=by rw [q5p];simpa using h0
 by_cases h1:s.size≤60
 case neg =>
  simp [hem,show ¬ ((s.size:Int)≤60) by omega,h1]
 have hb:s.size≤big:=by unfold big;omega
 have h2:=q4t s (k:=0) (by omega)
 rw [List.drop_zero] at h2
 rw [q1l s hb,h2]
 simp only [hem,show ((s.size:Int)≤60) by omega,decide_true,Option.bind_some,List.all_cons,vOk,qvc,h1,show 1≤s.size by omega,Bool.and_true,Int.toNat_zero,show 0<s.size by omega,Bool.not_true,Bool.false_and,Bool.or_false]
 cases (List.drop 1 s.data.toList).all smallB with
 |false=>simp
 |true =>
  simp only [Bool.and_true,Bool.not_false,beq_self_eq_true,if_true,show (0:Int)≤0 by omega,decide_true]
  have key:∀ c:UInt8,(if (smallB c==true)=true then some (decide (((c.toNat:Nat):Int)>57)) else some false)=some (letterB c):=by
   intro c
   unfold smallB letterB digitB
   by_cases h5:97≤c.toNat <;> by_cases h6:c.toNat≤122 <;> by_cases h7:48≤c.toNat <;> by_cases h8:c.toNat≤57 <;> simp [h5,h6,h7,h8] <;> omega
  exact key _
theorem in97 (c:UInt8):(decide ((97:Int)≤IntKind.i64.wrap (c.toNat:Nat))&&decide (IntKind.i64.wrap (c.toNat:Nat)≤122))=letterB c:=by
 have h:c.toNat<256:=c.toNat_lt
 rw [qvs (by omega)]
 unfold letterB
 rw [Bool.eq_iff_iff];simp;omega
theorem in48 (c:UInt8):(decide ((48:Int)≤IntKind.i64.wrap (c.toNat:Nat))&&decide (IntKind.i64.wrap (c.toNat:Nat)≤57))=digitB c:=by
 have h:c.toNat<256:=c.toNat_lt
 rw [qvs (by omega)]
 unfold digitB
 rw [Bool.eq_iff_iff];simp;omega
theorem q175 (s:ByteArray) (hl:s.size≤big):∀ m k,k+m=s.size→∃ x,q15h s k=some x∧Sum.elim (fun r=>r.1=false∧vOk (k==0) (s.data.toList.drop k)=false) (fun r=>r.1.1=s∧vOk (k==0) (s.data.toList.drop k)=true) x:=by
 intro m
 induction m with
 |zero =>
  intro k hk
  have hk:k=s.size:=by omega
  subst hk
  refine ⟨.inr ((s,(s.size:Int),false),()),q15j (by
   simp only [q15o,wI,p0,q3l,q8h]
   simp),?_⟩
  have:s.data.toList.drop s.size=[]:=List.drop_eq_nil_of_le (by simp <;> rfl)
  rw [this];exact ⟨rfl,rfl⟩
 |succ m ihm =>
  intro k hk
  have hlt:k<s.size:=by omega
  have e1:((k:Int)<(s.size:Int)):=by omega
  have e2:IntKind.i64.wrap ((k:Int)+1)=((k+1:Nat):Int):=qvt hlt (by unfold big at hl;omega)
  have e3:decide ((k:Int)>0)=!(k==0):=by
   by_cases h:k=0
   ·simp [h]
   ·have h':((k:Int)>0):=by omega
    rw [decide_eq_true h',show (k==0)=false by simpa using h]
    rfl
  rw [q4t s hlt]
  obtain ⟨x,h1,h2⟩:=ihm (k+1) (by omega)
  have hk1:((k+1:Nat)==0)=false:=by simp
  rw [hk1] at h2
  cases h0:(letterB (s.data.getD k 0)||(!(k==0)&&digitB (s.data.getD k 0))) with
  |true =>
   refine ⟨x,q15j ?_,?_⟩
   ·simp only [q15o,wI,p0,q3l,q8h,qwd,Option.bind_some]
    simp only [e1,decide_true,if_true,show (0:Int)≤(k:Int) by omega,Int.toNat_natCast,hlt,Bool.and_self,in97,in48,e2,e3,h1]
    cases h4:letterB (s.data.getD k 0) with
    |true=>rfl
    |false =>
     rw [h4,Bool.false_or,Bool.and_eq_true] at h0
     simp only [h0.1,h0.2]
     rfl
   ·cases x <;> simp only [Sum.elim_inl,Sum.elim_inr] at h2 ⊢ <;> simp only [vOk,h0,Bool.true_and] <;> exact h2
  |false =>
   refine ⟨.inl (false,()),q15j ?_,?_⟩
   ·simp only [q15o,wI,p0,q3l,q8h,qwd,Option.bind_some]
    simp only [e1,decide_true,if_true,show (0:Int)≤(k:Int) by omega,Int.toNat_natCast,hlt,Bool.and_self,in97,in48,e2,e3,h1]
    rw [Bool.or_eq_false_iff] at h0
    cases hk0:(k==0) with
    |true=>simp only [h0.1];rfl
    |false =>
     rw [hk0,Bool.not_false,Bool.true_and] at h0
     simp only [h0.1,h0.2]
     rfl
   ·exact ⟨rfl,by simp only [vOk,h0,Bool.false_and]⟩
theorem rvar_s (s:ByteArray) (hl:s.size≤big):q15p s=some (varB s):=by
 obtain ⟨x,h1,h2⟩:=q175 s hl s.size 0 (by omega)
 refine q15g ?_
 have e:q15h s 0=some x:=h1
 simp only [q15q,e,Option.bind_some,qwd]
 rw [List.drop_zero] at h2
 unfold varB
 cases x with
 |inl r=>simp only [Sum.elim_inl] at h2 ⊢;rw [h2.1,show vOk true s.data.toList=false from h2.2];rfl
 |inr r =>
  simp only [Sum.elim_inr] at h2 ⊢
  rw [h2.1,show vOk true s.data.toList=true from h2.2]
  congr 1
  rw [Bool.eq_iff_iff];simp;omega
end Go.Proofs.YtognhcibcocbkaaGreatDoor
