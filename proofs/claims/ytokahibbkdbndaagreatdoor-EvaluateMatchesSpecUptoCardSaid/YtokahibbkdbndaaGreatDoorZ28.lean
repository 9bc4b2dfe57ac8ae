/- What the reference's checks of tests answer: the same. -/
import Derived.Test.YtokahibbkdbndaaGreatDoorZ27
namespace Go.Proofs.YtokahibbkdbndaaGreatDoor
open Go.RowKit
theorem q1hu (k:Int) (nt:Nat) (nm:ByteArray) (p:Int) (tx:ByteArray) (n d e:Int):(if (tHead k nt nm p tx n d != 0)=true then tHead k nt nm p tx n d else e) =
 if decide (d>8)=true then 5
 else if (decide (k<1)||decide (k>9))=true then 4
 else if (!innerB k nt)=true then 5
 else if ((!(k==5||k==9)&&!em nm)||(!(k==5||k==6||k==7)&&(!(p==0)||!em tx))||(!(k==8)&&!(n==0)))=true then 5
 else if ((k==5||k==9)&&(em nm||decide ((nm.size:Int)>60)))=true then 10
 else if ((k==5||k==6||k==7)&&(decide (p<1)||decide (p>3)))=true then 4
 else if decide ((tx.size:Int)>200)=true then 1
 else if (decide (n<0)||decide (n>1000000))=true then 3
 else e:=by
 unfold tHead
 generalize decide (d>8)=c1
 generalize (decide (k<1)||decide (k>9))=c2
 generalize (!innerB k nt)=c3
 generalize ((!(k==5||k==9)&&!em nm)||(!(k==5||k==6||k==7)&&(!(p==0)||!em tx))||(!(k==8)&&!(n==0)))=c4
 generalize ((k==5||k==9)&&(em nm||decide ((nm.size:Int)>60)))=c5
 generalize ((k==5||k==6||k==7)&&(decide (p<1)||decide (p>3)))=c6
 generalize decide ((tx.size:Int)>200)=c7
 generalize (decide (n<0)||decide (n>1000000))=c8
 cases c1 <;> first|rfl|skip
 cases c2 <;> first|rfl|skip
 cases c3 <;> first|rfl|skip
 cases c4 <;> first|rfl|skip
 cases c5 <;> first|rfl|skip
 cases c6 <;> first|rfl|skip
 cases c7 <;> first|rfl|skip
 cases c8 <;> rfl
theorem in_not (n a b:Int):(!(decide (a≤n)&&decide (n≤b)))=(decide (n<a)||decide (n>b)):=by
 rw [Bool.eq_iff_iff]
 simp only [Bool.not_eq_true',Bool.and_eq_false_iff,decide_eq_false_iff_not,Bool.or_eq_true,decide_eq_true_eq]
 omega
theorem in57 (k:Int):(decide (5≤k)&&decide (k≤7))=(k==5||k==6||k==7):=by
 rw [Bool.eq_iff_iff]
 simp only [Bool.and_eq_true,decide_eq_true_eq,Bool.or_eq_true,beq_iff_eq]
 omega
theorem in24 (k:Int):(decide (2≤k)&&decide (k≤4))=(k==2||k==3||k==4):=by
 rw [Bool.eq_iff_iff]
 simp only [Bool.and_eq_true,decide_eq_true_eq,Bool.or_eq_true,beq_iff_eq]
 omega
theorem uses_s (k:Int):q19o k=some (k==2||k==3||k==4,k==5||k==9,k==5||k==6||k==7,k==8):=by
 refine q19n ?_
 simp only [q19p,q7r,qq6,Option.bind_some,in57,in24]
 cases (k==5) <;> simp
section
variable {depth b0 b0_3 b0_5 e:Int} {b0_1:List S48} {b0_2 b0_4:ByteArray}
theorem tg16 (hg:q16e depth b0 b0_1 b0_2 b0_3 b0_4 b0_5=some (e,())):q167 depth b0 b0_1 b0_2 b0_3 b0_4 b0_5=some (if (decide (b0_5<0)||decide (b0_5>1000000))=true then 3 else e,()):=by
 refine q169 ?_
 simp only [q16d,gL,dL,q7r,qn6,EC.decL_encL,EC.isL_encL,qq6,Option.bind_some,in_not,hg,if_true]
 generalize (decide (b0_5<0)||decide (b0_5>1000000))=c
 cases c <;> rfl
theorem tg14 (hg:q167 depth b0 b0_1 b0_2 b0_3 b0_4 b0_5=some (e,())):q160 depth b0 b0_1 b0_2 b0_3 b0_4 b0_5=some (if decide ((b0_4.size:Int)>200)=true then 1 else e,()):=by
 refine q162 ?_
 simp only [q166,gL,dL,q7r,qn6,EC.decL_encL,EC.isL_encL,hg,Option.bind_some,if_true]
 generalize decide ((b0_4.size:Int)>200)=c
 cases c <;> rfl
theorem tg12 {text:Bool} (hg:q160 depth b0 b0_1 b0_2 b0_3 b0_4 b0_5=some (e,())):q15t depth text b0 b0_1 b0_2 b0_3 b0_4 b0_5=some (if (text&&(decide (b0_3<1)||decide (b0_3>3)))=true then 4 else e,()):=by
 refine q15v ?_
 simp only [q15z,gL,dL,q7r,qn6,EC.decL_encL,EC.isL_encL,qq6,Option.bind_some,in_not,hg,if_true]
 generalize (decide (b0_3<1)||decide (b0_3>3))=c
 cases text <;> cases c <;> rfl
theorem qq7 (s:ByteArray):(decide ((s.size:Int)<1)||decide ((s.size:Int)>60))=(em s||decide ((s.size:Int)>60)):=by
 rw [qbh,Bool.eq_iff_iff]
 simp only [Bool.or_eq_true,decide_eq_true_eq]
 omega
theorem tg10 {name text:Bool} (hg:q15t depth text b0 b0_1 b0_2 b0_3 b0_4 b0_5=some (e,())):q15m depth name text b0 b0_1 b0_2 b0_3 b0_4 b0_5=some (if (name&&(em b0_2||decide ((b0_2.size:Int)>60)))=true then 10 else e,()):=by
 refine q15o ?_
 simp only [q15s,gL,dL,q7r,qn6,EC.decL_encL,EC.isL_encL,qq6,Option.bind_some,in_not,hg,if_true,qq7]
 generalize (em b0_2||decide ((b0_2.size:Int)>60))=c
 cases name <;> cases c <;> rfl
theorem tg8 {name text number:Bool} (hg:q15m depth name text b0 b0_1 b0_2 b0_3 b0_4 b0_5=some (e,())):q16s depth name text number b0 b0_1 b0_2 b0_3 b0_4 b0_5=some (if ((!name&&!em b0_2)||(!text&&(!(b0_3==0)||!em b0_4))||(!number&&!(b0_5==0)))=true then 5 else e,()):=by
 refine q16u ?_
 simp only [q16y,z24,gL,dL,q7r,qn6,EC.decL_encL,EC.isL_encL,Option.bind_some,hg,if_true,qbg,bne]
 generalize em b0_2=c1
 generalize em b0_4=c2
 generalize (b0_3==0)=c3
 generalize (b0_5==0)=c4
 cases name <;> cases text <;> cases number <;> cases c1 <;> cases c2 <;> cases c3 <;> cases c4 <;> rfl
theorem tg6 {name text number:Bool} (hg:q16s depth name text number b0 b0_1 b0_2 b0_3 b0_4 b0_5=some (e,())) (hk:1≤b0∧b0≤9):q16l depth (b0==2||b0==3||b0==4) name text number b0 b0_1 b0_2 b0_3 b0_4 b0_5=some (if (!innerB b0 b0_1.length)=true then 5 else e,()):=by
 refine q16n ?_
 simp only [q16r,z25,gL,dL,lN,q7r,qn6,EC.decL_encL,EC.isL_encL,EC.encL_length,Option.bind_some,hg,if_true]
 have e1:(((b0_1.length:Nat):Int)==0)=(b0_1.length==0):=by rw [Bool.eq_iff_iff];simp
 have e2:decide (((b0_1.length:Nat):Int)>0)=!(b0_1.length==0):=by
  by_cases h:b0_1.length=0
  ·simp [h]
  ·have h':((b0_1.length:Nat):Int)>0:=by omega
   rw [decide_eq_true h',show (b0_1.length==0)=false by simpa using h]
   rfl
 have e3:decide (((b0_1.length:Nat):Int)>1)=decide (b0_1.length>1):=by rw [Bool.eq_iff_iff];simp;omega
 have e4:decide (((b0_1.length:Nat):Int)>60)=decide (b0_1.length>60):=by rw [Bool.eq_iff_iff];simp;omega
 rw [e1,e2,e3,e4]
 unfold innerB
 have hk:b0=1∨b0=2∨b0=3∨b0=4∨b0=5∨b0=6∨b0=7∨b0=8∨b0=9:=by omega
 by_cases h0:b0_1.length=0
 ·rcases hk with rfl|rfl|rfl|rfl|rfl|rfl|rfl|rfl|rfl <;> simp [h0]
 by_cases h1:b0_1.length=1
 ·rcases hk with rfl|rfl|rfl|rfl|rfl|rfl|rfl|rfl|rfl <;> simp [h1]
 have h2:b0_1.length>1:=by omega
 have h3:1≤b0_1.length:=by omega
 by_cases h60:b0_1.length>60
 ·rcases hk with rfl|rfl|rfl|rfl|rfl|rfl|rfl|rfl|rfl <;> simp [h0,h1,h2,h3,h60,Nat.not_le.2 h60]
 ·rcases hk with rfl|rfl|rfl|rfl|rfl|rfl|rfl|rfl|rfl <;> simp [h0,h1,h2,h3,h60,Nat.not_lt.1 h60]
end
theorem q1kp (k:Int) (ts:List S48) (nm:ByteArray) (p:Int) (tx:ByteArray) (n:Int) (d:Nat) (e:Int) (hg:d≤8→q16e d k ts nm p tx n=some (e,())) :
  q177 k ts nm p tx n d=some (if (tHead k ts.length nm p tx n d != 0)=true then tHead k ts.length nm p tx n d else e):=by
 refine q15l ?_
 rw [q1hu]
 simp only [q178,gL,dL,q7r,qn6,EC.decL_encL,EC.isL_encL,qq6,uses_s,Option.bind_some,if_true,in_not]
 cases hd:decide ((d:Int)>8) with
 |true=>rfl
 |false =>
 cases hk:(decide (k<1)||decide (k>9)) with
 |true=>rfl
 |false =>
  have hk':1≤k∧k≤9:=by
   simp only [Bool.or_eq_false_iff,decide_eq_false_iff_not] at hk;omega
  rw [tg6 (tg8 (tg10 (tg12 (tg14 (tg16 (hg (by have:=of_decide_eq_false hd;omega))))))) hk']
  rfl
theorem q1kq (d:Nat) (hd:d≤8) (b0 b0_3 b0_5:Int) (b0_2 b0_4:ByteArray) (ts:List S48) (hl:ts.length≤big) (ih:∀ t∈ts,q177 t.Kind t.Tests t.Name t.Pattern t.Text t.N ((d+1:Nat):Int)=some (tfT t (d+1))) :
  ∀ m k,k+m=ts.length→∃ x,q16z d k b0 ts b0_2 b0_3 b0_4 b0_5=some x∧Sum.elim (fun r=>r.1) (fun _=>0) x=tfL (ts.drop k) (d+1):=by
 intro m
 induction m with
 |zero =>
  intro k hk
  have hk:k=ts.length:=by omega
  subst hk
  refine ⟨.inr (((d:Int),(),(ts.length:Int),false),(b0,ts,b0_2,b0_3,b0_4,b0_5)),q171 (by
   simp only [q176,z23,gL,dL,lN,eC,wI,p0,uL,q7r,qn6,EC.decL_encL,EC.isL_encL,EC.encL_length,qqp,q4b,q4c,q4d,q4e,q4f,q4g]
   simp),?_⟩
  simp [tfL]
 |succ m ihm =>
  intro k hk
  have hlt:k<ts.length:=by omega
  have i1:=ih ts[k] (List.getElem_mem hlt)
  have e1:((k:Int)<(ts.length:Int)):=by omega
  have e2:IntKind.i64.wrap ((k:Int)+1)=((k+1:Nat):Int):=q1m2 hlt (by unfold big at hl;omega)
  have e3:IntKind.i64.wrap ((d:Int)+1)=((d+1:Nat):Int):=q1m2 (n:=100) (by omega) (by omega)
  rw [qag hlt,tfL]
  by_cases h0:tfT ts[k] (d+1)=0
  ·obtain ⟨x,h1,h2⟩:=ihm (k+1) (by omega)
   refine ⟨x,q171 ?_,?_⟩
   ·simp only [q176,z23,gL,dL,lN,eC,wI,p0,uL,q7r,qn6,EC.decL_encL,EC.isL_encL,EC.encL_length,qqp,q4b,q4c,q4d,q4e,q4f,q4g]
    simp only [e1,decide_true,if_true,show (0:Int)≤(k:Int) by omega,Int.toNat_natCast,hlt,Bool.and_self,qn9 hlt,e3,i1,Option.bind_some,h0,e2]
    exact h1
   ·rw [if_neg (by simpa using h0)];exact h2
  ·refine ⟨.inl (tfT ts[k] (d+1),()),q171 ?_,?_⟩
   ·simp only [q176,z23,gL,dL,lN,eC,wI,p0,uL,q7r,qn6,EC.decL_encL,EC.isL_encL,EC.encL_length,qqp,q4b,q4c,q4d,q4e,q4f,q4g]
    simp only [e1,decide_true,if_true,show (0:Int)≤(k:Int) by omega,Int.toNat_natCast,hlt,Bool.and_self,qn9 hlt,e3,i1,Option.bind_some]
    simp [h0]
   ·rw [if_pos h0];rfl
theorem q1kr (t:S48) (ho:okT t) (d:Nat):q177 t.Kind t.Tests t.Name t.Pattern t.Text t.N d=some (tfT t d):=by
 generalize hn:tzT t=n
 induction n using Nat.strongRecOn generalizing t d with
 |_ n ih =>
  subst hn
  obtain ⟨hl,hol⟩:=(okT_eq t).1 ho
  rw [q1kp (e:=tfL t.Tests (d+1)),tfT_eq]
  ·congr 1
   by_cases h:tHead t.Kind t.Tests.length t.Name t.Pattern t.Text t.N d=0 <;> simp [h]
  ·intro hd
   obtain ⟨x,h1,h2⟩:=q1kq d hd t.Kind t.Pattern t.N t.Name t.Text t.Tests hl (fun t' ht'=>ih (tzT t') (by have:=tz_mem ht';rw [tzT_eq t];omega) t' (qv7 hol ht') (d+1) rfl) t.Tests.length 0 (by omega)
   refine q16g ?_
   simp only [q16k,gL,dL,qn6,EC.decL_encL,EC.isL_encL]
   have e:q16z d 0 t.Kind t.Tests t.Name t.Pattern t.Text t.N=some x:=h1
   rw [List.drop_zero] at h2
   simp only [if_true,e,Option.bind_some]
   cases x <;> simp only [Sum.elim_inl,Sum.elim_inr] at h2 ⊢ <;> rw [←h2]
end Go.Proofs.YtokahibbkdbndaaGreatDoor
namespace Go.Proofs.YtokahibbkdbndaaGreatDoor
open Go.RowKit
def letterB (c:UInt8):Bool:=decide (97≤c.toNat)&&decide (c.toNat≤122)
def digitB (c:UInt8):Bool:=decide (48≤c.toNat)&&decide (c.toNat≤57)
def smallB (c:UInt8):Bool:=letterB c||digitB c
def vOk:Bool→List UInt8→Bool
 |_,[]=>true
 |b,c::l=>(letterB c||(!b&&digitB c))&&vOk false l
def varB (s:ByteArray):Bool:=vOk true s.data.toList&&(decide (1≤s.size)&&decide (s.size≤60))
theorem q1lb (l:List UInt8):vOk false l=l.all smallB:=by
 induction l with
 |nil=>rfl
 |cons c l ih=>simp only [vOk,List.all_cons,ih,smallB,Bool.not_false,Bool.true_and]
theorem q9t (s:ByteArray) {k:Nat} (h:k<s.size):s.data.toList.drop k=s.data.getD k 0::s.data.toList.drop (k+1):=by
 have h':k<s.data.toList.length:=by simpa using h
 rw [qag h']
 congr 1
 have:k<s.data.size:=h
 show _=if h:k<s.data.size then s.data[k] else 0
 rw [dif_pos this]
 simp
theorem var1_s (c:UInt8):q1e6 ((c.toNat:Nat):Int)=some (smallB c):=by
 refine q1e5 ?_
 simp only [q1e7,q7r,smallB,letterB,digitB]
 by_cases h1:(97:Int)≤c.toNat <;> by_cases h2:(c.toNat:Int)≤122 <;> by_cases h3:(48:Int)≤c.toNat <;> by_cases h4:(c.toNat:Int)≤57 <;>
  simp [h1,h2,h3,h4,show (97≤c.toNat) ↔ ((97:Int)≤c.toNat) by omega,show (c.toNat≤122) ↔ ((c.toNat:Int)≤122) by omega,show (48≤c.toNat) ↔ ((48:Int)≤c.toNat) by omega,show (c.toNat≤57) ↔ ((c.toNat:Int)≤57) by omega]
theorem q3m (s:ByteArray) (hl:s.size≤big):∀ m k,k+m=s.size→∃ x,q37 s s.size k=some x∧Sum.elim (fun r=>r.1) (fun _=>true) x=(s.data.toList.drop k).all smallB:=by
 intro m
 induction m with
 |zero =>
  intro k hk
  have hk:k=s.size:=by omega
  subst hk
  refine ⟨.inr ((s,(),(s.size:Int),(s.size:Int),false),()),q39 (by
   simp only [q3e,wI,p0,q7r,qn6]
   simp),?_⟩
  have:s.data.toList.drop s.size=[]:=List.drop_eq_nil_of_le (by simp <;> rfl)
  rw [this];rfl
 |succ m ihm =>
  intro k hk
  have hlt:k<s.size:=by omega
  have e1:((k:Int)<(s.size:Int)):=by omega
  have e2:IntKind.i64.wrap ((k:Int)+1)=((k+1:Nat):Int):=q1m2 hlt (by unfold big at hl;omega)
  rw [q9t s hlt,List.all_cons]
  cases h0:smallB (s.data.getD k 0) with
  |true =>
   obtain ⟨x,h1,h2⟩:=ihm (k+1) (by omega)
   refine ⟨x,q39 ?_,by simpa using h2⟩
   simp only [q3e,wI,p0,q7r,qn6]
   simp only [e1,decide_true,if_true,show (0:Int)≤(k:Int) by omega,Int.toNat_natCast,hlt,Bool.and_self,var1_s,h0,Option.bind_some,e2]
   exact h1
  |false =>
   refine ⟨.inl (false,()),q39 ?_,rfl⟩
   simp only [q3e,wI,p0,q7r,qn6]
   simp only [e1,decide_true,if_true,show (0:Int)≤(k:Int) by omega,Int.toNat_natCast,hlt,Bool.and_self,var1_s,h0,Option.bind_some]
   rfl
theorem q3f (s:ByteArray) (hl:s.size≤big):q3g s=some (s.data.toList.all smallB):=by
 obtain ⟨x,h1,h2⟩:=q3m s hl s.size 0 (by omega)
 refine q36 ?_
 have e:q37 s s.size 0=some x:=h1
 simp only [q3h,e,Option.bind_some]
 rw [List.drop_zero] at h2
 cases x <;> simp only [Sum.elim_inl,Sum.elim_inr] at h2 ⊢ <;> rw [←h2]
theorem q1lm (s:ByteArray):q1ec s=some (varB s):=by
 refine q1eb ?_
 simp only [q1ed,q7r,qn6,qbg]
 unfold varB
 by_cases h0:s.size=0
 ·have:em s=true:=by rw [qbh];simpa using h0
  simp [this,h0]
 have hem:em s=false:=by rw [qbh];simpa using h0
 by_cases h1:s.size≤60
 case neg =>
  simp [hem,show ¬ ((s.size:Int)≤60) by omega,h1]
 have hb:s.size≤big:=by unfold big;omega
 have h2:=q9t s (k:=0) (by omega)
 rw [List.drop_zero] at h2
 rw [q3f s hb,h2]
 simp only [hem,show ((s.size:Int)≤60) by omega,decide_true,Option.bind_some,List.all_cons,vOk,q1lb,h1,show 1≤s.size by omega,Bool.and_true,Int.toNat_zero,show 0<s.size by omega,Bool.not_true,Bool.false_and,Bool.or_false]
 cases (List.drop 1 s.data.toList).all smallB with
 |false=>simp
 |true =>
  simp only [Bool.and_true,Bool.not_false,beq_self_eq_true,if_true,show (0:Int)≤0 by omega,decide_true]
  have key:∀ c:UInt8,(if (smallB c==true)=true then some (decide (((c.toNat:Nat):Int)>57)) else some false)=some (letterB c):=by
   intro c
   unfold smallB letterB digitB
   by_cases h5:97≤c.toNat <;> by_cases h6:c.toNat≤122 <;> by_cases h7:48≤c.toNat <;> by_cases h8:c.toNat≤57 <;> simp [h5,h6,h7,h8] <;> omega
  exact key _
theorem in97 (c:UInt8):(decide ((97:Int)≤IntKind.i64.wrap (c.toNat:Nat))&&decide (IntKind.i64.wrap (c.toNat:Nat)≤122))=letterB c:=by
 have h:c.toNat<256:=c.toNat_lt
 rw [q1m1 (by omega)]
 unfold letterB
 rw [Bool.eq_iff_iff];simp;omega
theorem in48 (c:UInt8):(decide ((48:Int)≤IntKind.i64.wrap (c.toNat:Nat))&&decide (IntKind.i64.wrap (c.toNat:Nat)≤57))=digitB c:=by
 have h:c.toNat<256:=c.toNat_lt
 rw [q1m1 (by omega)]
 unfold digitB
 rw [Bool.eq_iff_iff];simp;omega
theorem q1ll (s:ByteArray) (hl:s.size≤big):∀ m k,k+m=s.size→∃ x,q18q s k=some x∧Sum.elim (fun r=>r.1=false∧vOk (k==0) (s.data.toList.drop k)=false) (fun r=>r.1.1=s∧vOk (k==0) (s.data.toList.drop k)=true) x:=by
 intro m
 induction m with
 |zero =>
  intro k hk
  have hk:k=s.size:=by omega
  subst hk
  refine ⟨.inr ((s,(s.size:Int),false),()),q18s (by
   simp only [q18x,wI,p0,q7r,qn6]
   simp),?_⟩
  have:s.data.toList.drop s.size=[]:=List.drop_eq_nil_of_le (by simp <;> rfl)
  rw [this];exact ⟨rfl,rfl⟩
 |succ m ihm =>
  intro k hk
  have hlt:k<s.size:=by omega
  have e1:((k:Int)<(s.size:Int)):=by omega
  have e2:IntKind.i64.wrap ((k:Int)+1)=((k+1:Nat):Int):=q1m2 hlt (by unfold big at hl;omega)
  have e3:decide ((k:Int)>0)=!(k==0):=by
   by_cases h:k=0
   ·simp [h]
   ·have h':((k:Int)>0):=by omega
    rw [decide_eq_true h',show (k==0)=false by simpa using h]
    rfl
  rw [q9t s hlt]
  obtain ⟨x,h1,h2⟩:=ihm (k+1) (by omega)
  have hk1:((k+1:Nat)==0)=false:=by simp
  rw [hk1] at h2
  cases h0:(letterB (s.data.getD k 0)||(!(k==0)&&digitB (s.data.getD k 0))) with
  |true =>
   refine ⟨x,q18s ?_,?_⟩
   ·simp only [q18x,wI,p0,q7r,qn6,qq6,Option.bind_some]
    simp only [e1,decide_true,if_true,show (0:Int)≤(k:Int) by omega,Int.toNat_natCast,hlt,Bool.and_self,in97,in48,e2,e3,h1]
    cases h4:letterB (s.data.getD k 0) with
    |true=>rfl
    |false =>
     rw [h4,Bool.false_or,Bool.and_eq_true] at h0
     simp only [h0.1,h0.2]
     rfl
   ·cases x <;> simp only [Sum.elim_inl,Sum.elim_inr] at h2 ⊢ <;> simp only [vOk,h0,Bool.true_and] <;> exact h2
  |false =>
   refine ⟨.inl (false,()),q18s ?_,?_⟩
   ·simp only [q18x,wI,p0,q7r,qn6,qq6,Option.bind_some]
    simp only [e1,decide_true,if_true,show (0:Int)≤(k:Int) by omega,Int.toNat_natCast,hlt,Bool.and_self,in97,in48,e2,e3,h1]
    rw [Bool.or_eq_false_iff] at h0
    cases hk0:(k==0) with
    |true=>simp only [h0.1];rfl
    |false =>
     rw [hk0,Bool.not_false,Bool.true_and] at h0
     simp only [h0.1,h0.2]
     rfl
   ·exact ⟨rfl,by simp only [vOk,h0,Bool.false_and]⟩
theorem rvar_s (s:ByteArray) (hl:s.size≤big):q18y s=some (varB s):=by
 obtain ⟨x,h1,h2⟩:=q1ll s hl s.size 0 (by omega)
 refine q18p ?_
 have e:q18q s 0=some x:=h1
 simp only [q18z,e,Option.bind_some,qq6]
 rw [List.drop_zero] at h2
 unfold varB
 cases x with
 |inl r=>simp only [Sum.elim_inl] at h2 ⊢;rw [h2.1,show vOk true s.data.toList=false from h2.2];rfl
 |inr r =>
  simp only [Sum.elim_inr] at h2 ⊢
  rw [h2.1,show vOk true s.data.toList=true from h2.2]
  congr 1
  rw [Bool.eq_iff_iff];simp;omega
def txtB (act:Int):Bool:=act==2||act==4||act==5||act==7
theorem q1kn (act:Int):q1du act=some (txtB act):=by
 refine q1dt ?_
 simp only [q1dv,q7r,txtB]
 cases act==2 <;> cases act==4 <;> cases act==5 <;> cases act==7 <;> rfl
theorem q1b8 (act:Int):q186 act=some (txtB act):=by
 refine q185 ?_
 simp only [q187,q7r,txtB]
 cases act==2 <;> cases act==4 <;> cases act==5 <;> cases act==7 <;> rfl
def noB (k:Int) (nt:Nat) (nm:ByteArray) (p:Int) (tx:ByteArray) (n:Int):Bool:=k==0&&(nt==0&&(em nm&&(p==0&&(em tx&&n==0))))
theorem quz (k:Int) (ts:List S48) (nm:ByteArray) (p:Int) (tx:ByteArray) (n:Int):q1cr k ts nm p tx n=some (noB k ts.length nm p tx n):=by
 refine q1cq ?_
 simp only [q1cs,lN,q7r,EC.encL_length,qbg,noB]
 have e1:(((ts.length:Nat):Int)==0)=(ts.length==0):=by rw [Bool.eq_iff_iff];simp
 rw [e1]
 cases k==0 <;> cases ts.length==0 <;> cases em nm <;> cases p==0 <;> cases em tx <;> cases n==0 <;> rfl
def pHead (no len:Bool) (k act:Int) (nm tx:ByteArray) (n:Int):Int :=
 if (!no||len||(!(k==2)&&(!(act==0)||!(n==0)))||(!(k==3)&&!em nm)||((k==4)&&!em tx))=true then 5
 else if ((k==2)&&(decide (act<1)||decide (act>7)))=true then 4
 else if ((k==2)&&((!txtB act&&!em tx)||(!(act==6)&&!(n==0))))=true then 5
 else if ((k==3)&&!varB nm)=true then 10
 else if decide ((tx.size:Int)>200)=true then 1
 else if (decide (n<0)||decide (n>63))=true then 3
 else 0
theorem qs4 {a b:Nat} (ha:a≤big) (hb:b≤big):decide (IntKind.i64.wrap (((a:Nat):Int)+((b:Nat):Int))>0)=(!(a==0)||!(b==0)):=by
 rw [q1m1 (by unfold big at *;omega)]
 rw [Bool.eq_iff_iff]
 simp only [decide_eq_true_eq,Bool.or_eq_true,Bool.not_eq_true',beq_eq_false_iff_ne]
 omega
theorem qxn (k tk:Int) (tts:List S48) (tnm:ByteArray) (tp:Int) (ttx:ByteArray) (tn:Int) (t e:List S50) (act:Int) (nm tx:ByteArray) (n:Int) (ht:t.length≤big) (he:e.length≤big) :
  q1cx k tk tts tnm tp ttx tn t e act nm tx n=some (pHead (noB tk tts.length tnm tp ttx tn) (!(t.length==0)||!(e.length==0)) k act nm tx n):=by
 refine q1cw ?_
 simp only [q1cy,z1m,z1n,z1o,z1p,z1q,gL,dL,lN,q7r,qn6,EC.decL_encL,EC.isL_encL,EC.encL_length,quz,q1kn,q1lm,Option.bind_some,qbg,if_true,qs4 ht he,bne]
 unfold pHead
 generalize noB tk tts.length tnm tp ttx tn=c1
 generalize (!(t.length==0)||!(e.length==0))=c2
 generalize hk2:(k==2)=k2
 generalize hk3:(k==3)=k3
 generalize hk4:(k==4)=k4
 generalize (act==0)=c3
 generalize (n==0)=c4
 generalize em nm=c5
 generalize em tx=c6
 generalize decide (act<1)=c7
 generalize decide (act>7)=c8
 generalize txtB act=c9
 generalize (act==6)=c10
 generalize varB nm=c11
 generalize decide ((tx.size:Int)>200)=c12
 generalize decide (n<0)=c13
 generalize decide (n>63)=c14
 cases c1 <;> first|rfl|skip
 cases c2 <;> first|rfl|skip
 cases k2 <;> cases k3 <;> cases k4
 all_goals first|(exfalso;simp at hk2 hk3 hk4;omega)|skip
 all_goals cases c3 <;> cases c4 <;> first|rfl|skip
 all_goals cases c5 <;> first|rfl|skip
 all_goals cases c6 <;> first|rfl|skip
 all_goals cases c7 <;> first|rfl|skip
 all_goals cases c8 <;> first|rfl|skip
 all_goals cases c9 <;> first|rfl|skip
 all_goals cases c10 <;> first|rfl|skip
 all_goals cases c11 <;> first|rfl|skip
 all_goals cases c12 <;> first|rfl|skip
 all_goals cases c13 <;> first|rfl|skip
 all_goals cases c14 <;> rfl
def rHead (r:S50):Int :=
 if (decide (r.Kind<1)||decide (r.Kind>4))=true then 4
 else if (r.Kind==1)=true then (if (!(r.Act==0)||!em r.Name||!em r.Text||!(r.N==0))=true then 5 else tfT ⟨r.Test_Kind,r.Test_Tests,r.Test_Name,r.Test_Pattern,r.Test_Text,r.Test_N⟩ 1)
 else pHead (noB r.Test_Kind r.Test_Tests.length r.Test_Name r.Test_Pattern r.Test_Text r.Test_N) (!(r.Then.length==0)||!(r.Else.length==0)) r.Kind r.Act r.Name r.Text r.N
theorem rule_s (r:S50) (ho:okR r) (d:Nat):q1d3 r.Kind r.Test_Kind r.Test_Tests r.Test_Name r.Test_Pattern r.Test_Text r.Test_N r.Then r.Else r.Act r.Name r.Text r.N d=some (if decide ((d:Int)>8)=true then 5 else rHead r):=by
 obtain ⟨⟨o1,o2⟩,⟨o3,o4⟩,⟨o5,o6⟩,o7⟩:=(qv6 r).1 ho
 have ht:=test_s ⟨r.Test_Kind,r.Test_Tests,r.Test_Name,r.Test_Pattern,r.Test_Text,r.Test_N⟩ ⟨o1,o2⟩ 1
 refine q1d2 ?_
 simp only [q1d4,gL,dL,q7r,qn6,EC.decL_encL,EC.isL_encL,qxn _ _ _ _ _ _ _ _ _ _ _ _ _ o3 o5,Option.bind_some,qbg,if_true,bne]
 have ht':q1do r.Test_Kind r.Test_Tests r.Test_Name r.Test_Pattern r.Test_Text r.Test_N 1=some (tfT ⟨r.Test_Kind,r.Test_Tests,r.Test_Name,r.Test_Pattern,r.Test_Text,r.Test_N⟩ 1):=ht
 rw [ht']
 unfold rHead
 generalize pHead _ _ r.Kind r.Act r.Name r.Text r.N=x1
 generalize tfT _ 1=x2
 generalize decide ((d:Int)>8)=c1
 generalize decide (r.Kind<1)=c2
 generalize decide (r.Kind>4)=c3
 generalize (r.Kind==1)=c4
 generalize (r.Act==0)=c5
 generalize em r.Name=c6
 generalize em r.Text=c7
 generalize (r.N==0)=c8
 cases c1 <;> cases c2 <;> cases c3 <;> cases c4 <;> cases c5 <;> cases c6 <;> cases c7 <;> cases c8 <;> rfl
section
variable {k tk tp tn act n e:Int} {tts:List S48} {tnm ttx nm tx:ByteArray} {t el:List S50}
theorem rg21:q13k k tk tts tnm tp ttx tn t el act nm tx n=some (if (decide (n<0)||decide (n>63))=true then 3 else 0,()):=by
 refine q13m ?_
 simp only [q13q,q7r,qq6,Option.bind_some,in_not]
 generalize (decide (n<0)||decide (n>63))=c
 cases c <;> rfl
theorem rg19:q13d k tk tts tnm tp ttx tn t el act nm tx n=some (if decide ((tx.size:Int)>200)=true then 1 else if (decide (n<0)||decide (n>63))=true then 3 else 0,()):=by
 refine q13f ?_
 simp only [q13j,gL,dL,q7r,qn6,EC.decL_encL,EC.isL_encL,rg21,Option.bind_some,if_true]
 generalize decide ((tx.size:Int)>200)=c
 cases c <;> rfl
theorem rg17 (hn:nm.size≤big):q136 k tk tts tnm tp ttx tn t el act nm tx n=some (if ((k==3)&&!varB nm)=true then 10 else if decide ((tx.size:Int)>200)=true then 1 else if (decide (n<0)||decide (n>63))=true then 3 else 0,()):=by
 refine q138 ?_
 simp only [q13c,gL,dL,q7r,qn6,EC.decL_encL,EC.isL_encL,rg19,rvar_s nm hn,Option.bind_some,if_true]
 generalize varB nm=c
 cases (k==3) <;> cases c <;> rfl
theorem rg15:q12y k tk tts tnm tp ttx tn t el act nm tx n=some (if ((!txtB act&&!em tx)||(!(act==6)&&!(n==0)))=true then .inr (5,()) else .inl (((),false),(k,tk,tts,tnm,tp,ttx,tn,t,el,act,nm,tx,n))):=by
 refine q130 ?_
 simp only [q135,gL,dL,q7r,qn6,EC.decL_encL,EC.isL_encL,q1b8,Option.bind_some,if_true,qbg,bne]
 cases txtB act <;> cases em tx <;> cases (act==6) <;> cases (n==0) <;> rfl
theorem rg12 (hn:nm.size≤big):q12r k tk tts tnm tp ttx tn t el act nm tx n=some (if ((k==2)&&(decide (act<1)||decide (act>7)))=true then 4
  else if ((k==2)&&((!txtB act&&!em tx)||(!(act==6)&&!(n==0))))=true then 5
  else if ((k==3)&&!varB nm)=true then 10 else if decide ((tx.size:Int)>200)=true then 1 else if (decide (n<0)||decide (n>63))=true then 3 else 0,()):=by
 refine q12t ?_
 simp only [q12x,gL,dL,q7r,qn6,EC.decL_encL,EC.isL_encL,qq6,in_not,rg15,rg17 hn,Option.bind_some,if_true]
 generalize (decide (act<1)||decide (act>7))=c1
 generalize ((!txtB act&&!em tx)||(!(act==6)&&!(n==0)))=c2
 cases (k==2) <;> cases c1 <;> cases c2 <;> first|rfl|(simp only [if_true,if_false,Bool.false_eq_true,Sum.elim_inl,rg17 hn,Option.bind_some];rfl)
theorem rg10 (hn:nm.size≤big):q12k k tk tts tnm tp ttx tn t el act nm tx n=some (if ((!(k==2)&&(!(act==0)||!(n==0)))||(!(k==3)&&!em nm)||((k==4)&&!em tx))=true then 5
  else if ((k==2)&&(decide (act<1)||decide (act>7)))=true then 4
  else if ((k==2)&&((!txtB act&&!em tx)||(!(act==6)&&!(n==0))))=true then 5
  else if ((k==3)&&!varB nm)=true then 10 else if decide ((tx.size:Int)>200)=true then 1 else if (decide (n<0)||decide (n>63))=true then 3 else 0,()):=by
 refine q12m ?_
 simp only [q12q,z26,gL,dL,q7r,qn6,EC.decL_encL,EC.isL_encL,rg12 hn,Option.bind_some,if_true,qbg,bne]
 generalize (if ((k==2)&&(decide (act<1)||decide (act>7)))=true then (4:Int)
  else if ((k==2)&&((!txtB act&&!em tx)||(!(act==6)&&!(n==0))))=true then 5
  else if ((k==3)&&!varB nm)=true then 10 else if decide ((tx.size:Int)>200)=true then 1 else if (decide (n<0)||decide (n>63))=true then 3 else 0)=x
 cases (k==2) <;> cases (act==0) <;> cases (n==0) <;> cases (k==3) <;> cases em nm <;> cases (k==4) <;> cases em tx <;> rfl
theorem rg8 (hn:nm.size≤big):q13r k tk tts tnm tp ttx tn t el act nm tx n tk tts tnm tp ttx tn=some (pHead (noB tk tts.length tnm tp ttx tn) (!(t.length==0)||!(el.length==0)) k act nm tx n,()):=by
 refine q13t ?_
 have e2:∀ q:Nat,decide ((q:Int)>0)=!(q==0):=by
  intro q
  by_cases h:q=0
  ·simp [h]
  ·have h':(q:Int)>0:=by omega
   rw [decide_eq_true h',show (q==0)=false by simpa using h]
   rfl
 simp only [q13x,gL,dL,lN,q7r,qn6,EC.decL_encL,EC.isL_encL,EC.encL_length,rg10 hn,Option.bind_some,if_true,qbg,bne,e2]
 unfold pHead noB
 generalize ((!(k==2)&&(!(act==0)||!(n==0))))=d1
 generalize (!(k==3)&&!em nm)=d2
 generalize ((k==4)&&!em tx)=d3
 generalize (if ((k==2)&&(decide (act<1)||decide (act>7)))=true then (4:Int)
  else if ((k==2)&&((!txtB act&&!em tx)||(!(act==6)&&!(n==0))))=true then 5
  else if ((k==3)&&!varB nm)=true then 10 else if decide ((tx.size:Int)>200)=true then 1 else if (decide (n<0)||decide (n>63))=true then 3 else 0)=x
 generalize (tk==0)=c1
 generalize (tts.length==0)=c2
 generalize em tnm=c3
 generalize (tp==0)=c4
 generalize em ttx=c5
 generalize (tn==0)=c6
 generalize (t.length==0)=c7
 generalize (el.length==0)=c8
 cases c1 <;> first|rfl|skip
 cases c2 <;> first|rfl|skip
 cases c3 <;> first|rfl|skip
 cases c4 <;> first|rfl|skip
 cases c5 <;> first|rfl|skip
 cases c6 <;> first|rfl|skip
 cases c7 <;> first|rfl|skip
 cases c8 <;> first|rfl|(cases d1 <;> cases d2 <;> cases d3 <;> rfl)
end
theorem q1b2 (r:S50) (ho:okR r):q13y r.Kind r.Test_Kind r.Test_Tests r.Test_Name r.Test_Pattern r.Test_Text r.Test_N r.Then r.Else r.Act r.Name r.Text r.N=some (rHead r):=by
 obtain ⟨⟨o1,o2⟩,⟨o3,o4⟩,⟨o5,o6⟩,o7⟩:=(qv6 r).1 ho
 have ht:=q1kr ⟨r.Test_Kind,r.Test_Tests,r.Test_Name,r.Test_Pattern,r.Test_Text,r.Test_N⟩ ⟨o1,o2⟩ 1
 have ht':q177 r.Test_Kind r.Test_Tests r.Test_Name r.Test_Pattern r.Test_Text r.Test_N 1=some (tfT ⟨r.Test_Kind,r.Test_Tests,r.Test_Name,r.Test_Pattern,r.Test_Text,r.Test_N⟩ 1):=ht
 refine q12j ?_
 simp only [q13z,gL,dL,q7r,qn6,EC.decL_encL,EC.isL_encL,qq6,in_not,ht',rg8 o7,Option.bind_some,qbg,if_true,bne]
 unfold rHead
 generalize pHead _ _ r.Kind r.Act r.Name r.Text r.N=x1
 generalize tfT _ 1=x2
 generalize (decide (r.Kind<1)||decide (r.Kind>4))=c2
 generalize (r.Kind==1)=c4
 generalize (r.Act==0)=c5
 generalize em r.Name=c6
 generalize em r.Text=c7
 generalize (r.N==0)=c8
 cases c2 <;> cases c4 <;> cases c5 <;> cases c6 <;> cases c7 <;> cases c8 <;> rfl
end Go.Proofs.YtokahibbkdbndaaGreatDoor
