/- Scripts whose texts hold no references: in plain words. -/
import Derived.Test.YtokahibbkdbndaaGreatDoorZ32
import Derived.Test.YtokahibbkdbndaaGreatDoorZ33
import Derived.Lib.IndexMore
import Derived.Test.YtokahibbkdbndaaGreatDoorZ01
import Derived.Test.YtokahibbkdbndaaGreatDoorChecked
import Derived.ProofKit
import Derived.OpenShut
import Derived.JoinedCond
import Derived.Deep.Slices
import Derived.Deep.Fields
import Derived.Lib.SmallJoins
namespace Go.Proofs.YtokahibbkdbndaaGreatDoor
open Go.RowKit
def refB:List UInt8→Bool
 |a::b::l=>(a==36&&b==123)||refB (b::l)
 |_=>false
mutual
def refR:S50→Bool
 |⟨_,_,_,_,_,_,_,t,e,_,_,tx,_⟩=>refB tx.data.toList||(refL t||refL e)
def refL:List S50→Bool
 |[]=>false
 |r::l=>refR r||refL l
end
theorem q22n (r:S50):refR r=(refB r.Text.data.toList||(refL r.Then||refL r.Else)):=by cases r;rw [refR]
theorem q1xf:∀ (s:List UInt8),refB s=false→∀ j,Lib.occAt s [36,123] j=false
 |[],_,j=>by simp [Lib.occAt]
 |[a],_,j=>by
  cases j <;> simp [Lib.occAt,List.isPrefixOf]
 |a::b::l,h,j=>by
  rw [refB,Bool.or_eq_false_iff] at h
  cases j with
  |zero =>
   have h1:=h.1
   simp only [Lib.occAt,List.drop_zero,List.isPrefixOf,Bool.and_true]
   rw [show ((36:UInt8)==a)=(a==36) from BEq.comm,show ((123:UInt8)==b)=(b==123) from BEq.comm]
   exact h1
  |succ j=>exact q1xf (b::l) h.2 j
theorem q1xe (s:List UInt8) (h:refB s=false):(Lib.cut s [36,123]).2.2=false:=by
 have:=Lib.index_none (s:=s) (sub:=[36,123]) fun j _=>q1xf s h j
 unfold Lib.cut
 rw [this]
 rfl
theorem q1m8 (m:MM) (s:ByteArray) (h:refB s.data.toList=false) (hs:s.size≤4000):exT m s=s:=by
 unfold exT
 rw [exF,if_pos (.inl (q1xe _ h)),List.nil_append,List.take_of_length_le (by rw [Array.length_toList];exact hs)]
theorem q21o {r:S50} (h:rHead r=0):r.Text.size≤200:=by
 by_cases k1:r.Kind=1
 ·unfold rHead at h
  split at h
  ·cases h
  rw [if_pos (by simpa using k1)] at h
  split at h
  ·cases h
  ·rename_i h1
   simp only [Bool.or_eq_true,not_or,Bool.not_eq_true,Bool.not_eq_false'] at h1
   have:=h1.1.2
   rw [q9h] at this
   have:=of_decide_eq_true this
   omega
 ·exact (qtd h).2.1 k1
section
variable (s:List S50) (hs:s.length≤big)
theorem ref_l5 (i:Nat) (hi:i<s.length) (hx:s[i].Text.size≤200) (hs:s.length≤big):∀ (q k:Nat),k+q=200→k≤s[i].Text.size→∃ K:Int,q22c s i k=some (if refB (s[i].Text.data.toList.drop k)=true then .inl (true,()) else .inr ((s,((i:Int),(K,false))),())):=by
 have e0:decide ((0:Int)≤(i:Int))=true:=by simp
 have hd2:decide (i<s.length)=true:=by simp [hi]
 have hL:s[i].Text.data.toList.length=s[i].Text.size:=by rw [Array.length_toList];rfl
 intro q
 induction q with
 |zero =>
  intro k hk hk'
  have e2:IntKind.i64.wrap ((k:Int)+1)=((k+1:Nat):Int):=q27y (n:=1000) (by omega) (by omega)
  refine ⟨k,q22e ?_⟩
  have hf:refB (s[i].Text.data.toList.drop k)=false:=by
   rw [List.drop_of_length_le (by omega)];rfl
  have c1:decide (((k+1:Nat):Int)<(s[i].Text.size:Int))=false:=decide_eq_false (by omega)
  simp only [q22j,q26i,q26z,EC.decL_encL,EC.isL_encL,EC.encL_length,q277,q44,e0,hd2,Bool.and_self,if_true,Int.toNat_natCast,qik hi,e2,c1,Bool.false_eq_true,if_false,hf]
 |succ q ih =>
  intro k hk hk'
  have e2:IntKind.i64.wrap ((k:Int)+1)=((k+1:Nat):Int):=q27y (n:=1000) (by omega) (by omega)
  by_cases hlt:k+1<s[i].Text.size
  ·have c1:decide (((k+1:Nat):Int)<(s[i].Text.size:Int))=true:=decide_eq_true (by omega)
   have c2:decide ((0:Int)≤(k:Int))=true:=by simp
   have c3:decide (k<s[i].Text.size)=true:=decide_eq_true (by omega)
   have c4:decide ((0:Int)≤((k+1:Nat):Int))=true:=by simp;omega
   have c5:decide (k+1<s[i].Text.size)=true:=decide_eq_true hlt
   have a0:Array.getD s[i].Text.data k (0:UInt8)=s[i].Text.data.toList[k]'(by omega):=by
    unfold Array.getD;rw [dif_pos (show k<s[i].Text.data.size by show k<s[i].Text.size;omega)];rfl
   have a1:Array.getD s[i].Text.data (k+1) (0:UInt8)=s[i].Text.data.toList[k+1]'(by omega):=by
    unfold Array.getD;rw [dif_pos (show k+1<s[i].Text.data.size from hlt)];rfl
   obtain ⟨K,h1⟩:=ih (k+1) (by omega) (by omega)
   have hdr:s[i].Text.data.toList.drop k=s[i].Text.data.toList[k]'(by omega)::s[i].Text.data.toList[k+1]'(by omega)::s[i].Text.data.toList.drop (k+2):=by
    rw [List.drop_eq_getElem_cons (by omega),List.drop_eq_getElem_cons (i:=k+1) (by omega)]
   have hdr1:s[i].Text.data.toList.drop (k+1)=s[i].Text.data.toList[k+1]'(by omega)::s[i].Text.data.toList.drop (k+2):=by
    rw [List.drop_eq_getElem_cons (i:=k+1) (by omega)]
   rw [hdr,refB,←hdr1]
   generalize s[i].Text.data.toList[k]'(by omega)=A at a0
   generalize s[i].Text.data.toList[k+1]'(by omega)=B at a1
   have b36:(((A.toNat:Nat):Int)==36)=(A==36):=by
    rw [Bool.eq_iff_iff,beq_iff_eq,beq_iff_eq]
    constructor
    ·intro h;apply UInt8.toNat_inj.1;show A.toNat=36;omega
    ·intro h;subst h;rfl
   have b123:(((B.toNat:Nat):Int)==123)=(B==123):=by
    rw [Bool.eq_iff_iff,beq_iff_eq,beq_iff_eq]
    constructor
    ·intro h;apply UInt8.toNat_inj.1;show B.toNat=123;omega
    ·intro h;subst h;rfl
   cases hA:(A==36) with
   |false =>
    rw [hA] at b36
    refine ⟨K,q22e ?_⟩
    simp only [q22j,q26i,q26z,EC.decL_encL,EC.isL_encL,EC.encL_length,q277,q44,e0,hd2,Bool.and_self,if_true,Int.toNat_natCast,qik hi,e2,c1,c2,c3,a0,b36,show (false==true)=false from rfl,Bool.false_eq_true,if_false,Bool.false_and,Bool.false_or]
    exact h1
   |true =>
    rw [hA] at b36
    cases hB:(B==123) with
    |true =>
     rw [hB] at b123
     refine ⟨0,q22e ?_⟩
     simp only [q22j,q26i,q26z,EC.decL_encL,EC.isL_encL,EC.encL_length,q277,q44,e0,hd2,Bool.and_self,if_true,Int.toNat_natCast,qik hi,e2,c1,c2,c3,c4,c5,a0,a1,b36,b123,beq_self_eq_true,Bool.true_or]
    |false =>
     rw [hB] at b123
     refine ⟨K,q22e ?_⟩
     simp only [q22j,q26i,q26z,EC.decL_encL,EC.isL_encL,EC.encL_length,q277,q44,e0,hd2,Bool.and_self,if_true,Int.toNat_natCast,qik hi,e2,c1,c2,c3,c4,c5,a0,a1,b36,b123,beq_self_eq_true,Bool.and_false,Bool.false_or,Bool.false_eq_true,if_false]
     exact h1
  ·refine ⟨k,q22e ?_⟩
   have hf:refB (s[i].Text.data.toList.drop k)=false:=by
    have hl:(s[i].Text.data.toList.drop k).length≤1:=by rw [List.length_drop];omega
    generalize s[i].Text.data.toList.drop k=u at hl
    match u,hl with
    |[],_=>rfl
    |[a],_=>rfl
    |_::_::_,hl=>simp at hl
   have c1:decide (((k+1:Nat):Int)<(s[i].Text.size:Int))=false:=decide_eq_false (by omega)
   simp only [q22j,q26i,q26z,EC.decL_encL,EC.isL_encL,EC.encL_length,q277,q44,e0,hd2,Bool.and_self,if_true,Int.toNat_natCast,qik hi,e2,c1,Bool.false_eq_true,if_false,hf]
end
theorem ref_l2 (s:List S50) (hs:s.length≤big) (hv:okvL s) (ih:∀ r∈s,q22k r.Then=some (refL r.Then)∧q22k r.Else=some (refL r.Else)) :
  ∀ (q k:Nat),k+q=s.length→∃ x,q224 s k=some x∧Sum.elim (fun r=>r.1) (fun _=>false) x=refL (s.drop k):=by
 intro q
 induction q with
 |zero =>
  intro k hk
  have hk:k=s.length:=by omega
  subst hk
  refine ⟨.inr ((s,((s.length:Int),false)),()),q226 (by
   simp only [q22b,q26i,q26z,EC.decL_encL,EC.isL_encL,EC.encL_length,q277,q4b,q4c]
   simp),?_⟩
  rw [List.drop_length,refL];rfl
 |succ q ihq =>
  intro k hk
  have hlt:k<s.length:=by omega
  have e1:decide ((k:Int)<(s.length:Int))=true:=by simp;omega
  have e0:decide ((0:Int)≤(k:Int))=true:=by simp
  have e2:IntKind.i64.wrap ((k:Int)+1)=((k+1:Nat):Int):=q27y hlt (by unfold big at hs;omega)
  have hd2:decide (k<s.length)=true:=by simp [hlt]
  have hmem:s[k]∈s:=List.getElem_mem hlt
  obtain ⟨hT,hE⟩:=ih s[k] hmem
  obtain ⟨K,h5⟩:=ref_l5 s k hlt (q21o (okvR hv hmem).1) hs 200 0 (by omega) (by omega)
  rw [List.drop_zero,Int.natCast_zero] at h5
  obtain ⟨x,x1,x2⟩:=ihq (k+1) (by omega)
  rw [q97 hlt,refL,q22n]
  cases hB:refB s[k].Text.data.toList with
  |true =>
   rw [hB,if_pos rfl] at h5
   refine ⟨.inl (true,()),q226 ?_,rfl⟩
   simp only [q22b,q26i,q26z,EC.decL_encL,EC.isL_encL,EC.encL_length,q277,q4b,q4c,e1,if_true,h5,Option.bind_some,Sum.elim_inl]
  |false =>
   rw [hB,if_neg (by simp)] at h5
   cases hTb:refL s[k].Then with
   |true =>
    rw [hTb] at hT
    refine ⟨.inl (true,()),q226 ?_,rfl⟩
    simp only [q22b,q26i,q26z,EC.decL_encL,EC.isL_encL,EC.encL_length,q277,q4b,q4c,e1,e0,hd2,Bool.and_self,if_true,Int.toNat_natCast,qik hlt,h5,hT,Option.bind_some,Sum.elim_inr,show (true==false)=false from rfl,Bool.false_eq_true,if_false]
   |false =>
    rw [hTb] at hT
    cases hEb:refL s[k].Else with
    |true =>
     rw [hEb] at hE
     refine ⟨.inl (true,()),q226 ?_,rfl⟩
     simp only [q22b,q26i,q26z,EC.decL_encL,EC.isL_encL,EC.encL_length,q277,q4b,q4c,e1,e0,hd2,Bool.and_self,if_true,Int.toNat_natCast,qik hlt,h5,hT,hE,Option.bind_some,Sum.elim_inr,beq_self_eq_true]
    |false =>
     rw [hEb] at hE
     refine ⟨x,q226 ?_,by simpa using x2⟩
     simp only [q22b,q26i,q26z,EC.decL_encL,EC.isL_encL,EC.encL_length,q277,q4b,q4c,e1,e0,hd2,Bool.and_self,if_true,Int.toNat_natCast,qik hlt,h5,hT,hE,Option.bind_some,Sum.elim_inr,beq_self_eq_true,Bool.false_eq_true,if_false,e2]
     exact x1
theorem q22o:∀ (q:Nat) (s:List S50),szL s=q→s.length≤big→okL s→okvL s→q22k s=some (refL s):=by
 intro q
 induction q using Nat.strongRecOn with
 |_ q ihq =>
  intro s hq hl ho hv
  subst hq
  obtain ⟨x,x1,x2⟩:=ref_l2 s hl hv (fun r hr=>by
   obtain ⟨_,⟨ht1,ht2⟩,⟨he1,he2⟩,_⟩:=(q27h r).1 (qpa ho hr)
   obtain ⟨_,hvt,hve⟩:=okvR hv hr
   exact ⟨ihq (szL r.Then) (qz5 hr) r.Then rfl ht1 ht2 hvt,ihq (szL r.Else) (qz4 hr) r.Else rfl he1 he2 hve⟩) s.length 0 (by omega)
  rw [List.drop_zero] at x2
  have x1:q224 s 0=some x:=x1
  refine q223 ?_
  simp only [q22l,q26z,EC.decL_encL,EC.isL_encL,if_true,x1,Option.bind_some]
  rw [←x2]
  rcases x with x|x <;> rfl
end Go.Proofs.YtokahibbkdbndaaGreatDoor
namespace Go.Proofs.YtokahibbkdbndaaGreatDoor
open Go.RowKit
def Asc:Int→Int→List S62→Prop
 |_,_,[]=>True
 |i,j,x::l=>i≤x.Rule∧x.Rule<j∧Asc (x.Rule+1) j l
theorem Asc.mono:∀ {l:List S62} {i i' j j':Int},Asc i j l→i'≤i→j≤j'→Asc i' j' l
 |[],_,_,_,_,_,_,_=>trivial
 |_::l,_,_,_,_,h,h1,h2=>⟨by have:=h.1;omega,by have:=h.2.1;omega,h.2.2.mono (Int.le_refl _) h2⟩
theorem Asc.app:∀ {l l':List S62} {i j k:Int},Asc i j l→Asc j k l'→i≤j→j≤k→Asc i k (l++l')
 |[],_,_,_,_,_,h',h1,_=>h'.mono h1 (Int.le_refl _)
 |x::l,_,_,_,_,h,h',_,h2=>⟨h.1,by have:=h.2.1;omega,h.2.2.app h' (by have:=h.2.1;omega) h2⟩
section
variable (f:ByteArray) (rc:List S118) (fs:List S55) (sz:Int)
def risesL (s:List S50):Prop:=∀ (i:Int) (m:MM) (a:List S45) (st:List S62),∃ new,(exL f rc fs sz s i m a st).2.2.2=st++new∧Asc i (i+szL s) new
theorem qee:∀ (q:Nat) (s:List S50),szL s=q→risesL f rc fs sz s:=by
 intro q
 induction q using Nat.strongRecOn with
 |_ q ihq =>
  intro s
  induction s with
  |nil =>
   intro _ i m a st
   refine ⟨[],?_,trivial⟩
   rw [exL,List.append_nil]
  |cons r l ihl =>
   intro hq i m a st
   have hsz:szR r+szL l=q:=by simpa [szL] using hq
   have hr:=q27t r
   have h1:∃ new,(exR f rc fs sz r i m a st).2.2.2=st++new∧Asc i (i+szR r) new:=by
    rw [q281]
    split
    ·split
     ·obtain ⟨new,e,g⟩:=ihq (szL r.Then) (by omega) r.Then rfl (i+1) (tsT f rc fs sz (tOf r) m).2 a (st++[⟨i,true,noTx⟩])
      refine ⟨⟨i,true,noTx⟩::new,?_,?_⟩
      ·rw [e];simp
      ·exact ⟨Int.le_refl _,by show i<_;omega,g.mono (Int.le_refl _) (by omega)⟩
     ·obtain ⟨new,e,g⟩:=ihq (szL r.Else) (by omega) r.Else rfl (i+1+szL r.Then) (tsT f rc fs sz (tOf r) m).2 a (st++[⟨i,false,noTx⟩])
      refine ⟨⟨i,false,noTx⟩::new,?_,?_⟩
      ·rw [e];simp
      ·exact ⟨Int.le_refl _,by show i<_;omega,g.mono (by show i+1≤_;omega) (by omega)⟩
    ·split
     ·exact ⟨[⟨i,false,exT m r.Text⟩],rfl,Int.le_refl _,by show i<_;omega,trivial⟩
     ·split
      ·exact ⟨[⟨i,false,exT m r.Text⟩],rfl,Int.le_refl _,by show i<_;omega,trivial⟩
      ·exact ⟨[⟨i,false,noTx⟩],rfl,Int.le_refl _,by show i<_;omega,trivial⟩
   obtain ⟨new,e,g⟩:=h1
   have hs:(szL (r::l):Int)=szR r+szL l:=by rw [szL];omega
   rw [exL,hs]
   split
   ·obtain ⟨new',e',g'⟩:=ihq (szL l) (by omega) l rfl (i+szR r) (exR f rc fs sz r i m a st).2.1 (exR f rc fs sz r i m a st).2.2.1 (exR f rc fs sz r i m a st).2.2.2
    refine ⟨new++new',?_,?_⟩
    ·rw [e',e,List.append_assoc]
    ·exact (g.app (g'.mono (Int.le_refl _) (by omega)) (by omega) (by omega)).mono (Int.le_refl _) (Int.le_refl _)
   ·exact ⟨new,e,g.mono (Int.le_refl _) (by omega)⟩
end
theorem q1fv (p:Int) (tx:ByteArray) (m m':MM):∀ l:List ByteArray,(matL p tx m l).1=(matL p tx m' l).1
 |[]=>rfl
 |s::l=>by
  rw [matL,matL]
  split
  ·rfl
  ·exact q1fv p tx m m' l
section
variable (f:ByteArray) (rc:List S118) (fs:List S55) (sz:Int)
mutual
theorem q1ju:∀ (t:S48) (m m':MM),(tsT f rc fs sz t m).1=(tsT f rc fs sz t m').1
 |⟨k,ts,nm,p,tx,n⟩,m,m'=>by
  rw [tsT,tsT]
  split
  ·exact q1jt ts m m'
  ·split
   ·exact q1js k ts m m'
   ·split
    ·exact q1fv _ _ _ _ _
    ·split
     ·exact q1fv _ _ _ _ _
     ·split
      ·exact q1fv _ _ _ _ _
      ·split
       ·rfl
       ·split <;> rfl
theorem q1jt:∀ (ts:List S48) (m m':MM),(tsH f rc fs sz ts m).1=(tsH f rc fs sz ts m').1
 |[],_,_=>by rw [tsH,tsH]
 |t::_,m,m'=>by
  rw [tsH,tsH]
  show (!(tsT f rc fs sz t m).1)=!(tsT f rc fs sz t m').1
  rw [q1ju t m m']
theorem q1js (k:Int):∀ (ts:List S48) (m m':MM),(tsA f rc fs sz k ts m).1=(tsA f rc fs sz k ts m').1
 |[],_,_=>by rw [tsA,tsA]
 |t::l,m,m'=>by
  rw [tsA,tsA,q1ju t m m']
  split
  ·rfl
  ·exact q1js k l _ _
end
theorem q16j {r:S50} {l:List S50} (hv:okvL (r::l)):okvL l:=by
 obtain ⟨n0,d0,m0,hn0,hc0⟩:=hv
 unfold ckL at hc0
 split at hc0
 ·cases hc0
 rename_i h100
 split at hc0
 ·cases hc0
 rename_i hrc
 cases hq:ckR r n0 d0 with
 |inl g=>rw [hq] at hc0;cases hc0
 |inr n2 =>
  rw [hq] at hc0
  have:=(ck_sz (szL [r]) [r] rfl n0 d0 hn0).1 n2 (by simp only [ckL];rw [if_neg h100,if_neg hrc,hq])
  exact ⟨n2,d0,m0,this.2,hc0⟩
theorem q21h:∀ (q:Nat) (s:List S50),szL s=q→okvL s→refL s=false→∀ (i i':Int) (m m':MM) (a:List S45) (st st':List S62),(exL f rc fs sz s i m a st).1=(exL f rc fs sz s i' m' a st').1∧(exL f rc fs sz s i m a st).2.2.1=(exL f rc fs sz s i' m' a st').2.2.1:=by
 intro q
 induction q using Nat.strongRecOn with
 |_ q ihq =>
  intro s
  induction s with
  |nil=>intro _ _ _ i i' m m' a st st';rw [exL,exL];exact ⟨rfl,rfl⟩
  |cons r l ihl =>
   intro hq hv hrf i i' m m' a st st'
   have hsz:szR r+szL l=q:=by simpa [szL] using hq
   have hr:=q27t r
   obtain ⟨hh,hvt,hve⟩:=okvR hv (List.mem_cons_self ..)
   have hvl:=q16j hv
   rw [refL,Bool.or_eq_false_iff,q22n,Bool.or_eq_false_iff,Bool.or_eq_false_iff] at hrf
   obtain ⟨⟨hf1,hf2,hf3⟩,hf4⟩:=hrf
   have htx:=q21o hh
   have hR:(exR f rc fs sz r i m a st).1=(exR f rc fs sz r i' m' a st').1∧(exR f rc fs sz r i m a st).2.2.1=(exR f rc fs sz r i' m' a st').2.2.1:=by
    rw [q281,q281,q1ju f rc fs sz (tOf r) m m',q1m8 m _ hf1 (by omega),q1m8 m' _ hf1 (by omega)]
    split
    ·split
     ·exact ihq _ (by omega) r.Then rfl hvt hf2 _ _ _ _ a _ _
     ·exact ihq _ (by omega) r.Else rfl hve hf3 _ _ _ _ a _ _
    ·split
     ·exact ⟨rfl,rfl⟩
     ·split
      ·exact ⟨rfl,rfl⟩
      ·exact ⟨rfl,rfl⟩
   obtain ⟨h1,h2⟩:=hR
   rw [exL,exL,h1,h2]
   split
   ·exact ihq _ (by omega) l rfl hvl hf4 _ _ _ _ _ _ _
   ·exact ⟨h1,h2⟩
end
theorem q22m {r:S50} {d d':Nat} (hd:d'≤d) (h:rc r d=0):rc r d'=0:=by
 unfold rc at *
 split at h
 ·cases h
 ·rename_i h1
  rw [if_neg (by simp at h1 ⊢;omega)];exact h
theorem q21g:∀ (q:Nat) (l:List S50),szL l=q→∀ (n d n' d' m:Nat),n≤100→ckL l n d=.inr m→n'≤n→d'≤d→ckL l n' d'=.inr (n'+szL l):=by
 intro q
 induction q using Nat.strongRecOn with
 |_ q ihq =>
  intro l
  cases l with
  |nil=>intro _ n d n' d' m _ _ _ _;simp [ckL,szL]
  |cons r l =>
   intro hq n d n' d' m hn hc hn' hd'
   have hsz:szR r+szL l=q:=by simpa [szL] using hq
   have hr:=q27t r
   unfold ckL at hc
   split at hc
   ·cases hc
   rename_i h100
   split at hc
   ·cases hc
   rename_i hrc
   cases hR:ckR r n d with
   |inl g=>rw [hR] at hc;cases hc
   |inr n2 =>
    rw [hR] at hc
    have hc:ckL l n2 d=.inr m:=hc
    rw [ckR_eq] at hR
    cases hT:ckL r.Then (n+1) (d+1) with
    |inl g=>rw [hT] at hR;cases hR
    |inr n1 =>
     rw [hT] at hR
     have hR:ckL r.Else n1 (d+1)=.inr n2:=hR
     obtain ⟨a1,a2⟩:=ck_inr (by omega) hT
     obtain ⟨b1,b2⟩:=ck_inr a2 hR
     have t1:=ihq (szL r.Then) (by omega) r.Then rfl (n+1) (d+1) (n'+1) (d'+1) n1 (by omega) hT (by omega) (by omega)
     have t2:=ihq (szL r.Else) (by omega) r.Else rfl n1 (d+1) (n'+1+szL r.Then) (d'+1) n2 a2 hR (by omega) (by omega)
     have t3:=ihq (szL l) (by omega) l rfl n2 d (n'+szR r) d' m b2 hc (by omega) hd'
     have hrc':rc r d=0:=by simpa using hrc
     rw [ckL,if_neg (by omega),if_neg (by rw [q22m hd' hrc'];simp),ckR_eq,t1]
     simp only [t2]
     rw [show n'+1+szL r.Then+szL r.Else=n'+szR r by omega,t3,hq]
     congr 1
     omega
theorem q22q {l:List S50} {n d m:Nat} (hn:n≤100) (hd:1≤d) (h:ckL l n d=.inr m):(scriptF l).1=0:=by
 have:=q21g _ l rfl n d 0 1 m hn h (by omega) hd
 unfold scriptF
 rw [this]
def ifR (t:S48) (th el:List S50):S50:=⟨1,t.Kind,t.Tests,t.Name,t.Pattern,t.Text,t.N,th,el,0,noTx,noTx,0⟩
theorem q22r {t:S48} {th el:List S50} (h:(scriptF [ifR t th el]).1=0):(scriptF th).1=0∧(scriptF el).1=0:=by
 obtain ⟨m,h1,_,h3⟩:=qx9 h
 unfold ckL at h1
 split at h1
 ·cases h1
 split at h1
 ·cases h1
 cases hR:ckR (ifR t th el) 0 1 with
 |inl g=>rw [hR] at h1;cases h1
 |inr n2 =>
  rw [ckR_eq] at hR
  have hR:(match ckL th (0+1) (1+1) with|.inl f=>.inl f|.inr n1=>ckL el n1 (1+1))=(.inr n2:(Int × Int) ⊕ Nat):=hR
  cases hT:ckL th (0+1) (1+1) with
  |inl g=>rw [hT] at hR;cases hR
  |inr n1 =>
   rw [hT] at hR
   have hR:ckL el n1 (1+1)=.inr n2:=hR
   have:=ck_inr (by omega) hT
   exact ⟨q22q (by omega) (by omega) hT,q22q this.2 (by omega) hR⟩
theorem q22p {s s':List S50} {f:ByteArray} {rc:List S118} {e:ByteArray} {fs:List S55} {bd:List Int} (h:(runF s f rc e fs bd).1=0) (hs:(scriptF s').1=0):(runF s' f rc e fs bd).1=0:=by
 obtain ⟨_,h2,h3⟩:=runF_0 h
 unfold runF
 rw [if_neg (by simp [hs]),if_neg (by simp [h2]),if_neg (by simp [h3])]
theorem lit_if (t:S48) (th el:List S50):[[C.int IntKind.i64 1,C.int IntKind.i64 t.Kind,C.sl (q26p.encL t.Tests),C.str t.Name,C.int IntKind.i64 t.Pattern,C.str t.Text,C.int IntKind.i64 t.N,C.sl (q26r.encL th),C.sl (q26r.encL el),C.int IntKind.i64 0,C.str (ByteArray.mk (List.toArray [])),C.str (ByteArray.mk (List.toArray [])),C.int IntKind.i64 0]]=q26r.encL [ifR t th el]:=by
 show _=[q26r.enc (ifR t th el)]
 rw [q26y]
 rfl
theorem q21f {t:S48} {th el:List S50} (f:ByteArray) (rc:List S118) (fs:List S55) (bd:List Int) (h:(scriptF [ifR t th el]).1=0) (h1:refL th=false) (h2:refL el=false) :
  ∃ b new,(theRun [ifR t th el] f rc fs bd).2.2.2=⟨0,b,noTx⟩::new∧(theRun [ifR t th el] f rc fs bd).2.2.1=(theRun (if b=true then th else el) f rc fs bd).2.2.1:=by
 obtain ⟨v1,v2⟩:=q22r h
 obtain ⟨o1,_⟩:=val_ok v1
 obtain ⟨o2,_⟩:=val_ok v2
 unfold theRun
 generalize (((msgF fs bd).1.1:Nat):Int)=sz
 have e:exL f rc fs sz [ifR t th el] 0 [] [] []=exR f rc fs sz (ifR t th el) 0 [] [] []∨((exL f rc fs sz [ifR t th el] 0 [] [] []).2=(exR f rc fs sz (ifR t th el) 0 [] [] []).2):=by
  rw [exL]
  split
  ·rw [exL];exact .inr rfl
  ·exact .inl rfl
 have e:(exL f rc fs sz [ifR t th el] 0 [] [] []).2=(exR f rc fs sz (ifR t th el) 0 [] [] []).2:=by
  rcases e with e|e
  ·rw [e]
  ·exact e
 rw [e,q281,if_pos (show (ifR t th el).Kind=1 from rfl)]
 cases hb:(tsT f rc fs sz (tOf (ifR t th el)) []).1 with
 |true =>
  rw [if_pos rfl]
  obtain ⟨new,n1,_⟩:=qee f rc fs sz _ (ifR t th el).Then rfl (0+1) (tsT f rc fs sz (tOf (ifR t th el)) []).2 [] ([]++[⟨0,true,noTx⟩])
  refine ⟨true,new,by rw [n1];rfl,?_⟩
  rw [if_pos rfl]
  exact (q21h f rc fs sz _ th rfl o1 h1 _ _ _ _ _ _ _).2
 |false =>
  rw [if_neg (by simp)]
  obtain ⟨new,n1,_⟩:=qee f rc fs sz _ (ifR t th el).Else rfl (0+1+szL (ifR t th el).Then) (tsT f rc fs sz (tOf (ifR t th el)) []).2 [] ([]++[⟨0,false,noTx⟩])
  refine ⟨false,new,by rw [n1];rfl,?_⟩
  rw [if_neg (by simp)]
  exact (q21h f rc fs sz _ el rfl o2 h2 _ _ _ _ _ _ _).2
theorem q21i {s:List S50} {f:ByteArray} {rc:List S118} {bd:List Int} (h:MOk s f rc bd) (e:ByteArray) (fs:List S55) (hF:(runF s f rc e fs bd).1=0) {b:Bool} {new:List S62} (hS:(theRun s f rc fs bd).2.2.2=⟨0,b,noTx⟩::new) :
  q21y s f rc e fs bd=some (0,(b,runF s f rc e fs bd)):=by
 have hx:=qf0 h e fs
 have hS':runS s f rc e fs bd=⟨0,b,noTx⟩::new:=by unfold runS;rw [if_neg (by simp [hF]),hS]
 rw [hS'] at hx
 have c1:((runF s f rc e fs bd).1 != 0)=false:=by simpa using hF
 have c2:((((new.length+1:Nat):Int))==0)=false:=by simp;omega
 have c3:decide ((0:Int)<((new.length+1:Nat):Int))=true:=decide_eq_true (by omega)
 have c4:decide (0<new.length+1)=true:=decide_eq_true (by omega)
 refine q21x ?_
 simp only [q21z,q26i,q26z,EC.decL_encL,EC.isL_encL,EC.encL_length,q4g,q1ll,if_true,hx,Option.bind_some,c1,beq_self_eq_true,List.length_cons,c2,c3,c4,Bool.false_eq_true,if_false,Int.le_refl,decide_true,Bool.and_self,Int.toNat_zero]
 rfl
theorem okL_if {t:S48} {th el:List S50} (ht:okT t) (l1:th.length≤big) (o1:okL th) (l2:el.length≤big) (o2:okL el):okL [ifR t th el]:=by
 obtain ⟨a,b⟩:=(okT_eq t).1 ht
 exact ⟨(q27h _).2 ⟨⟨a,b⟩,⟨l1,o1⟩,⟨l2,o2⟩,by show noTx.size≤big;exact Nat.zero_le _⟩,trivial⟩
theorem branchLaw {t:S48} {th el:List S50} {f:ByteArray} {rc:List S118} {bd:List Int} (ht:okT t) (h1:MOk th f rc bd) (h2:MOk el f rc bd) (e:ByteArray) (fs:List S55) :
  q21s t.Kind t.Tests t.Name t.Pattern t.Text t.N th el f rc e fs bd=some true:=by
 have hw:MOk [ifR t th el] f rc bd:=⟨by show 1≤big;unfold big;omega,okL_if ht h1.len h1.ok h2.len h2.ok,h1.fr,h1.rl,h1.ad,h1.bl⟩
 have hx:=run_s hw e fs
 by_cases hF:(runF [ifR t th el] f rc e fs bd).1=0
 ·have c1:((runF [ifR t th el] f rc e fs bd).1 != 0)=false:=by simpa using hF
  have h0:=(runF_0 hF).1
  obtain ⟨v1,v2⟩:=q22r h0
  have r1:=q22o _ th rfl h1.len h1.ok (val_ok v1).1
  have r2:=q22o _ el rfl h2.len h2.ok (val_ok v2).1
  have hsome:∃ b new,(theRun [ifR t th el] f rc fs bd).2.2.2=⟨0,b,noTx⟩::new:=by
   obtain ⟨new,n1,n2⟩:=qee f rc fs (((msgF fs bd).1.1:Nat):Int) _ [ifR t th el] rfl 0 [] [] []
   unfold theRun
   generalize (((msgF fs bd).1.1:Nat):Int)=sz
   have e:(exL f rc fs sz [ifR t th el] 0 [] [] []).2=(exR f rc fs sz (ifR t th el) 0 [] [] []).2:=by
    rw [exL]
    split
    ·rw [exL]
    ·rfl
   rw [e,q281,if_pos (show (ifR t th el).Kind=1 from rfl)]
   split
   ·obtain ⟨new,n1,_⟩:=qee f rc fs sz _ (ifR t th el).Then rfl (0+1) (tsT f rc fs sz (tOf (ifR t th el)) []).2 [] ([]++[⟨0,true,noTx⟩])
    exact ⟨true,new,by rw [n1];rfl⟩
   ·obtain ⟨new,n1,_⟩:=qee f rc fs sz _ (ifR t th el).Else rfl (0+1+szL (ifR t th el).Then) (tsT f rc fs sz (tOf (ifR t th el)) []).2 [] ([]++[⟨0,false,noTx⟩])
    exact ⟨false,new,by rw [n1];rfl⟩
  obtain ⟨b,new,hS⟩:=hsome
  have hfs:=q21i hw e fs hF hS
  refine q21r ?_
  simp only [q21t,lit_if,q26i,q26z,EC.decL_encL,EC.isL_encL,if_true,hx,hfs,Option.bind_some,c1,beq_self_eq_true,r1,r2]
  cases hr1:refL th with
  |true=>simp only [show (true==false)=false from rfl,Bool.false_eq_true,if_false]
  |false =>
   cases hr2:refL el with
   |true=>simp only [beq_self_eq_true,if_true]
   |false =>
    obtain ⟨b',new',s1,s2⟩:=q21f f rc fs bd h0 hr1 hr2
    rw [hS] at s1
    injection s1 with s1 _
    injection s1 with _ s1 _
    subst s1
    have hA:∀ s',(scriptF s').1=0→(theRun [ifR t th el] f rc fs bd).2.2.1=(theRun s' f rc fs bd).2.2.1→runA s' f rc e fs bd=runA [ifR t th el] f rc e fs bd:=fun s' hs' hh=>by
     unfold runA
     rw [q22p hF hs',hF,hh]
    simp only [beq_self_eq_true,if_true,Bool.false_eq_true,if_false]
    cases b with
    |true =>
     have hF1:=q22p hF v1
     have c3:((runF th f rc e fs bd).1==0)=true:=by simpa using hF1
     simp only [if_true,run_s h1 e fs,Option.bind_some,c3,beq_self_eq_true,hA th v1 (by simpa using s2),q19h _ (Nat.le_trans runA_len' (by omega))]
    |false =>
     have hF1:=q22p hF v2
     have c3:((runF el f rc e fs bd).1==0)=true:=by simpa using hF1
     simp only [Bool.false_eq_true,if_false,if_true,run_s h2 e fs,Option.bind_some,c3,beq_self_eq_true,hA el v2 (by simpa using s2),q19h _ (Nat.le_trans runA_len' (by omega))]
 ·have c1:((runF [ifR t th el] f rc e fs bd).1 != 0)=true:=by simpa using hF
  have hx2:∃ z,q21y [ifR t th el] f rc e fs bd=some z:=by
   have hx:=qf0 hw e fs
   refine ⟨_,q21x (r:=(0,(false,runF [ifR t th el] f rc e fs bd))) ?_⟩
   simp only [q21z,q26i,q26z,EC.decL_encL,EC.isL_encL,EC.encL_length,q4g,q1ll,if_true,hx,Option.bind_some,c1,show (true==false)=false from rfl,Bool.false_eq_true,if_false]
  obtain ⟨z,hz⟩:=hx2
  refine q21r ?_
  simp only [q21t,lit_if,q26i,q26z,EC.decL_encL,EC.isL_encL,if_true,hx,hz,Option.bind_some,c1,show (true==false)=false from rfl,Bool.false_eq_true,if_false]
end Go.Proofs.YtokahibbkdbndaaGreatDoor
namespace Go.Proofs.YtokahibbkdbndaaGreatDoor
open Go.ChangeShapes Go.WideShapes Go.ChangeAt Go.RowKit Go.Deep
theorem qm:ownKnob Tryz.prog.godebug=none:=by kernel_rfl
theorem ql:laidOutB Tryz.prog=true:=by kernel_rfl
section
variable {H:Type} {enc:TypeId × Value→H} {P:Program}
theorem q119 (hl:laidOutB P=true) {W W':World} (hb:Bel W W'):∀ {ts:List TypeId} {vs:List Value} {ds:List (DataW H)} {ps:List MemPlace},ts.all (fun t=>P.readableRec t&&decide (t<P.types.size))=true →
  DataW.TrodAll enc P W 0 (fun _=>true) true ts vs ds ps→(∀ x∈ps,x.block<W.heap.size)→DataW.TrodAll enc P W' 0 (fun b=>decide (b<W.heap.size)) true ts vs ds ps
 |[],[],[],_,_,h,_=>h
 |[],[],_::_,_,_,h,_=>h.elim
 |[],_::_,_,_,_,h,_=>h.elim
 |_::_,[],_,_,_,h,_=>h.elim
 |_::_,_::_,[],_,_,h,_=>h.elim
 |t::ts,v::vs,d::ds,ps,hr,h,hlt=>by
  obtain ⟨p,q,h1,h2,rfl⟩:=h
  simp only [List.all_cons,Bool.and_eq_true,decide_eq_true_eq] at hr
  exact ⟨p,q,Below.trod hl hr.1.1 hr.1.2 h1 hb (fun x hx=>hlt x (List.mem_append_left _ hx)),q119 hl hb hr.2 h2 (fun x hx=>hlt x (List.mem_append_right _ hx)),rfl⟩
theorem qmf {fn:Func} {s:ChangeSpec} {W W':World} {args:Array Value} {ds gs:List (DataW H)} {before:List MemPlace} {tb:TypeId} (hl:laidOutB P=true)
  (hr:fn.params.toList.all (fun t=>P.readableRec t&&decide (t<P.types.size))=true) (hrt:fn.resultTypes=#[tb]) (htb:P.underlying tb=some .bool) (hvars:s.vars=[])
  (hfn:s.fn H ds={ results:=[.lit (.bool true)],args:=ds })
  (hW:DataW.Whole enc P fn.params.toList s.vars false W args.toList ds gs before) (hb:Bel W W'):s.post enc P fn false true false false W args (.bool true) W':=by
 have hW':=hW
 have hlt:∀ x∈before,x.block<W.heap.size:=fun x hx=>hW.lt x hx
 obtain ⟨p,q,hA,hV,rfl,hfz,hnd⟩:=hW
 rw [hvars] at hV
 obtain ⟨rfl,rfl⟩:=trodVars_none hV
 have e:s.fn H (ds++[])={ results:=[.lit (.bool true)],args:=ds }:=by rw [List.append_nil];exact hfn
 refine ⟨ds,[],p++[],[],p,[],hW',?_,?_,?_,hb.frame _,fun h=>by cases h⟩
 ·rw [e,hrt]
  exact trodAll_mk1 (shut_bool htb true)
 ·rw [e]
  exact q119 hl hb hr hA (fun x hx=>hlt x (by simpa using hx))
 ·rw [e,hvars]
  rfl
end
end Go.Proofs.YtokahibbkdbndaaGreatDoor
