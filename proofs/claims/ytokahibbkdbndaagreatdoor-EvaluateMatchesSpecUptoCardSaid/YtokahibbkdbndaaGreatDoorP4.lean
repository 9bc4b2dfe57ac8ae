/- What the reference's Suits and Wild answer, in plain words. -/
import Derived.Test.YtokahibbkdbndaaGreatDoorZ25
namespace Go.Proofs.YtokahibbkdbndaaGreatDoor
open Go.RowKit
def elOf (plain:Bool) (c:Int):El:=if plain then ⟨false,false,c⟩ else if c=42 then ⟨false,true,0⟩ else ⟨true,false,0⟩
set_option maxHeartbeats 4000000 in
theorem suits13 (p t:ByteArray) (hn:t.size≤10000) (k c:Int) (hc0:0≤c) (hc1:c<256) (plain:Bool) (b0:List Bool) (hb0:b0.length=t.size+1):∀ (m i:Nat) (b1:List Bool),i+m=t.size+1→b1.length=t.size+1 →
  (∀ q,q<i→b1.getD q false=NX (elOf plain c) (L t) (fun q=>b0.getD q false) q)→(∀ q,i≤q→b1.getD q false=false) →
  q152 p t (t.size+1) k (t.size+1) c plain i b0 b1=some ((p,t,t.size+1,k,t.size+1,c,plain,((t.size+1:Nat):Int),false),(b0,(List.range (t.size+1)).map (NX (elOf plain c) (L t) (fun q=>b0.getD q false)))):=by
 intro m
 have hL:=ql t
 generalize hO:(fun q=>b0.getD q false)=O
 have hOq:∀ q,b0.getD q false=O q:=fun q=>by rw [←hO]
 generalize hR:some ((p,t,t.size+1,k,t.size+1,c,plain,((t.size+1:Nat):Int),false),(b0,(List.range (t.size+1)).map (NX (elOf plain c) (L t) O)))=R
 induction m with
 |zero =>
  intro i b1 hi hl hlo hhi
  obtain rfl:i=t.size+1:=by omega
  have e:b1=(List.range (t.size+1)).map (NX (elOf plain c) (L t) O):=by
   apply List.ext_getElem?
   intro q
   rcases Nat.lt_or_ge q (t.size+1) with h|h
   ·have:=hlo q (by omega)
    rw [qn9 (by omega)] at this
    rw [List.getElem?_eq_getElem (by omega),this]
    simp [List.getElem?_range h]
   ·rw [List.getElem?_eq_none (by omega),List.getElem?_eq_none (by simp;omega)]
  rw [←hR,←e]
  have h1:¬ ((t.size+1:Nat):Int)≤(t.size:Int):=by omega
  refine q154 ?_
  simp only [q158,z17,z18,z19,z1a,z1b,z1c,z1d,gL,dL,lN,wI,p0,q7r,qn6,EC.decL_encL,EC.isL_encL,EC.encL_length,q4h,q1ft,h1,decide_false,Bool.false_eq_true,if_false,if_true]
 |succ m ih =>
  intro i b1 hi hl hlo hhi
  have hil:i<t.size+1:=by omega
  have hw:=q1m3 hil (by omega)
  have go:∀ v,v=NX (elOf plain c) (L t) O i→q152 p t (t.size+1) k (t.size+1) c plain ((i+1:Nat):Int) b0 (b1.set i v)=R:=by
   intro v hv
   refine ih (i+1) (b1.set i v) (by omega) (by simpa using hl) (fun q hq=>?_) (fun q hq=>?_)
   ·rw [q1fv _ _ _ _ (by omega)]
    split
    ·rename_i e;subst e;exact hv
    ·exact hlo q (by omega)
   ·rw [q1fv _ _ _ _ (by omega),if_neg (by omega)]
    exact hhi q (by omega)
  have go0:NX (elOf plain c) (L t) O i=false→q152 p t (t.size+1) k (t.size+1) c plain ((i+1:Nat):Int) b0 b1=R:=by
   intro hv
   refine ih (i+1) b1 (by omega) hl (fun q hq=>?_) (fun q hq=>hhi q (by omega))
   rcases Nat.lt_or_ge q i with h|h
   ·exact hlo q h
   ·have:q=i:=by omega
    subst this
    rw [hhi q (Nat.le_refl _),hv]
  have hib0:i<b0.length:=by omega
  have hib1:i<b1.length:=by omega
  have h1:(i:Int)≤(t.size:Int):=by omega
  have h2:(i:Int)<((t.size+1:Nat):Int):=by omega
  rw [←hR]
  refine q154 ?_
  rw [hR]
  have base:∀ (X:Option ((ByteArray×ByteArray×Nat×Int×Nat×Int×Bool×Int×Bool)×(List Bool×List Bool))),X=R→X=R:=fun _ h=>h
  cases i with
  |zero =>
   have hz:Int.toNat ((0:Nat):Int)=0:=rfl
   have hg:¬ (((0:Nat):Int)>0):=by simp
   cases plain with
   |true =>
    simp only [q158,z17,z18,z19,z1a,z1b,z1c,z1d,gL,dL,lN,wI,p0,q7r,qn6,EC.decL_encL,EC.isL_encL,EC.encL_length,q4h,q1ft,h1,hg,hw,decide_true,decide_false,q7g,q7f,Bool.not_true,Bool.not_false,Bool.false_eq_true,if_false,if_true]
    exact go0 (by simp [NX,elOf])
   |false =>
    by_cases hc:c=42
    ·have hcb:(c==42)=true:=by simpa using hc
     have hN:NX (elOf false c) (L t) O 0=O 0:=by simp [NX,elOf,hc]
     simp only [q158,z17,z18,z19,z1a,z1b,z1c,z1d,gL,dL,lN,wI,p0,q7r,qn6,EC.decL_encL,EC.isL_encL,EC.encL_length,q4h,q1ft,h1,h2,hg,hw,hz,hcb,hOq,d4,hib0,hib1,qs2 b0 0 hib0,qs2 b1 0 hib1,qqt b0 0 hib0,decide_true,decide_false,q7g,q7f,Bool.not_true,Bool.not_false,Bool.false_eq_true,if_false,if_true,Bool.and_self,beq_self_eq_true,Int.natCast_nonneg]
     cases hq:O 0 with
     |true=>simpa using go true (by rw [hN,hq])
     |false=>simpa using go false (by rw [hN,hq])
    ·have hcb:(c==42)=false:=by simpa using hc
     simp only [q158,z17,z18,z19,z1a,z1b,z1c,z1d,gL,dL,lN,wI,p0,q7r,qn6,EC.decL_encL,EC.isL_encL,EC.encL_length,q4h,q1ft,h1,hg,hw,hcb,decide_true,decide_false,q7g,q7f,Bool.not_true,Bool.not_false,Bool.false_eq_true,if_false,if_true]
     exact go0 (by simp [NX,elOf,hc])
  |succ i =>
   have hg:(((i+1:Nat):Int)>0):=by omega
   have hwp:IntKind.i64.wrap (((i+1:Nat):Int) - 1)=(i:Int):=by rw [IntWalk.i64_in _ (by omega)];omega
   have hib0':i<b0.length:=by omega
   have hib1':i<b1.length:=by omega
   have h3:(i:Int)<((t.size+1:Nat):Int):=by omega
   have hit:i<t.size:=by omega
   have hiL:i<(L t).length:=by omega
   have hlp:=hlo i (by omega)
   have n2:=qul (L t)[i]
   cases plain with
   |true =>
    have hN:NX (elOf true c) (L t) O (i+1)=(O i&&(lowI c==lowI (nb (L t)[i]))):=by
     simp only [NX,elOf,List.getElem?_eq_getElem hiL];rfl
    simp only [q158,z17,z18,z19,z1a,z1b,z1c,z1d,gL,dL,lN,wI,p0,q7r,qn6,EC.decL_encL,EC.isL_encL,EC.encL_length,q4h,q1ft,Int.toNat_natCast,h1,h2,h3,hg,hw,hwp,hit,hOq,d4,hib0,hib1,hib0',hib1',qs2 b0 i hib0',qs2 b1 (i+1) hib1,qqt b0 i hib0',q52 t hiL,q1a9 hc0 hc1 n2.1 n2.2,Option.bind_some,decide_true,q7g,q7f,Bool.not_true,Bool.false_eq_true,if_false,if_true,Bool.and_self,beq_self_eq_true,Int.natCast_nonneg]
    cases hq:O i with
    |true =>
     rw [hq,Bool.true_and] at hN
     have:=go _ hN.symm
     simpa only [if_true] using this
    |false =>
     rw [hq,Bool.false_and] at hN
     simpa only [Bool.false_eq_true,if_false] using go0 hN
   |false =>
    by_cases hc:c=42
    ·have hcb:(c==42)=true:=by simpa using hc
     have hN:NX (elOf false c) (L t) O (i+1)=(O (i+1)||NX (elOf false c) (L t) O i):=by simp [NX,elOf,hc]
     simp only [q158,z17,z18,z19,z1a,z1b,z1c,z1d,gL,dL,lN,wI,p0,q7r,qn6,EC.decL_encL,EC.isL_encL,EC.encL_length,q4h,q1ft,Int.toNat_natCast,h1,h2,h3,hg,hw,hwp,hit,hOq,d4,hib0,hib1,hib0',hib1',hcb,hlp,qs2 b0 (i+1) hib0,qs2 b1 (i+1) hib1,qs2 b1 i hib1',qqt b0 (i+1) hib0,qqt b1 i hib1',decide_true,q7f,Bool.not_true,Bool.not_false,Bool.false_eq_true,if_false,if_true,Bool.and_self,beq_self_eq_true,Int.natCast_nonneg]
     cases hq:O (i+1) with
     |true=>simpa only [Bool.not_true,Bool.false_eq_true,if_false] using go true (by rw [hN,hq];rfl)
     |false =>
      rw [hq,Bool.false_or] at hN
      simpa only [Bool.not_false,if_true] using go _ hN.symm
    ·have hcb:(c==42)=false:=by simpa using hc
     have hN:NX (elOf false c) (L t) O (i+1)=O i:=by
      simp only [NX,elOf,List.getElem?_eq_getElem hiL,hc]
      simp [fitAt,fitB]
     simp only [q158,z17,z18,z19,z1a,z1b,z1c,z1d,gL,dL,lN,wI,p0,q7r,qn6,EC.decL_encL,EC.isL_encL,EC.encL_length,q4h,q1ft,Int.toNat_natCast,h1,h2,h3,hg,hw,hwp,hit,hOq,d4,hib0,hib1,hib0',hib1',hcb,qs2 b0 i hib0',qs2 b1 (i+1) hib1,qqt b0 i hib0',decide_true,q7f,Bool.not_true,Bool.not_false,Bool.false_eq_true,if_false,if_true,Bool.and_self,beq_self_eq_true,Int.natCast_nonneg]
     cases hq:O i with
     |true=>simpa only [if_true] using go true (by rw [hN,hq])
     |false=>simpa only [Bool.false_eq_true,if_false] using go0 (by rw [hN,hq])
theorem q3o {T:List UInt8} {O O':Nat→Bool} {E:List El} (h:∀ j,j≤T.length→O j=O' j):anyJ T O E ↔ anyJ T O' E:=by
 constructor
 ·rintro ⟨j,a,b,c⟩;exact ⟨j,a,by rw [←h j a];exact b,c⟩
 ·rintro ⟨j,a,b,c⟩;exact ⟨j,a,by rw [h j a];exact b,c⟩
theorem q1ab (f:Nat→Bool) {n q:Nat} (h:q<n):((List.range n).map f).getD q false=f q:=by
 simp [List.getD_eq_getElem?_getD,List.getElem?_range h]
theorem qb6 (b:UInt8) (pl:Bool) (h:pl=(nb b != 42&&nb b != 63)):elOf pl (nb b)=el1 b:=by
 subst h
 unfold elOf el1
 by_cases h1:nb b=42
 ·simp [h1]
 by_cases h2:nb b=63
 ·simp [h2]
 ·simp [h1,h2]
set_option maxHeartbeats 4000000 in
theorem suits4 (p t:ByteArray) (hp:p.size≤1000) (hn:t.size≤10000):∀ (m k:Nat) (b0:List Bool),p.size - k≤m→k≤p.size→b0.length=t.size+1 →
  ∃ k' b0',q159 p t (t.size+1) k b0=some ((p,t,t.size+1,k',false),b0')∧b0'.length=t.size+1∧(b0'.getD t.size false=true ↔ anyJ (L t) (fun q=>b0.getD q false) (elems2 ((L p).drop k))):=by
 intro m
 have hLp:=ql p
 have hLt:=ql t
 induction m with
 |zero =>
  intro k b0 hm hk hl
  obtain rfl:k=p.size:=by omega
  refine ⟨_,b0,q15b (by
   simp only [q15f,z1e,z1f,gL,dL,wI,p0,q7r,qn6,EC.decL_encL,EC.isL_encL]
   simp;rfl),hl,?_⟩
  rw [List.drop_eq_nil_of_le (by omega),elems2,q3p,hLt]
 |succ m ih =>
  intro k b0 hm hk hl
  rcases Nat.lt_or_ge k p.size with hlt|hge
  case inr=>exact ih k b0 (by omega) hk hl
  have hkL:k<(L p).length:=by omega
  have hk':(k:Int)<(p.size:Int):=by omega
  have hwk:=q1m3 hlt (by omega)
  have hwn:=q1m3 (k:=t.size) (n:=t.size+1) (by omega) (by omega)
  have g0:(0:Int)≤((t.size+1:Nat):Int):=by omega
  have g1:((t.size+1:Nat):Int)*((1:Nat):Int)≤140737488355328:=by omega
  have g2:((t.size+1:Nat):Int)≤9223372036854775807:=by omega
  have hrep:List.replicate (t.size+1) [C.bool false]=qax.encL (List.replicate (t.size+1) false):=EC_rep qax (t.size+1) false
  have hat:=q52 p hkL
  generalize hb:(L p)[k]=b at hat
  have n1:=qul b
  have h13:∀ (k c:Int) (plain:Bool),0≤c→c<256→q152 p t (t.size+1) k (t.size+1) c plain 0 b0 (List.replicate (t.size+1) false)=some ((p,t,t.size+1,k,t.size+1,c,plain,((t.size+1:Nat):Int),false),(b0,(List.range (t.size+1)).map (NX (elOf plain c) (L t) (fun q=>b0.getD q false)))):=fun k c plain h0 h1 =>
   suits13 p t hn k c h0 h1 plain b0 hl (t.size+1) 0 (List.replicate (t.size+1) false) (by omega) (by simp) (fun q hq=>by omega) (fun q _=>by simp [List.getD_eq_getElem?_getD,List.getElem?_replicate];split <;> simp)
  -- behind one element
  have fin:∀ (e:El) (E:List El) (kk:Nat),kk≤p.size→p.size - kk≤m→E=elems2 ((L p).drop kk)→elems2 ((L p).drop k)=e::E →
    (∀ r,q159 p t (t.size+1) (kk:Int) ((List.range (t.size+1)).map (NX e (L t) (fun q=>b0.getD q false)))=some r→q159 p t (t.size+1) k b0=some r) →
    ∃ k' b0',q159 p t (t.size+1) k b0=some ((p,t,t.size+1,k',false),b0')∧b0'.length=t.size+1∧(b0'.getD t.size false=true ↔ anyJ (L t) (fun q=>b0.getD q false) (elems2 ((L p).drop k))):=by
   intro e E kk hkk hmm hE he hs
   obtain ⟨k',b0',h1,h2,h3⟩:=ih kk ((List.range (t.size+1)).map (NX e (L t) (fun q=>b0.getD q false))) hmm hkk (by simp)
   refine ⟨k',b0',hs _ h1,h2,?_⟩
   rw [h3,he,q3q,←hE]
   exact q3o fun j hj=>q1ab _ (by omega)
  by_cases h92:nb b=92∧k+1<p.size
  ·obtain ⟨h92,hl2⟩:=h92
   have hkL2:k+1<(L p).length:=by omega
   have hk2:((k+1:Nat):Int)<(p.size:Int):=by omega
   have hk20:(0:Int)≤((k+1:Nat):Int):=by omega
   have hwk2:=q1m3 hl2 (by omega)
   have hat2:=q52 p hkL2
   have n2:=qul (L p)[k+1]
   refine fin ⟨false,false,nb (L p)[k+1]⟩ (elems2 ((L p).drop (k+1+1))) (k+1+1) (by omega) (by omega) rfl (by rw [qag hkL,qag hkL2,hb,qbd h92]) fun r hr=>q15b ?_
   have h:=h13 ((k+1:Nat):Int) (nb (L p)[k+1]) true n2.1 n2.2
   have e:elOf true (nb (L p)[k+1])=⟨false,false,nb (L p)[k+1]⟩:=rfl
   rw [e] at h
   have b1:(nb b != 42)=true:=by simp [h92]
   have b2:(nb b==92)=true:=by simp [h92]
   have b3:(nb b != 63)=true:=by simp [h92]
   simp only [q15f,z1e,z1f,gL,dL,wI,p0,q7r,qn6,EC.decL_encL,EC.isL_encL,Int.toNat_natCast,hk',hlt,hat,hwk,hwn,g0,g1,g2,b1,b2,b3,hk2,hk20,hl2,hat2,hrep,h,hwk2,hr,Option.bind_some,q7g,decide_true,if_true,Bool.and_self,Int.natCast_nonneg]
  ·have hel:elems2 (b::(L p).drop (k+1))=el1 b::elems2 ((L p).drop (k+1)):=qbc (by
    by_cases h:nb b=92
    ·right;exact List.drop_eq_nil_of_le (by rw [hLp];have:¬ k+1<p.size:=fun h'=>h92 ⟨h,h'⟩;omega)
    ·exact .inl h)
   have hbr:(nb b==92)=true→¬ ((k+1:Nat):Int)<(p.size:Int):=by
    intro h h'
    exact h92 ⟨by simpa using h,by omega⟩
   refine fin (el1 b) (elems2 ((L p).drop (k+1))) (k+1) (by omega) (by omega) rfl (by rw [qag hkL,hb,hel]) fun r hr=>q15b ?_
   by_cases h42:nb b=42
   ·have b1:(nb b != 42)=false:=by simp [h42]
    have b2:(nb b==92)=false:=by simp [h42]
    have h:=h13 (k:Int) (nb b) false n1.1 n1.2
    rw [qb6 b false (by simp [h42])] at h
    simp only [q15f,z1e,z1f,gL,dL,wI,p0,q7r,qn6,EC.decL_encL,EC.isL_encL,Int.toNat_natCast,hk',hlt,hat,hwk,hwn,g0,g1,g2,b1,b2,hrep,h,hr,Option.bind_some,q7g,decide_true,if_true,Bool.and_self,Int.natCast_nonneg,Bool.false_eq_true,if_false]
   ·have b1:(nb b != 42)=true:=by simpa using h42
    have h:=h13 (k:Int) (nb b) (nb b != 63) n1.1 n1.2
    rw [qb6 b (nb b != 63) (by simp [b1])] at h
    cases b2:(nb b==92) with
    |true =>
     have b3:=hbr b2
     simp only [q15f,z1e,z1f,gL,dL,wI,p0,q7r,qn6,EC.decL_encL,EC.isL_encL,Int.toNat_natCast,hk',hlt,hat,hwk,hwn,g0,g1,g2,b1,b2,b3,hrep,h,hr,Option.bind_some,q7g,decide_true,decide_false,if_true,Bool.and_self,Int.natCast_nonneg,Bool.false_eq_true,if_false]
    |false =>
     simp only [q15f,z1e,z1f,gL,dL,wI,p0,q7r,qn6,EC.decL_encL,EC.isL_encL,Int.toNat_natCast,hk',hlt,hat,hwk,hwn,g0,g1,g2,b1,b2,hrep,h,hr,Option.bind_some,q7g,decide_true,if_true,Bool.and_self,Int.natCast_nonneg,Bool.false_eq_true,if_false]
theorem q1hl (p t:ByteArray) (hp:p.size≤1000) (hn:t.size≤10000):q15g p t=some (canM (elems2 (L p)) (L t)):=q151 (by
 have hLt:=ql t
 have hwn:=q1m3 (k:=t.size) (n:=t.size+1) (by omega) (by omega)
 have g0:(0:Int)≤((t.size+1:Nat):Int):=by omega
 have g1:((t.size+1:Nat):Int)*((1:Nat):Int)≤140737488355328:=by omega
 have g2:((t.size+1:Nat):Int)≤9223372036854775807:=by omega
 have g3:(0:Int)<((t.size+1:Nat):Int):=by omega
 have g4:((t.size:Nat):Int)<((t.size+1:Nat):Int):=by omega
 have hrep:List.replicate (t.size+1) [C.bool false]=qax.encL (List.replicate (t.size+1) false):=EC_rep qax (t.size+1) false
 have hl0:0<(List.replicate (t.size+1) false).length:=by simp
 obtain ⟨k',b0',h1,h2,h3⟩:=suits4 p t hp hn p.size 0 ((List.replicate (t.size+1) false).set 0 true) (by omega) (by omega) (by simp)
 have h1':q159 p t (t.size+1) (0:Int) ((List.replicate (t.size+1) false).set 0 true)=some ((p,t,t.size+1,k',false),b0'):=h1
 have hb:t.size<b0'.length:=by omega
 have z:Int.toNat 0=0:=rfl
 have hv:b0'.getD t.size false=canM (elems2 (L p)) (L t):=by
  rw [Bool.eq_iff_iff,h3,List.drop_zero]
  constructor
  ·rintro ⟨j,a,b,c⟩
   dsimp only at b
   rw [q1fv _ _ _ _ hl0] at b
   split at b
   ·rename_i e;subst e;simpa using c
   ·simp [List.getD_eq_getElem?_getD,List.getElem?_replicate] at b
    split at b <;> simp at b
  ·intro h
   exact ⟨0,by omega,by dsimp only;rw [q1fv _ _ _ _ hl0];simp,by simpa using h⟩
 have hlr:(List.replicate (t.size+1) false).length=t.size+1:=by simp
 have g5:0<t.size+1:=by omega
 simp only [q15h,z1g,lN,wI,p0,qn6,hrep,hwn,Int.toNat_natCast,EC.decL_encL,EC.isL_encL,EC.encL_length,q4h,q1ft,g0,g1,g2,g3,g4,g5,z,h1',Option.bind_some,hb,qs2 b0' t.size hb,qqt b0' t.size hb,qs2 _ 0 hl0,hlr,d4,hv,decide_true,if_true,Bool.and_self,Int.natCast_nonneg,Int.le_refl,beq_self_eq_true])
theorem qxl:∀ (l:List El) (T:List UInt8),(pieces l T).length≤l.length
 |[],_=>by simp [pieces]
 |e::l,T=>by
  rw [pieces]
  split
  ·have:=qxl l (T.drop (skip l T));simp;omega
  ·split
   ·have:=qxl l (T.drop 1);simp at this ⊢;omega
   ·have:=qxl l (T.drop 1);simp at this ⊢;omega
theorem qbb:∀ (l:List UInt8),(elems2 l).length≤l.length
 |[]=>by simp [elems2]
 |[b]=>by simp [elems2]
 |b::c::l=>by
  rw [elems2]
  split
  ·have:=qbb l;simp;omega
  ·have:=qbb (c::l);simp at this ⊢;omega
theorem L_rest (t:ByteArray) (n:Nat):L (t.extract n t.size)=(L t).drop n:=by
 rw [L_ext,List.take_of_length_le (by rw [List.length_drop,ql];omega)]
theorem q1fz (t:ByteArray) (n:Nat):(t.extract n t.size).size=t.size - n:=by
 rw [←ql,L_rest,List.length_drop,ql]
theorem qm:L (ByteArray.mk (List.toArray []))=[]:=rfl
theorem ext0 (t:ByteArray) (n:Nat):t.extract 0 n=toBA ((L t).take n):=by
 apply BA_ext
 rw [L_ext];rfl
theorem q94 (x:ByteArray) (xs:List ByteArray):[[C.str x]]++qb5.encL xs=qb5.encL (x::xs):=rfl
theorem star_t {E:List El}:∀ {u:List UInt8},canM E u=true→canM (⟨false,true,0⟩::E) u=true∧skip E u=0
 |[],h=>by rw [canM,skip];simp [h]
 |c::u,h=>by rw [canM,skip];simp [h]
theorem star_f {E:List El} {c:UInt8} {u:List UInt8} (h:canM E (c::u)=false):canM (⟨false,true,0⟩::E) (c::u)=canM (⟨false,true,0⟩::E) u∧skip E (c::u)=skip E u+1:=by
 rw [canM,skip];simp [h]
def starR (E:List El) (T:List UInt8) (n:Nat):(Bool×Nat)×List ByteArray :=
 if canM (⟨false,true,0⟩::E) (T.drop n) then ((true,((pieces E (T.drop (n+skip E (T.drop n)))).map toBA).length+1),toBA (T.take (n+skip E (T.drop n)))::(pieces E (T.drop (n+skip E (T.drop n)))).map toBA) else ((false,0),[])
theorem q1gc (p t:ByteArray) (h1p:1≤p.size) (hp:p.size≤1000) (hn:t.size≤10000) (E:List El) (hE:E=elems2 ((L p).drop 1)) (ih:∀ t':ByteArray,t'.size≤10000→q1fh (p.extract 1 p.size) t'=some (wildR E (L t'))):∀ (m n:Nat),n+m=t.size →
  (q1f9 p t n).bind (Sum.elim (fun r=>some (((r.1).1,(r.1).2),r.2)) (fun _=>some ((false,0),[])))=some (starR E (L t) n):=by
 intro m
 have hLt:=ql t
 have hEl:E.length≤1000:=by rw [hE];have:=qbb ((L p).drop 1);rw [List.length_drop,ql] at this;omega
 have hsz:=q1fz p 1
 have h1p':(1:Int)≤(p.size:Int):=by omega
 have z1:Int.toNat 1=1:=rfl
 have hsu:∀ n,q15g (p.extract 1 p.size) (t.extract n t.size)=some (canM E ((L t).drop n)):=fun n=>by
  rw [q1hl _ _ (by omega) (by rw [q1fz];omega),L_rest,L_rest,hE]
 have found:∀ n,n≤t.size→canM E ((L t).drop n)=true→q1f9 p t n=some (.inl ((true,((pieces E ((L t).drop n)).map toBA).length+1),toBA ((L t).take n)::(pieces E ((L t).drop n)).map toBA)):=by
  intro n hnn hc
  have hi:=ih (t.extract n t.size) (by rw [q1fz];omega)
  rw [L_rest,wildR,if_pos hc] at hi
  have hpl:=qxl E ((L t).drop n)
  have h2:(n:Int)≤(t.size:Int):=by omega
  have hml:((pieces E ((L t).drop n)).map toBA).length≤1000:=by simp;omega
  have g1:(((pieces E ((L t).drop n)).map toBA).length+1+(((pieces E ((L t).drop n)).map toBA).length+1) / 4+192)*16≤281474976710656:=by omega
  have g2:1+((pieces E ((L t).drop n)).map toBA).length≤9223372036854775807:=by omega
  refine q1fb ?_
  simp only [q1fg,lN,wI,p0,aL,dQ,dM,q7r,qn6,Int.toNat_natCast,z1,h1p',h2,hsu n,hc,hi,Option.bind_some,q94,EC.decL_encL,EC.isL_encL,EC.encL_length,q3l,g2,ext0,List.all_cons,List.all_nil,List.length_cons,List.length_nil,Nat.zero_add,decide_true,if_true,Bool.and_self,Int.natCast_nonneg,Bool.not_true,Bool.false_eq_true,if_false,beq_self_eq_true,show (0:Int)≤1 by decide]
  simp only [Nat.add_comm 1,g1,decide_true,Bool.and_self,if_true]
 induction m with
 |zero =>
  intro n hnm
  obtain rfl:n=t.size:=by omega
  have hd:(L t).drop t.size=[]:=List.drop_eq_nil_of_le (by omega)
  cases hc:canM E ((L t).drop t.size) with
  |true =>
   rw [found t.size (Nat.le_refl _) hc]
   have hm:canM (⟨false,true,0⟩::E) ((L t).drop t.size)=true:=by rw [hd,canM];rw [hd] at hc;simp [hc]
   simp only [Option.bind_some,Sum.elim_inl,starR,hm,if_true]
   rw [hd,skip];simp [hd]
  |false =>
   have hm:canM (⟨false,true,0⟩::E) ((L t).drop t.size)=false:=by rw [hd,canM];rw [hd] at hc;simp [hc]
   have hw:=q1m3 (k:=t.size) (n:=t.size+1) (by omega) (by omega)
   have h3:¬ ((t.size+1:Nat):Int)≤(t.size:Int):=by omega
   have e2:q1f9 p t ((t.size+1:Nat):Int)=some (.inr ((p,t,((t.size+1:Nat):Int),false),())):=q1fb (by
    simp only [q1fg,lN,wI,p0,aL,dQ,dM,q7r,h3,decide_false,Bool.false_eq_true,if_false])
   have e1:q1f9 p t (t.size:Int)=some (.inr ((p,t,((t.size+1:Nat):Int),false),())):=q1fb (by
    simp only [q1fg,lN,wI,p0,aL,dQ,dM,q7r,qn6,Int.toNat_natCast,z1,h1p',hsu t.size,hc,Option.bind_some,hw,e2,decide_true,if_true,Bool.and_self,Int.natCast_nonneg,Bool.not_false,Int.le_refl,show (0:Int)≤1 by decide])
   rw [e1]
   simp only [Option.bind_some,Sum.elim_inr,starR,hm,Bool.false_eq_true,if_false]
 |succ m ihm =>
  intro n hnm
  have hlt:n<(L t).length:=by omega
  cases hc:canM E ((L t).drop n) with
  |true =>
   rw [found n (by omega) hc]
   obtain ⟨hm,hs⟩:=star_t hc
   simp only [Option.bind_some,Sum.elim_inl,starR,hm,hs,if_true,Nat.add_zero]
  |false =>
   have hsf:canM (⟨false,true,0⟩::E) ((L t).drop n)=canM (⟨false,true,0⟩::E) ((L t).drop (n+1))∧skip E ((L t).drop n)=skip E ((L t).drop (n+1))+1:=by
    rw [qag hlt] at hc ⊢;exact star_f hc
   have hm:=hsf.1
   have hs:n+skip E ((L t).drop n)=n+1+skip E ((L t).drop (n+1)):=by rw [hsf.2];omega
   have hR:starR E (L t) n=starR E (L t) (n+1):=by rw [starR,starR,hm,hs]
   have ih':=ihm (n+1) (by omega)
   have hw:=q1m3 (k:=n) (n:=t.size) (by omega) (by omega)
   have h2:(n:Int)≤(t.size:Int):=by omega
   cases hz:q1f9 p t ((n+1:Nat):Int) with
   |none=>rw [hz] at ih';cases ih'
   |some r =>
    have e1:q1f9 p t (n:Int)=some r:=q1fb (by
     simp only [q1fg,lN,wI,p0,aL,dQ,dM,q7r,qn6,Int.toNat_natCast,z1,h1p',h2,hsu n,hc,Option.bind_some,hw,hz,decide_true,if_true,Bool.and_self,Int.natCast_nonneg,Bool.not_false,show (0:Int)≤1 by decide])
    rw [e1,←hz,ih',hR]
theorem at0 (s:ByteArray) {b:UInt8} {l:List UInt8} (h:L s=b::l):((UInt8.toNat (Array.getD s.data 0 (0:UInt8)):Nat):Int)=nb b:=by
 have h0:0<(L s).length:=by rw [h];simp
 rw [q52 s h0]
 simp only [h,List.getElem_cons_zero]
theorem at1 (s:ByteArray) {b c:UInt8} {l:List UInt8} (h:L s=b::c::l):((UInt8.toNat (Array.getD s.data 1 (0:UInt8)):Nat):Int)=nb c:=by
 have h0:1<(L s).length:=by rw [h];simp
 rw [q52 s h0]
 simp only [h,List.getElem_cons_succ,List.getElem_cons_zero]
set_option maxHeartbeats 4000000 in
theorem q1fi:∀ (m:Nat) (p t:ByteArray),p.size≤m→p.size≤1000→t.size≤10000→q1fh p t=some (wildR (elems2 (L p)) (L t)):=by
 intro m
 induction m with
 |zero =>
  intro p t hm hp hn
  have h0:L p=[]:=List.eq_nil_of_length_eq_zero (by rw [ql];omega)
  refine q1f8 ?_
  simp only [q1fj,z1h,z1i,z1j,z1k,z1l,gL,dL,lN,aL,dQ,dM,q7r,q1kw,h0,qm,elems2,wildR,canM,pieces,qg]
  cases h:L t with
  |nil=>simp
  |cons c T=>simp
 |succ m ih =>
  intro p t hm hp hn
  cases hpl:L p with
  |nil =>
   refine q1f8 ?_
   simp only [q1fj,z1h,z1i,z1j,z1k,z1l,gL,dL,lN,aL,dQ,dM,q7r,q1kw,hpl,qm,elems2,wildR,canM,pieces,qg]
   cases h:L t with
   |nil=>simp
   |cons c T=>simp
  |cons b l =>
   have hps:p.size=l.length+1:=by rw [←ql,hpl];simp
   have h1p:0<p.size:=by omega
   have h1p':(1:Int)≤(p.size:Int):=by omega
   have hr1:=L_rest p 1
   rw [hpl,List.drop_succ_cons,List.drop_zero] at hr1
   have hs1:=q1fz p 1
   have ih1:∀ t':ByteArray,t'.size≤10000→q1fh (p.extract 1 p.size) t'=some (wildR (elems2 l) (L t')):=fun t' ht=>by
    rw [ih _ t' (by omega) (by omega) ht,hr1]
   have hne:(L p==([]:List UInt8))=false:=by rw [hpl];rfl
   have z0:Int.toNat 0=0:=rfl
   have z1:Int.toNat 1=1:=rfl
   have z2:Int.toNat 2=2:=rfl
   have hb0:=at0 p hpl
   have hEl:(elems2 l).length≤1000:=by have:=qbb l;omega
   by_cases h42:nb b=42
   ·have hst:=q1gc p t (by omega) hp hn (elems2 l) (by rw [hpl];rfl) ih1 t.size 0 (by omega)
    have hst':(q1f9 p t (0:Int)).bind (Sum.elim (fun r=>some (((r.1).1,(r.1).2),r.2)) (fun _=>some ((false,0),[])))=some (starR (elems2 l) (L t) 0):=hst
    have hE:elems2 (b::l)=⟨false,true,0⟩::elems2 l:=by rw [qbc (.inl (by omega))];simp [el1,h42]
    have hR:starR (elems2 l) (L t) 0=wildR (elems2 (b::l)) (L t):=by
     rw [hE,starR,wildR,pieces];simp
    rw [←hR]
    refine q1f8 ?_
    have b1:(nb b==42)=true:=by simpa using h42
    simp only [q1fj,z1h,z1i,z1j,z1k,z1l,gL,dL,lN,aL,dQ,dM,q7r,qn6,q1kw,qm,hne,z0,h1p,hb0,b1,EC.decL_encL,EC.isL_encL,EC.encL_length,q3l,qg,decide_true,if_true,Bool.and_self,Int.le_refl,Bool.false_eq_true,if_false]
    exact hst'
   have b1:(nb b==42)=false:=by simpa using h42
   cases htl:L t with
   |nil =>
    have hmany:∃ e E,elems2 (b::l)=e::E∧e.many=false:=by
     by_cases h92:nb b=92
     ·cases l with
      |nil=>exact ⟨_,_,qbc (.inr rfl),by simp [el1,h92]⟩
      |cons c l=>exact ⟨_,_,qbd h92,rfl⟩
     ·exact ⟨_,_,qbc (.inl h92),by unfold el1;rw [if_neg h42];split <;> rfl⟩
    obtain ⟨e,E,hE,he⟩:=hmany
    have ht0:(L t==([]:List UInt8))=true:=by rw [htl];rfl
    refine q1f8 ?_
    simp only [q1fj,z1h,z1i,z1j,z1k,z1l,gL,dL,lN,aL,dQ,dM,q7r,qn6,q1kw,qm,hne,ht0,z0,h1p,hb0,b1,qg,decide_true,if_true,Bool.and_self,Int.le_refl,Bool.false_eq_true,if_false]
    simp [hE,wildR,canM,he]
   |cons c T =>
    have hts:t.size=T.length+1:=by rw [←ql,htl];simp
    have h1t:(1:Int)≤(t.size:Int):=by omega
    have h1tn:0<t.size:=by omega
    have ht0:(L t==([]:List UInt8))=false:=by rw [htl];rfl
    have hrt:=L_rest t 1
    rw [htl,List.drop_succ_cons,List.drop_zero] at hrt
    have hc0:=at0 t htl
    have hst1:=q1fz t 1
    have hi1:=ih1 (t.extract 1 t.size) (by omega)
    rw [hrt] at hi1
    have nbb:=qul b
    have nbc:=qul c
    by_cases h63:nb b=63
    ·have hE:elems2 (b::l)=⟨true,false,0⟩::elems2 l:=by rw [qbc (.inl (by omega))];simp [el1,h63]
     have b2:(nb b==63)=true:=by simpa using h63
     have hcm:canM (elems2 (b::l)) (c::T)=canM (elems2 l) T:=by rw [hE,canM];simp [fitB]
     have hpc:pieces (elems2 (b::l)) (c::T)=[c]::pieces (elems2 l) T:=by rw [hE,pieces];simp
     have hpl':=qxl (elems2 l) T
     have hml:((pieces (elems2 l) T).map toBA).length≤1000:=by simp;omega
     have g1:(((pieces (elems2 l) T).map toBA).length+1+(((pieces (elems2 l) T).map toBA).length+1) / 4+192)*16≤281474976710656:=by omega
     have g2:1+((pieces (elems2 l) T).map toBA).length≤9223372036854775807:=by omega
     refine q1f8 ?_
     cases hcan:canM (elems2 l) T with
     |true =>
      rw [wildR,if_pos hcan] at hi1
      rw [wildR,hcm,hcan,if_pos rfl,hpc]
      simp only [q1fj,z1h,z1i,z1j,z1k,z1l,gL,dL,lN,aL,dQ,dM,q7r,qn6,q1kw,qm,hne,z0,z1,h1p,h1p',h1t,hb0,b1,b2,hi1,Option.bind_some,q94,EC.decL_encL,EC.isL_encL,EC.encL_length,q3l,g2,ext0,htl,qg,List.all_cons,List.all_nil,List.length_cons,List.length_nil,Nat.zero_add,decide_true,if_true,Bool.and_self,Int.le_refl,Bool.false_eq_true,if_false,Bool.not_true,beq_self_eq_true,show (0:Int)≤1 by decide]
      simp only [Nat.add_comm 1,g1,decide_true,Bool.and_self,if_true]
      first|done|simp
     |false =>
      rw [wildR,if_neg (by simp [hcan])] at hi1
      rw [wildR,hcm,hcan,if_neg (by simp)]
      simp only [q1fj,z1h,z1i,z1j,z1k,z1l,gL,dL,lN,aL,dQ,dM,q7r,qn6,q1kw,qm,hne,ht0,z0,z1,h1p,h1p',h1t,hb0,b1,b2,hi1,Option.bind_some,qg,decide_true,if_true,Bool.and_self,Int.le_refl,Bool.false_eq_true,if_false,Bool.not_false,show (0:Int)≤1 by decide]
    have b2:(nb b==63)=false:=by simpa using h63
    -- a byte
    have lit:∀ (x:UInt8) (E:List El),wildR (⟨false,false,nb x⟩::E) (c::T)=if (lowI (nb x)==lowI (nb c))=true then wildR E T else ((false,0),[]):=by
     intro x E
     rw [wildR,canM,pieces]
     simp only [fitB,Bool.false_or,Bool.false_eq_true,if_false,List.drop_succ_cons,List.drop_zero]
     cases (lowI (nb x)==lowI (nb c)) with
     |true=>simp [wildR]
     |false=>simp
    have hel:el1 b=⟨false,false,nb b⟩:=by simp [el1,h42,h63]
    refine q1f8 ?_
    by_cases h92:nb b=92
    ·have b3:(nb b==92)=true:=by simpa using h92
     cases l with
     |nil =>
      have hE:elems2 [b]=⟨false,false,nb b⟩::elems2 []:=by rw [qbc (.inr rfl),hel]
      have hp1:¬ ((p.size:Int)>1):=by simp at hps;omega
      rw [hE,lit]
      simp only [q1fj,z1h,z1i,z1j,z1k,z1l,gL,dL,lN,aL,dQ,dM,q7r,qn6,q1kw,qm,hne,ht0,z0,z1,h1p,h1p',h1t,h1tn,hb0,hc0,b1,b2,b3,hp1,q1a9 nbb.1 nbb.2 nbc.1 nbc.2,hi1,EC.decL_encL,EC.isL_encL,EC.encL_length,q3l,Option.bind_some,qg,q7g,decide_true,decide_false,if_true,Bool.and_self,Int.le_refl,Bool.false_eq_true,if_false,show (0:Int)≤1 by decide]
      cases (lowI (nb b)==lowI (nb c)) with
      |true=>simp
      |false=>simp
     |cons x l' =>
      have hE:elems2 (b::x::l')=⟨false,false,nb x⟩::elems2 l':=qbd h92
      have hp1:((p.size:Int)>1):=by simp at hps;omega
      have hp1n:1<p.size:=by omega
      have hp2:(2:Int)≤(p.size:Int):=by omega
      have hx1:=at1 p hpl
      have nbx:=qul x
      have hr2:=L_rest p 2
      rw [hpl,List.drop_succ_cons,List.drop_succ_cons,List.drop_zero] at hr2
      have hs2:=q1fz p 2
      have hi2:=ih (p.extract 2 p.size) (t.extract 1 t.size) (by omega) (by omega) (by omega)
      rw [hr2,hrt] at hi2
      rw [hE,lit]
      simp only [q1fj,z1h,z1i,z1j,z1k,z1l,gL,dL,lN,aL,dQ,dM,q7r,qn6,q1kw,qm,hne,ht0,z0,z1,z2,h1p,h1p',h1t,h1tn,hb0,hc0,hx1,b1,b2,b3,hp1,hp1n,hp2,q1a9 nbx.1 nbx.2 nbc.1 nbc.2,hi2,EC.decL_encL,EC.isL_encL,EC.encL_length,q3l,Option.bind_some,qg,q7g,decide_true,if_true,Bool.and_self,Int.le_refl,Bool.false_eq_true,if_false,show (0:Int)≤1 by decide,show (0:Int)≤2 by decide]
      cases (lowI (nb x)==lowI (nb c)) with
      |true=>simp
      |false=>simp
    ·have b3:(nb b==92)=false:=by simpa using h92
     have hE:elems2 (b::l)=⟨false,false,nb b⟩::elems2 l:=by rw [qbc (.inl h92),hel]
     rw [hE,lit]
     simp only [q1fj,z1h,z1i,z1j,z1k,z1l,gL,dL,lN,aL,dQ,dM,q7r,qn6,q1kw,qm,hne,ht0,z0,z1,h1p,h1p',h1t,h1tn,hb0,hc0,b1,b2,b3,q1a9 nbb.1 nbb.2 nbc.1 nbc.2,hi1,EC.decL_encL,EC.isL_encL,EC.encL_length,q3l,Option.bind_some,qg,q7g,decide_true,if_true,Bool.and_self,Int.le_refl,Bool.false_eq_true,if_false,show (0:Int)≤1 by decide]
     cases (lowI (nb b)==lowI (nb c)) with
     |true=>simp
     |false=>simp
end Go.Proofs.YtokahibbkdbndaaGreatDoor
