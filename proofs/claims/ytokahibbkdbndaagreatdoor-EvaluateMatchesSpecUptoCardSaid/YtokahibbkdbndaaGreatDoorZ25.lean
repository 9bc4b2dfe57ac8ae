/- What patterns.wild answers, in plain words. -/
import Derived.Test.YtokahibbkdbndaaGreatDoorP1
namespace Go.Proofs.YtokahibbkdbndaaGreatDoor
open Go.RowKit
def canM:List El→List UInt8→Bool
 |[],t=>t.isEmpty
 |e::l,[]=>e.many&&canM l []
 |e::l,b::t=>if e.many then canM l (b::t)||canM (e::l) t else fitB e b&&canM l t
termination_by l t=>l.length+t.length
def F (l:List El) (T:List UInt8) (i j:Nat):Bool:=canM (l.drop i) (T.drop j)
def rowF (l:List El) (T:List UInt8) (i:Nat):List Bool:=(List.range (T.length+1)).map (F l T i)
theorem q1b5 (l:List El) (T:List UInt8) (i j:Nat) (h:j≤T.length):(rowF l T i).getD j false=F l T i j:=by
 simp [rowF,List.getD_eq_getElem?_getD,List.getElem?_range (show j<T.length+1 by omega)]
theorem q1b6 (l:List El) (T:List UInt8) (i:Nat):(rowF l T i).length=T.length+1:=by simp [rowF]
theorem F_end (l:List El) (T:List UInt8) (j:Nat) (h:j≤T.length):F l T l.length j=decide (j=T.length):=by
 simp only [F,List.drop_length,canM]
 by_cases e:j=T.length
 ·subst e;simp
 ·simp [e];omega
theorem F_many (l:List El) (T:List UInt8) (i j:Nat) (hi:i<l.length) (hm:l[i].many=true):F l T i j=(F l T (i+1) j||(decide (j<T.length)&&F l T i (j+1))):=by
 simp only [F]
 rw [qag hi]
 by_cases hj:j<T.length
 ·rw [qag hj,canM]
  simp [hm,hj]
 ·have:T.drop j=[]:=List.drop_eq_nil_of_le (by omega)
  rw [this,canM]
  simp [hm,hj]
theorem F_one (l:List El) (T:List UInt8) (i j:Nat) (hi:i<l.length) (hm:l[i].many=false):F l T i j=(fitAt l[i] T[j]?&&F l T (i+1) (j+1)):=by
 simp only [F]
 rw [qag hi]
 by_cases hj:j<T.length
 ·rw [qag hj,canM,List.getElem?_eq_getElem hj]
  simp [hm,fitAt]
 ·have:T.drop j=[]:=List.drop_eq_nil_of_le (by omega)
  rw [this,canM,List.getElem?_eq_none (by omega)]
  simp [hm,fitAt]
theorem d103:qb4.dec []=[]:=rfl
theorem d4:qax.dec []=false:=rfl
theorem qqt (xs:List Bool) (n:Nat) (h:n<xs.length):isP [.bool] 0 ((qax.encL xs).getD n [])=true:=by rw [EC.getD_lt _ _ h];rfl
theorem isP_sl (xs:List (List Bool)) (n:Nat) (h:n<xs.length):isP [.sl] 0 ((qb4.encL xs).getD n [])=true:=by rw [EC.getD_lt _ _ h];rfl
theorem q1m4 (m:Nat) (h:m≤100000):IntKind.i64.wrap ((m:Int) - 1)=(m:Int) - 1:=IntWalk.i64_in _ (by omega)
theorem q1fv (xs:List Bool) (m q:Nat) (v:Bool) (h:m<xs.length):(xs.set m v).getD q false=if q=m then v else xs.getD q false:=by
 simp only [List.getD_eq_getElem?_getD]
 by_cases e:q=m
 ·subst e;simp [h]
 ·simp [e,List.getElem?_set_ne (Ne.symm e)]
set_option maxHeartbeats 4000000 in
theorem wild9 (l:List El) (t:ByteArray) (hN:l.length≤1000) (hn:t.size≤10000) (hc:∀ e∈l,0≤e.c∧e.c<256) (i:Nat) (hi:i≤l.length) (b2:List (List Bool)) (hb2:b2.length=l.length+1)
  (hrow:∀ i',i<i'→i'≤l.length→b2.getD i' []=rowF l (L t) i'):∀ (m:Nat) (b3:List Bool),m≤t.size+1→b3.length=t.size+1→(∀ q,m≤q→q≤t.size→b3.getD q false=F l (L t) i q) →
  qx7 l (l.length+1) i ((m:Int) - 1) t (lowS t) b2 i (t.size+1) b3=some ((l,(),((),()),l.length+1,(i:Int),-1,false),(t,lowS t,(b2,i,t.size+1),rowF l (L t) i)):=by
 intro m
 induction m with
 |zero =>
  intro b3 _ hl hs
  have e:b3=rowF l (L t) i:=by
   apply List.ext_getElem?
   intro q
   rcases Nat.lt_or_ge q (t.size+1) with h|h
   ·have:=hs q (by omega) (by omega)
    rw [←q1b5 l (L t) i q (by rw [ql];omega)] at this
    rw [List.getElem?_eq_getElem (by omega),List.getElem?_eq_getElem (by rw [q1b6,ql];omega)]
    rw [qn9 (by omega),qn9 (by rw [q1b6,ql];omega)] at this
    rw [this]
   ·rw [List.getElem?_eq_none (by omega),List.getElem?_eq_none (by rw [q1b6,ql];omega)]
  subst e
  refine qx9 ?_
  simp only [qxd,zf,zg,zh,zi,zj,zk,zm,zn,zo,zq,zr,zt,zu,zw,zx,zy,z10,z11,z12,z13,gL,dL,lN,eC,wI,p0,q7r,qn6,EC.decL_encL,EC.isL_encL,EC.encL_length,qqn,q44,q45,q46,qqo,q4h,q1ft,q50]
  simp
 |succ m ih =>
  intro b3 hm hl hs
  have hj:(((m+1:Nat):Int) - 1)=(m:Int):=by omega
  rw [hj]
  have hmn:m≤t.size:=by omega
  have hL:=ql t
  -- one round
  have go:∀ v:Bool,v=F l (L t) i m→qx7 l (l.length+1) i ((m:Int) - 1) t (lowS t) b2 i (t.size+1) (b3.set m v)=some ((l,(),((),()),l.length+1,(i:Int),-1,false),(t,lowS t,(b2,i,t.size+1),rowF l (L t) i)):=by
   intro v hv
   refine ih (b3.set m v) (by omega) (by simpa using hl) fun q h1 h2=>?_
   rw [q1fv _ _ _ _ (by omega)]
   split
   ·rename_i e;subst e;exact hv
   ·exact hs q (by omega) h2
  have hmb:m<b3.length:=by omega
  have hib:i<b2.length:=by omega
  have hic:(i:Int)<((l.length+1:Nat):Int):=by omega
  have hmc:(m:Int)<((t.size+1:Nat):Int):=by omega
  have hm0:(m:Int)≥0:=by omega
  have hmt:m<t.size+1:=by omega
  have hwm:=q1m4 m (by omega)
  refine qx9 ?_
  rcases Nat.lt_or_ge i l.length with hil|hil
  case inr =>
   have hie:i=l.length:=by omega
   have h1:((i:Int)==((l.length:Nat):Int))=true:=by simp [hie]
   have hv:((m:Int)==((t.size:Nat):Int))=F l (L t) i m:=by
    rw [hie,F_end _ _ _ (by omega),hL]
    by_cases e:m=t.size
    ·simp [e]
    ·have:¬ (m:Int)=(t.size:Int):=by omega
     simp [e,this]
   have:=go _ hv
   simp only [qxd,zf,zg,zh,zi,zj,zk,zm,zn,zo,zq,zr,zt,zu,zw,zx,zy,z10,z11,z12,z13,gL,dL,lN,eC,wI,p0,q7r,qn6,EC.decL_encL,EC.isL_encL,EC.encL_length,qqn,q44,q45,q46,qqo,q4h,q1ft,q50,Int.toNat_natCast,h1,hm0,hic,hib,hmb,hmc,qs2 b3 m hmb,hwm,if_true,decide_true,Bool.and_self,beq_self_eq_true,Int.natCast_nonneg]
   exact this
  have h1:¬ ((i:Int)==((l.length:Nat):Int))=true:=by simp;omega
  have hw:=q1m3 (k:=i) (n:=l.length) hil (by omega)
  have hic2:((i+1:Nat):Int)<((l.length+1:Nat):Int):=by omega
  have hib2:i+1<b2.length:=by omega
  have hne:¬ ((i+1)==i)=true:=by simp
  have hr:=hrow (i+1) (by omega) (by omega)
  have hrl:(rowF l (L t) (i+1)).length=t.size+1:=by rw [q1b6,hL]
  have hmr:m<(rowF l (L t) (i+1)).length:=by omega
  have hrm:=q1b5 l (L t) (i+1) m (by omega)
  have hel:l.getD i (qav.dec [])=l[i]:=qn9 hil
  have hi10:(0:Int)≤((i+1:Nat):Int):=by omega
  cases hmany:l[i].many with
  |true =>
   have hF:=F_many l (L t) i m hil hmany
   rw [hL] at hF
   have hvf:¬ F l (L t) (i+1) m=true→¬ m<t.size→F l (L t) i m=false:=by intro a b;simp [hF,a,b]
   simp only [qxd,zf,zg,zh,zi,zj,zk,zm,zn,zo,zq,zr,zt,zu,zw,zx,zy,z10,z11,z12,z13,gL,dL,lN,eC,wI,p0,q7r,qn6,EC.decL_encL,EC.isL_encL,EC.encL_length,qqn,q44,q45,q46,qqo,q4h,q1ft,q50,Int.toNat_natCast,h1,hm0,hic,hib,hmb,hmc,qs2 b3 m hmb,hwm,hw,hic2,hib2,hne,hil,hel,hmany,hr,d103,d4,hrm,hmt,hrl,hi10,len_75 b2 (i+1) hib2,isP_sl b2 (i+1) hib2,qqt b3 m hmb,if_true,if_false,decide_true,Bool.and_self,beq_self_eq_true,Int.natCast_nonneg,q7g,q7f,Bool.false_eq_true]
   cases h2:F l (L t) (i+1) m with
   |true =>
    rw [h2] at hF
    have:=go true (by simp [hF])
    simpa using this
   |false =>
    rw [h2] at hF
    simp only [Bool.not_false,if_true]
    by_cases h3:m<t.size
    ·have h3':(m:Int)<(t.size:Int):=by omega
     have hwm1:=q1m3 (k:=m) (n:=t.size) h3 (by omega)
     have hm1:m+1<b3.length:=by omega
     have hm1c:((m+1:Nat):Int)<((t.size+1:Nat):Int):=by omega
     have hm10:(0:Int)≤((m+1:Nat):Int):=by omega
     have hv:b3.getD (m+1) false=F l (L t) i m:=by rw [hs (m+1) (by omega) (by omega),hF];simp [h3]
     have:=go _ hv
     simp only [h3',hwm1,hm1,hm1c,hm10,qqt b3 (m+1) hm1,qs2 b3 (m+1) hm1,Int.toNat_natCast,if_true,decide_true,Bool.and_self,beq_self_eq_true]
     exact this
    ·have h3':¬ (m:Int)<(t.size:Int):=by omega
     have:=go false (by simp [hF,h3])
     simp only [h3',decide_false,Bool.false_eq_true,if_false]
     exact this
  |false =>
   have hF:=F_one l (L t) i m hil hmany
   have hft:=qk4 l[i] t (by omega) (hc _ (List.getElem_mem hil)).1 (hc _ (List.getElem_mem hil)).2 m hmn
   rw [hmany] at hft
   generalize hq:fitAt l[i] (L t)[m]?=q at hF hft
   simp only [qxd,zf,zg,zh,zi,zj,zk,zm,zn,zo,zq,zr,zt,zu,zw,zx,zy,z10,z11,z12,z13,gL,dL,lN,eC,wI,p0,q7r,qn6,EC.decL_encL,EC.isL_encL,EC.encL_length,qqn,q44,q45,q46,qqo,q4h,q1ft,q50,Int.toNat_natCast,h1,hm0,hic,hib,hmb,hmc,qs2 b3 m hmb,hwm,hw,hic2,hib2,hne,hil,hel,hmany,hr,d103,d4,hrl,hi10,len_75 b2 (i+1) hib2,isP_sl b2 (i+1) hib2,qqt b3 m hmb,if_true,if_false,decide_true,Bool.and_self,beq_self_eq_true,Int.natCast_nonneg,q7g,q7f,hft,Option.bind_some,Bool.false_eq_true]
   cases q with
   |false =>
    have:=go false (by simp [hF])
    simpa using this
   |true =>
    have h3:m<t.size:=by
     rcases Nat.lt_or_ge m t.size with h|h
     ·exact h
     ·rw [List.getElem?_eq_none (by omega)] at hq;cases hq
    have hwm1:=q1m3 (k:=m) (n:=t.size) h3 (by omega)
    have hm1c:((m+1:Nat):Int)<((t.size+1:Nat):Int):=by omega
    have hm10:(0:Int)≤((m+1:Nat):Int):=by omega
    have hm1t:m+1<t.size+1:=by omega
    have:=go (F l (L t) (i+1) (m+1)) (by simp [hF])
    simp only [hwm1,hm10,hm1t,Int.toNat_natCast,q1b5 l (L t) (i+1) (m+1) (by omega),if_true,decide_true]
    exact this
set_option maxHeartbeats 4000000 in
theorem wild5 (l:List El) (t:ByteArray) (hN:l.length≤1000) (hn:t.size≤10000) (hc:∀ e∈l,0≤e.c∧e.c<256):∀ (m:Nat) (b2:List (List Bool)) (q:Nat) (z:Nat) (b3:List Bool),m≤l.length+1→b2.length=l.length+1 →
  (m=l.length+1∧q=l.length+1∨m≤l.length∧q=m∧b3=rowF l (L t) m∧z=t.size+1)→(∀ i',m<i'→i'≤l.length→b2.getD i' []=rowF l (L t) i') →
  ∃ b2',qx0 l (l.length+1) ((m:Int) - 1) t (lowS t) b2 q z b3=some ((l,(),((),()),l.length+1,-1,false),(t,lowS t,(b2',0,t.size+1),rowF l (L t) 0))∧b2'.length=l.length+1∧∀ i',0<i'→i'≤l.length→b2'.getD i' []=rowF l (L t) i':=by
 intro m
 induction m with
 |zero =>
  intro b2 q z b3 hm hb2 hq hrow
  obtain ⟨rfl,rfl,rfl⟩:q=0∧b3=rowF l (L t) 0∧z=t.size+1:=by
   rcases hq with h|h
   ·omega
   ·exact h.2
  refine ⟨b2,qx2 ?_,hb2,hrow⟩
  simp only [qx6,z14,gL,dL,lN,wI,p0,q7r,qn6,EC.decL_encL,EC.isL_encL,EC.encL_length]
  simp
 |succ m ih =>
  intro b2 q z b3 hm hb2 hq hrow
  have hj:(((m+1:Nat):Int) - 1)=(m:Int):=by omega
  rw [hj]
  have hL:=ql t
  have hwn:=q1m3 (k:=t.size) (n:=t.size+1) (by omega) (by omega)
  have hm0:(m:Int)≥0:=by omega
  have hmc:(m:Int)<((l.length+1:Nat):Int):=by omega
  have hmb:m<b2.length:=by omega
  have g0:(0:Int)≤((t.size+1:Nat):Int):=by omega
  have g1:((t.size+1:Nat):Int)*((1:Nat):Int)≤140737488355328:=by omega
  have g2:((t.size+1:Nat):Int)≤9223372036854775807:=by omega
  have hwm:=q1m4 m (by omega)
  have hrep:List.replicate (t.size+1) [C.bool false]=qax.encL (List.replicate (t.size+1) false):=EC_rep qax (t.size+1) false
  have hset:(qb4.encL b2).set q [C.sl (qax.encL b3)]=qb4.encL (b2.set q b3):=EC_set qb4 b2 q b3
  have h9:=wild9 l t hN hn hc m (by omega)
  have hts:((t.size:Nat):Int)=((t.size+1:Nat):Int) - 1:=by omega
  rcases hq with ⟨h1,h2⟩|⟨h1,h2,h3,h4⟩
  ·-- the first row
   have hqf:¬ q<b2.length:=by omega
   have h:=h9 b2 hb2 (fun i' a b=>by omega) (t.size+1) (List.replicate (t.size+1) false) (Nat.le_refl _) (by simp) (fun q a b=>by omega)
   rw [←hts] at h
   obtain ⟨b2',e1,e2,e3⟩:=ih b2 m (t.size+1) (rowF l (L t) m) (by omega) hb2 (.inr ⟨by omega,rfl,rfl,rfl⟩) (fun i' a b=>by omega)
   refine ⟨b2',qx2 ?_,e2,e3⟩
   simp only [qx6,z14,gL,dL,lN,wI,p0,q7r,qn6,EC.decL_encL,EC.isL_encL,EC.encL_length,Int.toNat_natCast,hwn,hm0,hmc,hmb,g0,g1,g2,hqf,hrep,h,hwm,e1,Option.bind_some,decide_true,decide_false,if_true,if_false,Bool.and_self,Bool.false_eq_true]
  ·subst h2 h3 h4
   have hqt:m+1<b2.length:=by omega
   have hrow':∀ i',m<i'→i'≤l.length→(b2.set (m+1) (rowF l (L t) (m+1))).getD i' []=rowF l (L t) i':=by
    intro i' a b
    simp only [List.getD_eq_getElem?_getD]
    by_cases e:i'=m+1
    ·subst e;simp [hqt]
    ·rw [List.getElem?_set_ne (Ne.symm e),←List.getD_eq_getElem?_getD]
     exact hrow i' (by omega) b
   have h:=h9 (b2.set (m+1) (rowF l (L t) (m+1))) (by simpa using hb2) hrow' (t.size+1) (List.replicate (t.size+1) false) (Nat.le_refl _) (by simp) (fun q a b=>by omega)
   rw [←hts] at h
   obtain ⟨b2',e1,e2,e3⟩:=ih (b2.set (m+1) (rowF l (L t) (m+1))) m (t.size+1) (rowF l (L t) m) (by omega) (by simpa using hb2) (.inr ⟨by omega,rfl,rfl,rfl⟩) (fun i' a b=>hrow' i' a b)
   refine ⟨b2',qx2 ?_,e2,e3⟩
   simp only [qx6,z14,gL,dL,lN,wI,p0,q7r,qn6,EC.decL_encL,EC.isL_encL,EC.encL_length,Int.toNat_natCast,hwn,hm0,hmc,hmb,g0,g1,g2,hqt,hrep,hset,h,hwm,e1,Option.bind_some,decide_true,if_true,Bool.and_self]
def skip (l:List El):List UInt8→Nat
 |[]=>0
 |b::t=>if canM l (b::t) then 0 else skip l t+1
def pieces:List El→List UInt8→List (List UInt8)
 |[],_=>[]
 |e::l,t=>if e.many then t.take (skip l t)::pieces l (t.drop (skip l t)) else if e.one then t.take 1::pieces l (t.drop 1) else pieces l (t.drop 1)
def toBA (l:List UInt8):ByteArray:=⟨l.toArray⟩
theorem q1ku (t:ByteArray) (i k:Nat):t.extract i (i+k)=toBA (((L t).drop i).take k):=by
 apply BA_ext
 rw [L_ext,show i+k - i=k by omega]
 rfl
theorem wild24 (l:List El) (t:ByteArray) (hN:l.length≤1000) (hn:t.size≤10000) (i:Nat) (hi:i<l.length) (hmany:l[i].many=true) (b1:List (List Bool)) (hb1:b1.length=l.length+1) (hrow:∀ i',0<i'→i'≤l.length→b1.getD i' []=rowF l (L t) i')
  (out:Nat) (from_:Int) (b2:List ByteArray) (one:Bool) (c:Int) (b4:List Bool):∀ (m j:Nat),j+m=t.size→F l (L t) i j=true →
  qwt (l.length+1) out j i from_ l l.length i t b1 0 (t.size+1) b2 one true c b4=some (((),l.length+1,out,((j+skip (l.drop (i+1)) ((L t).drop j):Nat):Int),(i:Int),(),from_,l,(l.length:Int),(i:Int),false),(t,(b1,0,t.size+1),b2,(one,true,c),b4))
  ∧ j+skip (l.drop (i+1)) ((L t).drop j)≤t.size∧F l (L t) (i+1) (j+skip (l.drop (i+1)) ((L t).drop j))=true:=by
 intro m
 have hL:=ql t
 have hw:=q1m3 (k:=i) (n:=l.length) hi (by omega)
 have hic2:((i+1:Nat):Int)<((l.length+1:Nat):Int):=by omega
 have hib2:i+1<b1.length:=by omega
 have hne:¬ ((i+1)==0)=true:=by simp
 have hi10:(0:Int)≤((i+1:Nat):Int):=by omega
 have hr:=hrow (i+1) (by omega) (by omega)
 have hrl:(rowF l (L t) (i+1)).length=t.size+1:=by rw [q1b6,hL]
 induction m with
 |zero =>
  intro j hj hF
  have hj:j=t.size:=by omega
  have hF':=F_many l (L t) i j hi hmany
  rw [hF,hL] at hF'
  have h1:F l (L t) (i+1) j=true:=by simpa [hj] using hF'.symm
  have hd:(L t).drop j=[]:=List.drop_eq_nil_of_le (by omega)
  rw [hd,skip,Nat.add_zero]
  refine ⟨qwv ?_,by omega,h1⟩
  have hjr:j<t.size+1:=by omega
  simp only [qwz,z15,gL,dL,lN,wI,p0,q7r,qn6,EC.decL_encL,EC.isL_encL,EC.encL_length,qqo,q4h,q50,Int.toNat_natCast,hw,hic2,hib2,hne,hi10,hr,hrl,hjr,h1,q1b5 l (L t) (i+1) j (by omega),len_75 b1 (i+1) hib2,isP_sl b1 (i+1) hib2,d103,d4,if_true,if_false,decide_true,Bool.and_self,beq_self_eq_true,Int.natCast_nonneg,Bool.not_true,Bool.false_eq_true]
  rfl
 |succ m ih =>
  intro j hj hF
  have hjn:j<(L t).length:=by omega
  have hF':=F_many l (L t) i j hi hmany
  rw [hF] at hF'
  have hjr:j<t.size+1:=by omega
  have hsk:skip (l.drop (i+1)) ((L t).drop j)=if F l (L t) (i+1) j=true then 0 else skip (l.drop (i+1)) ((L t).drop (j+1))+1:=by
   rw [F,qag hjn,skip]
  cases h1:F l (L t) (i+1) j with
  |true =>
   rw [hsk,h1,if_pos rfl,Nat.add_zero]
   refine ⟨qwv ?_,by omega,h1⟩
   simp only [qwz,z15,gL,dL,lN,wI,p0,q7r,qn6,EC.decL_encL,EC.isL_encL,EC.encL_length,qqo,q4h,q50,Int.toNat_natCast,hw,hic2,hib2,hne,hi10,hr,hrl,hjr,h1,q1b5 l (L t) (i+1) j (by omega),len_75 b1 (i+1) hib2,isP_sl b1 (i+1) hib2,d103,d4,if_true,if_false,decide_true,Bool.and_self,beq_self_eq_true,Int.natCast_nonneg,Bool.not_true,Bool.false_eq_true]
   rfl
  |false =>
   rw [h1] at hF'
   have h2:F l (L t) i (j+1)=true:=by simpa [hjn] using hF'.symm
   obtain ⟨e1,e2,e3⟩:=ih (j+1) (by omega) h2
   have he:j+skip (l.drop (i+1)) ((L t).drop j)=j+1+skip (l.drop (i+1)) ((L t).drop (j+1)):=by
    rw [hsk,h1];simp;omega
   rw [he]
   refine ⟨qwv ?_,e2,e3⟩
   have hwj:=q1m3 (k:=j) (n:=t.size) (by omega) (by omega)
   simp only [qwz,z15,gL,dL,lN,wI,p0,q7r,qn6,EC.decL_encL,EC.isL_encL,EC.encL_length,qqo,q4h,q50,Int.toNat_natCast,hw,hic2,hib2,hne,hi10,hr,hrl,hjr,h1,hwj,e1,q1b5 l (L t) (i+1) j (by omega),len_75 b1 (i+1) hib2,isP_sl b1 (i+1) hib2,d103,d4,if_true,if_false,decide_true,Bool.and_self,beq_self_eq_true,Int.natCast_nonneg,Bool.not_false,Bool.false_eq_true]
theorem wild24n (l:List El) (t:ByteArray) (i j:Nat) (b1:List (List Bool)) (out:Nat) (from_:Int) (b2:List ByteArray) (one:Bool) (c:Int) (b4:List Bool) :
  qwt (l.length+1) out j i from_ l l.length i t b1 0 (t.size+1) b2 one false c b4=some (((),l.length+1,out,(j:Int),(i:Int),(),from_,l,(l.length:Int),(i:Int),false),(t,(b1,0,t.size+1),b2,(one,false,c),b4)):=by
 refine qwv ?_
 simp only [qwz,z15,gL,dL,lN,wI,p0,q7r,qn6,EC.decL_encL,EC.isL_encL,EC.encL_length,qqo,q4h,q50,if_true,q7g,Bool.false_eq_true,if_false]
set_option maxHeartbeats 4000000 in
theorem wild21 (l:List El) (t:ByteArray) (hN:l.length≤1000) (hn:t.size≤10000) (b1:List (List Bool)) (hb1:b1.length=l.length+1) (hrow:∀ i',0<i'→i'≤l.length→b1.getD i' []=rowF l (L t) i') (b4:List Bool):∀ (m i j:Nat) (b2:List ByteArray),i+m=l.length→F l (L t) i j=true→j≤t.size→b2.length≤i →
  ∃ j',qwm (l.length+1) b2.length j l l.length i t b1 0 (t.size+1) b2 b4=some (((),l.length+1,(b2++(pieces (l.drop i) ((L t).drop j)).map toBA).length,j',l,(l.length:Int),(l.length:Int),false),(t,(b1,0,t.size+1),b2++(pieces (l.drop i) ((L t).drop j)).map toBA,b4)):=by
 intro m
 have hL:=ql t
 induction m with
 |zero =>
  intro i j b2 hi hF hj hb
  have hi:i=l.length:=by omega
  subst hi
  refine ⟨j,qwo ?_⟩
  simp only [qws,gL,dL,eC,wI,p0,aL,dQ,q7r,qn6,EC.decL_encL,EC.isL_encL,EC.encL_length,q3l,q3z,qqn,q44,q45,q46]
  simp [pieces]
 |succ m ih =>
  intro i j b2 hi hF hj hb
  have hil:i<l.length:=by omega
  have hel:l.getD i (qav.dec [])=l[i]:=qn9 hil
  have hi':(i:Int)<(l.length:Int):=by omega
  have hw:=q1m3 (k:=i) (n:=l.length) hil (by omega)
  rw [qag hil,pieces]
  have g1:(b2.length+1+(b2.length+1) / 4+192)*16≤281474976710656:=by omega
  have g2:b2.length+1≤9223372036854775807:=by omega
  cases hmany:l[i].many with
  |true =>
   obtain ⟨e1,e2,e3⟩:=wild24 l t hN hn i hil hmany b1 hb1 hrow b2.length (j:Int) b2 l[i].one l[i].c b4 (t.size - j) j (by omega) hF
   generalize hk:skip (l.drop (i+1)) ((L t).drop j)=k at e1 e2 e3
   obtain ⟨j',h⟩:=ih (i+1) (j+k) (b2++[toBA (((L t).drop j).take k)]) (by omega) e3 e2 (by simp;omega)
   rw [List.drop_drop] at *
   refine ⟨j',qwo ?_⟩
   have a1:((j+k:Nat):Int)≤((t.size:Nat):Int):=by omega
   have a2:(j:Int)≤((j+k:Nat):Int):=by omega
   have a3:(0:Int)≤((j+k:Nat):Int):=by omega
   simp only [List.length_append,List.length_cons,List.length_nil,Nat.zero_add] at h
   simp only [qws,gL,dL,eC,wI,p0,aL,dQ,q7r,qn6,EC.decL_encL,EC.isL_encL,EC.encL_length,q3l,q3z,qqn,q44,q45,q46,Int.toNat_natCast,hi',hil,hel,hmany,e1,hw,q1ku,a1,a2,a3,g1,g2,List.length_cons,List.length_nil,Nat.zero_add,List.all_cons,List.all_nil,Option.bind_some,q7f,if_true,if_false,decide_true,Bool.and_self,beq_self_eq_true,Int.natCast_nonneg,Bool.not_true,Bool.false_eq_true,h]
   simp [Nat.add_assoc,Nat.add_comm 1]
  |false =>
   have hF':=F_one l (L t) i j hil hmany
   rw [hF] at hF'
   have hF2:fitAt l[i] (L t)[j]?=true∧F l (L t) (i+1) (j+1)=true:=by simpa using hF'.symm
   have hjn:j<t.size:=by
    rcases Nat.lt_or_ge j t.size with h|h
    ·exact h
    ·rw [List.getElem?_eq_none (by omega)] at hF2;cases hF2.1
   have e1:=wild24n l t i j b1 b2.length (j:Int) b2 l[i].one l[i].c b4
   have hwj:=q1m3 (k:=j) (n:=t.size) hjn (by omega)
   have a1:((j+1:Nat):Int)≤((t.size:Nat):Int):=by omega
   have a2:(j:Int)≤((j+1:Nat):Int):=by omega
   have a3:(0:Int)≤((j+1:Nat):Int):=by omega
   simp only [List.drop_drop]
   cases hone:l[i].one with
   |true =>
    rw [hone] at e1
    obtain ⟨j',h⟩:=ih (i+1) (j+1) (b2++[toBA (((L t).drop j).take 1)]) (by omega) hF2.2 (by omega) (by simp;omega)
    refine ⟨j',qwo ?_⟩
    simp only [List.length_append,List.length_cons,List.length_nil,Nat.zero_add] at h
    simp only [qws,gL,dL,eC,wI,p0,aL,dQ,q7r,qn6,EC.decL_encL,EC.isL_encL,EC.encL_length,q3l,q3z,qqn,q44,q45,q46,Int.toNat_natCast,hi',hil,hel,hmany,hone,e1,hw,hwj,q1ku,a1,a2,a3,g1,g2,List.length_cons,List.length_nil,Nat.zero_add,List.all_cons,List.all_nil,Option.bind_some,q7f,if_true,if_false,decide_true,Bool.and_self,beq_self_eq_true,Int.natCast_nonneg,Bool.not_false,Bool.false_eq_true,h]
    simp [Nat.add_assoc,Nat.add_comm 1]
   |false =>
    rw [hone] at e1
    obtain ⟨j',h⟩:=ih (i+1) (j+1) b2 (by omega) hF2.2 (by omega) (by omega)
    refine ⟨j',qwo ?_⟩
    simp only [qws,gL,dL,eC,wI,p0,aL,dQ,q7r,qn6,EC.decL_encL,EC.isL_encL,EC.encL_length,q3l,q3z,qqn,q44,q45,q46,Int.toNat_natCast,hi',hil,hel,hmany,hone,e1,hw,hwj,a1,a2,a3,Option.bind_some,q7f,if_true,if_false,decide_true,Bool.and_self,Int.natCast_nonneg,Bool.not_false,Bool.false_eq_true,h]
def wildR (l:List El) (T:List UInt8):(Bool×Nat)×List ByteArray:=if canM l T then ((true,((pieces l T).map toBA).length),(pieces l T).map toBA) else ((false,0),[])
set_option maxHeartbeats 4000000 in
theorem wild_s (l:List El) (t:ByteArray) (hN:l.length≤1000) (hn:t.size≤10000) (hc:∀ e∈l,0≤e.c∧e.c<256):qxe l t=some (wildR l (L t)):=by
 have hL:=ql t
 have hwN:=q1m3 (k:=l.length) (n:=l.length+1) (by omega) (by omega)
 have g0:(0:Int)≤((l.length+1:Nat):Int):=by omega
 have g1:((l.length+1:Nat):Int)*((24:Nat):Int)≤140737488355328:=by omega
 have g2:((l.length+1:Nat):Int)≤9223372036854775807:=by omega
 have hrep:List.replicate (l.length+1) [C.sl []]=qb4.encL (List.replicate (l.length+1) []):=EC_rep qb4 (l.length+1) []
 obtain ⟨b2,h5,hb2,hrow⟩:=wild5 l t hN hn hc (l.length+1) (List.replicate (l.length+1) []) (l.length+1) 0 [] (by omega) (by simp) (.inl ⟨rfl,rfl⟩) (fun i' a b=>by omega)
 have hts:(((l.length+1:Nat):Int) - 1)=((l.length:Nat):Int):=by omega
 rw [hts] at h5
 have hc0:F l (L t) 0 0=canM l (L t):=by simp [F]
 have hr0:(rowF l (L t) 0).getD 0 false=canM l (L t):=by rw [q1b5 _ _ _ _ (by omega),hc0]
 have b0:0<b2.length:=by omega
 have r0:0<(rowF l (L t) 0).length:=by rw [q1b6];omega
 have c0:(0:Int)<((l.length+1:Nat):Int):=by omega
 have c1:(0:Int)<((t.size+1:Nat):Int):=by omega
 refine qwl ?_
 have z:Int.toNat 0=0:=rfl
 simp only [qxf,z16,gL,dL,lN,wI,p0,q7r,qn6,EC.decL_encL,EC.isL_encL,EC.encL_length,qqo,q4h,q50,qsw t (by omega),Option.bind_some,hwN,g0,g1,g2,hrep,Int.toNat_natCast,qg,h5,b0,c0,c1,r0,z,hr0,d4,qs2 _ 0 r0,qqt _ 0 r0,if_true,decide_true,Bool.and_self,beq_self_eq_true,Int.le_refl]
 cases hcm:canM l (L t) with
 |false=>simp [wildR,hcm]
 |true =>
  obtain ⟨j',h21⟩:=wild21 l t hN hn b2 hb2 hrow (rowF l (L t) 0) l.length 0 0 [] (by omega) (by rw [hc0];exact hcm) (by omega) (by simp)
  have h21':=h21
  simp only [List.nil_append,List.drop_zero,List.length_nil] at h21'
  have h22:qwm (l.length+1) 0 (0:Int) l (l.length:Int) (0:Int) t b2 0 (t.size+1) [] (rowF l (L t) 0)=_:=h21'
  simp only [Bool.not_true,Bool.false_eq_true,if_false,h22,Option.bind_some]
  simp [wildR,hcm]
end Go.Proofs.YtokahibbkdbndaaGreatDoor
namespace Go.Proofs.YtokahibbkdbndaaGreatDoor
open Go.RowKit
theorem qq6 (n a b:Int):qz4 n a b=some (decide (a≤n)&&decide (n≤b)):=qz3 (by
 by_cases h:a≤n <;> simp [qz5,q7r,h])
theorem at_s (a b:Int):qyl a b=some (a,b):=qyk rfl
theorem low_s {c:Int} (h0:0≤c) (h1:c<256):qza c=some (lowI c):=qz9 (by
 have hw:IntKind.i64.wrap c=c:=IntWalk.i64_in c (by omega)
 by_cases h:65≤c∧c≤90
 ·have hw8:IntKind.u8.wrap (c+32)=c+32:=wrap8 (by omega) (by omega)
  simp [qzb,q7r,qq6,hw,h,hw8,lowI]
 ·have:¬ (65≤c∧c≤90):=h
  simp only [qzb,q7r,qq6,hw,lowI,h,if_false,Option.bind_some]
  simp
  omega)
theorem q1a9 {a b:Int} (h0:0≤a) (h1:a<256) (k0:0≤b) (k1:b<256):q1a8 a b=some (lowI a==lowI b):=q1a7 (by
 simp only [q1aa,low_s h0 h1,low_s k0 k1,Option.bind_some])
theorem qsq (a b:UInt8) (l m:List UInt8):(lowL (a::l)==lowL (b::m))=((lowI (nb a)==lowI (nb b))&&(lowL l==lowL m)):=by
 rw [←qso];rfl
theorem q11 (a b:ByteArray) (hs:a.size=b.size) (ha:a.size≤9223372036854775807):∀ (m k:Nat),k+m=a.size →
  (qy7 a b k).bind (Sum.elim (fun x=>some x.1) (fun _=>some true))=some (lowL ((L a).drop k)==lowL ((L b).drop k)):=by
 intro m
 have hLa:=ql a
 have hLb:=ql b
 induction m with
 |zero =>
  intro k hk
  have hk:k=a.size:=by omega
  have h1:qy7 a b k=some (.inr ((a,b,(k:Int),false),())):=qy9 (by
   simp only [qye,wI,p0,q7r]
   simp [hk])
  have e1:(L a).drop k=[]:=List.drop_eq_nil_of_le (by omega)
  have e2:(L b).drop k=[]:=List.drop_eq_nil_of_le (by omega)
  rw [h1,e1,e2];rfl
 |succ m ih =>
  intro k hk
  have hka:k<(L a).length:=by omega
  have hkb:k<(L b).length:=by omega
  have h1:(k:Int)<(a.size:Int):=by omega
  have h2:k<a.size:=by omega
  have h3:k<b.size:=by omega
  have aa:=q52 a hka
  have bb:=q52 b hkb
  rw [qag hka,qag hkb,qsq]
  generalize (L a)[k]'hka=xa at aa ⊢
  generalize (L b)[k]'hkb=xb at bb ⊢
  have n1:=qul xa
  have n2:=qul xb
  have hw:=q1m3 h2 ha
  by_cases he:lowI (nb xa)=lowI (nb xb)
  ·have ih':=ih (k+1) (by omega)
   cases hz:qy7 a b ((k+1:Nat):Int) with
   |none=>rw [hz] at ih';cases ih'
   |some r =>
    have hb:(lowI (nb xa) != lowI (nb xb))=false:=by rw [he];simp
    have h4:qy7 a b k=some r:=qy9 (by
     simp only [qye,wI,p0,q7r,qn6,Int.toNat_natCast,aa,bb,low_s n1.1 n1.2,low_s n2.1 n2.2,Option.bind_some,hw,hz,h1,h2,h3,hb,if_true,Bool.false_eq_true,if_false,decide_true,Bool.and_self,Int.natCast_nonneg])
    rw [h4,←hz,ih',he]
    simp
  ·have hb:(lowI (nb xa) != lowI (nb xb))=true:=by simpa using he
   have h4:qy7 a b k=some (.inl (false,())):=qy9 (by
    simp only [qye,wI,p0,q7r,qn6,Int.toNat_natCast,aa,bb,low_s n1.1 n1.2,low_s n2.1 n2.2,Option.bind_some,h1,h2,h3,hb,if_true,decide_true,Bool.and_self,Int.natCast_nonneg])
   rw [h4]
   have:(lowI (nb xa)==lowI (nb xb))=false:=by simpa using he
   rw [this];rfl
theorem q12 (a b:ByteArray) (ha:a.size≤9223372036854775807):qyf a b=some (lowL (L a)==lowL (L b)):=qy6 (by
 by_cases h:a.size=b.size
 ·have:=q11 a b h ha a.size 0 (by omega)
  have h':((a.size:Int) != (b.size:Int))=false:=by simp [h]
  simp only [qyg,q7r,h',Bool.false_eq_true,if_false]
  exact this
 ·have h':((a.size:Int) != (b.size:Int))=true:=by simp;omega
  have:(lowL (L a)==lowL (L b))=false:=by
   simp only [beq_eq_false_iff_ne,ne_eq]
   intro hh
   have:=congrArg List.length hh
   simp only [lowL,List.length_map,ql] at this
   exact h this
  simp only [qyg,q7r,h',this,if_true])
def el1 (b:UInt8):El:=if nb b=42 then ⟨false,true,0⟩ else if nb b=63 then ⟨true,false,0⟩ else ⟨false,false,nb b⟩
def elems2:List UInt8→List El
 |[]=>[]
 |[b]=>[el1 b]
 |b::c::l=>if nb b=92 then ⟨false,false,nb c⟩::elems2 l else el1 b::elems2 (c::l)
theorem qbc {b:UInt8} {l:List UInt8} (h:nb b≠92∨l=[]):elems2 (b::l)=el1 b::elems2 l:=by
 cases l with
 |nil=>simp [elems2]
 |cons c l =>
  rcases h with h|h
  ·simp [elems2,h]
  ·cases h
theorem qbd {b c:UInt8} {l:List UInt8} (h:nb b=92):elems2 (b::c::l)=⟨false,false,nb c⟩::elems2 l:=by simp [elems2,h]
def NX (e:El) (T:List UInt8) (O:Nat→Bool):Nat→Bool
 |0=>e.many&&O 0
 |j+1=>if e.many then O (j+1)||NX e T O j else O j&&fitAt e T[j]?
theorem qn {e:El} {T:List UInt8} {O:Nat→Bool} (he:e.many=true):∀ j,(NX e T O j=true ↔ ∃ i,i≤j∧O i=true)
 |0=>by simp [NX,he]
 |j+1=>by
  simp only [NX,he,if_true,Bool.or_eq_true,qn he j]
  constructor
  ·rintro (h|⟨i,h1,h2⟩)
   ·exact ⟨j+1,Nat.le_refl _,h⟩
   ·exact ⟨i,by omega,h2⟩
  ·rintro ⟨i,h1,h2⟩
   rcases Nat.lt_or_ge i (j+1) with h|h
   ·exact .inr ⟨i,by omega,h2⟩
   ·have:i=j+1:=by omega
    subst this;exact .inl h2
theorem q8k {e:El} {E:List El} {T:List UInt8} (he:e.many=true):∀ (m j:Nat),j+m=T.length→(canM (e::E) (T.drop j)=true ↔ ∃ i,j≤i∧i≤T.length∧canM E (T.drop i)=true):=by
 intro m
 induction m with
 |zero =>
  intro j hj
  have hd:T.drop j=[]:=List.drop_eq_nil_of_le (by omega)
  rw [hd,canM]
  constructor
  ·intro h
   exact ⟨j,Nat.le_refl _,by omega,by rw [hd];simpa [he] using h⟩
  ·rintro ⟨i,h1,h2,h3⟩
   have:i=j:=by omega
   subst this
   rw [hd] at h3
   simp [he,h3]
 |succ m ih =>
  intro j hj
  have hlt:j<T.length:=by omega
  have hd:=qag hlt
  rw [hd,canM,←hd]
  simp only [he,if_true,Bool.or_eq_true,ih (j+1) (by omega)]
  constructor
  ·rintro (h|⟨i,h1,h2,h3⟩)
   ·exact ⟨j,Nat.le_refl _,by omega,h⟩
   ·exact ⟨i,by omega,h2,h3⟩
  ·rintro ⟨i,h1,h2,h3⟩
   rcases Nat.eq_or_lt_of_le h1 with h|h
   ·subst h;exact .inl h3
   ·exact .inr ⟨i,h,h2,h3⟩
theorem q8l {e:El} {E:List El} {T:List UInt8} (he:e.many=false) (j:Nat):(canM (e::E) (T.drop j)=true ↔ fitAt e T[j]?=true∧canM E (T.drop (j+1))=true):=by
 rcases Nat.lt_or_ge j T.length with h|h
 ·rw [qag h,canM,List.getElem?_eq_getElem h]
  simp [he,fitAt]
 ·rw [List.drop_eq_nil_of_le h,canM,List.getElem?_eq_none h]
  simp [he,fitAt]
def anyJ (T:List UInt8) (O:Nat→Bool) (E:List El):Prop:=∃ j,j≤T.length∧O j=true∧canM E (T.drop j)=true
theorem q3q (T:List UInt8) (O:Nat→Bool) (e:El) (E:List El):anyJ T O (e::E) ↔ anyJ T (NX e T O) E:=by
 unfold anyJ
 cases he:e.many with
 |true =>
  constructor
  ·rintro ⟨j,h1,h2,h3⟩
   obtain ⟨i,a,b,c⟩:=(q8k he (T.length - j) j (by omega)).1 h3
   exact ⟨i,b,(qn he i).2 ⟨j,a,h2⟩,c⟩
  ·rintro ⟨i,h1,h2,h3⟩
   obtain ⟨j,a,b⟩:=(qn he i).1 h2
   exact ⟨j,by omega,b,(q8k he (T.length - j) j (by omega)).2 ⟨i,a,h1,h3⟩⟩
 |false =>
  constructor
  ·rintro ⟨j,h1,h2,h3⟩
   obtain ⟨a,b⟩:=(q8l he j).1 h3
   have hj:j<T.length:=by
    rcases Nat.lt_or_ge j T.length with h|h
    ·exact h
    ·rw [List.getElem?_eq_none h] at a;cases a
   exact ⟨j+1,by omega,by simp [NX,he,h2,a],b⟩
  ·rintro ⟨i,h1,h2,h3⟩
   cases i with
   |zero=>simp [NX,he] at h2
   |succ j =>
    simp only [NX,he,Bool.false_eq_true,if_false,Bool.and_eq_true] at h2
    exact ⟨j,by omega,h2.1,(q8l he j).2 ⟨h2.2,h3⟩⟩
theorem q3p (T:List UInt8) (O:Nat→Bool):anyJ T O [] ↔ O T.length=true:=by
 unfold anyJ
 constructor
 ·rintro ⟨j,h1,h2,h3⟩
  simp only [canM,List.isEmpty_iff,List.drop_eq_nil_iff] at h3
  have:j=T.length:=by omega
  subst this;exact h2
 ·intro h;exact ⟨T.length,Nat.le_refl _,h,by simp [canM]⟩
end Go.Proofs.YtokahibbkdbndaaGreatDoor
