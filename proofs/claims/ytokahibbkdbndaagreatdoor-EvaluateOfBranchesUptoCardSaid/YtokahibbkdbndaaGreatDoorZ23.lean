/- What patterns.wild answers, in plain words. -/
import Derived.Test.YtokahibbkdbndaaGreatDoorZ22
namespace Go.Proofs.YtokahibbkdbndaaGreatDoor
open Go.RowKit
def canM:List El→List UInt8→Bool
 |[],t=>t.isEmpty
 |e::l,[]=>e.many&&canM l []
 |e::l,b::t=>if e.many then canM l (b::t)||canM (e::l) t else fitB e b&&canM l t
termination_by l t=>l.length+t.length
def F (l:List El) (T:List UInt8) (i j:Nat):Bool:=canM (l.drop i) (T.drop j)
def rowF (l:List El) (T:List UInt8) (i:Nat):List Bool:=(List.range (T.length+1)).map (F l T i)
theorem qta (l:List El) (T:List UInt8) (i j:Nat) (h:j≤T.length):(rowF l T i).getD j false=F l T i j:=by
 simp [rowF,List.getD_eq_getElem?_getD,List.getElem?_range (show j<T.length+1 by omega)]
theorem qtb (l:List El) (T:List UInt8) (i:Nat):(rowF l T i).length=T.length+1:=by simp [rowF]
theorem F_end (l:List El) (T:List UInt8) (j:Nat) (h:j≤T.length):F l T l.length j=decide (j=T.length):=by
 simp only [F,List.drop_length,canM]
 by_cases e:j=T.length
 ·subst e;simp
 ·simp [e];omega
theorem F_many (l:List El) (T:List UInt8) (i j:Nat) (hi:i<l.length) (hm:l[i].many=true):F l T i j=(F l T (i+1) j||(decide (j<T.length)&&F l T i (j+1))):=by
 simp only [F]
 rw [q97 hi]
 by_cases hj:j<T.length
 ·rw [q97 hj,canM]
  simp [hm,hj]
 ·have:T.drop j=[]:=List.drop_eq_nil_of_le (by omega)
  rw [this,canM]
  simp [hm,hj]
theorem F_one (l:List El) (T:List UInt8) (i j:Nat) (hi:i<l.length) (hm:l[i].many=false):F l T i j=(fitAt l[i] T[j]?&&F l T (i+1) (j+1)):=by
 simp only [F]
 rw [q97 hi]
 by_cases hj:j<T.length
 ·rw [q97 hj,canM,List.getElem?_eq_getElem hj]
  simp [hm,fitAt]
 ·have:T.drop j=[]:=List.drop_eq_nil_of_le (by omega)
  rw [this,canM,List.getElem?_eq_none (by omega)]
  simp [hm,fitAt]
theorem d103:q26u.dec []=[]:=rfl
theorem d4:q26n.dec []=false:=rfl
theorem q278 (xs:List Bool) (n:Nat) (h:n<xs.length):isP [.bool] 0 ((q26n.encL xs).getD n [])=true:=by rw [EC.getD_lt _ _ h];rfl
theorem isP_sl (xs:List (List Bool)) (n:Nat) (h:n<xs.length):isP [.sl] 0 ((q26u.encL xs).getD n [])=true:=by rw [EC.getD_lt _ _ h];rfl
theorem q123 (m:Nat) (h:m≤100000):IntKind.i64.wrap ((m:Int) - 1)=(m:Int) - 1:=IntWalk.i64_in _ (by omega)
theorem qxg (xs:List Bool) (m q:Nat) (v:Bool) (h:m<xs.length):(xs.set m v).getD q false=if q=m then v else xs.getD q false:=by
 simp only [List.getD_eq_getElem?_getD]
 by_cases e:q=m
 ·subst e;simp [h]
 ·simp [e,List.getElem?_set_ne (Ne.symm e)]
set_option maxHeartbeats 4000000 in
theorem wild9 (l:List El) (t:ByteArray) (hN:l.length≤1000) (hn:t.size≤10000) (hc:∀ e∈l,0≤e.c∧e.c<256) (i:Nat) (hi:i≤l.length) (b2:List (List Bool)) (hb2:b2.length=l.length+1)
  (hrow:∀ i',i<i'→i'≤l.length→b2.getD i' []=rowF l (L t) i'):∀ (m:Nat) (b3:List Bool),m≤t.size+1→b3.length=t.size+1→(∀ q,m≤q→q≤t.size→b3.getD q false=F l (L t) i q) →
  qr5 l (l.length+1) i ((m:Int) - 1) t (lowS t) b2 i (t.size+1) b3=some ((l,(),((),()),l.length+1,(i:Int),-1,false),(t,lowS t,(b2,i,t.size+1),rowF l (L t) i)):=by
 intro m
 induction m with
 |zero =>
  intro b3 _ hl hs
  have e:b3=rowF l (L t) i:=by
   apply List.ext_getElem?
   intro q
   rcases Nat.lt_or_ge q (t.size+1) with h|h
   ·have:=hs q (by omega) (by omega)
    rw [←qta l (L t) i q (by rw [q264];omega)] at this
    rw [List.getElem?_eq_getElem (by omega),List.getElem?_eq_getElem (by rw [qtb,q264];omega)]
    rw [qik (by omega),qik (by rw [qtb,q264];omega)] at this
    rw [this]
   ·rw [List.getElem?_eq_none (by omega),List.getElem?_eq_none (by rw [qtb,q264];omega)]
  subst e
  refine qr7 ?_
  simp only [qrb,q26i,q26z,EC.decL_encL,EC.isL_encL,EC.encL_length,qli,q3q,q3r,q3s,q274,q26b,qxe,q4h]
  simp
 |succ m ih =>
  intro b3 hm hl hs
  have hj:(((m+1:Nat):Int) - 1)=(m:Int):=by omega
  rw [hj]
  have hmn:m≤t.size:=by omega
  have hL:=q264 t
  -- one round
  have go:∀ v:Bool,v=F l (L t) i m→qr5 l (l.length+1) i ((m:Int) - 1) t (lowS t) b2 i (t.size+1) (b3.set m v)=some ((l,(),((),()),l.length+1,(i:Int),-1,false),(t,lowS t,(b2,i,t.size+1),rowF l (L t) i)):=by
   intro v hv
   refine ih (b3.set m v) (by omega) (by simpa using hl) fun q h1 h2=>?_
   rw [qxg _ _ _ _ (by omega)]
   split
   ·rename_i e;subst e;exact hv
   ·exact hs q (by omega) h2
  have hmb:m<b3.length:=by omega
  have hib:i<b2.length:=by omega
  have hic:(i:Int)<((l.length+1:Nat):Int):=by omega
  have hmc:(m:Int)<((t.size+1:Nat):Int):=by omega
  have hm0:(m:Int) ≥ 0:=by omega
  have hmt:m<t.size+1:=by omega
  have hwm:=q123 m (by omega)
  refine qr7 ?_
  rcases Nat.lt_or_ge i l.length with hil|hil
  case inr =>
   have hie:i=l.length:=by omega
   have h1:((i:Int)==((l.length:Nat):Int))=true:=by simp [hie]
   have hv:((m:Int)==((t.size:Nat):Int))=F l (L t) i m:=by
    rw [hie,F_end _ _ _ (by omega),hL]
    by_cases e:m=t.size
    ·simp [e]
    ·have:¬ (m:Int)=(t.size:Int):=by omega
     simp [e,this]
   have:=go _ hv
   simp only [qrb,q26i,q26z,EC.decL_encL,EC.isL_encL,EC.encL_length,qli,q3q,q3r,q3s,q274,q26b,qxe,q4h,Int.toNat_natCast,h1,hm0,hic,hib,hmb,hmc,q27c b3 m hmb,hwm,if_true,decide_true,Bool.and_self,beq_self_eq_true,Int.natCast_nonneg]
   exact this
  have h1:¬ ((i:Int)==((l.length:Nat):Int))=true:=by simp;omega
  have hw:=q122 (k:=i) (n:=l.length) hil (by omega)
  have hic2:((i+1:Nat):Int)<((l.length+1:Nat):Int):=by omega
  have hib2:i+1<b2.length:=by omega
  have hne:¬ ((i+1)==i)=true:=by simp
  have hr:=hrow (i+1) (by omega) (by omega)
  have hrl:(rowF l (L t) (i+1)).length=t.size+1:=by rw [qtb,hL]
  have hmr:m<(rowF l (L t) (i+1)).length:=by omega
  have hrm:=qta l (L t) (i+1) m (by omega)
  have hel:l.getD i (q26l.dec [])=l[i]:=qik hil
  have hi10:(0:Int)≤((i+1:Nat):Int):=by omega
  cases hmany:l[i].many with
  |true =>
   have hF:=F_many l (L t) i m hil hmany
   rw [hL] at hF
   have hvf:¬ F l (L t) (i+1) m=true→¬ m<t.size→F l (L t) i m=false:=by intro a b;simp [hF,a,b]
   simp only [qrb,q26i,q26z,EC.decL_encL,EC.isL_encL,EC.encL_length,qli,q3q,q3r,q3s,q274,q26b,qxe,q4h,Int.toNat_natCast,h1,hm0,hic,hib,hmb,hmc,q27c b3 m hmb,hwm,hw,hic2,hib2,hne,hil,hel,hmany,hr,d103,d4,hrm,hmt,hrl,hi10,len_75 b2 (i+1) hib2,isP_sl b2 (i+1) hib2,q278 b3 m hmb,if_true,if_false,decide_true,Bool.and_self,beq_self_eq_true,Int.natCast_nonneg,q26g,q26f,Bool.false_eq_true]
   cases h2:F l (L t) (i+1) m with
   |true =>
    rw [h2] at hF
    have:=go true (by simp [hF])
    simpa using this
   |false =>
    rw [h2] at hF
    simp only [Bool.not_false,if_true]
    by_cases h3:m<t.size
    ·have h3':(m:Int)<(t.size:Int):=by omega
     have hwm1:=q122 (k:=m) (n:=t.size) h3 (by omega)
     have hm1:m+1<b3.length:=by omega
     have hm1c:((m+1:Nat):Int)<((t.size+1:Nat):Int):=by omega
     have hm10:(0:Int)≤((m+1:Nat):Int):=by omega
     have hv:b3.getD (m+1) false=F l (L t) i m:=by rw [hs (m+1) (by omega) (by omega),hF];simp [h3]
     have:=go _ hv
     simp only [h3',hwm1,hm1,hm1c,hm10,q278 b3 (m+1) hm1,q27c b3 (m+1) hm1,Int.toNat_natCast,if_true,decide_true,Bool.and_self,beq_self_eq_true]
     exact this
    ·have h3':¬ (m:Int)<(t.size:Int):=by omega
     have:=go false (by simp [hF,h3])
     simp only [h3',decide_false,Bool.false_eq_true,if_false]
     exact this
  |false =>
   have hF:=F_one l (L t) i m hil hmany
   have hft:=qfg l[i] t (by omega) (hc _ (List.getElem_mem hil)).1 (hc _ (List.getElem_mem hil)).2 m hmn
   rw [hmany] at hft
   generalize hq:fitAt l[i] (L t)[m]?=q at hF hft
   simp only [qrb,q26i,q26z,EC.decL_encL,EC.isL_encL,EC.encL_length,qli,q3q,q3r,q3s,q274,q26b,qxe,q4h,Int.toNat_natCast,h1,hm0,hic,hib,hmb,hmc,q27c b3 m hmb,hwm,hw,hic2,hib2,hne,hil,hel,hmany,hr,d103,d4,hrl,hi10,len_75 b2 (i+1) hib2,isP_sl b2 (i+1) hib2,q278 b3 m hmb,if_true,if_false,decide_true,Bool.and_self,beq_self_eq_true,Int.natCast_nonneg,q26g,q26f,hft,Option.bind_some,Bool.false_eq_true]
   cases q with
   |false =>
    have:=go false (by simp [hF])
    simpa using this
   |true =>
    have h3:m<t.size:=by
     rcases Nat.lt_or_ge m t.size with h|h
     ·exact h
     ·rw [List.getElem?_eq_none (by omega)] at hq;cases hq
    have hwm1:=q122 (k:=m) (n:=t.size) h3 (by omega)
    have hm1c:((m+1:Nat):Int)<((t.size+1:Nat):Int):=by omega
    have hm10:(0:Int)≤((m+1:Nat):Int):=by omega
    have hm1t:m+1<t.size+1:=by omega
    have:=go (F l (L t) (i+1) (m+1)) (by simp [hF])
    simp only [hwm1,hm10,hm1t,Int.toNat_natCast,qta l (L t) (i+1) (m+1) (by omega),if_true,decide_true]
    exact this
set_option maxHeartbeats 4000000 in
theorem wild5 (l:List El) (t:ByteArray) (hN:l.length≤1000) (hn:t.size≤10000) (hc:∀ e∈l,0≤e.c∧e.c<256):∀ (m:Nat) (b2:List (List Bool)) (q:Nat) (z:Nat) (b3:List Bool),m≤l.length+1→b2.length=l.length+1 →
  (m=l.length+1∧q=l.length+1∨m≤l.length∧q=m∧b3=rowF l (L t) m∧z=t.size+1)→(∀ i',m<i'→i'≤l.length→b2.getD i' []=rowF l (L t) i') →
  ∃ b2',qqy l (l.length+1) ((m:Int) - 1) t (lowS t) b2 q z b3=some ((l,(),((),()),l.length+1,-1,false),(t,lowS t,(b2',0,t.size+1),rowF l (L t) 0))∧b2'.length=l.length+1∧∀ i',0<i'→i'≤l.length→b2'.getD i' []=rowF l (L t) i':=by
 intro m
 induction m with
 |zero =>
  intro b2 q z b3 hm hb2 hq hrow
  obtain ⟨rfl,rfl,rfl⟩:q=0∧b3=rowF l (L t) 0∧z=t.size+1:=by
   rcases hq with h|h
   ·omega
   ·exact h.2
  refine ⟨b2,qr0 ?_,hb2,hrow⟩
  simp only [qr4,q26i,q26z,EC.decL_encL,EC.isL_encL,EC.encL_length]
  simp
 |succ m ih =>
  intro b2 q z b3 hm hb2 hq hrow
  have hj:(((m+1:Nat):Int) - 1)=(m:Int):=by omega
  rw [hj]
  have hL:=q264 t
  have hwn:=q122 (k:=t.size) (n:=t.size+1) (by omega) (by omega)
  have hm0:(m:Int) ≥ 0:=by omega
  have hmc:(m:Int)<((l.length+1:Nat):Int):=by omega
  have hmb:m<b2.length:=by omega
  have g0:(0:Int)≤((t.size+1:Nat):Int):=by omega
  have g1:((t.size+1:Nat):Int)*((1:Nat):Int)≤140737488355328:=by omega
  have g2:((t.size+1:Nat):Int)≤9223372036854775807:=by omega
  have hwm:=q123 m (by omega)
  have hrep:List.replicate (t.size+1) [C.bool false]=q26n.encL (List.replicate (t.size+1) false):=EC_rep q26n (t.size+1) false
  have hset:(q26u.encL b2).set q [C.sl (q26n.encL b3)]=q26u.encL (b2.set q b3):=EC_set q26u b2 q b3
  have h9:=wild9 l t hN hn hc m (by omega)
  have hts:((t.size:Nat):Int)=((t.size+1:Nat):Int) - 1:=by omega
  rcases hq with ⟨h1,h2⟩|⟨h1,h2,h3,h4⟩
  ·-- the first row
   have hqf:¬ q<b2.length:=by omega
   have h:=h9 b2 hb2 (fun i' a b=>by omega) (t.size+1) (List.replicate (t.size+1) false) (Nat.le_refl _) (by simp) (fun q a b=>by omega)
   rw [←hts] at h
   obtain ⟨b2',e1,e2,e3⟩:=ih b2 m (t.size+1) (rowF l (L t) m) (by omega) hb2 (.inr ⟨by omega,rfl,rfl,rfl⟩) (fun i' a b=>by omega)
   refine ⟨b2',qr0 ?_,e2,e3⟩
   simp only [qr4,q26i,q26z,EC.decL_encL,EC.isL_encL,EC.encL_length,Int.toNat_natCast,hwn,hm0,hmc,hmb,g0,g1,g2,hqf,hrep,h,hwm,e1,Option.bind_some,decide_true,decide_false,if_true,if_false,Bool.and_self,Bool.false_eq_true]
  ·subst h2 h3 h4
   have hqt:m+1<b2.length:=by omega
   have hrow':∀ i',m<i'→i'≤l.length→(b2.set (m+1) (rowF l (L t) (m+1))).getD i' []=rowF l (L t) i':=by
    intro i' a b
    simp only [List.getD_eq_getElem?_getD]
    by_cases e:i'=m+1
    ·subst e;simp [hqt]
    ·rw [List.getElem?_set_ne (Ne.symm e),←List.getD_eq_getElem?_getD]
     exact hrow i' (by omega) b
   have h:=h9 (b2.set (m+1) (rowF l (L t) (m+1))) (by simpa using hb2) hrow' (t.size+1) (List.replicate (t.size+1) false) (Nat.le_refl _) (by simp) (fun q a b=>by omega)
   rw [←hts] at h
   obtain ⟨b2',e1,e2,e3⟩:=ih (b2.set (m+1) (rowF l (L t) (m+1))) m (t.size+1) (rowF l (L t) m) (by omega) (by simpa using hb2) (.inr ⟨by omega,rfl,rfl,rfl⟩) (fun i' a b=>hrow' i' a b)
   refine ⟨b2',qr0 ?_,e2,e3⟩
   simp only [qr4,q26i,q26z,EC.decL_encL,EC.isL_encL,EC.encL_length,Int.toNat_natCast,hwn,hm0,hmc,hmb,g0,g1,g2,hqt,hrep,hset,h,hwm,e1,Option.bind_some,decide_true,if_true,Bool.and_self]
def skip (l:List El):List UInt8→Nat
 |[]=>0
 |b::t=>if canM l (b::t) then 0 else skip l t+1
def pieces:List El→List UInt8→List (List UInt8)
 |[],_=>[]
 |e::l,t=>if e.many then t.take (skip l t)::pieces l (t.drop (skip l t)) else if e.one then t.take 1::pieces l (t.drop 1) else pieces l (t.drop 1)
def toBA (l:List UInt8):ByteArray:=⟨l.toArray⟩
theorem q114 (t:ByteArray) (i k:Nat):t.extract i (i+k)=toBA (((L t).drop i).take k):=by
 apply BA_ext
 rw [L_ext,show i+k - i=k by omega]
 rfl
theorem wild24 (l:List El) (t:ByteArray) (hN:l.length≤1000) (hn:t.size≤10000) (i:Nat) (hi:i<l.length) (hmany:l[i].many=true) (b1:List (List Bool)) (hb1:b1.length=l.length+1) (hrow:∀ i',0<i'→i'≤l.length→b1.getD i' []=rowF l (L t) i')
  (out:Nat) (from_:Int) (b2:List ByteArray) (one:Bool) (c:Int) (b4:List Bool):∀ (m j:Nat),j+m=t.size→F l (L t) i j=true →
  qqr (l.length+1) out j i from_ l l.length i t b1 0 (t.size+1) b2 one true c b4=some (((),l.length+1,out,((j+skip (l.drop (i+1)) ((L t).drop j):Nat):Int),(i:Int),(),from_,l,(l.length:Int),(i:Int),false),(t,(b1,0,t.size+1),b2,(one,true,c),b4))
  ∧ j+skip (l.drop (i+1)) ((L t).drop j)≤t.size∧F l (L t) (i+1) (j+skip (l.drop (i+1)) ((L t).drop j))=true:=by
 intro m
 have hL:=q264 t
 have hw:=q122 (k:=i) (n:=l.length) hi (by omega)
 have hic2:((i+1:Nat):Int)<((l.length+1:Nat):Int):=by omega
 have hib2:i+1<b1.length:=by omega
 have hne:¬ ((i+1)==0)=true:=by simp
 have hi10:(0:Int)≤((i+1:Nat):Int):=by omega
 have hr:=hrow (i+1) (by omega) (by omega)
 have hrl:(rowF l (L t) (i+1)).length=t.size+1:=by rw [qtb,hL]
 induction m with
 |zero =>
  intro j hj hF
  have hj:j=t.size:=by omega
  have hF':=F_many l (L t) i j hi hmany
  rw [hF,hL] at hF'
  have h1:F l (L t) (i+1) j=true:=by simpa [hj] using hF'.symm
  have hd:(L t).drop j=[]:=List.drop_eq_nil_of_le (by omega)
  rw [hd,skip,Nat.add_zero]
  refine ⟨qqt ?_,by omega,h1⟩
  have hjr:j<t.size+1:=by omega
  simp only [qqx,q26i,q26z,EC.decL_encL,EC.isL_encL,EC.encL_length,q274,q26b,q4h,Int.toNat_natCast,hw,hic2,hib2,hne,hi10,hr,hrl,hjr,h1,qta l (L t) (i+1) j (by omega),len_75 b1 (i+1) hib2,isP_sl b1 (i+1) hib2,d103,d4,if_true,if_false,decide_true,Bool.and_self,beq_self_eq_true,Int.natCast_nonneg,Bool.not_true,Bool.false_eq_true]
  rfl
 |succ m ih =>
  intro j hj hF
  have hjn:j<(L t).length:=by omega
  have hF':=F_many l (L t) i j hi hmany
  rw [hF] at hF'
  have hjr:j<t.size+1:=by omega
  have hsk:skip (l.drop (i+1)) ((L t).drop j)=if F l (L t) (i+1) j=true then 0 else skip (l.drop (i+1)) ((L t).drop (j+1))+1:=by
   rw [F,q97 hjn,skip]
  cases h1:F l (L t) (i+1) j with
  |true =>
   rw [hsk,h1,if_pos rfl,Nat.add_zero]
   refine ⟨qqt ?_,by omega,h1⟩
   simp only [qqx,q26i,q26z,EC.decL_encL,EC.isL_encL,EC.encL_length,q274,q26b,q4h,Int.toNat_natCast,hw,hic2,hib2,hne,hi10,hr,hrl,hjr,h1,qta l (L t) (i+1) j (by omega),len_75 b1 (i+1) hib2,isP_sl b1 (i+1) hib2,d103,d4,if_true,if_false,decide_true,Bool.and_self,beq_self_eq_true,Int.natCast_nonneg,Bool.not_true,Bool.false_eq_true]
   rfl
  |false =>
   rw [h1] at hF'
   have h2:F l (L t) i (j+1)=true:=by simpa [hjn] using hF'.symm
   obtain ⟨e1,e2,e3⟩:=ih (j+1) (by omega) h2
   have he:j+skip (l.drop (i+1)) ((L t).drop j)=j+1+skip (l.drop (i+1)) ((L t).drop (j+1)):=by
    rw [hsk,h1];simp;omega
   rw [he]
   refine ⟨qqt ?_,e2,e3⟩
   have hwj:=q122 (k:=j) (n:=t.size) (by omega) (by omega)
   simp only [qqx,q26i,q26z,EC.decL_encL,EC.isL_encL,EC.encL_length,q274,q26b,q4h,Int.toNat_natCast,hw,hic2,hib2,hne,hi10,hr,hrl,hjr,h1,hwj,e1,qta l (L t) (i+1) j (by omega),len_75 b1 (i+1) hib2,isP_sl b1 (i+1) hib2,d103,d4,if_true,if_false,decide_true,Bool.and_self,beq_self_eq_true,Int.natCast_nonneg,Bool.not_false,Bool.false_eq_true]
theorem wild24n (l:List El) (t:ByteArray) (i j:Nat) (b1:List (List Bool)) (out:Nat) (from_:Int) (b2:List ByteArray) (one:Bool) (c:Int) (b4:List Bool) :
  qqr (l.length+1) out j i from_ l l.length i t b1 0 (t.size+1) b2 one false c b4=some (((),l.length+1,out,(j:Int),(i:Int),(),from_,l,(l.length:Int),(i:Int),false),(t,(b1,0,t.size+1),b2,(one,false,c),b4)):=by
 refine qqt ?_
 simp only [qqx,q26i,q26z,EC.decL_encL,EC.isL_encL,EC.encL_length,q274,q26b,q4h,if_true,q26g,Bool.false_eq_true,if_false]
set_option maxHeartbeats 4000000 in
theorem wild21 (l:List El) (t:ByteArray) (hN:l.length≤1000) (hn:t.size≤10000) (b1:List (List Bool)) (hb1:b1.length=l.length+1) (hrow:∀ i',0<i'→i'≤l.length→b1.getD i' []=rowF l (L t) i') (b4:List Bool):∀ (m i j:Nat) (b2:List ByteArray),i+m=l.length→F l (L t) i j=true→j≤t.size→b2.length≤i →
  ∃ j',qqk (l.length+1) b2.length j l l.length i t b1 0 (t.size+1) b2 b4=some (((),l.length+1,(b2++(pieces (l.drop i) ((L t).drop j)).map toBA).length,j',l,(l.length:Int),(l.length:Int),false),(t,(b1,0,t.size+1),b2++(pieces (l.drop i) ((L t).drop j)).map toBA,b4)):=by
 intro m
 have hL:=q264 t
 induction m with
 |zero =>
  intro i j b2 hi hF hj hb
  have hi:i=l.length:=by omega
  subst hi
  refine ⟨j,qqm ?_⟩
  simp only [qqq,q26i,q26z,EC.decL_encL,EC.isL_encL,EC.encL_length,q268,q26a,qli,q3q,q3r,q3s]
  simp [pieces]
 |succ m ih =>
  intro i j b2 hi hF hj hb
  have hil:i<l.length:=by omega
  have hel:l.getD i (q26l.dec [])=l[i]:=qik hil
  have hi':(i:Int)<(l.length:Int):=by omega
  have hw:=q122 (k:=i) (n:=l.length) hil (by omega)
  rw [q97 hil,pieces]
  have g1:(b2.length+1+(b2.length+1) / 4+192)*16≤281474976710656:=by omega
  have g2:b2.length+1≤9223372036854775807:=by omega
  cases hmany:l[i].many with
  |true =>
   obtain ⟨e1,e2,e3⟩:=wild24 l t hN hn i hil hmany b1 hb1 hrow b2.length (j:Int) b2 l[i].one l[i].c b4 (t.size - j) j (by omega) hF
   generalize hk:skip (l.drop (i+1)) ((L t).drop j)=k at e1 e2 e3
   obtain ⟨j',h⟩:=ih (i+1) (j+k) (b2++[toBA (((L t).drop j).take k)]) (by omega) e3 e2 (by simp;omega)
   rw [List.drop_drop] at *
   refine ⟨j',qqm ?_⟩
   have a1:((j+k:Nat):Int)≤((t.size:Nat):Int):=by omega
   have a2:(j:Int)≤((j+k:Nat):Int):=by omega
   have a3:(0:Int)≤((j+k:Nat):Int):=by omega
   simp only [List.length_append,List.length_cons,List.length_nil,Nat.zero_add] at h
   simp only [qqq,q26i,q26z,EC.decL_encL,EC.isL_encL,EC.encL_length,q268,q26a,qli,q3q,q3r,q3s,Int.toNat_natCast,hi',hil,hel,hmany,e1,hw,q114,a1,a2,a3,g1,g2,List.length_cons,List.length_nil,Nat.zero_add,List.all_cons,List.all_nil,Option.bind_some,q26f,if_true,if_false,decide_true,Bool.and_self,beq_self_eq_true,Int.natCast_nonneg,Bool.not_true,Bool.false_eq_true,h]
   simp [Nat.add_assoc,Nat.add_comm 1]
  |false =>
   have hF':=F_one l (L t) i j hil hmany
   rw [hF] at hF'
   have hF2:fitAt l[i] (L t)[j]?=true∧F l (L t) (i+1) (j+1)=true:=by simpa using hF'.symm
   have hjn:j<t.size:=by
    rcases Nat.lt_or_ge j t.size with h|h
    ·exact h
    ·rw [List.getElem?_eq_none (by omega)] at hF2;cases hF2.1
   have e1:=wild24n l t i j b1 b2.length (j:Int) b2 l[i].one l[i].c b4
   have hwj:=q122 (k:=j) (n:=t.size) hjn (by omega)
   have a1:((j+1:Nat):Int)≤((t.size:Nat):Int):=by omega
   have a2:(j:Int)≤((j+1:Nat):Int):=by omega
   have a3:(0:Int)≤((j+1:Nat):Int):=by omega
   simp only [List.drop_drop]
   cases hone:l[i].one with
   |true =>
    rw [hone] at e1
    obtain ⟨j',h⟩:=ih (i+1) (j+1) (b2++[toBA (((L t).drop j).take 1)]) (by omega) hF2.2 (by omega) (by simp;omega)
    refine ⟨j',qqm ?_⟩
    simp only [List.length_append,List.length_cons,List.length_nil,Nat.zero_add] at h
    simp only [qqq,q26i,q26z,EC.decL_encL,EC.isL_encL,EC.encL_length,q268,q26a,qli,q3q,q3r,q3s,Int.toNat_natCast,hi',hil,hel,hmany,hone,e1,hw,hwj,q114,a1,a2,a3,g1,g2,List.length_cons,List.length_nil,Nat.zero_add,List.all_cons,List.all_nil,Option.bind_some,q26f,if_true,if_false,decide_true,Bool.and_self,beq_self_eq_true,Int.natCast_nonneg,Bool.not_false,Bool.false_eq_true,h]
    simp [Nat.add_assoc,Nat.add_comm 1]
   |false =>
    rw [hone] at e1
    obtain ⟨j',h⟩:=ih (i+1) (j+1) b2 (by omega) hF2.2 (by omega) (by omega)
    refine ⟨j',qqm ?_⟩
    simp only [qqq,q26i,q26z,EC.decL_encL,EC.isL_encL,EC.encL_length,q268,q26a,qli,q3q,q3r,q3s,Int.toNat_natCast,hi',hil,hel,hmany,hone,e1,hw,hwj,a1,a2,a3,Option.bind_some,q26f,if_true,if_false,decide_true,Bool.and_self,Int.natCast_nonneg,Bool.not_false,Bool.false_eq_true,h]
def wildR (l:List El) (T:List UInt8):(Bool × Nat) × List ByteArray:=if canM l T then ((true,((pieces l T).map toBA).length),(pieces l T).map toBA) else ((false,0),[])
set_option maxHeartbeats 4000000 in
theorem wild_s (l:List El) (t:ByteArray) (hN:l.length≤1000) (hn:t.size≤10000) (hc:∀ e∈l,0≤e.c∧e.c<256):qrc l t=some (wildR l (L t)):=by
 have hL:=q264 t
 have hwN:=q122 (k:=l.length) (n:=l.length+1) (by omega) (by omega)
 have g0:(0:Int)≤((l.length+1:Nat):Int):=by omega
 have g1:((l.length+1:Nat):Int)*((24:Nat):Int)≤140737488355328:=by omega
 have g2:((l.length+1:Nat):Int)≤9223372036854775807:=by omega
 have hrep:List.replicate (l.length+1) [C.sl []]=q26u.encL (List.replicate (l.length+1) []):=EC_rep q26u (l.length+1) []
 obtain ⟨b2,h5,hb2,hrow⟩:=wild5 l t hN hn hc (l.length+1) (List.replicate (l.length+1) []) (l.length+1) 0 [] (by omega) (by simp) (.inl ⟨rfl,rfl⟩) (fun i' a b=>by omega)
 have hts:(((l.length+1:Nat):Int) - 1)=((l.length:Nat):Int):=by omega
 rw [hts] at h5
 have hc0:F l (L t) 0 0=canM l (L t):=by simp [F]
 have hr0:(rowF l (L t) 0).getD 0 false=canM l (L t):=by rw [qta _ _ _ _ (by omega),hc0]
 have b0:0<b2.length:=by omega
 have r0:0<(rowF l (L t) 0).length:=by rw [qtb];omega
 have c0:(0:Int)<((l.length+1:Nat):Int):=by omega
 have c1:(0:Int)<((t.size+1:Nat):Int):=by omega
 refine qqj ?_
 have z:Int.toNat 0=0:=rfl
 simp only [qrd,q26i,q26z,EC.decL_encL,EC.isL_encL,EC.encL_length,q274,q26b,q4h,qnc t (by omega),Option.bind_some,hwN,g0,g1,g2,hrep,Int.toNat_natCast,qg,h5,b0,c0,c1,r0,z,hr0,d4,q27c _ 0 r0,q278 _ 0 r0,if_true,decide_true,Bool.and_self,beq_self_eq_true,Int.le_refl]
 cases hcm:canM l (L t) with
 |false=>simp [wildR,hcm]
 |true =>
  obtain ⟨j',h21⟩:=wild21 l t hN hn b2 hb2 hrow (rowF l (L t) 0) l.length 0 0 [] (by omega) (by rw [hc0];exact hcm) (by omega) (by simp)
  have h21':=h21
  simp only [List.nil_append,List.drop_zero,List.length_nil] at h21'
  have h22:qqk (l.length+1) 0 (0:Int) l (l.length:Int) (0:Int) t b2 0 (t.size+1) [] (rowF l (L t) 0)=_:=h21'
  simp only [Bool.not_true,Bool.false_eq_true,if_false,h22,Option.bind_some]
  simp [wildR,hcm]
end Go.Proofs.YtokahibbkdbndaaGreatDoor
namespace Go.Proofs.YtokahibbkdbndaaGreatDoor
open Go.RowKit
def el1 (b:UInt8):El:=if nb b=42 then ⟨false,true,0⟩ else if nb b=63 then ⟨true,false,0⟩ else ⟨false,false,nb b⟩
def elems2:List UInt8→List El
 |[]=>[]
 |[b]=>[el1 b]
 |b::c::l=>if nb b=92 then ⟨false,false,nb c⟩::elems2 l else el1 b::elems2 (c::l)
theorem q9d {b:UInt8} {l:List UInt8} (h:nb b≠92∨l=[]):elems2 (b::l)=el1 b::elems2 l:=by
 cases l with
 |nil=>simp [elems2]
 |cons c l =>
  rcases h with h|h
  ·simp [elems2,h]
  ·cases h
theorem q9e {b c:UInt8} {l:List UInt8} (h:nb b=92):elems2 (b::c::l)=⟨false,false,nb c⟩::elems2 l:=by simp [elems2,h]
theorem qrg:∀ (l:List El) (T:List UInt8),(pieces l T).length≤l.length
 |[],_=>by simp [pieces]
 |e::l,T=>by
  rw [pieces]
  split
  ·have:=qrg l (T.drop (skip l T));simp;omega
  ·split
   ·have:=qrg l (T.drop 1);simp at this ⊢;omega
   ·have:=qrg l (T.drop 1);simp at this ⊢;omega
theorem q9c:∀ (l:List UInt8),(elems2 l).length≤l.length
 |[]=>by simp [elems2]
 |[b]=>by simp [elems2]
 |b::c::l=>by
  rw [elems2]
  split
  ·have:=q9c l;simp;omega
  ·have:=q9c (c::l);simp at this ⊢;omega
def tr (l:List UInt8):Nat:=(l.reverse.takeWhile (fun b=>nb b==92)).length
theorem tr_le (l:List UInt8):tr l≤l.length:=by
 have:=(List.takeWhile_prefix (p:=fun b=>nb b==92) (l:=l.reverse)).length_le
 simpa [tr] using this
theorem q118 (b:UInt8) (l:List UInt8):tr (b::l)=if tr l=l.length then (if nb b=92 then l.length+1 else l.length) else tr l:=by
 unfold tr
 rw [List.reverse_cons,List.takeWhile_append]
 by_cases h:(l.reverse.takeWhile (fun b=>nb b==92)).length=l.reverse.length
 ·rw [if_pos h,if_pos (by simpa using h)]
  by_cases hb:nb b=92
  ·simp [hb]
  ·simp [hb]
 ·rw [if_neg h,if_neg (by simpa using h)]
theorem q9g:∀ (l:List UInt8),((elems l).isNone=true ↔ tr l % 2=1)
 |[]=>by simp [elems,tr]
 |[b]=>by
  rw [elems,q118]
  have:tr []=0:=rfl
  by_cases h:nb b=92
  ·simp [h,this]
  ·simp [h,this]
   by_cases h1:nb b=42
   ·simp [h1]
   ·by_cases h2:nb b=63
    ·simp [h2]
    ·simp [h1,h2]
 |b::c::l=>by
  have h1:=q9g (c::l)
  have h2:=q9g l
  have l1:=tr_le (c::l)
  have l2:=tr_le l
  rw [elems]
  by_cases h:nb b=92
  ·have e:tr (b::c::l) % 2=tr l % 2:=by
    rw [q118,q118]
    by_cases a:tr l=l.length
    ·by_cases hc:nb c=92
     ·simp [a,hc,h];omega
     ·simp [a,hc]
    ·have a':¬ tr l=l.length+1:=by omega
     simp [a,a']
   rw [e,←h2]
   simp [h]
  ·have e:tr (b::c::l)=tr (c::l):=by
    rw [q118]
    split
    ·rename_i a;simp [a]
    ·rfl
   rw [e,←h1]
   simp only [h,if_false]
   split
   ·simp
   ·split <;> simp
theorem q9f:∀ {l:List UInt8} {es:List El},elems l=some es→es=elems2 l
 |[],es,h=>by simp [elems] at h;subst h;rfl
 |[b],es,h=>by
  simp only [elems] at h
  simp only [elems2,el1]
  split at h
  ·rename_i h1;injection h with h;subst h;simp [h1]
  ·rename_i h1
   split at h
   ·rename_i h2;injection h with h;subst h;simp [h2]
   ·rename_i h2
    split at h
    ·cases h
    ·injection h with h;subst h;simp [h1,h2]
 |b::c::l,es,h=>by
  simp only [elems] at h
  by_cases h92:nb b=92
  ·rw [q9e h92]
   simp [h92] at h
   obtain ⟨a,ha,rfl⟩:=h
   rw [q9f ha]
  ·rw [q9d (.inl h92)]
   by_cases h42:nb b=42
   ·simp [h42] at h
    obtain ⟨a,ha,rfl⟩:=h
    rw [q9f ha];simp [el1,h42]
   ·by_cases h63:nb b=63
    ·simp [h63] at h
     obtain ⟨a,ha,rfl⟩:=h
     rw [q9f ha];simp [el1,h63]
    ·simp [h42,h63,h92] at h
     obtain ⟨a,ha,rfl⟩:=h
     rw [q9f ha];simp [el1,h42,h63]
theorem q9b:∀ (l:List UInt8),∀ e∈elems2 l,0≤e.c∧e.c<256
 |[],e,h=>by simp [elems2] at h
 |[b],e,h=>by
  simp [elems2] at h;subst h
  have:=q27f b
  unfold el1;split
  ·exact ⟨by decide,by decide⟩
  ·split
   ·exact ⟨by decide,by decide⟩
   ·exact this
 |b::c::l,e,h=>by
  have n1:=q27f b
  have n2:=q27f c
  rw [elems2] at h
  split at h
  ·rcases List.mem_cons.1 h with h|h
   ·subst h;exact n2
   ·exact q9b l e h
  ·rcases List.mem_cons.1 h with h|h
   ·subst h
    unfold el1;split
    ·exact ⟨by decide,by decide⟩
    ·split
     ·exact ⟨by decide,by decide⟩
     ·exact n1
   ·exact q9b (c::l) e h
def faultP (kind:Int) (p:ByteArray):Int × Int:=if kind<1∨3<kind then (4,-2) else if 200<p.size then (1,-3) else if kind=3∧tr (L p) % 2=1 then (11,(p.size:Int) - 1) else (0,0)
def contR:List UInt8→List UInt8→Bool
 |[],sub=>sub.isEmpty
 |b::l,sub=>sub.isPrefixOf (b::l)||contR l sub
theorem q85:∀ (s sub:List UInt8),Lib.contains s sub=contR s sub
 |[],sub=>by
  simp only [Lib.contains,Lib.index,contR]
  by_cases h:sub.isEmpty=true
  ·simp [h]
  ·simp [h]
 |b::l,sub=>by
  have ih:=q85 l sub
  have hge:=Lib.index_ge l sub
  simp only [Lib.contains] at ih
  simp only [Lib.contains,Lib.index,contR]
  by_cases hp:sub.isPrefixOf (b::l)=true
  ·simp [hp]
  ·simp only [hp,Bool.false_eq_true,if_false,Bool.false_or]
   rw [←ih]
   by_cases h:Lib.index l sub=-1
   ·simp [h]
   ·have h1:0≤Lib.index l sub:=by omega
    have h2:0≤Lib.index l sub+1:=by omega
    simp [h,h1,h2]
def matchedR (kind:Int) (p t:List UInt8):(Bool × Nat) × List ByteArray:=if kind=1 then ((lowL p==lowL t,0),[]) else if kind=2 then ((contR (lowL t) (lowL p),0),[]) else wildR (elems2 p) t
def matchR (kind:Int) (p t:ByteArray):(Bool × Nat × (Int × Int)) × List ByteArray :=
 if faultP kind p≠(0,0) then ((false,0,faultP kind p),[]) else if 4000<t.size then ((false,0,(1,-1)),[]) else (((matchedR kind (L p) (L t)).1.1,(matchedR kind (L p) (L t)).1.2,(0,0)),(matchedR kind (L p) (L t)).2)
set_option maxHeartbeats 1000000 in
theorem qnj (kind:Int) (p t:ByteArray) (hp:p.size≤9223372036854775807) (ht:t.size≤9223372036854775807):qq0 kind p t=some (matchR kind p t):=qpz (by
 by_cases hk1:kind<1
 ·have f:faultP kind p=(4,-2):=by rw [faultP,if_pos (.inl hk1)]
  simp only [qq1,q26i,hk1,decide_true,q26f,Bool.not_true,Bool.false_eq_true,if_false,qf5,Option.bind_some,qg,matchR,f]
  rfl
 by_cases hk3:3<kind
 ·have f:faultP kind p=(4,-2):=by rw [faultP,if_pos (.inr hk3)]
  have hk3':kind > 3:=hk3
  simp only [qq1,q26i,hk1,hk3',decide_true,decide_false,q26f,Bool.not_false,if_true,qf5,Option.bind_some,qg,matchR,f]
  rfl
 have hk3':¬ kind > 3:=hk3
 have hk:¬ (kind<1∨3<kind):=by omega
 by_cases hp2:200<p.size
 ·have f:faultP kind p=(1,-3):=by rw [faultP,if_neg hk,if_pos hp2]
  have hp2':(p.size:Int) > 200:=by omega
  simp only [qq1,q26i,hk1,hk3',hp2',decide_true,decide_false,q26f,Bool.not_false,if_true,Bool.false_eq_true,if_false,qf5,Option.bind_some,qg,matchR,f]
  rfl
 have hp2':¬ (p.size:Int) > 200:=by omega
 have hw:IntKind.i64.wrap ((p.size:Int) - 1)=(p.size:Int) - 1:=IntWalk.i64_in _ (by omega)
 have hel:=q9a p (by omega)
 have hpar:=q9g (L p)
 -- behind the faults of the pattern
 have rest:faultP kind p=(0,0)→∀ X:Option ((Bool × Nat × (Int × Int)) × List ByteArray),(4000<t.size→X=some ((false,0,(1,-1)),[]))→(¬ 4000<t.size→X=some (((matchedR kind (L p) (L t)).1.1,(matchedR kind (L p) (L t)).1.2,(0,0)),(matchedR kind (L p) (L t)).2))→X=some (matchR kind p t):=by
  intro f X h1 h2
  rw [matchR,if_neg (by simp [f])]
  by_cases h:4000<t.size
  ·rw [if_pos h];exact h1 h
  ·rw [if_neg h];exact h2 h
 have wl:∀ es,elems (L p)=some es→t.size≤4000→qrc es t=some (wildR (elems2 (L p)) (L t)):=by
  intro es he h
  have e:=q9f he
  subst e
  have:=q9c (L p)
  rw [q264] at this
  exact wild_s _ t (by omega) (by omega) (q9b (L p))
 by_cases hk0:kind=3
 ·have b3:(kind==3)=true:=by simpa using hk0
  have b1:(kind==1)=false:=by simp [hk0]
  have b2:(kind==2)=false:=by simp [hk0]
  cases he:elems (L p) with
  |none =>
   have:tr (L p) % 2=1:=hpar.1 (by rw [he];rfl)
   have f:faultP kind p=(11,(p.size:Int) - 1):=by rw [faultP,if_neg hk,if_neg hp2,if_pos ⟨hk0,this⟩]
   rw [he] at hel
   simp only [qq1,q26i,hk1,hk3',hp2',b3,hel,hw,decide_false,q26f,q26g,Bool.not_false,if_true,Bool.false_eq_true,if_false,qf5,Option.bind_some,qg,matchR,f]
   simp
  |some es =>
   have hnp:¬ tr (L p) % 2=1:=fun h=>by have:=hpar.2 h;rw [he] at this;cases this
   have f:faultP kind p=(0,0):=by rw [faultP,if_neg hk,if_neg hp2,if_neg (fun h=>hnp h.2)]
   rw [he] at hel
   refine rest f _ (fun h4=>?_) (fun h4=>?_)
   ·have h4':(t.size:Int) > 4000:=by omega
    simp only [qq1,q26i,hk1,hk3',hp2',b3,hel,h4',decide_true,decide_false,q26f,q26g,Bool.not_false,Bool.not_true,if_true,Bool.false_eq_true,if_false,qf5,Option.bind_some,qg]
   ·have h4':¬ (t.size:Int) > 4000:=by omega
    have hm:matchedR kind (L p) (L t)=wildR (elems2 (L p)) (L t):=by rw [matchedR,if_neg (by omega),if_neg (by omega)]
    simp only [qq1,q26i,q26z,EC.decL_encL,EC.isL_encL,hk1,hk3',hp2',b1,b2,b3,hel,h4',wl es he (by omega),none_s,hm,decide_false,q26f,q26g,Bool.not_false,Bool.not_true,if_true,Bool.false_eq_true,if_false,Option.bind_some,qg]
 ·have b3:(kind==3)=false:=by simpa using hk0
  have f:faultP kind p=(0,0):=by rw [faultP,if_neg hk,if_neg hp2,if_neg (fun h=>hk0 h.1)]
  refine rest f _ (fun h4=>?_) (fun h4=>?_)
  ·have h4':(t.size:Int) > 4000:=by omega
   simp only [qq1,q26i,hk1,hk3',hp2',b3,hel,h4',decide_true,decide_false,q26f,q26g,Bool.not_false,if_true,Bool.false_eq_true,if_false,qf5,Option.bind_some,qg]
  ·have h4':¬ (t.size:Int) > 4000:=by omega
   by_cases h1:kind=1
   ·have b1:(kind==1)=true:=by simpa using h1
    have hm:matchedR kind (L p) (L t)=((lowL (L p)==lowL (L t),0),[]):=by rw [matchedR,if_pos h1]
    simp only [qq1,q26i,hk1,hk3',hp2',b1,b3,hel,h4',same_s p t hp ht,none_s,hm,decide_false,q26f,q26g,Bool.not_false,if_true,Bool.false_eq_true,if_false,Option.bind_some,qg]
   ·have b1:(kind==1)=false:=by simpa using h1
    have h2:kind=2:=by omega
    have b2:(kind==2)=true:=by simpa using h2
    have hm:matchedR kind (L p) (L t)=((contR (lowL (L t)) (lowL (L p)),0),[]):=by rw [matchedR,if_neg h1,if_pos h2]
    have hcp:contP (lowS t) (lowS p)=some (contR (lowL (L t)) (lowL (L p))):=by
     rw [contP,if_pos (by rw [qna];omega),q85]
     rfl
    simp only [qq1,q26i,hk1,hk3',hp2',b1,b2,b3,hel,h4',qnc t ht,qnc p hp,hcp,none_s,hm,decide_false,q26f,q26g,Bool.not_false,if_true,Bool.false_eq_true,if_false,Option.bind_some,qg])
end Go.Proofs.YtokahibbkdbndaaGreatDoor
