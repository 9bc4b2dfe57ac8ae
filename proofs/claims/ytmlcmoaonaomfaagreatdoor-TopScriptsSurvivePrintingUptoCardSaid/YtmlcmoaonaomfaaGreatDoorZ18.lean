/- Patterns, in plain words. -/
import Derived.Test.YtmlcmoaonaomfaaGreatDoorK3L
import Derived.Test.YtmlcmoaonaomfaaGreatDoorZ17
namespace Go.Proofs.YtmlcmoaonaomfaaGreatDoor
open Go.RowKit
abbrev El:=S256
def elems:List UInt8->Oq (List El)
 |[]=>some []
 |[b]=>if nb b=42 then some [⟨false,true,0⟩] else if nb b=63 then some [⟨true,false,0⟩] else if nb b=92 then none else some [⟨false,false,nb b⟩]
 |b::c::l=>if nb b=42 then (elems (c::l)).map (⟨false,true,0⟩::·) else if nb b=63 then (elems (c::l)).map (⟨true,false,0⟩::·)
  else if nb b=92 then (elems l).map (⟨false,false,nb c⟩::·) else (elems (c::l)).map (⟨false,false,nb b⟩::·)
def elRes (p:BA) (b0:List El) (o:Oq (List El)) (r:((Nat×Bool)×List El)⊕((BA×Nat×Int×Bool)×List El)):Prop :=
 match o with
 |some es=>∃ i,r=.inr ((p,(b0++es).length,i,false),b0++es)
 |none=>r=.inl ((0,false),[])
theorem elRes.step {p:BA} {b0:List El} {e:El} {o:Oq (List El)} {r} (h:elRes p (b0++[e]) o r):elRes p b0 (o.map (e::·)) r:=by
 cases o with
 |none=>exact h
 |some es=>obtain ⟨i,h⟩:=h;exact ⟨i,by simpa using h⟩
theorem qc0 (p:BA) (hp:p.size<=1000):∀ (m k:Nat) (b0:List El),p.size - k<=m->k<=p.size->b0.length<=k->∃ r,qx5 p b0.length k b0=some r/\elRes p b0 (elems ((L p).drop k)) r:=by
 intro m;induction m with
 |zero =>
  intro k b0 hm hk hb;have hk:k=p.size:=by omega
  subst hk;have h0:(L p).drop p.size=[]:=by rw [←qo];simp
  refine ⟨_,qx7 (r:=.inr ((p,b0.length,(p.size:Int),false),b0)) (by
   simp only [qxc,zx,zy,z10,z11,z12,gL,dL,wI,p0,aL,dQ,q8c,qm1,x25q,x26q,q3t,q47];simp),?_⟩
  rw [h0];exact ⟨_,by simp;rfl⟩
 |succ m ih =>
  intro k b0 hm hk hb;rcases y30q k p.size with hlt|hge
  case inr =>
   exact ih k b0 (by omega) hk hb
  have hL:k<(L p).length:=by rw [qo];exact hlt
  have hlt':(k:Int)<(p.size:Int):=by omega
  have hw:=q1js hlt (by omega)
  have g1:(b0.length+1+(b0.length+1) / 4+192)*3<=281474976710656:=by omega
  have g2:b0.length+1<=9223372036854775807:=by omega
  rw [qbm hL];generalize hbk:(L p)[k]=b;have hat:=q5d p hL
  rw [hbk] at hat
  -- one byte
  have one:∀ e:El,(elems (b::(L p).drop (k+1))=(elems ((L p).drop (k+1))).map (e::·))->(∀ r,qx5 p (b0++[e]).length ((k+1:Nat):Int) (b0++[e])=some r->qx5 p b0.length k b0=some r)->∃ r,qx5 p b0.length k b0=some r/\elRes p b0 (elems (b::(L p).drop (k+1))) r:=by
   intro e he hs;obtain ⟨r,hr,hv⟩:=ih (k+1) (b0++[e]) (by omega) (by omega) (by simp;omega)
   refine ⟨r,hs r hr,?_⟩;rw [he];exact hv.step
  have eq1:∀ e:El,(∀ l,elems (b::l)=match l with|[]=>some [e]|c::l'=>(elems (c::l')).map (e::·))->elems (b::(L p).drop (k+1))=(elems ((L p).drop (k+1))).map (e::·):=by
   intro e he;rw [he];cases hd:(L p).drop (k+1) with
   |nil=>rfl
   |cons c l=>rfl
  by_cases h42:nb b=42
  ·refine one ⟨false,true,0⟩ (eq1 _ λl=>by cases l <;> simp [elems,h42]) λr hr=>qx7 ?_
   simp only [qxc,zx,zy,z10,z11,z12,gL,dL,wI,p0,aL,dQ,q8c,qm1,x25q,x26q,q3t,q47,x3q,hat,hw,x9q,x8q,x13q];simp only [x12q,x9q,x8q,x13q] at hr;simpa [hlt,hlt',h42,g1,g2] using hr
  by_cases h63:nb b=63
  ·refine one ⟨true,false,0⟩ (eq1 _ λl=>by cases l <;> simp [elems,h63]) λr hr=>qx7 ?_
   simp only [qxc,zx,zy,z10,z11,z12,gL,dL,wI,p0,aL,dQ,q8c,qm1,x25q,x26q,q3t,q47,x3q,hat,hw,x9q,x8q,x13q];simp only [x12q,x9q,x8q,x13q] at hr;simpa [hlt,hlt',h63,g1,g2] using hr
  by_cases h92:nb b=92
  ·rcases y30q (k+1) p.size with hl2|hl2
   ·have hL2:k+1<(L p).length:=by rw [qo];exact hl2
    have hw2:=q1js hl2 (by omega)
    have hat2:=q5d p hL2;have hne:¬ ((k+1:Nat):Int)=(p.size:Int):=by omega
    obtain ⟨r,hr,hv⟩:=ih (k+1+1) (b0++[⟨false,false,nb (L p)[k+1]⟩]) (by omega) (by omega) (by simp;omega)
    refine ⟨r,qx7 ?_,?_⟩
    ·simp only [x12q,x9q,x8q,x13q] at hr
     simp only [qxc,zx,zy,z10,z11,z12,gL,dL,wI,p0,aL,dQ,q8c,qm1,x25q,x26q,q3t,q47,x3q,hat,hw,hw2,hat2,x9q,x8q,x13q];have hp2:(0:Int)<=((k+1:Nat):Int):=by omega
     have h42':¬ (nb b==42)=true:=by simpa using h42
     have h63':¬ (nb b==63)=true:=by simpa using h63
     have h92':(nb b==92)=true:=by simpa using h92
     have hne':¬ (((k+1:Nat):Int)==(p.size:Int))=true:=by simpa using hne
     simp only [hlt',hlt,h42',h63',h92',hne',hp2,hl2,g1,g2,hr,x20q,x21q,decide_true,x4q,x16q,x17q,x23q,x9q,x8q,x13q,x19q,x1q]
    ·rw [qbm hL2]
     have:elems (b::(L p)[k+1]::(L p).drop (k+1+1))=(elems ((L p).drop (k+1+1))).map (⟨false,false,nb (L p)[k+1]⟩::·):=by rw [elems];simp [h92]
     rw [this];exact hv.step
   ·have hz:(L p).drop (k+1)=[]:=y16q (by rw [qo];omega)
    have heq:((k+1:Nat):Int)=(p.size:Int):=by omega
    refine ⟨.inl ((0,false),[]),qx7 ?_,?_⟩
    ·simp only [qxc,zx,zy,z10,z11,z12,gL,dL,wI,p0,aL,dQ,q8c,qm1,x25q,x26q,q3t,q47,x3q,hat,hw,qj]
     simp [hlt,hlt',h92,heq]
    ·rw [hz];simp [elems,h92,elRes]
  ·refine one ⟨false,false,nb b⟩ (eq1 _ λl=>by cases l <;> simp [elems,h42,h63,h92]) λr hr=>qx7 ?_
   simp only [qxc,zx,zy,z10,z11,z12,gL,dL,wI,p0,aL,dQ,q8c,qm1,x25q,x26q,q3t,q47,x3q,hat,hw,x9q,x8q,x13q];simp only [x12q,x9q,x8q,x13q] at hr;simpa [hlt,hlt',h42,h63,h92,g1,g2] using hr
theorem qc1 (p:BA) (hp:p.size<=1000):qxd p=some (match elems (L p) with|some es=>((es.length,true),es)|none=>((0,false),[])):=qx4 (by
 obtain ⟨r,hr,hv⟩:=qc0 p hp p.size 0 [] (by omega) (by omega) (by simp)
 have hr':qx5 p 0 (0:Int) []=some r:=hr;rw [x10q] at hv;simp only [qxe,dL,qm1,x25q,x26q,qj,hr',x0q,x20q];cases he:elems (L p) with
 |none =>rw [he] at hv;simp only [elRes] at hv;subst hv;rfl
 |some es =>
  rw [he] at hv;obtain ⟨i,hv⟩:=hv;subst hv;simp)
def fitB (e:El) (b:UInt8):Bool:=e.one||lowI e.c==lowI (nb b)
def fitAt (e:El):Oq UInt8->Bool
 |some b=>fitB e b
 |none=>false
theorem qin (e:El) (t:BA) (ht:t.size<=9223372036854775807) (hc0:0<=e.c) (hc1:e.c<256) (j:Nat) (hj:j<=t.size):fits_s e.one e.many e.c j t (lowS t)=some (fitAt e (L t)[j]?):=qim (by
 rcases y30q j t.size with h|h
 ·have hL:j<(L t).length:=by rw [qo];exact h
  rw [y1q hL,fitAt];have hj':(j:Int)<(t.size:Int):=by omega
  have hw:=q1js h ht;have hz:((j+1:Nat):Int)<=((lowS t).size:Int):=by rw [qsh];omega
  have hx:L ((lowS t).extract j (j+1))=[lowB (L t)[j]]:=by
   have hl:j<(L (lowS t)).length:=by rw [qo,qsh];exact h
   rw [L_ext,qbm hl,show j+1 - j=1 by omega,List.take_succ_cons,List.take_zero]
   simp [L_low,lowL]
  have hone:(⟨[UInt8.ofNat e.c.toNat].toArray⟩:BA).size<=9223372036854775807:=by have:(⟨[UInt8.ofNat e.c.toNat].toArray⟩:BA).size=1:=rfl;omega
  cases h1:e.one with
  |true=>simp [fits_t,wI,p0,q8c,hj',fitB,h1]
  |false =>
   simp only [fits_t,wI,p0,q8c,qm1,hw,qsj _ hone,x0q,x3q,q1i9,hx,L_low];have:(lowL (L (⟨[UInt8.ofNat e.c.toNat].toArray⟩:BA))==[lowB (L t)[j]])=(lowI e.c==lowI (nb (L t)[j])):=by
    have:lowL (L (⟨[UInt8.ofNat e.c.toNat].toArray⟩:BA))=[lowB (ub e.c)]:=rfl;rw [this];have:=qsf (ub e.c) (L t)[j]
    rw [nb_ub hc0 hc1] at this;rw [←this];simp []
   rw [this];simp [hj',fitB,h1];omega
 ·have:(L t)[j]?=none:=y40q (by rw [qo];exact h)
  have hj':¬ (j:Int)<(t.size:Int):=by omega
  simp [fits_t,wI,p0,q8c,hj',this,fitAt])
def canM:List El->List UInt8->Bool
 |[],t=>t.isEmpty
 |e::l,[]=>e.many&&canM l []
 |e::l,b::t=>if e.many then canM l (b::t)||canM (e::l) t else fitB e b&&canM l t
termination_by l t=>l.length+t.length
def F (l:List El) (T:List UInt8) (i j:Nat):Bool:=canM (l.drop i) (T.drop j)
def rowF (l:List El) (T:List UInt8) (i:Nat):List Bool:=(List.range (T.length+1)).map (F l T i)
theorem q118 (l:List El) (T:List UInt8) (i j:Nat) (h:j<=T.length):(rowF l T i).getD j false=F l T i j:=by simp [rowF,List.getElem?_range (show j<T.length+1 by omega)]
theorem q119 (l:List El) (T:List UInt8) (i:Nat):(rowF l T i).length=T.length+1:=by simp [rowF]
theorem F_end (l:List El) (T:List UInt8) (j:Nat) (h:j<=T.length):F l T l.length j=decide (j=T.length):=by
 simp only [F,List.drop_length,canM];by_cases e:j=T.length
 ·subst e;simp
 ·simp [e];omega
theorem F_many (l:List El) (T:List UInt8) (i j:Nat) (hi:i<l.length) (hm:l[i].many=true):F l T i j=(F l T (i+1) j||(decide (j<T.length)&&F l T i (j+1))):=by
 simp only [F];rw [qbm hi];by_cases hj:j<T.length
 ·rw [qbm hj,canM]
  simp [hm,hj]
 ·have:T.drop j=[]:=y16q (by omega)
  rw [this,canM];simp [hm,hj]
theorem F_one (l:List El) (T:List UInt8) (i j:Nat) (hi:i<l.length) (hm:l[i].many=false):F l T i j=(fitAt l[i] T[j]?&&F l T (i+1) (j+1)):=by
 simp only [F];rw [qbm hi];by_cases hj:j<T.length
 ·rw [qbm hj,canM,y1q hj]
  simp [hm,fitAt]
 ·have:T.drop j=[]:=y16q (by omega)
  rw [this,canM,y40q (by omega)]
  simp [hm,fitAt]
theorem d103:qbn.dec []=[]:=rfl
theorem d4:qbs.dec []=false:=rfl
theorem isP_b (xs:List Bool) (n:Nat) (h:n<xs.length):isP [.bool] 0 ((qbs.encL xs).getD n [])=true:=by rw [EC.getD_lt _ _ h];rfl
theorem isP_sl (xs:List (List Bool)) (n:Nat) (h:n<xs.length):isP [.sl] 0 ((qbn.encL xs).getD n [])=true:=by rw [EC.getD_lt _ _ h];rfl
theorem q1jt (m:Nat) (h:m<=100000):IntKind.i64.wrap ((m:Int) - 1)=(m:Int) - 1:=IntWalk.i64_in _ (by omega)
theorem q1cx (xs:List Bool) (m q:Nat) (v:Bool) (h:m<xs.length):(xs.set m v).getD q false=if q=m then v else xs.getD q false:=by
 simp only [x2q];by_cases e:q=m
 ·subst e;simp [h]
 ·simp [e,y21q (Ne.symm e)]
theorem wild9 (l:List El) (t:BA) (hN:l.length<=1000) (hn:t.size<=10000) (hc:∀ e∈l,0<=e.c/\e.c<256) (i:Nat) (hi:i<=l.length) (b2:List (List Bool)) (hb2:b2.length=l.length+1)
  (hrow:∀ i',i<i'->i'<=l.length->b2.getD i' []=rowF l (L t) i'):∀ (m:Nat) (b3:List Bool),m<=t.size+1->b3.length=t.size+1->(∀ q,m<=q->q<=t.size->b3.getD q false=F l (L t) i q) ->
  qy4 l (l.length+1) i ((m:Int) - 1) t (lowS t) b2 i (t.size+1) b3=some ((l,(),((),()),l.length+1,(i:Int),-1,false),t,lowS t,(b2,i,t.size+1),rowF l (L t) i):=by
 intro m;induction m with
 |zero =>
  intro b3 _ hl hs;have e:b3=rowF l (L t) i:=by
   apply List.ext_getElem?;intro q;rcases y30q q (t.size+1) with h|h
   ·have:=hs q (by omega) (by omega)
    rw [←q118 l (L t) i q (by rw [qo];omega)] at this
    rw [y1q (by omega),y1q (by rw [q119,qo];omega)]
    rw [qm4 (by omega),qm4 (by rw [q119,qo];omega)] at this
    rw [this]
   ·rw [y40q (by omega),y40q (by rw [q119,qo];omega)]
  subst e;refine qy6 ?_;simp only [qya,q1kc,p0,z19_t,lN,wI,p0,z18_t,gL,dL,lN,p0,z17_t,gL,dL,lN,p0,z16_t,lN,wI,p0,z15_t,gL,dL,lN,wI,p0,z13_t,z1a,gL,dL,lN,wI,p0,z1b,z1c,z1d,z1e,z1f,z1g,z1h,gL,dL,lN,eC,wI,p0,q8c,qm1,x25q,x26q,x27q,qpv,q51,q1cu,qps,q4e,q4f,q4g,q4d];simp
 |succ m ih =>
  intro b3 hm hl hs;have hj:(((m+1:Nat):Int) - 1)=(m:Int):=by omega
  rw [hj];have hmn:m<=t.size:=by omega
  have hL:=qo t
  -- one round
  have go:∀ v:Bool,v=F l (L t) i m->qy4 l (l.length+1) i ((m:Int) - 1) t (lowS t) b2 i (t.size+1) (b3.set m v)=some ((l,(),((),()),l.length+1,(i:Int),-1,false),t,lowS t,(b2,i,t.size+1),rowF l (L t) i):=by
   intro v hv;refine ih (b3.set m v) (by omega) (by simpa using hl) λq h1 h2=>?_
   rw [q1cx _ _ _ _ (by omega)]
   split
   ·rename_i e;subst e;exact hv
   ·exact hs q (by omega) h2
  have hmb:m<b3.length:=by omega
  have hib:i<b2.length:=by omega
  have hic:(i:Int)<((l.length+1:Nat):Int):=by omega
  have hmc:(m:Int)<((t.size+1:Nat):Int):=by omega
  have hm0:(m:Int)≥0:=by omega
  have hmt:m<t.size+1:=by omega
  have hwm:=q1jt m (by omega)
  refine qy6 ?_;rcases y30q i l.length with hil|hil
  case inr =>
   have hie:i=l.length:=by omega
   have h1:((i:Int)==((l.length:Nat):Int))=true:=by simp [hie]
   have hv:((m:Int)==((t.size:Nat):Int))=F l (L t) i m:=by
    rw [hie,F_end _ _ _ (by omega),hL]
    by_cases e:m=t.size
    ·simp [e]
    ·have:¬ (m:Int)=(t.size:Int):=by omega
     simp [e,this]
   have:=go _ hv;simp only [qya,q1kc,p0,z19_t,lN,wI,p0,z18_t,gL,dL,lN,p0,z17_t,gL,dL,lN,p0,z16_t,lN,wI,p0,z15_t,gL,dL,lN,wI,p0,z13_t,z1a,gL,dL,lN,wI,p0,z1b,z1c,z1d,z1e,z1f,z1g,z1h,gL,dL,lN,eC,wI,p0,q8c,qm1,x25q,x26q,x27q,qpv,q51,q1cu,qps,q4e,q4f,q4g,q4d,x3q,h1,hm0,hic,hib,hmb,hmc,len_4 b3 m hmb,hwm,x20q,decide_true,x4q,x19q,x16q];exact this
  have h1:¬ ((i:Int)==((l.length:Nat):Int))=true:=by simp;omega
  have hw:=q1js (k:=i) (n:=l.length) hil (by omega)
  have hic2:((i+1:Nat):Int)<((l.length+1:Nat):Int):=by omega
  have hib2:i+1<b2.length:=by omega
  have hne:¬ ((i+1)==i)=true:=by simp
  have hr:=hrow (i+1) (by omega) (by omega)
  have hrl:(rowF l (L t) (i+1)).length=t.size+1:=by rw [q119,hL]
  have hmr:m<(rowF l (L t) (i+1)).length:=by omega
  have hrm:=q118 l (L t) (i+1) m (by omega)
  have hel:l.getD i (qbo.dec [])=l[i]:=qm4 hil;have hi10:(0:Int)<=((i+1:Nat):Int):=by omega
  cases hmany:l[i].many with
  |true =>
   have hF:=F_many l (L t) i m hil hmany;rw [hL] at hF;have hvf:¬ F l (L t) (i+1) m=true->¬ m<t.size->F l (L t) i m=false:=by intro a b;simp [hF,a,b]
   simp only [qya,q1kc,p0,z19_t,lN,wI,p0,z18_t,gL,dL,lN,p0,z17_t,gL,dL,lN,p0,z16_t,lN,wI,p0,z15_t,gL,dL,lN,wI,p0,z13_t,z1a,gL,dL,lN,wI,p0,z1b,z1c,z1d,z1e,z1f,z1g,z1h,gL,dL,lN,eC,wI,p0,q8c,qm1,x25q,x26q,x27q,qpv,q51,q1cu,qps,q4e,q4f,q4g,q4d,x3q,h1,hm0,hic,hib,hmb,hmc,len_4 b3 m hmb,hwm,hw,hic2,hib2,hne,hil,hel,hmany,hr,d103,d4,hrm,hmt,hrl,hi10,qrl b2 (i+1) hib2,isP_sl b2 (i+1) hib2,isP_b b3 m hmb,x20q,x21q,decide_true,x4q,x19q,x16q,q7w,q7v,x1q];cases h2:F l (L t) (i+1) m with
   |true =>
    rw [h2] at hF;have:=go true (by simp [hF])
    simpa using this
   |false =>
    rw [h2] at hF;simp only [x11q,x20q];by_cases h3:m<t.size
    ·have h3':(m:Int)<(t.size:Int):=by omega
     have hwm1:=q1js (k:=m) (n:=t.size) h3 (by omega)
     have hm1:m+1<b3.length:=by omega
     have hm1c:((m+1:Nat):Int)<((t.size+1:Nat):Int):=by omega
     have hm10:(0:Int)<=((m+1:Nat):Int):=by omega
     have hv:b3.getD (m+1) false=F l (L t) i m:=by rw [hs (m+1) (by omega) (by omega),hF];simp [h3]
     have:=go _ hv;simp only [h3',hwm1,hm1,hm1c,hm10,isP_b b3 (m+1) hm1,len_4 b3 (m+1) hm1,x3q,x20q,decide_true,x4q,x19q];exact this
    ·have h3':¬ (m:Int)<(t.size:Int):=by omega
     have:=go false (by simp [hF,h3])
     simp only [h3',decide_false,x1q,x21q];exact this
  |false =>
   have hF:=F_one l (L t) i m hil hmany;have hft:=qin l[i] t (by omega) (hc _ (y24q hil)).1 (hc _ (y24q hil)).2 m hmn
   rw [hmany] at hft;generalize hq:fitAt l[i] (L t)[m]?=q at hF hft;simp only [qya,q1kc,p0,z19_t,lN,wI,p0,z18_t,gL,dL,lN,p0,z17_t,gL,dL,lN,p0,z16_t,lN,wI,p0,z15_t,gL,dL,lN,wI,p0,z13_t,z1a,gL,dL,lN,wI,p0,z1b,z1c,z1d,z1e,z1f,z1g,z1h,gL,dL,lN,eC,wI,p0,q8c,qm1,x25q,x26q,x27q,qpv,q51,q1cu,qps,q4e,q4f,q4g,q4d,x3q,h1,hm0,hic,hib,hmb,hmc,len_4 b3 m hmb,hwm,hw,hic2,hib2,hne,hil,hel,hmany,hr,d103,d4,hrl,hi10,qrl b2 (i+1) hib2,isP_sl b2 (i+1) hib2,isP_b b3 m hmb,x20q,x21q,decide_true,x4q,x19q,x16q,q7w,q7v,hft,x0q,x1q];cases q with
   |false =>
    have:=go false (by simp [hF])
    simpa using this
   |true =>
    have h3:m<t.size:=by
     rcases y30q m t.size with h|h
     ·exact h
     ·rw [y40q (by omega)] at hq;cases hq
    have hwm1:=q1js (k:=m) (n:=t.size) h3 (by omega)
    have hm1c:((m+1:Nat):Int)<((t.size+1:Nat):Int):=by omega
    have hm10:(0:Int)<=((m+1:Nat):Int):=by omega
    have hm1t:m+1<t.size+1:=by omega
    have:=go (F l (L t) (i+1) (m+1)) (by simp [hF])
    simp only [hwm1,hm10,hm1t,x3q,q118 l (L t) (i+1) (m+1) (by omega),x20q,decide_true]
    exact this
theorem wild5 (l:List El) (t:BA) (hN:l.length<=1000) (hn:t.size<=10000) (hc:∀ e∈l,0<=e.c/\e.c<256):∀ (m:Nat) (b2:List (List Bool)) (q:Nat) (z:Nat) (b3:List Bool),m<=l.length+1->b2.length=l.length+1 ->
  (m=l.length+1/\q=l.length+1∨m<=l.length/\q=m/\b3=rowF l (L t) m/\z=t.size+1)->(∀ i',m<i'->i'<=l.length->b2.getD i' []=rowF l (L t) i') ->
  ∃ b2',qxx l (l.length+1) ((m:Int) - 1) t (lowS t) b2 q z b3=some ((l,(),((),()),l.length+1,-1,false),t,lowS t,(b2',0,t.size+1),rowF l (L t) 0)/\b2'.length=l.length+1/\∀ i',0<i'->i'<=l.length->b2'.getD i' []=rowF l (L t) i':=by
 intro m;induction m with
 |zero =>
  intro b2 q z b3 hm hb2 hq hrow;obtain ⟨rfl,rfl,rfl⟩:q=0/\b3=rowF l (L t) 0/\z=t.size+1:=by
   rcases hq with h|h
   ·omega
   ·exact h.2
  refine ⟨b2,qxz ?_,hb2,hrow⟩;simp only [qy3,z1i,gL,dL,lN,wI,p0,q8c,qm1,x25q,x26q,x27q];simp
 |succ m ih =>
  intro b2 q z b3 hm hb2 hq hrow;have hj:(((m+1:Nat):Int) - 1)=(m:Int):=by omega
  rw [hj];have hL:=qo t
  have hwn:=q1js (k:=t.size) (n:=t.size+1) (by omega) (by omega)
  have hm0:(m:Int)≥0:=by omega
  have hmc:(m:Int)<((l.length+1:Nat):Int):=by omega
  have hmb:m<b2.length:=by omega
  have g0:(0:Int)<=((t.size+1:Nat):Int):=by omega
  have g1:((t.size+1:Nat):Int)*((1:Nat):Int)<=140737488355328:=by omega
  have g2:((t.size+1:Nat):Int)<=9223372036854775807:=by omega
  have hwm:=q1jt m (by omega)
  have hrep:List.replicate (t.size+1) [C.bool false]=qbs.encL (List.replicate (t.size+1) false):=EC_rep qbs (t.size+1) false;have hset:(qbn.encL b2).set q [C.sl (qbs.encL b3)]=qbn.encL (b2.set q b3):=EC_set qbn b2 q b3
  have h9:=wild9 l t hN hn hc m (by omega)
  have hts:((t.size:Nat):Int)=((t.size+1:Nat):Int) - 1:=by omega
  rcases hq with ⟨h1,h2⟩|⟨h1,h2,h3,h4⟩
  ·-- the first row
   have hqf:¬ q<b2.length:=by omega
   have h:=h9 b2 hb2 (λi' a b=>by omega) (t.size+1) (List.replicate (t.size+1) false) (Nat.le_refl _) (by simp) (λq a b=>by omega)
   rw [←hts] at h;obtain ⟨b2',e1,e2,e3⟩:=ih b2 m (t.size+1) (rowF l (L t) m) (by omega) hb2 (.inr ⟨by omega,rfl,rfl,rfl⟩) (λi' a b=>by omega)
   refine ⟨b2',qxz ?_,e2,e3⟩;simp only [qy3,z1i,gL,dL,lN,wI,p0,q8c,qm1,x25q,x26q,x27q,x3q,hwn,hm0,hmc,hmb,g0,g1,g2,hqf,hrep,h,hwm,e1,x0q,decide_true,decide_false,x20q,x21q,x4q,x1q]
  ·subst h2 h3 h4
   have hqt:m+1<b2.length:=by omega
   have hrow':∀ i',m<i'->i'<=l.length->(b2.set (m+1) (rowF l (L t) (m+1))).getD i' []=rowF l (L t) i':=by
    intro i' a b;simp only [x2q];by_cases e:i'=m+1
    ·subst e;simp [hqt]
    ·rw [y21q (Ne.symm e),←x2q]
     exact hrow i' (by omega) b
   have h:=h9 (b2.set (m+1) (rowF l (L t) (m+1))) (by simpa using hb2) hrow' (t.size+1) (List.replicate (t.size+1) false) (Nat.le_refl _) (by simp) (λq a b=>by omega)
   rw [←hts] at h;obtain ⟨b2',e1,e2,e3⟩:=ih (b2.set (m+1) (rowF l (L t) (m+1))) m (t.size+1) (rowF l (L t) m) (by omega) (by simpa using hb2) (.inr ⟨by omega,rfl,rfl,rfl⟩) (λi' a b=>hrow' i' a b)
   refine ⟨b2',qxz ?_,e2,e3⟩;simp only [qy3,z1i,gL,dL,lN,wI,p0,q8c,qm1,x25q,x26q,x27q,x3q,hwn,hm0,hmc,hmb,g0,g1,g2,hqt,hrep,hset,h,hwm,e1,x0q,decide_true,x20q,x4q]
def skip (l:List El):List UInt8->Nat
 |[]=>0
 |b::t=>if canM l (b::t) then 0 else skip l t+1
def pieces:List El->List UInt8->List (List UInt8)
 |[],_=>[]
 |e::l,t=>if e.many then t.take (skip l t)::pieces l (t.drop (skip l t)) else if e.one then t.take 1::pieces l (t.drop 1) else pieces l (t.drop 1)
def toBA (l:List UInt8):BA:=⟨l.toArray⟩
theorem q1i7 (t:BA) (i k:Nat):t.extract i (i+k)=toBA (((L t).drop i).take k):=by
 apply BA_ext;rw [L_ext,show i+k - i=k by omega]
 rfl
theorem wild24 (l:List El) (t:BA) (hN:l.length<=1000) (hn:t.size<=10000) (i:Nat) (hi:i<l.length) (hmany:l[i].many=true) (b1:List (List Bool)) (hb1:b1.length=l.length+1) (hrow:∀ i',0<i'->i'<=l.length->b1.getD i' []=rowF l (L t) i')
  (out:Nat) (from_:Int) (b2:List BA) (one:Bool) (c:Int) (b4:List Bool):∀ (m j:Nat),j+m=t.size->F l (L t) i j=true ->
  qxq (l.length+1) out j i from_ l l.length i t b1 0 (t.size+1) b2 one true c b4=some (((),l.length+1,out,((j+skip (l.drop (i+1)) ((L t).drop j):Nat):Int),(i:Int),(),from_,l,(l.length:Int),(i:Int),false),t,(b1,0,t.size+1),b2,(one,true,c),b4)
  /\ j+skip (l.drop (i+1)) ((L t).drop j)<=t.size/\F l (L t) (i+1) (j+skip (l.drop (i+1)) ((L t).drop j))=true:=by
 intro m;have hL:=qo t
 have hw:=q1js (k:=i) (n:=l.length) hi (by omega)
 have hic2:((i+1:Nat):Int)<((l.length+1:Nat):Int):=by omega
 have hib2:i+1<b1.length:=by omega
 have hne:¬ ((i+1)==0)=true:=by simp
 have hi10:(0:Int)<=((i+1:Nat):Int):=by omega
 have hr:=hrow (i+1) (by omega) (by omega)
 have hrl:(rowF l (L t) (i+1)).length=t.size+1:=by rw [q119,hL]
 induction m with
 |zero =>
  intro j hj hF;have hj:j=t.size:=by omega
  have hF':=F_many l (L t) i j hi hmany;rw [hF,hL] at hF';have h1:F l (L t) (i+1) j=true:=by simpa [hj] using hF'.symm
  have hd:(L t).drop j=[]:=y16q (by omega)
  rw [hd,skip,Nat.add_zero];refine ⟨qxs ?_,by omega,h1⟩
  have hjr:j<t.size+1:=by omega
  simp only [qxw,z1j_t,gL,dL,z1k,gL,dL,lN,wI,p0,q8c,qm1,x25q,x26q,x27q,qpv,q51,q4d,x3q,hw,hic2,hib2,hne,hi10,hr,hrl,hjr,h1,q118 l (L t) (i+1) j (by omega),qrl b1 (i+1) hib2,isP_sl b1 (i+1) hib2,d103,d4,x20q,x21q,decide_true,x4q,x19q,x16q,x15q,x1q]
  rfl
 |succ m ih =>
  intro j hj hF;have hjn:j<(L t).length:=by omega
  have hF':=F_many l (L t) i j hi hmany;rw [hF] at hF';have hjr:j<t.size+1:=by omega
  have hsk:skip (l.drop (i+1)) ((L t).drop j)=if F l (L t) (i+1) j=true then 0 else skip (l.drop (i+1)) ((L t).drop (j+1))+1:=by rw [F,qbm hjn,skip]
  cases h1:F l (L t) (i+1) j with
  |true =>
   rw [hsk,h1,if_pos rfl,Nat.add_zero];refine ⟨qxs ?_,by omega,h1⟩
   simp only [qxw,z1j_t,gL,dL,z1k,gL,dL,lN,wI,p0,q8c,qm1,x25q,x26q,x27q,qpv,q51,q4d,x3q,hw,hic2,hib2,hne,hi10,hr,hrl,hjr,h1,q118 l (L t) (i+1) j (by omega),qrl b1 (i+1) hib2,isP_sl b1 (i+1) hib2,d103,d4,x20q,x21q,decide_true,x4q,x19q,x16q,x15q,x1q]
   rfl
  |false =>
   rw [h1] at hF';have h2:F l (L t) i (j+1)=true:=by simpa [hjn] using hF'.symm
   obtain ⟨e1,e2,e3⟩:=ih (j+1) (by omega) h2
   have he:j+skip (l.drop (i+1)) ((L t).drop j)=j+1+skip (l.drop (i+1)) ((L t).drop (j+1)):=by rw [hsk,h1];simp;omega
   rw [he];refine ⟨qxs ?_,e2,e3⟩;have hwj:=q1js (k:=j) (n:=t.size) (by omega) (by omega)
   simp only [qxw,z1j_t,gL,dL,z1k,gL,dL,lN,wI,p0,q8c,qm1,x25q,x26q,x27q,qpv,q51,q4d,x3q,hw,hic2,hib2,hne,hi10,hr,hrl,hjr,h1,hwj,e1,q118 l (L t) (i+1) j (by omega),qrl b1 (i+1) hib2,isP_sl b1 (i+1) hib2,d103,d4,x20q,x21q,decide_true,x4q,x19q,x16q,x11q,x1q]
theorem wild24n (l:List El) (t:BA) (i j:Nat) (b1:List (List Bool)) (out:Nat) (from_:Int) (b2:List BA) (one:Bool) (c:Int) (b4:List Bool) :
  qxq (l.length+1) out j i from_ l l.length i t b1 0 (t.size+1) b2 one false c b4=some (((),l.length+1,out,(j:Int),(i:Int),(),from_,l,(l.length:Int),(i:Int),false),t,(b1,0,t.size+1),b2,(one,false,c),b4):=by
 refine qxs ?_;simp only [qxw,z1j_t,gL,dL,z1k,gL,dL,lN,wI,p0,q8c,qm1,x25q,x26q,x27q,qpv,q51,q4d,x20q,q7w,x1q,x21q]
theorem wild21 (l:List El) (t:BA) (hN:l.length<=1000) (hn:t.size<=10000) (b1:List (List Bool)) (hb1:b1.length=l.length+1) (hrow:∀ i',0<i'->i'<=l.length->b1.getD i' []=rowF l (L t) i') (b4:List Bool):∀ (m i j:Nat) (b2:List BA),i+m=l.length->F l (L t) i j=true->j<=t.size->b2.length<=i ->
  ∃ j',qxj (l.length+1) b2.length j l l.length i t b1 0 (t.size+1) b2 b4=some (((),l.length+1,(b2++(pieces (l.drop i) ((L t).drop j)).map toBA).length,j',l,(l.length:Int),(l.length:Int),false),t,(b1,0,t.size+1),b2++(pieces (l.drop i) ((L t).drop j)).map toBA,b4):=by
 intro m;have hL:=qo t
 induction m with
 |zero =>
  intro i j b2 hi hF hj hb;have hi:i=l.length:=by omega
  subst hi;refine ⟨j,qxl ?_⟩;simp only [qxp,gL,dL,eC,wI,p0,aL,dQ,q8c,qm1,x25q,x26q,x27q,q3w,q49,qps,q4e,q4f,q4g];simp [pieces]
 |succ m ih =>
  intro i j b2 hi hF hj hb;have hil:i<l.length:=by omega
  have hel:l.getD i (qbo.dec [])=l[i]:=qm4 hil;have hi':(i:Int)<(l.length:Int):=by omega
  have hw:=q1js (k:=i) (n:=l.length) hil (by omega)
  rw [qbm hil,pieces];have g1:(b2.length+1+(b2.length+1) / 4+192)*16<=281474976710656:=by omega
  have g2:b2.length+1<=9223372036854775807:=by omega
  cases hmany:l[i].many with
  |true =>
   obtain ⟨e1,e2,e3⟩:=wild24 l t hN hn i hil hmany b1 hb1 hrow b2.length (j:Int) b2 l[i].one l[i].c b4 (t.size - j) j (by omega) hF
   generalize hk:skip (l.drop (i+1)) ((L t).drop j)=k at e1 e2 e3;obtain ⟨j',h⟩:=ih (i+1) (j+k) (b2++[toBA (((L t).drop j).take k)]) (by omega) e3 e2 (by simp;omega)
   rw [List.drop_drop] at *;refine ⟨j',qxl ?_⟩;have a1:((j+k:Nat):Int)<=((t.size:Nat):Int):=by omega
   have a2:(j:Int)<=((j+k:Nat):Int):=by omega
   have a3:(0:Int)<=((j+k:Nat):Int):=by omega
   simp only [x12q,x9q,x8q,x13q] at h;simp only [qxp,gL,dL,eC,wI,p0,aL,dQ,q8c,qm1,x25q,x26q,x27q,q3w,q49,qps,q4e,q4f,q4g,x3q,hi',hil,hel,hmany,e1,hw,q1i7,a1,a2,a3,g1,g2,x9q,x8q,x13q,x17q,x23q,x0q,q7v,x20q,x21q,decide_true,x4q,x19q,x16q,x15q,x1q,h];simp [Nat.add_assoc,Nat.add_comm 1]
  |false =>
   have hF':=F_one l (L t) i j hil hmany;rw [hF] at hF';have hF2:fitAt l[i] (L t)[j]?=true/\F l (L t) (i+1) (j+1)=true:=by simpa using hF'.symm
   have hjn:j<t.size:=by
    rcases y30q j t.size with h|h
    ·exact h
    ·rw [y40q (by omega)] at hF2;cases hF2.1
   have e1:=wild24n l t i j b1 b2.length (j:Int) b2 l[i].one l[i].c b4;have hwj:=q1js (k:=j) (n:=t.size) hjn (by omega)
   have a1:((j+1:Nat):Int)<=((t.size:Nat):Int):=by omega
   have a2:(j:Int)<=((j+1:Nat):Int):=by omega
   have a3:(0:Int)<=((j+1:Nat):Int):=by omega
   simp only [List.drop_drop];cases hone:l[i].one with
   |true =>
    rw [hone] at e1;obtain ⟨j',h⟩:=ih (i+1) (j+1) (b2++[toBA (((L t).drop j).take 1)]) (by omega) hF2.2 (by omega) (by simp;omega)
    refine ⟨j',qxl ?_⟩;simp only [x12q,x9q,x8q,x13q] at h;simp only [qxp,gL,dL,eC,wI,p0,aL,dQ,q8c,qm1,x25q,x26q,x27q,q3w,q49,qps,q4e,q4f,q4g,x3q,hi',hil,hel,hmany,hone,e1,hw,hwj,q1i7,a1,a2,a3,g1,g2,x9q,x8q,x13q,x17q,x23q,x0q,q7v,x20q,x21q,decide_true,x4q,x19q,x16q,x11q,x1q,h];simp [Nat.add_assoc,Nat.add_comm 1]
   |false =>
    rw [hone] at e1;obtain ⟨j',h⟩:=ih (i+1) (j+1) b2 (by omega) hF2.2 (by omega) (by omega)
    refine ⟨j',qxl ?_⟩;simp only [qxp,gL,dL,eC,wI,p0,aL,dQ,q8c,qm1,x25q,x26q,x27q,q3w,q49,qps,q4e,q4f,q4g,x3q,hi',hil,hel,hmany,hone,e1,hw,hwj,a1,a2,a3,x0q,q7v,x20q,x21q,decide_true,x4q,x16q,x11q,x1q,h]
def wildR (l:List El) (T:List UInt8):(Bool×Nat)×List BA:=if canM l T then ((true,((pieces l T).map toBA).length),(pieces l T).map toBA) else ((false,0),[])
theorem wild_s (l:List El) (t:BA) (hN:l.length<=1000) (hn:t.size<=10000) (hc:∀ e∈l,0<=e.c/\e.c<256):qyb l t=some (wildR l (L t)):=by
 have hL:=qo t;have hwN:=q1js (k:=l.length) (n:=l.length+1) (by omega) (by omega)
 have g0:(0:Int)<=((l.length+1:Nat):Int):=by omega
 have g1:((l.length+1:Nat):Int)*((24:Nat):Int)<=140737488355328:=by omega
 have g2:((l.length+1:Nat):Int)<=9223372036854775807:=by omega
 have hrep:List.replicate (l.length+1) [C.sl []]=qbn.encL (List.replicate (l.length+1) []):=EC_rep qbn (l.length+1) [];obtain ⟨b2,h5,hb2,hrow⟩:=wild5 l t hN hn hc (l.length+1) (List.replicate (l.length+1) []) (l.length+1) 0 [] (by omega) (by simp) (.inl ⟨rfl,rfl⟩) (λi' a b=>by omega)
 have hts:(((l.length+1:Nat):Int) - 1)=((l.length:Nat):Int):=by omega
 rw [hts] at h5;have hc0:F l (L t) 0 0=canM l (L t):=by simp [F]
 have hr0:(rowF l (L t) 0).getD 0 false=canM l (L t):=by rw [q118 _ _ _ _ (by omega),hc0]
 have b0:0<b2.length:=by omega
 have r0:0<(rowF l (L t) 0).length:=by rw [q119];omega
 have c0:(0:Int)<((l.length+1:Nat):Int):=by omega
 have c1:(0:Int)<((t.size+1:Nat):Int):=by omega
 refine qxi ?_;have z:Int.toNat 0=0:=rfl
 simp only [qyc,z1l,gL,dL,lN,wI,p0,q8c,qm1,x25q,x26q,x27q,qpv,q51,q4d,qsj t (by omega),x0q,hwN,g0,g1,g2,hrep,x3q,qj,h5,b0,c0,c1,r0,z,hr0,d4,len_4 _ 0 r0,isP_b _ 0 r0,x20q,decide_true,x4q,x19q,Int.le_refl]
 cases hcm:canM l (L t) with
 |false=>simp [wildR,hcm]
 |true =>
  obtain ⟨j',h21⟩:=wild21 l t hN hn b2 hb2 hrow (rowF l (L t) 0) l.length 0 0 [] (by omega) (by rw [hc0];exact hcm) (by omega) (by simp)
  have h21':=h21;simp only [y14q,x10q,x8q] at h21';have h22:qxj (l.length+1) 0 (0:Int) l (l.length:Int) (0:Int) t b2 0 (t.size+1) [] (rowF l (L t) 0)=_:=h21'
  simp only [x15q,x1q,x21q,h22,x0q];simp [wildR,hcm]
def el1 (b:UInt8):El:=if nb b=42 then ⟨false,true,0⟩ else if nb b=63 then ⟨true,false,0⟩ else ⟨false,false,nb b⟩
def elems2:List UInt8->List El
 |[]=>[]
 |[b]=>[el1 b]
 |b::c::l=>if nb b=92 then ⟨false,false,nb c⟩::elems2 l else el1 b::elems2 (c::l)
theorem qc4 {b:UInt8} {l:List UInt8} (h:nb b≠92∨l=[]):elems2 (b::l)=el1 b::elems2 l:=by
 cases l with
 |nil=>simp [elems2]
 |cons c l =>
  rcases h with h|h
  ·simp [elems2,h]
  ·cases h
theorem qc5 {b c:UInt8} {l:List UInt8} (h:nb b=92):elems2 (b::c::l)=⟨false,false,nb c⟩::elems2 l:=by simp [elems2,h]
theorem qyg:∀ (l:List El) (T:List UInt8),(pieces l T).length<=l.length
 |[],_=>by simp [pieces]
 |e::l,T=>by
  rw [pieces];split
  ·have:=qyg l (T.drop (skip l T));simp;omega
  ·split
   ·have:=qyg l (T.drop 1);simp at this ⊢;omega
   ·have:=qyg l (T.drop 1);simp at this ⊢;omega
theorem qc3:∀ (l:List UInt8),(elems2 l).length<=l.length
 |[]=>by simp [elems2]
 |[b]=>by simp [elems2]
 |b::c::l=>by
  rw [elems2];split
  ·have:=qc3 l;simp;omega
  ·have:=qc3 (c::l);simp at this ⊢;omega
def tr (l:List UInt8):Nat:=(l.reverse.takeWhile (λb=>nb b==92)).length
theorem tr_le (l:List UInt8):tr l<=l.length:=by have:=(List.takeWhile_prefix (p:=λb=>nb b==92) (l:=l.reverse)).length_le;simpa [tr] using this
theorem q1ii (b:UInt8) (l:List UInt8):tr (b::l)=if tr l=l.length then (if nb b=92 then l.length+1 else l.length) else tr l:=by
 unfold tr;rw [List.reverse_cons,List.takeWhile_append];by_cases h:(l.reverse.takeWhile (λb=>nb b==92)).length=l.reverse.length
 ·rw [if_pos h,if_pos (by simpa using h)]
  by_cases hb:nb b=92
  ·simp [hb]
  ·simp [hb]
 ·rw [if_neg h,if_neg (by simpa using h)]
theorem qc7:∀ (l:List UInt8),((elems l).isNone=true ↔ tr l % 2=1)
 |[]=>by simp [elems,tr]
 |[b]=>by
  rw [elems,q1ii];have:tr []=0:=rfl
  by_cases h:nb b=92
  ·simp [h,this]
  ·simp [h,this]
   by_cases h1:nb b=42
   ·simp [h1]
   ·by_cases h2:nb b=63
    ·simp [h2]
    ·simp [h1,h2]
 |b::c::l=>by
  have h1:=qc7 (c::l);have h2:=qc7 l
  have l1:=tr_le (c::l);have l2:=tr_le l
  rw [elems];by_cases h:nb b=92
  ·have e:tr (b::c::l) % 2=tr l % 2:=by
    rw [q1ii,q1ii];by_cases a:tr l=l.length
    ·by_cases hc:nb c=92
     ·simp [a,hc,h];omega
     ·simp [a,hc]
    ·have a':¬ tr l=l.length+1:=by omega
     simp [a,a']
   rw [e,←h2];simp [h]
  ·have e:tr (b::c::l)=tr (c::l):=by
    rw [q1ii];split
    ·rename_i a;simp [a]
    ·rfl
   rw [e,←h1];simp only [h,x21q];split
   ·simp
   ·split <;> simp
theorem qc6:∀ {l:List UInt8} {es:List El},elems l=some es->es=elems2 l
 |[],es,h=>by simp [elems] at h;subst h;rfl
 |[b],es,h=>by
  simp only [elems] at h;simp only [elems2,el1];split at h
  ·rename_i h1;injection h with h;subst h;simp [h1]
  ·rename_i h1
   split at h
   ·rename_i h2;injection h with h;subst h;simp [h2]
   ·rename_i h2
    split at h
    ·cases h
    ·injection h with h;subst h;simp [h1,h2]
 |b::c::l,es,h=>by
  simp only [elems] at h;by_cases h92:nb b=92
  ·rw [qc5 h92]
   simp [h92] at h;obtain ⟨a,ha,rfl⟩:=h;rw [qc6 ha]
  ·rw [qc4 (.inl h92)]
   by_cases h42:nb b=42
   ·simp [h42] at h
    obtain ⟨a,ha,rfl⟩:=h;rw [qc6 ha];simp [el1,h42]
   ·by_cases h63:nb b=63
    ·simp [h63] at h
     obtain ⟨a,ha,rfl⟩:=h;rw [qc6 ha];simp [el1,h63]
    ·simp [h42,h63,h92] at h
     obtain ⟨a,ha,rfl⟩:=h;rw [qc6 ha];simp [el1,h42,h63]
theorem qc2:∀ (l:List UInt8),∀ e∈elems2 l,0<=e.c/\e.c<256
 |[],e,h=>by simp [elems2] at h
 |[b],e,h=>by
  simp [elems2] at h;subst h;have:=qui b
  unfold el1;split
  ·exact ⟨by decide,by decide⟩
  ·split
   ·exact ⟨by decide,by decide⟩
   ·exact this
 |b::c::l,e,h=>by
  have n1:=qui b;have n2:=qui c
  rw [elems2] at h;split at h
  ·rcases y32q.1 h with h|h
   ·subst h;exact n2
   ·exact qc2 l e h
  ·rcases y32q.1 h with h|h
   ·subst h
    unfold el1;split
    ·exact ⟨by decide,by decide⟩
    ·split
     ·exact ⟨by decide,by decide⟩
     ·exact n1
   ·exact qc2 (c::l) e h
def faultP (kind:Int) (p:BA):Int×Int:=if kind<1∨3<kind then (4,-2) else if 200<p.size then (1,-3) else if kind=3/\tr (L p) % 2=1 then (11,(p.size:Int) - 1) else (0,0)
def contR:List UInt8->List UInt8->Bool
 |[],sub=>sub.isEmpty
 |b::l,sub=>sub.isPrefixOf (b::l)||contR l sub
theorem qa3:∀ (s sub:List UInt8),Lib.contains s sub=contR s sub
 |[],sub=>by
  simp only [Lib.contains,Lib.index,contR];by_cases h:sub.isEmpty=true
  ·simp [h]
  ·simp [h]
 |b::l,sub=>by
  have ih:=qa3 l sub;have hge:=Lib.index_ge l sub
  simp only [Lib.contains] at ih;simp only [Lib.contains,Lib.index,contR];by_cases hp:sub.isPrefixOf (b::l)=true
  ·simp [hp]
  ·simp only [hp,x1q,x21q,Bool.false_or]
   rw [←ih];by_cases h:Lib.index l sub=-1
   ·simp [h]
   ·have h1:0<=Lib.index l sub:=by omega
    have h2:0<=Lib.index l sub+1:=by omega
    simp [h,h1,h2]
def matchedR (kind:Int) (p t:List UInt8):(Bool×Nat)×List BA:=if kind=1 then ((lowL p==lowL t,0),[]) else if kind=2 then ((contR (lowL t) (lowL p),0),[]) else wildR (elems2 p) t
def matchR (kind:Int) (p t:BA):(Bool×Nat×Int×Int)×List BA :=
 if faultP kind p≠(0,0) then ((false,0,faultP kind p),[]) else if 4000<t.size then ((false,0,1,-1),[]) else (((matchedR kind (L p) (L t)).1.1,(matchedR kind (L p) (L t)).1.2,0,0),(matchedR kind (L p) (L t)).2)
theorem qyk (kind:Int) (p t:BA) (hp:p.size<=9223372036854775807) (ht:t.size<=9223372036854775807):qwz kind p t=some (matchR kind p t):=qwy (by
 by_cases hk1:kind<1
 ·have f:faultP kind p=(4,-2):=by rw [faultP,if_pos (.inl hk1)]
  simp only [qx0,gL,dL,q8c,hk1,decide_true,q7v,x15q,x1q,x21q,qib,x0q,qj,matchR,f];rfl
 by_cases hk3:3<kind
 ·have f:faultP kind p=(4,-2):=by rw [faultP,if_pos (.inr hk3)]
  have hk3':kind>3:=hk3;simp only [qx0,gL,dL,q8c,hk1,hk3',decide_true,decide_false,q7v,x11q,x20q,qib,x0q,qj,matchR,f];rfl
 have hk3':¬ kind>3:=hk3;have hk:¬ (kind<1∨3<kind):=by omega
 by_cases hp2:200<p.size
 ·have f:faultP kind p=(1,-3):=by rw [faultP,if_neg hk,if_pos hp2]
  have hp2':(p.size:Int)>200:=by omega
  simp only [qx0,gL,dL,q8c,hk1,hk3',hp2',decide_true,decide_false,q7v,x11q,x20q,x1q,x21q,qib,x0q,qj,matchR,f];rfl
 have hp2':¬ (p.size:Int)>200:=by omega
 have hw:IntKind.i64.wrap ((p.size:Int) - 1)=(p.size:Int) - 1:=IntWalk.i64_in _ (by omega)
 have hel:=qc1 p (by omega)
 have hpar:=qc7 (L p)
 -- behind the faults of the pattern
 have rest:faultP kind p=(0,0)->∀ X:Oq ((Bool×Nat×Int×Int)×List BA),(4000<t.size->X=some ((false,0,1,-1),[]))->(¬ 4000<t.size->X=some (((matchedR kind (L p) (L t)).1.1,(matchedR kind (L p) (L t)).1.2,0,0),(matchedR kind (L p) (L t)).2))->X=some (matchR kind p t):=by
  intro f X h1 h2;rw [matchR,if_neg (by simp [f])]
  by_cases h:4000<t.size
  ·rw [if_pos h];exact h1 h
  ·rw [if_neg h];exact h2 h
 have wl:∀ es,elems (L p)=some es->t.size<=4000->qyb es t=some (wildR (elems2 (L p)) (L t)):=by
  intro es he h;have e:=qc6 he
  subst e;have:=qc3 (L p)
  rw [qo] at this;exact wild_s _ t (by omega) (by omega) (qc2 (L p))
 by_cases hk0:kind=3
 ·have b3:(kind==3)=true:=by simpa using hk0
  have b1:(kind==1)=false:=by simp [hk0]
  have b2:(kind==2)=false:=by simp [hk0]
  cases he:elems (L p) with
  |none =>
   have:tr (L p) % 2=1:=hpar.1 (by rw [he];rfl)
   have f:faultP kind p=(11,(p.size:Int) - 1):=by rw [faultP,if_neg hk,if_neg hp2,if_pos ⟨hk0,this⟩]
   rw [he] at hel;simp only [qx0,gL,dL,q8c,hk1,hk3',hp2',b3,hel,hw,decide_false,q7v,q7w,x11q,x20q,x1q,x21q,qib,x0q,qj,matchR,f];simp
  |some es =>
   have hnp:¬ tr (L p) % 2=1:=λh=>by have:=hpar.2 h;rw [he] at this;cases this
   have f:faultP kind p=(0,0):=by rw [faultP,if_neg hk,if_neg hp2,if_neg (λh=>hnp h.2)]
   rw [he] at hel;refine rest f _ (λh4=>?_) (λh4=>?_)
   ·have h4':(t.size:Int)>4000:=by omega
    simp only [qx0,gL,dL,q8c,hk1,hk3',hp2',b3,hel,h4',decide_true,decide_false,q7v,q7w,x11q,x15q,x20q,x1q,x21q,qib,x0q,qj]
   ·have h4':¬ (t.size:Int)>4000:=by omega
    have hm:matchedR kind (L p) (L t)=wildR (elems2 (L p)) (L t):=by rw [matchedR,if_neg (by omega),if_neg (by omega)]
    simp only [qx0,gL,dL,q8c,qm1,x25q,x26q,hk1,hk3',hp2',b1,b2,b3,hel,h4',wl es he (by omega),none_s,hm,decide_false,q7v,q7w,x11q,x15q,x20q,x1q,x21q,x0q,qj]
 ·have b3:(kind==3)=false:=by simpa using hk0
  have f:faultP kind p=(0,0):=by rw [faultP,if_neg hk,if_neg hp2,if_neg (λh=>hk0 h.1)]
  refine rest f _ (λh4=>?_) (λh4=>?_)
  ·have h4':(t.size:Int)>4000:=by omega
   simp only [qx0,gL,dL,q8c,hk1,hk3',hp2',b3,hel,h4',decide_true,decide_false,q7v,q7w,x11q,x20q,x1q,x21q,qib,x0q,qj]
  ·have h4':¬ (t.size:Int)>4000:=by omega
   by_cases h1:kind=1
   ·have b1:(kind==1)=true:=by simpa using h1
    have hm:matchedR kind (L p) (L t)=((lowL (L p)==lowL (L t),0),[]):=by rw [matchedR,if_pos h1]
    simp only [qx0,gL,dL,q8c,hk1,hk3',hp2',b1,b3,hel,h4',same_s p t hp ht,none_s,hm,decide_false,q7v,q7w,x11q,x20q,x1q,x21q,x0q,qj]
   ·have b1:(kind==1)=false:=by simpa using h1
    have h2:kind=2:=by omega
    have b2:(kind==2)=true:=by simpa using h2
    have hm:matchedR kind (L p) (L t)=((contR (lowL (L t)) (lowL (L p)),0),[]):=by rw [matchedR,if_neg h1,if_pos h2]
    have hcp:contP (lowS t) (lowS p)=some (contR (lowL (L t)) (lowL (L p))):=by
     rw [contP,if_pos (by rw [qsh];omega),qa3]
     rfl
    simp only [qx0,gL,dL,q8c,hk1,hk3',hp2',b1,b2,b3,hel,h4',qsj t ht,qsj p hp,hcp,none_s,hm,decide_false,q7v,q7w,x11q,x20q,x1q,x21q,x0q,qj])
end Go.Proofs.YtmlcmoaonaomfaaGreatDoor
namespace Go.Proofs.YtmlcmoaonaomfaaGreatDoor
open Go.RowKit
abbrev MM:=List (BA×BA)
def itB (n:Int):BA:=⟨(Lib.itoa n).toArray⟩
def putP:List BA->Nat->MM->MM
 |[],_,m=>m
 |v::vs,k,m=>putP vs (k+1) (putM m (itB ((k+1:Nat):Int)) v)
def noDig (m:MM):MM:=m.filter λp=>!digP p.1
theorem decLen:∀ u:Nat,(Lib.decDigits u).length<=u+1:=by
 intro u;induction u using Nat.strongRecOn with
 |_ u ih =>
  rw [Lib.decDigits];split
  ·simp
  ·have:=ih (u / 10) (by omega)
   simp only [x12q,List.length_singleton];omega
theorem qq4 (k:Nat):(itB (k:Int)).size<=k+1:=by
 have:=decLen k;show (Lib.itoa (k:Int)).toArray.size<=_
 rw [y41q,Lib.itoa,if_neg (by omega)]
 simpa using this
theorem dec_ne (u:Nat):∃ b l,Lib.decDigits u=b::l/\48<=b.toNat/\b.toNat<=57:=by
 induction u using Nat.strongRecOn with
 |_ u ih =>
  rw [Lib.decDigits];split
  ·rename_i h
   refine ⟨_,[],rfl,?_⟩;rw [y47q];omega
  ·obtain ⟨b,l,e,h⟩:=ih (u / 10) (by omega)
   exact ⟨b,l++[UInt8.ofNat (48+u % 10)],by rw [e];rfl,h⟩
theorem qq3 (k:Nat):digP (itB (k:Int))=true/\(itB (k:Int)).size≠0:=by
 obtain ⟨b,l,e,h1,h2⟩:=dec_ne k;have hi:Lib.itoa (k:Int)=b::l:=by rw [Lib.itoa,if_neg (by omega)];simpa using e
 constructor
 ·unfold digP
  have:(itB (k:Int)).data.toList=b::l:=hi;rw [this];simp [h1,h2]
 ·show (Lib.itoa (k:Int)).toArray.size≠0
  rw [y41q,hi];simp
theorem qpf (x q:BA×BA):∀ m:MM,q∈insM x m ↔ q=x∨q∈m
 |[]=>by simp [insM]
 |y::r=>by
  unfold insM;cases befM x.1 y.1 with
  |true=>simp
  |false =>
   have:=qpf x q r;simp only [cond_false,y32q,this];constructor
   ·rintro (h|h|h)
    ·exact .inr (.inl h)
    ·exact .inl h
    ·exact .inr (.inr h)
   ·rintro (h|h|h)
    ·exact .inr (.inl h)
    ·exact .inl h
    ·exact .inr (.inr h)
theorem qzt {m:MM} {k v:BA} {q:BA×BA} (h:q∈putM m k v):q=(k,v)∨q∈m:=by
 unfold putM at h;rcases (qpf _ _ _).1 h with h|h
 ·exact .inl h
 ·exact .inr (List.mem_filter.1 h).1
theorem qzr (m:MM) (k v:BA):(putM m k v).length<=m.length+1:=by
 unfold putM;rw [qpd];have:=List.length_filter_le (λp:BA×BA=>!(p.1.data.toList==k.data.toList)) m
 omega
structure Inv (n:Nat) (m:MM):Prop where
 key:∀ p∈m,p.1.size≠0
 val:∀ p∈m,p.2.size<=2000000
 len:(noDig m).length<=n
 all:m.length<=n+1000
theorem qpg {k v:BA} (h:digP k=true):∀ m:MM,noDig (insM (k,v) m)=noDig m
 |[]=>by simp [insM,noDig,h]
 |y::r=>by
  unfold insM;cases befM (k,v).1 y.1 with
  |true=>simp [noDig,h]
  |false =>have:=qpg (v:=v) h r;simp only [noDig] at this;simp only [cond_false,noDig,List.filter_cons,this]
theorem quy (m:MM) (k v:BA) (h:digP k=true):(noDig (putM m k v)).length<=(noDig m).length:=by unfold putM;rw [qpg h];unfold noDig;exact (List.Sublist.filter _ List.filter_sublist).length_le
theorem qux (m:MM):(noDig m).length<=m.length:=List.length_filter_le _ _
theorem qzu:∀ (vs:List BA) (k:Nat) (m:MM),(∀ v∈vs,v.size<=2000000)->(∀ p∈m,p.1.size≠0)->(∀ p∈m,p.2.size<=2000000)->(∀ p∈putP vs k m,p.1.size≠0)/\(∀ p∈putP vs k m,p.2.size<=2000000)/\(noDig (putP vs k m)).length<=(noDig m).length/\(putP vs k m).length<=m.length+vs.length
 |[],k,m,_,h1,h2=>⟨h1,h2,Nat.le_refl _,Nat.le_refl _⟩
 |v::vs,k,m,hv,h1,h2=>by
  have hd:=qq3 (k+1);have:=qzu vs (k+1) (putM m (itB ((k+1:Nat):Int)) v) (λx hx=>hv x (List.mem_cons_of_mem _ hx)) (λp hp=>by
   rcases qzt hp with rfl|hp
   ·exact hd.2
   ·exact h1 p hp) (λp hp=>by
   rcases qzt hp with rfl|hp
   ·exact hv v (List.mem_cons_self ..)
   ·exact h2 p hp)
  have e1:=quy m (itB ((k+1:Nat):Int)) v hd.1;have e2:=qzr m (itB ((k+1:Nat):Int)) v
  rw [putP];refine ⟨this.1,this.2.1,Nat.le_trans this.2.2.1 e1,?_⟩;have:=this.2.2.2
  simp only [x9q];omega
theorem Inv.pieces {n:Nat} {m:MM} (h:Inv n m) {vs:List BA} (hv:∀ v∈vs,v.size<=2000000) (hl:vs.length<=1000):Inv n (putP vs 0 (noDig m)):=by
 have hm:∀ p∈noDig m,p∈m:=λp hp=>(List.mem_filter.1 hp).1;have:=qzu vs 0 (noDig m) hv (λp hp=>h.key p (hm p hp)) (λp hp=>h.val p (hm p hp))
 have hidem:noDig (noDig m)=noDig m:=by unfold noDig;rw [List.filter_filter];congr 1;funext p;simp
 rw [hidem] at this;exact ⟨this.1,this.2.1,Nat.le_trans this.2.2.1 h.len,by have:=this.2.2.2;have:=h.len;omega⟩
theorem Inv.set {n:Nat} {m:MM} (h:Inv n m) {k v:BA} (hk:k.size≠0) (hv:v.size<=2000000):Inv (n+1) (putM m k v):=by
 refine ⟨λp hp=>?_,λp hp=>?_,?_,?_⟩
 ·rcases qzt hp with rfl|hp
  ·exact hk
  ·exact h.key p hp
 ·rcases qzt hp with rfl|hp
  ·exact hv
  ·exact h.val p hp
 ·have hn:∀ x:BA×BA,∀ m:MM,(noDig (insM x m)).length<=(noDig m).length+1:=by
   intro x m;induction m with
   |nil=>unfold insM noDig;rw [List.filter_cons];split <;> simp
   |cons y r ih =>
    unfold insM;cases befM x.1 y.1 with
    |true =>simp only [x22q,noDig,List.filter_cons];split <;> simp
    |false =>
     simp only [noDig] at ih;simp only [cond_false,noDig,List.filter_cons];split
     ·simp only [x9q];omega
     ·omega
  have h1:=hn (k,v) (m.filter λp=>!(p.1.data.toList==k.data.toList));have h2:(noDig (m.filter λp=>!(p.1.data.toList==k.data.toList))).length<=(noDig m).length:=by unfold noDig;exact (List.Sublist.filter _ List.filter_sublist).length_le
  have h3:=h.len;unfold putM;omega
 ·have:=qzr m k v
  have:=h.all;omega
theorem Inv.mono {n k:Nat} {m:MM} (h:Inv n m) (hk:n<=k):Inv k m:=⟨h.key,h.val,Nat.le_trans h.len hk,Nat.le_trans h.all (by omega)⟩
theorem Inv.nil:Inv 0 []:=⟨(λp hp=>by cases hp),(λp hp=>by cases hp),Nat.le_refl _,Nat.zero_le _⟩
def mtcL (p:Int) (tx:BA) (m:MM):List BA->Bool×MM
 |[]=>(false,m)
 |s::l=>if (matchR p tx s).1.2.2.1=0/\(matchR p tx s).1.1=true then (true,if p=3 then putP (matchR p tx s).2 0 (noDig m) else m) else mtcL p tx m l
theorem qyh:∀ (l:List El) (T:List UInt8),∀ x∈pieces l T,x.length<=T.length
 |[],_=>by simp [pieces]
 |e::l,T=>by
  intro x hx;rw [pieces] at hx;split at hx
  ·rcases y32q.1 hx with rfl|hx
   ·simp;omega
   ·have:=qyh l _ x hx;simp at this;omega
  ·split at hx
   ·rcases y32q.1 hx with rfl|hx
    ·simp;omega
    ·have:=qyh l _ x hx;simp at this;omega
   ·have:=qyh l _ x hx;simp at this;omega
theorem qt2 (k:Int) (p t:BA):(matchR k p t).1.2.1=(matchR k p t).2.length/\(matchR k p t).2.length<=1000/\∀ v∈(matchR k p t).2,v.size<=2000000:=by
 unfold matchR;split
 ·exact ⟨rfl,by simp,λv hv=>by cases hv⟩
 ·rename_i hf
  split
  ·exact ⟨rfl,by simp,λv hv=>by cases hv⟩
  ·rename_i ht
   have hp:p.size<=200:=by
    have hf:faultP k p=(0,0):=by simpa using hf
    unfold faultP at hf;split at hf
    ·cases hf
    ·split at hf
     ·cases hf
     ·omega
   unfold matchedR;split
   ·exact ⟨rfl,by simp,λv hv=>by cases hv⟩
   ·split
    ·exact ⟨rfl,by simp,λv hv=>by cases hv⟩
    ·unfold wildR
     split
     ·refine ⟨rfl,?_,λv hv=>?_⟩
      ·have h1:=qyg (elems2 (L p)) (L t)
       have h2:=qc3 (L p);have h3:=qo p
       simp;omega
      ·obtain ⟨x,hx,rfl⟩:=List.mem_map.1 hv
       have:=qyh _ _ x hx;have h3:=qo t
       show x.toArray.size<=_;rw [y41q];omega
     ·exact ⟨rfl,by simp,λv hv=>by cases hv⟩
theorem qsy {n:Nat} {m:MM} (h:Inv n m) (p:Int) (tx:BA):∀ l:List BA,Inv n (mtcL p tx m l).2
 |[]=>h
 |s::l=>by
  rw [mtcL];obtain ⟨_,h2,h3⟩:=qt2 p tx s;split
  ·split
   ·exact h.pieces h3 h2
   ·exact h
  ·exact qsy h p tx l
mutual
def szR:S38->Nat
 |⟨_,_,_,_,_,_,_,t,e,_,_,_,_⟩=>1+szL t+szL e
def szL:List S38->Nat
 |[]=>0
 |r::l=>szR r+szL l
end
def letterB (c:UInt8):Bool:=decide (97<=c.toNat)&&decide (c.toNat<=122)
def digitB (c:UInt8):Bool:=decide (48<=c.toNat)&&decide (c.toNat<=57)
def smallB (c:UInt8):Bool:=letterB c||digitB c
theorem qap (s:BA) {k:Nat} (h:k<s.size):s.data.toList.drop k=s.data.getD k 0::s.data.toList.drop (k+1):=by
 have h':k<s.data.toList.length:=by simpa using h
 rw [qbm h'];congr 1;have:k<s.data.size:=h
 show _=if h:k<s.data.size then s.data[k] else 0
 rw [dif_pos this];simp
def txtB (act:Int):Bool:=act==2||act==4||act==5||act==7
theorem q1i1 (act:Int):q1ay act=some (txtB act):=by refine q1ax ?_;simp only [q1az,q8c,txtB];cases act==2 <;> cases act==4 <;> cases act==5 <;> cases act==7 <;> rfl
noncomputable def scriptF (l:List S38):Int×Int:=(q131 l).getD (0,0)
structure Tok where
 k:Nat
 s:List UInt8
 o:Nat
def wsB (c:UInt8):Bool:=c==32||c==9||c==13||c==10
def wsN (l:List UInt8):Nat:=(l.takeWhile wsB).length
def strq:List UInt8->Oq (List UInt8×Nat)
 |[]=>none
 |[c]=>if c=34 then some ([],1) else none
 |c::d::r=>if c=34 then some ([],1) else if c=92 then (if d=34∨d=92 then (strq r).map λx=>(d::x.1,x.2+2) else none) else (strq (d::r)).map λx=>(c::x.1,x.2+1)
def lexT:List UInt8->(Nat×List UInt8)×Nat
 |[]=>((0,[]),0)
 |c::r=>if c=34 then (match strq r with|some x=>((1,x.1),x.2+1)|none=>((5,[]),0))
  else if letterB c=true then ((2,c::r.takeWhile smallB),(r.takeWhile smallB).length+1)
  else if digitB c=true then ((3,c::r.takeWhile digitB),(r.takeWhile digitB).length+1)
  else ((4,[c]),1)
def endK (k:Nat):Bool:=k==0||k==5
def toks:Nat->List UInt8->Nat->List Tok
 |0,_,_=>[]
 |f+1,l,o=>⟨(lexT (l.drop (wsN l))).1.1,(lexT (l.drop (wsN l))).1.2,o+wsN l⟩ ::
  (if endK (lexT (l.drop (wsN l))).1.1=true then [] else toks f (l.drop (wsN l+(lexT (l.drop (wsN l))).2)) (o+wsN l+(lexT (l.drop (wsN l))).2))
def thn {α β:Type} (x:Nat⊕α) (f:α->Nat⊕β):Nat⊕β:=match x with
 |.inl o=>.inl o
 |.inr a=>f a
def ofs:List Tok->Nat
 |x::_=>x.o
 |[]=>0
def isT (k:Nat) (s:List UInt8):List Tok->Bool
 |x::_=>x.k==k&&x.s==s
 |[]=>false
def sTake (k:Nat):List Tok->Nat⊕(List UInt8×List Tok)
 |x::r=>if x.k=k then .inr (x.s,r) else .inl x.o
 |[]=>.inl 0
def sNeed (s:List UInt8) (L:List Tok):Nat⊕List Tok:=if isT 4 s L=true then .inr L.tail else .inl (ofs L)
def numV (s:List UInt8):Nat:=s.foldl (λn c=>10*n+(c.toNat - 48)) 0
def numOk (s:List UInt8):Bool:=decide (s.length<=7)&&!(decide (1<s.length)&&s.head?==some 48)
def sNum:List Tok->Nat⊕(Nat×List Tok)
 |x::r=>if x.k=3/\numOk x.s=true then .inr (numV x.s,r) else .inl x.o
 |[]=>.inl 0
def wIs:List UInt8:=[105,115]
def wContains:List UInt8:=[99,111,110,116,97,105,110,115]
def wLike:List UInt8:=[108,105,107,101]
def wTrue:List UInt8:=[116,114,117,101]
def wNot:List UInt8:=[110,111,116]
def wAll:List UInt8:=[97,108,108]
def wAny:List UInt8:=[97,110,121]
def wHeader:List UInt8:=[104,101,97,100,101,114]
def wFrom:List UInt8:=[102,114,111,109]
def wTo:List UInt8:=[116,111]
def wSize:List UInt8:=[115,105,122,101]
def wExists:List UInt8:=[101,120,105,115,116,115]
def wKeep:List UInt8:=[107,101,101,112]
def wFile:List UInt8:=[102,105,108,101]
def wDiscard:List UInt8:=[100,105,115,99,97,114,100]
def wRedirect:List UInt8:=[114,101,100,105,114,101,99,116]
def wReject:List UInt8:=[114,101,106,101,99,116]
def wFlag:List UInt8:=[102,108,97,103]
def wReply:List UInt8:=[114,101,112,108,121]
def wIf:List UInt8:=[105,102]
def wElse:List UInt8:=[101,108,115,101]
def wSet:List UInt8:=[115,101,116]
def wStop:List UInt8:=[115,116,111,112]
def matchN (s:List UInt8):Nat:=if s=wIs then 1 else if s=wContains then 2 else if s=wLike then 3 else 0
def testN (s:List UInt8):Nat:=if s=wTrue then 1 else if s=wNot then 2 else if s=wAll then 3 else if s=wAny then 4 else if s=wHeader then 5 else if s=wFrom then 6 else if s=wTo then 7 else if s=wSize then 8 else if s=wExists then 9 else 0
def actN (s:List UInt8):Nat:=if s=wKeep then 1 else if s=wFile then 2 else if s=wDiscard then 3 else if s=wRedirect then 4 else if s=wReject then 5 else if s=wFlag then 6 else if s=wReply then 7 else 0
def sMatch:List Tok->Nat⊕((Nat×List UInt8)×List Tok)
 |x::r=>if x.k=2/\matchN x.s≠0 then thn (sTake 1 r) λy=>.inr ((matchN x.s,y.1),y.2) else .inl x.o
 |[]=>.inl 0
def baL (l:List UInt8):BA:=⟨l.toArray⟩
def tst (k:Nat) (ts:List S35) (nm:List UInt8) (p:Nat) (tx:List UInt8) (n:Nat):S35:=⟨k,ts,baL nm,p,baL tx,n⟩
mutual
def sTest:Nat->Nat->List Tok->Nat⊕(S35×List Tok)
 |0,_,L=>.inl (ofs L)
 |_+1,_,[]=>.inl 0
 |f+1,d,x::r=>if 8<d∨x.k≠2 then .inl x.o else match testN x.s with
  |0=>.inl x.o
  |1=>.inr (tst 1 [] [] 0 [] 0,r)
  |2=>thn (sTest f (d+1) r) λy=>.inr (tst 2 [y.1] [] 0 [] 0,y.2)
  |3=>thn (sNeed [40] r) λr1=>thn (sTests f (d+1) r1) λy=>thn (sNeed [41] y.2) λr2=>.inr (tst 3 y.1 [] 0 [] 0,r2)
  |4=>thn (sNeed [40] r) λr1=>thn (sTests f (d+1) r1) λy=>thn (sNeed [41] y.2) λr2=>.inr (tst 4 y.1 [] 0 [] 0,r2)
  |5=>thn (sTake 1 r) λy=>thn (sMatch y.2) λz=>.inr (tst 5 [] y.1 z.1.1 z.1.2 0,z.2)
  |6=>thn (sMatch r) λz=>.inr (tst 6 [] [] z.1.1 z.1.2 0,z.2)
  |7=>thn (sMatch r) λz=>.inr (tst 7 [] [] z.1.1 z.1.2 0,z.2)
  |8=>thn (sNum r) λz=>.inr (tst 8 [] [] 0 [] z.1,z.2)
  |_=>thn (sTake 1 r) λy=>.inr (tst 9 [] y.1 0 [] 0,y.2)
def sTests:Nat->Nat->List Tok->Nat⊕(List S35×List Tok)
 |0,_,L=>.inl (ofs L)
 |f+1,d,L=>thn (sTest f d L) λy=>if isT 4 [44] y.2=true then thn (sTests f d y.2.tail) λz=>.inr (y.1::z.1,z.2) else .inr ([y.1],y.2)
end
def rul (k:Nat) (t:S35) (th el:List S38) (act:Nat) (nm tx:List UInt8) (n:Nat):S38:=⟨k,t.Kind,t.Tests,t.Name,t.Pattern,t.Text,t.N,th,el,act,baL nm,baL tx,n⟩
def t0:S35:=tst 0 [] [] 0 [] 0
def stopB (x:Tok):Bool:=x.k==0||(x.k==4&&x.s==[125])
mutual
def sRule:Nat->Nat->Nat->List Tok->Nat⊕(S38×List Tok×Nat)
 |0,_,_,L=>.inl (ofs L)
 |_+1,_,_,[]=>.inl 0
 |f+1,d,m,x::r=>if 100<m+1∨8<d∨x.k≠2 then .inl x.o
  else if x.s=wIf then thn (sTest f 1 r) λt=>thn (sBlock f (d+1) (m+1) t.2) λb =>
   if isT 2 wElse b.2.1=true then thn (sBlock f (d+1) b.2.2 b.2.1.tail) λe=>.inr (rul 1 t.1 b.1 e.1 0 [] [] 0,e.2.1,e.2.2)
   else .inr (rul 1 t.1 b.1 [] 0 [] [] 0,b.2.1,b.2.2)
  else if x.s=wSet then thn (sTake 2 r) λa=>thn (sTake 1 a.2) λb=>thn (sNeed [59] b.2) λr1=>.inr (rul 3 t0 [] [] 0 a.1 b.1 0,r1,m+1)
  else if x.s=wStop then thn (sNeed [59] r) λr1=>.inr (rul 4 t0 [] [] 0 [] [] 0,r1,m+1)
  else if actN x.s=0 then .inl x.o
  else if actN x.s=6 then thn (sNum r) λa=>thn (sNeed [59] a.2) λr1=>.inr (rul 2 t0 [] [] 6 [] [] a.1,r1,m+1)
  else if txtB (actN x.s)=true then thn (sTake 1 r) λa=>thn (sNeed [59] a.2) λr1=>.inr (rul 2 t0 [] [] (actN x.s) [] a.1 0,r1,m+1)
  else thn (sNeed [59] r) λr1=>.inr (rul 2 t0 [] [] (actN x.s) [] [] 0,r1,m+1)
def sBlock:Nat->Nat->Nat->List Tok->Nat⊕(List S38×List Tok×Nat)
 |0,_,_,L=>.inl (ofs L)
 |f+1,d,m,L=>thn (sNeed [123] L) λr=>thn (sRules f d m r) λy=>thn (sNeed [125] y.2.1) λr2=>.inr (y.1,r2,y.2.2)
def sRules:Nat->Nat->Nat->List Tok->Nat⊕(List S38×List Tok×Nat)
 |0,_,_,L=>.inl (ofs L)
 |_+1,_,m,[]=>.inr ([],[],m)
 |f+1,d,m,x::r=>if stopB x=true then .inr ([],x::r,m) else thn (sRule f d m (x::r)) λy=>thn (sRules f d y.2.2 y.2.1) λz=>.inr (y.1::z.1,z.2.1,z.2.2)
end
def fuel (t:List UInt8):Nat:=4*t.length+16
def sScript (t:List UInt8):Nat⊕List S38:=thn (sRules (fuel t) 1 0 (toks (t.length+1) t 0)) λy=>match y.2.1 with
 |x::_=>if x.k=0 then .inr y.1 else .inl x.o
 |[]=>.inl 0
noncomputable def sParse (t:List UInt8):List S38×(Int×Int):=if 4000<t.length then ([],1,-1) else match sScript t with
 |.inl o=>([],11,o)
 |.inr l=>if (scriptF l).1≠0 then ([],(scriptF l).1,-2) else (l,0,0)
def bl (s:BA):List UInt8:=s.data.toList
def testW (k:Int):List UInt8:=if k=1 then wTrue else if k=2 then wNot else if k=3 then wAll else if k=4 then wAny else if k=5 then wHeader else if k=6 then wFrom else if k=7 then wTo else if k=8 then wSize else if k=9 then wExists else []
def matchW (k:Int):List UInt8:=if k=1 then wIs else if k=2 then wContains else if k=3 then wLike else []
def actW (k:Int):List UInt8:=if k=1 then wKeep else if k=2 then wFile else if k=3 then wDiscard else if k=4 then wRedirect else if k=5 then wReject else if k=6 then wFlag else if k=7 then wReply else []
def matL (p:Int) (tx:BA):List UInt8:=matchW p++32::quoL (bl tx)
mutual
def testL:S35->List UInt8
 |⟨k,ts,nm,p,tx,n⟩=>testW k++(if k=2 then 32::testsL ts else if k=3∨k=4 then 32::40::(testsL ts++[41]) else if k=5 then 32::(quoL (bl nm)++32::matL p tx)
  else if k=6∨k=7 then 32::matL p tx else if k=8 then 32::Lib.decDigits n.toNat else if k=9 then 32::quoL (bl nm) else [])
def testsL:List S35->List UInt8
 |[]=>[]
 |t::r=>testL t++testsC r
def testsC:List S35->List UInt8
 |[]=>[]
 |t::r=>44::32::(testL t++testsC r)
end
def ind (d:Nat):List UInt8:=List.replicate (2*d) 32
mutual
def ruleL:S38->Nat->List UInt8
 |⟨k,tk,tts,tnm,tp,ttx,tn,th,el,act,nm,tx,n⟩,d=>ind d++((if k=1 then wIf++32::(testL ⟨tk,tts,tnm,tp,ttx,tn⟩++32::123::10::(rulesL th (d+1)++(ind d++125::(if el.isEmpty=true then [] else 32::(wElse++32::123::10::(rulesL el (d+1)++(ind d++[125])))))))
  else if k=2 then actW act++((if txtB act=true then 32::quoL (bl tx) else if act=6 then 32::Lib.decDigits n.toNat else [])++[59])
  else if k=3 then wSet++32::(bl nm++32::(quoL (bl tx)++[59]))
  else if k=4 then wStop++[59] else [])++[10])
def rulesL:List S38->Nat->List UInt8
 |[],_=>[]
 |r::l,d=>ruleL r d++rulesL l d
end
def er (x:Tok):Nat×List UInt8:=(x.k,x.s)
mutual
def testK:S35->List (Nat×List UInt8)
 |⟨k,ts,nm,p,tx,n⟩=>(2,testW k)::(if k=2 then testsK ts else if k=3∨k=4 then (4,[40])::(testsK ts++[(4,[41])]) else if k=5 then [(1,bl nm),(2,matchW p),(1,bl tx)]
  else if k=6∨k=7 then [(2,matchW p),(1,bl tx)] else if k=8 then [(3,Lib.decDigits n.toNat)] else if k=9 then [(1,bl nm)] else [])
def testsK:List S35->List (Nat×List UInt8)
 |[]=>[]
 |t::r=>testK t++testsD r
def testsD:List S35->List (Nat×List UInt8)
 |[]=>[]
 |t::r=>(4,[44])::(testK t++testsD r)
end
mutual
def ruleK:S38->List (Nat×List UInt8)
 |⟨k,tk,tts,tnm,tp,ttx,tn,th,el,act,nm,tx,n⟩=>if k=1 then (2,wIf)::(testK ⟨tk,tts,tnm,tp,ttx,tn⟩++(4,[123])::(rulesK th++(4,[125])::(if el.isEmpty=true then [] else (2,wElse)::(4,[123])::(rulesK el++[(4,[125])]))))
  else if k=2 then (2,actW act)::((if txtB act=true then [(1,bl tx)] else if act=6 then [(3,Lib.decDigits n.toNat)] else [])++[(4,[59])])
  else if k=3 then [(2,wSet),(2,bl nm),(1,bl tx),(4,[59])]
  else if k=4 then [(2,wStop),(4,[59])] else []
def rulesK:List S38->List (Nat×List UInt8)
 |[]=>[]
 |r::l=>ruleK r++rulesK l
end
def toksF (l:List UInt8) (o:Nat):List Tok:=toks (l.length+1) l o
theorem q1et:∀ (n:Nat) (l:List UInt8),l.length<=n->∀ x,strq l=some x->1<=x.2/\x.2<=l.length
 |_,[],_,x,h=>by simp [strq] at h
 |_,[c],_,x,h=>by
  simp only [strq] at h;split at h
  ·injection h with h;subst h;simp
  ·cases h
 |0,_::_::_,hl,_,_=>by simp at hl
 |n+1,c::d::r,hl,x,h=>by
  simp only [strq] at h;simp only [x9q] at hl ⊢;split at h
  ·injection h with h;subst h;simp
  ·split at h
   ·split at h
    ·cases hr:strq r with
     |none=>rw [hr] at h;cases h
     |some y =>
      rw [hr] at h;injection h with h;subst h
      have:=q1et n r (by omega) y hr
      simp only;omega
    ·cases h
   ·cases hr:strq (d::r) with
    |none=>rw [hr] at h;cases h
    |some y =>
     rw [hr] at h;injection h with h;subst h
     have:=q1et n (d::r) (by simp only [x9q];omega) y hr
     simp only [x9q] at this ⊢;omega
theorem q1hi {α:Type} (p:α->Bool):∀ l:List α,(l.takeWhile p).length<=l.length
 |[]=>by simp
 |a::l=>by
  rw [List.takeWhile_cons];split
  ·simp only [x9q];have:=q1hi p l;omega
  ·simp
theorem qrv (l:List UInt8):(lexT l).2<=l.length/\(endK (lexT l).1.1=false->1<=(lexT l).2):=by
 cases l with
 |nil=>simp [lexT,endK]
 |cons c r =>
  simp only [lexT,x9q];split
  ·cases hq:strq r with
   |none=>simp [endK]
   |some x =>have:=q1et _ r (Nat.le_refl _) x hq;simp only;exact ⟨by omega,λ_=>by omega⟩
  ·split
   ·have:=q1hi smallB r
    exact ⟨by simp only;omega,λ_=>by simp only;omega⟩
   ·split
    ·have:=q1hi digitB r
     exact ⟨by simp only;omega,λ_=>by simp only;omega⟩
    ·exact ⟨by simp only;omega,λ_=>by simp only;omega⟩
theorem wsN_le (l:List UInt8):wsN l<=l.length:=q1hi wsB l
theorem q1if:∀ (f:Nat) (l:List UInt8) (o:Nat),l.length<f->∀ g,l.length<g->toks f l o=toks g l o
 |0,_,_,h,_,_=>by omega
 |f+1,l,o,h,0,hg=>by omega
 |f+1,l,o,h,g+1,hg=>by
  simp only [toks];congr 1;split
  ·rfl
  ·rename_i hk
   have hk':endK (lexT (l.drop (wsN l))).1.1=false:=by simpa using hk
   have h1:=qrv (l.drop (wsN l));have h2:=h1.2 hk'
   have h3:=h1.1;have h4:=wsN_le l
   rw [y35q] at h3;exact q1if f _ _ (by rw [y35q];omega) g (by rw [y35q];omega)
theorem q1ib (l:List UInt8) (o:Nat):toksF l o=⟨(lexT (l.drop (wsN l))).1.1,(lexT (l.drop (wsN l))).1.2,o+wsN l⟩ ::
  (if endK (lexT (l.drop (wsN l))).1.1=true then [] else toksF (l.drop (wsN l+(lexT (l.drop (wsN l))).2)) (o+wsN l+(lexT (l.drop (wsN l))).2)):=by
 unfold toksF
 conv=>lhs;unfold toks
 congr 1;split
 ·rfl
 ·rename_i hk
  have hk':endK (lexT (l.drop (wsN l))).1.1=false:=by simpa using hk
  have h1:=qrv (l.drop (wsN l));have h2:=h1.2 hk'
  have h3:=h1.1;have h4:=wsN_le l
  rw [y35q] at h3;exact q1if _ _ _ (by rw [y35q];omega) _ (by omega)
theorem q1ie (c:UInt8) (hc:wsB c=true) (l:List UInt8) (o:Nat):toksF (c::l) o=toksF l (o+1):=by
 have e:wsN (c::l)=wsN l+1:=by simp [wsN,hc]
 rw [q1ib,q1ib l];rw [e,List.drop_succ_cons];have e2:(c::l).drop (wsN l+1+(lexT (l.drop (wsN l))).2)=l.drop (wsN l+(lexT (l.drop (wsN l))).2):=by rw [show wsN l+1+(lexT (l.drop (wsN l))).2=(wsN l+(lexT (l.drop (wsN l))).2)+1 by omega,List.drop_succ_cons]
 rw [e2,show o+(wsN l+1)=o+1+wsN l by omega]
theorem q1id (c:UInt8) (hc:wsB c=false) (l:List UInt8) (o:Nat):toksF (c::l) o=⟨(lexT (c::l)).1.1,(lexT (c::l)).1.2,o⟩ ::
  (if endK (lexT (c::l)).1.1=true then [] else toksF ((c::l).drop (lexT (c::l)).2) (o+(lexT (c::l)).2)):=by
 have e:wsN (c::l)=0:=by simp [wsN,hc]
 rw [q1ib,e];simp
theorem q1es:∀ (s rest:List UInt8),strq (esc s++34::rest)=some (s,(esc s).length+1)
 |[],rest=>by cases rest <;> simp [esc,strq]
 |c::s,rest=>by
  simp only [esc];split
  ·rename_i hc
   have ih:=q1es s rest;have h1:¬ ((92:UInt8)=34):=by decide
   simp only [y8q,strq,h1,x21q,x20q,hc,ih,x18q];simp
  ·rename_i hc
   have hc1:¬ c=34:=λe=>hc (.inl e);have hc2:¬ c=92:=λe=>hc (.inr e)
   have ih:=q1es s rest;cases he:esc s++34::rest with
   |nil=>simp at he
   |cons d r =>rw [he] at ih;simp only [y8q,he,strq,hc1,hc2,x21q,ih,x18q];simp
end Go.Proofs.YtmlcmoaonaomfaaGreatDoor
