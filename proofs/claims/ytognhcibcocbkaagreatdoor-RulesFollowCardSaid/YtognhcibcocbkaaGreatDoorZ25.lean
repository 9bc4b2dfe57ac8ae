/- What is read depends on the tokens that are read alone: rules; two texts one after the other. -/
import Derived.Test.YtognhcibcocbkaaGreatDoorZ24
namespace Go.Proofs.YtognhcibcocbkaaGreatDoor
open Go.RowKit
def FrR (d m:Nat) (r:S59) (L L':List Tok) (m':Nat):Prop:=m'=m+szR r∧∃ w C,w≠wElse∧L.map er=(2,w)::(C++L'.map er)∧∀ f2 m2 L2 M2,L2.map er=(2,w)::(C++M2)→noElse M2→m2+szR r≤100→2*L2.length+3≤f2→∃ L2',sRule f2 d m2 L2=.inr (r,L2',m2+szR r)∧L2'.map er=M2∧L2'.length<L2.length
def FrB (d m:Nat) (l:List S59) (L L':List Tok) (m':Nat):Prop:=m'=m+szL l∧∃ C,L.map er=C++L'.map er∧∀ f2 m2 L2 M2,L2.map er=C++M2→m2+szL l≤100→2*L2.length+3≤f2→∃ L2',sBlock f2 d m2 L2=.inr (l,L2',m2+szL l)∧L2'.map er=M2∧L2'.length<L2.length
def FrSs (d m:Nat) (l:List S59) (L L':List Tok) (m':Nat):Prop:=m'=m+szL l∧stopM (L'.map er)∧∃ C,noElse C∧L.map er=C++L'.map er∧∀ f2 m2 L2 M2,L2.map er=C++M2→noElse M2→m2+szL l≤100→2*L2.length+4≤f2→∃ L2',L2'.map er=M2∧L2'.length≤L2.length∧∀ z m3 (Q:List Tok→Prop),(∀ f3,2*L2'.length+4≤f3→∃ L3,sRules f3 d (m2+szL l) L2'=.inr (z,L3,m3)∧Q L3)→∃ L3,sRules f2 d m2 L2=.inr (l++z,L3,m3)∧Q L3
theorem q12x {d m f:Nat} {L:List Tok} (h:stopM (L.map er)) (hf:2*L.length+4≤f):sRules f d m L=.inr ([],L,m):=by
 cases f with
 |zero=>omega
 |succ f =>
  cases L with
  |nil=>simp [sRules]
  |cons x r =>
   have hs:stopB x=true:=by
    unfold stopB
    rcases h (er x) (r.map er) rfl with h|h
    ·have:x.k=0:=h
     simp [this]
    ·injection h with h1 h2
     have h1:x.k=4:=h1
     have h2:x.s=[125]:=h2
     simp [h1,h2]
   simp only [sRules,hs,if_true]
theorem qd7 {M:List (Nat×List UInt8)} (h:stopM M):noElse M:=fun x r e e2=>by
 rcases h x r e with h|h
 ·rw [e2] at h;cases h
 ·rw [e2] at h;injection h with h _;cases h
theorem q12w (M:List (Nat×List UInt8)):stopM ((4,[125])::M):=fun x r e=>by injection e with e;subst e;exact .inr rfl
theorem q78:∀ f,(∀ d m L r L' m',sRule f d m L=.inr (r,L',m')→FrR d m r L L' m')∧(∀ d m L l L' m',sBlock f d m L=.inr (l,L',m')→FrB d m l L L' m')∧(∀ d m L l L' m',sRules f d m L=.inr (l,L',m')→FrSs d m l L L' m')
 |0=>⟨fun d m L t L' m' h=>by simp [sRule] at h,fun d m L ts L' m' h=>by simp [sBlock] at h,fun d m L ts L' m' h=>by simp [sRules] at h⟩
 |f+1=>by
  obtain ⟨ih1,ih2,ih3⟩:=q78 f
  refine ⟨fun d m L u L' m' h=>?_,fun d m L l L' m' h=>?_,fun d m L l L' m' h=>?_⟩
  ·cases L with
   |nil=>simp [sRule] at h
   |cons x r =>
    simp only [sRule] at h
    split at h
    ·cases h
    rename_i hc
    have hxk:x.k=2:=by omega
    have hx:er x=(2,x.s):=by simp only [er,hxk]
    have hd:∀ (y:Tok) m2,y.k=2→m2+1≤100→¬ (100<m2+1∨8<d∨y.k≠2):=fun y m2 hy hm=>by omega
    have key:∀ (C:List (Nat×List UInt8)),x.s≠wElse→m'=m+szR u→r.map er=C++L'.map er→(∀ g y m2 r2 M2,2*r2.length+4≤g→y.k=2→y.s=x.s→r2.map er=C++M2→noElse M2→m2+szR u≤100→∃ L2',sRule (g+1) d m2 (y::r2)=.inr (u,L2',m2+szR u)∧L2'.map er=M2∧L2'.length≤r2.length)→FrR d m u (x::r) L' m':=by
     intro C hw hm h1 h2
     refine ⟨hm,x.s,C,hw,by rw [List.map_cons,h1,hx],fun f2 m2 L2 M2 e hM hm2 hf=>?_⟩
     obtain ⟨y,r2,rfl,k1,k2,k3⟩:=qcl e
     cases f2 with
     |zero=>omega
     |succ g =>
      simp only [List.length_cons] at hf ⊢
      obtain ⟨L2',q1,q2,q3⟩:=h2 g y m2 r2 M2 (by omega) k1 k2 k3 hM hm2
      exact ⟨L2',q1,q2,by omega⟩
    split at h
    ·rename_i hi
     obtain ⟨⟨t,L1⟩,h1,h⟩:=q158 h
     obtain ⟨⟨th,L2,n1⟩,h2,h⟩:=q158 h
     obtain ⟨C,c0,c1,c2⟩:=(f_test f).1 _ _ _ _ h1
     obtain ⟨e1,D,d1,d2⟩:=ih2 _ _ _ _ _ _ h2
     simp only at h e1 d1
     split at h
     ·rename_i hk
      obtain ⟨⟨el,L3,n2⟩,h3,h⟩:=q158 h
      injection h with h
      injection h with h4 h5
      injection h5 with h5 h6
      subst h4 h5 h6
      obtain ⟨e2,E,g1,g2⟩:=ih2 _ _ _ _ _ _ h3
      have hsz:szR (rul 1 t th el 0 [] [] 0)=1+szL th+szL el:=rfl
      refine key (C++(D++(2,wElse)::E)) (by rw [hi];decide) (by rw [hsz];simp only at e2 ⊢;omega) (by rw [c1,d1,qag hk,g1];simp) fun g y m2 r2 M2 hg y1 y2 y3 hM hm2=>?_
      rw [hsz] at hm2 ⊢
      simp only [List.append_assoc,List.cons_append] at y3
      obtain ⟨w1,v1,v2,v3⟩:=c2 g r2 _ y3 (by omega)
      obtain ⟨w2,t1,t2,t3⟩:=d2 g (m2+1) w1 _ v2 (by omega) (by omega)
      obtain ⟨k1,k2,k3⟩:=p_isT t2
      obtain ⟨w3,s1,s2,s3⟩:=g2 g (m2+1+szL th) w2.tail _ k2 (by omega) (by omega)
      refine ⟨w3,?_,s2,by omega⟩
      simp only [sRule,if_neg (hd y m2 y1 (by omega)),y2,hi,if_true,v1,t1,k1,s1,thn]
      rw [show m2+1+szL th+szL el=m2+(1+szL th+szL el) by omega]
     ·rename_i hk
      injection h with h
      injection h with h4 h5
      injection h5 with h5 h6
      subst h4 h5 h6
      have hsz:szR (rul 1 t th [] 0 [] [] 0)=1+szL th+0:=rfl
      refine key (C++D) (by rw [hi];decide) (by rw [hsz];omega) (by rw [c1,d1];simp) fun g y m2 r2 M2 hg y1 y2 y3 hM hm2=>?_
      rw [hsz] at hm2 ⊢
      simp only [List.append_assoc] at y3
      obtain ⟨w1,v1,v2,v3⟩:=c2 g r2 _ y3 (by omega)
      obtain ⟨w2,t1,t2,t3⟩:=d2 g (m2+1) w1 _ v2 (by omega) (by omega)
      have hn:=isT_no t2 hM
      refine ⟨w2,?_,t2,by omega⟩
      simp only [sRule,if_neg (hd y m2 y1 (by omega)),y2,hi,if_true,v1,t1,hn,thn,Bool.false_eq_true,if_false]
      rw [show m2+1+szL th=m2+(1+szL th+0) by omega]
    rename_i hi
    split at h
    ·rename_i hs
     obtain ⟨⟨a,L1⟩,h1,h⟩:=q158 h
     obtain ⟨⟨b,L2⟩,h2,h⟩:=q158 h
     obtain ⟨r3,h3,h⟩:=q158 h
     injection h with h
     injection h with h4 h5
     injection h5 with h5 h6
     subst h4 h5 h6
     have hsz:szR (rul 3 t0 [] [] 0 a b 0)=1:=rfl
     have hwi:¬ wSet=wIf:=by decide
     refine key [(2,a),(1,b),(4,[59])] (by rw [hs];decide) (by rw [hsz]) (by rw [f_take h1,f_take h2,q77 h3];rfl) fun g y m2 r2 M2 hg y1 y2 y3 hM hm2=>?_
     rw [hsz] at hm2 ⊢
     simp only [List.cons_append,List.nil_append] at y3
     obtain ⟨w1,v1,v2,v3⟩:=q183 y3
     obtain ⟨w2,u1,u2,u3⟩:=q183 v2
     obtain ⟨w3,t1,t2,t3⟩:=qdz u2
     exact ⟨w3,by simp only [sRule,if_neg (hd y m2 y1 (by omega)),y2,hs,if_neg hwi,if_true,v1,u1,t1,thn],t2,by omega⟩
    rename_i hs
    split at h
    ·rename_i hst
     obtain ⟨r3,h3,h⟩:=q158 h
     injection h with h
     injection h with h4 h5
     injection h5 with h5 h6
     subst h4 h5 h6
     have hsz:szR (rul 4 t0 [] [] 0 [] [] 0)=1:=rfl
     have hwi:¬ wStop=wIf:=by decide
     have hws:¬ wStop=wSet:=by decide
     refine key [(4,[59])] (by rw [hst];decide) (by rw [hsz]) (by rw [q77 h3];rfl) fun g y m2 r2 M2 hg y1 y2 y3 hM hm2=>?_
     rw [hsz] at hm2 ⊢
     simp only [List.cons_append,List.nil_append] at y3
     obtain ⟨w3,t1,t2,t3⟩:=qdz y3
     exact ⟨w3,by simp only [sRule,if_neg (hd y m2 y1 (by omega)),y2,hst,if_neg hwi,if_neg hws,if_true,t1,thn],t2,by omega⟩
    rename_i hst
    split at h
    ·cases h
    rename_i ha
    have hwe:x.s≠wElse:=fun e=>by rw [e] at ha;exact absurd (by decide) ha
    split at h
    ·rename_i h6
     obtain ⟨⟨n,L1⟩,h1,h⟩:=q158 h
     obtain ⟨r3,h3,h⟩:=q158 h
     injection h with h
     injection h with h4 h5
     injection h5 with h5 h7
     subst h4 h5 h7
     obtain ⟨s,m1,m2',m3⟩:=f_num h1
     have hsz:szR (rul 2 t0 [] [] 6 [] [] n)=1:=rfl
     refine key [(3,s),(4,[59])] hwe (by rw [hsz]) (by simp only at h3;rw [m3,q77 h3];rfl) fun g y m2 r2 M2 hg y1 y2 y3 hM hm2=>?_
     rw [hsz] at hm2 ⊢
     simp only [List.cons_append,List.nil_append] at y3
     obtain ⟨w1,v1,v2,v3⟩:=g_num m1 y3
     obtain ⟨w3,t1,t2,t3⟩:=qdz v2
     exact ⟨w3,by simp only [sRule,if_neg (hd y m2 y1 (by omega)),y2,if_neg hi,if_neg hs,if_neg hst,if_neg ha,if_pos h6,v1,t1,thn,m2'],t2,by omega⟩
    rename_i h6
    split at h
    ·rename_i htx
     obtain ⟨⟨s,L1⟩,h1,h⟩:=q158 h
     obtain ⟨r3,h3,h⟩:=q158 h
     injection h with h
     injection h with h4 h5
     injection h5 with h5 h7
     subst h4 h5 h7
     have hsz:szR (rul 2 t0 [] [] (actN x.s) [] s 0)=1:=rfl
     refine key [(1,s),(4,[59])] hwe (by rw [hsz]) (by simp only at h3;rw [f_take h1,q77 h3];rfl) fun g y m2 r2 M2 hg y1 y2 y3 hM hm2=>?_
     rw [hsz] at hm2 ⊢
     simp only [List.cons_append,List.nil_append] at y3
     obtain ⟨w1,v1,v2,v3⟩:=q183 y3
     obtain ⟨w3,t1,t2,t3⟩:=qdz v2
     exact ⟨w3,by simp only [sRule,if_neg (hd y m2 y1 (by omega)),y2,if_neg hi,if_neg hs,if_neg hst,if_neg ha,if_neg h6,if_pos htx,v1,t1,thn],t2,by omega⟩
    ·rename_i htx
     obtain ⟨r3,h3,h⟩:=q158 h
     injection h with h
     injection h with h4 h5
     injection h5 with h5 h7
     subst h4 h5 h7
     have hsz:szR (rul 2 t0 [] [] (actN x.s) [] [] 0)=1:=rfl
     refine key [(4,[59])] hwe (by rw [hsz]) (by rw [q77 h3];rfl) fun g y m2 r2 M2 hg y1 y2 y3 hM hm2=>?_
     rw [hsz] at hm2 ⊢
     simp only [List.cons_append,List.nil_append] at y3
     obtain ⟨w3,t1,t2,t3⟩:=qdz y3
     exact ⟨w3,by simp only [sRule,if_neg (hd y m2 y1 (by omega)),y2,if_neg hi,if_neg hs,if_neg hst,if_neg ha,if_neg h6,if_neg htx,t1,thn],t2,by omega⟩
  ·simp only [sBlock] at h
   obtain ⟨r1,h1,h⟩:=q158 h
   obtain ⟨⟨l',L1,n1⟩,h2,h⟩:=q158 h
   obtain ⟨r3,h3,h⟩:=q158 h
   injection h with h
   injection h with h4 h5
   injection h5 with h5 h6
   subst h4 h5 h6
   obtain ⟨e1,st,C,cn,c1,c2⟩:=ih3 _ _ _ _ _ _ h2
   simp only at h3 e1 c1 c2 ⊢
   refine ⟨e1,(4,[123])::(C++[(4,[125])]),by rw [q77 h1,c1,q77 h3];simp,fun f2 m2 L2 M2 e hm2 hf=>?_⟩
   cases f2 with
   |zero=>omega
   |succ g =>
    simp only [List.cons_append,List.append_assoc,List.nil_append] at e
    obtain ⟨w1,v1,v2,v3⟩:=qdz e
    obtain ⟨w2,u1,u2,u3⟩:=c2 g m2 w1 _ v2 (qd7 (q12w M2)) hm2 (by omega)
    obtain ⟨w2',hs,hq⟩:=u3 [] (m2+szL l') (·=w2) fun f3 hf3=>⟨w2,q12x (by rw [u1];exact q12w M2) hf3,rfl⟩
    subst hq
    obtain ⟨w3,t1,t2,t3⟩:=qdz u1
    refine ⟨w3,?_,t2,by omega⟩
    simp only [sBlock,v1,hs,t1,thn,List.append_nil]
  ·cases L with
   |nil =>
    simp only [sRules] at h
    injection h with h
    injection h with h4 h5
    injection h5 with h5 h6
    subst h4 h5 h6
    exact ⟨rfl,(by intro x r e;cases e),[],(by intro x r e;cases e),rfl,fun f2 m2 L2 M2 e hM hm hf=>⟨L2,e,Nat.le_refl _,fun z m3 Q hz=>hz f2 hf⟩⟩
   |cons x r =>
    simp only [sRules] at h
    split at h
    ·rename_i hs
     injection h with h
     injection h with h4 h5
     injection h5 with h5 h6
     subst h4 h5 h6
     refine ⟨rfl,?_,[],(by intro x r e;cases e),rfl,fun f2 m2 L2 M2 e hM hm hf=>⟨L2,e,Nat.le_refl _,fun z m3 Q hz=>hz f2 hf⟩⟩
     intro y r' e
     injection e with e
     subst e
     unfold stopB at hs
     simp only [Bool.or_eq_true,Bool.and_eq_true,beq_iff_eq] at hs
     rcases hs with hs|hs
     ·exact .inl hs
     ·exact .inr (Prod.ext hs.1 hs.2)
    ·rename_i hs
     obtain ⟨⟨u,L1,n1⟩,h1,h⟩:=q158 h
     obtain ⟨⟨l',L2,n2⟩,h2,h⟩:=q158 h
     injection h with h
     injection h with h4 h5
     injection h5 with h5 h6
     subst h4 h5 h6
     obtain ⟨e1,w,C,hw,c1,c2⟩:=ih1 _ _ _ _ _ _ h1
     obtain ⟨e2,st,D,dn,d1,d2⟩:=ih3 _ _ _ _ _ _ h2
     simp only at h2 e1 e2 c1 c2 d1 d2 ⊢
     have hsz:szL (u::l')=szR u+szL l':=rfl
     refine ⟨by rw [hsz];omega,st,(2,w)::(C++D),?_,by rw [c1,d1];simp,fun f2 m2 L3 M2 e hM hm2 hf=>?_⟩
     ·intro y r' e e'
      injection e with e
      rw [←e] at e'
      injection e' with _ e'
      exact hw e'
     rw [hsz] at hm2 ⊢
     cases f2 with
     |zero=>omega
     |succ g =>
      simp only [List.cons_append,List.append_assoc] at e
      have hne:noElse (D++M2):=by
       intro y r' e'
       cases D with
       |nil=>exact hM y r' e'
       |cons z D' =>
        simp only [List.cons_append] at e'
        injection e' with e' _
        exact dn y D' (by rw [←e'])
      obtain ⟨w1,v1,v2,v3⟩:=c2 g m2 L3 _ e hne (by omega) (by omega)
      obtain ⟨w2,u1,u2,u3⟩:=d2 g (m2+szR u) w1 M2 v2 hM (by omega) (by omega)
      refine ⟨w2,u1,by omega,fun z m3 Q hz=>?_⟩
      obtain ⟨L4,this,hq⟩:=u3 z m3 Q (fun f3 hf3=>by rw [Nat.add_assoc];exact hz f3 hf3)
      refine ⟨L4,?_,hq⟩
      obtain ⟨y,r0,rfl,k1,k2,k3⟩:=qcl e
      have hs2:stopB y=false:=by
       have k1':y.k=2:=k1
       unfold stopB;simp [k1']
      simp only [sRules,hs2,Bool.false_eq_true,if_false,v1,this,thn,List.cons_append]
end Go.Proofs.YtognhcibcocbkaaGreatDoor
namespace Go.Proofs.YtognhcibcocbkaaGreatDoor
open Go.RowKit
theorem q1bs:∀ (n:Nat) (l:List UInt8),l.length≤n→∀ x,strq l=some x→∀ rest,strq (l++rest)=some x
 |_,[],_,x,h,_=>by simp [strq] at h
 |_,[c],_,x,h,rest=>by
  simp only [strq] at h
  split at h
  ·rename_i hc
   injection h with h;subst h
   cases rest <;> simp [strq,hc]
  ·cases h
 |0,_::_::_,hl,_,_,_=>by simp at hl
 |n+1,c::d::r,hl,x,h,rest=>by
  simp only [List.length_cons] at hl
  simp only [strq,List.cons_append] at h ⊢
  split at h
  ·rename_i hc;simp only [hc,if_true];exact h
  ·rename_i hc
   simp only [hc,if_false]
   split at h
   ·rename_i h9
    simp only [h9,if_true]
    split at h
    ·rename_i hd
     simp only [hd,if_true]
     cases hr:strq r with
     |none=>rw [hr] at h;cases h
     |some y=>rw [hr] at h;rw [q1bs n r (by omega) y hr rest];exact h
    ·cases h
   ·rename_i h9
    simp only [h9,if_false]
    cases hr:strq (d::r) with
    |none=>rw [hr] at h;cases h
    |some y=>rw [hr] at h;have:=q1bs n (d::r) (by simp only [List.length_cons];omega) y hr rest;rw [List.cons_append] at this;rw [this];exact h
theorem q1bt {p:UInt8→Bool} {c:UInt8} (hc:p c=false):∀ (l rest:List UInt8),(l++c::rest).takeWhile p=l.takeWhile p
 |[],rest=>by simp [hc]
 |a::l,rest=>by
  simp only [List.cons_append,List.takeWhile_cons]
  split
  ·rw [q1bt hc l rest]
  ·rfl
theorem q1bd {c:UInt8} {r:List UInt8} (h:endK (lexT (c::r)).1.1=false) (rest:List UInt8):lexT (c::(r++10::rest))=lexT (c::r):=by
 simp only [lexT] at h ⊢
 split
 ·rename_i hc
  simp only [hc,if_true] at h
  cases hq:strq r with
  |none=>rw [hq] at h;cases h
  |some x=>rw [q1bs _ r (Nat.le_refl _) x hq]
 ·split
  ·rw [q1bt (by decide)]
  ·split
   ·rw [q1bt (by decide)]
   ·rfl
theorem lexT_k (c:UInt8) (r:List UInt8):(lexT (c::r)).1.1≠0:=by
 simp only [lexT]
 split
 ·cases strq r <;> simp
 ·split
  ·simp
  ·split <;> simp
theorem q1b6:∀ (n:Nat) (l:List UInt8),l.length≤n→∀ o ts,(toksF l o).map er=ts++[(0,[])]→EmS (l++[10]) ts
 |n,[],_,o,ts,h=>by
  rw [q1av] at h
  have:ts=[]:=by
   cases ts with
   |nil=>rfl
   |cons a t=>have:=congrArg List.length h;simp at this
  subst this
  exact EmS.ws (by decide) EmS.nil
 |0,c::l,hl,o,ts,h=>by simp at hl
 |n+1,c::l,hl,o,ts,h=>by
  simp only [List.length_cons] at hl
  cases hc:wsB c with
  |true =>
   rw [q15e c hc] at h
   exact EmS.ws hc (q1b6 n l (by omega) _ _ h)
  |false =>
   rw [q15d c hc] at h
   cases hk:endK (lexT (c::l)).1.1 with
   |true =>
    rw [hk] at h
    simp only [if_true,List.map_cons,List.map_nil] at h
    have:ts=[]:=by
     cases ts with
     |nil=>rfl
     |cons a t=>have:=congrArg List.length h;simp at this
    subst this
    injection h with h _
    exact absurd (congrArg Prod.fst h) (lexT_k c l)
   |false =>
    rw [hk] at h
    simp only [Bool.false_eq_true,if_false,List.map_cons] at h
    obtain ⟨h1,h2⟩:=qc1 (c::l)
    have h2:=h2 hk
    cases ts with
    |nil=>injection h with h _;exact absurd (congrArg Prod.fst h) (lexT_k c l)
    |cons t ts =>
     injection h with h3 h4
     have ih:=q1b6 n ((c::l).drop (lexT (c::l)).2) (by rw [List.length_drop];simp only [List.length_cons] at h1 ⊢;omega) _ _ h4
     intro rest o2
     have e1:(c::l++[10])++rest=c::(l++10::rest):=by simp
     rw [e1,q15d c hc,q1bd hk,hk]
     simp only [Bool.false_eq_true,if_false,List.map_cons]
     have e2:(c::(l++10::rest)).drop (lexT (c::l)).2=((c::l).drop (lexT (c::l)).2++[10])++rest:=by
      rw [show c::(l++10::rest)=(c::l)++10::rest from rfl,List.drop_append_of_le_length h1]
      simp
     rw [e2,ih rest,List.cons_append]
     rw [←h3]
     have e3:o2+(lexT (c::l)).2+((c::l).drop (lexT (c::l)).2++[10]).length=o2+(c::l++[10]).length:=by
      simp only [List.length_append,List.length_drop,List.length_cons,List.length_nil] at h1 ⊢
      omega
     rw [e3]
     rfl
theorem q1bu:∀ (n:Nat) (l:List UInt8),l.length≤n→∀ o,∃ ts k,(toksF l o).map er=ts++[(k,[])]∧∀ x∈ts,endK x.1=false
 |n,[],_,o=>⟨[],0,q1av o,by simp⟩
 |0,c::l,hl,o=>by simp at hl
 |n+1,c::l,hl,o=>by
  simp only [List.length_cons] at hl
  cases hc:wsB c with
  |true=>rw [q15e c hc];exact q1bu n l (by omega) _
  |false =>
   rw [q15d c hc]
   cases hk:endK (lexT (c::l)).1.1 with
   |true =>
    have hs:(lexT (c::l)).1.2=[]:=by
     simp only [lexT] at hk ⊢
     split
     ·rename_i h34
      simp only [h34,if_true] at hk
      cases hq:strq l with
      |none=>rfl
      |some x=>rw [hq] at hk;cases hk
     ·rename_i h34
      simp only [h34,if_false] at hk
      split
      ·rename_i hl;simp only [hl,if_true] at hk;cases hk
      ·rename_i hl
       simp only [hl] at hk
       split
       ·rename_i hg;simp only [hg,if_true] at hk;cases hk
       ·rename_i hg;simp only [hg] at hk;cases hk
    refine ⟨[],(lexT (c::l)).1.1,?_,by simp⟩
    simp only [if_true,List.map_cons,List.map_nil,er,hs,List.nil_append]
   |false =>
    obtain ⟨h1,h2⟩:=qc1 (c::l)
    have h2:=h2 hk
    obtain ⟨ts,k,e1,e2⟩:=q1bu n ((c::l).drop (lexT (c::l)).2) (by rw [List.length_drop];simp only [List.length_cons] at h1 ⊢;omega) (o+(lexT (c::l)).2)
    refine ⟨(lexT (c::l)).1::ts,k,?_,fun x hx=>?_⟩
    ·simp only [Bool.false_eq_true,if_false,List.map_cons,e1,er,List.cons_append]
    ·rcases List.mem_cons.1 hx with e|hx
     ·subst e;exact hk
     ·exact e2 x hx
theorem q1be:∀ (C ts R:List (Nat×List UInt8)) (k:Nat) (s:List UInt8),C++(0,s)::R=ts++[(k,[])]→(∀ x∈ts,endK x.1=false)→C=ts∧k=0
 |[],[],R,k,s,h,_=>by injection h with h _;injection h with h _;exact ⟨rfl,h.symm⟩
 |[],t::ts,R,k,s,h,hx=>by
  injection h with h _
  have:=hx t (by simp)
  rw [←h] at this
  cases this
 |c::C,[],R,k,s,h,_=>by
  injection h with _ h
  have:=congrArg List.length h
  simp at this
 |c::C,t::ts,R,k,s,h,hx=>by
  injection h with h1 h2
  obtain ⟨e1,e2⟩:=q1be C ts R k s h2 (fun x hx'=>hx x (by simp [hx']))
  exact ⟨by rw [h1,e1],e2⟩
theorem q1bv:∀ (f:Nat) (l:List UInt8) (o p:Nat),(toks f l o).map er=(toks f l p).map er
 |0,_,_,_=>rfl
 |f+1,l,o,p=>by
  simp only [toks,List.map_cons,er]
  congr 1
  split
  ·rfl
  ·exact q1bv f _ _ _
theorem q1bp {a:List UInt8} {s:List S59} (h:sScript a=.inr s):∃ C,(∀ o,(toksF a o).map er=C++[(0,[])])∧noElse C∧∀ f2 m2 L2 M2,L2.map er=C++M2→noElse M2→m2+szL s≤100→2*L2.length+4≤f2→∃ L2',L2'.map er=M2∧L2'.length≤L2.length∧∀ z m3 (Q:List Tok→Prop),(∀ f3,2*L2'.length+4≤f3→∃ L3,sRules f3 1 (m2+szL s) L2'=.inr (z,L3,m3)∧Q L3)→∃ L3,sRules f2 1 m2 L2=.inr (s++z,L3,m3)∧Q L3:=by
 unfold sScript at h
 obtain ⟨⟨l,L',m'⟩,h1,h2⟩:=q158 h
 cases L' with
 |nil=>cases h2
 |cons x r =>
  simp only at h2
  split at h2
  case isFalse=>cases h2
  rename_i hk
  injection h2 with h2;subst h2
  obtain ⟨e1,e2,C,e3,e4,e5⟩:=(q78 _).2.2 _ _ _ _ _ _ h1
  have hx:(toksF a 0).map er=C++(0,x.s)::r.map er:=by
   have:(toksF a 0).map er=C++(x::r).map er:=e4
   rw [this,List.map_cons]
   simp only [er,hk]
  refine ⟨C,fun o=>?_,e3,e5⟩
  obtain ⟨ts,k,k1,k2⟩:=q1bu _ a (Nat.le_refl _) 0
  obtain ⟨q1,q2⟩:=q1be C ts _ k x.s (by rw [←hx,k1]) k2
  subst q1 q2
  have sh:(toksF a o).map er=(toksF a 0).map er:=q1bv _ _ _ _
  rw [sh,k1]
theorem ck_app (b:List S59) (d:Nat):∀ (a:List S59) (n:Nat),ckL (a++b) n d=match ckL a n d with|.inl f=>.inl f|.inr n1=>ckL b n1 d
 |[],n=>rfl
 |r::a,n=>by
  simp only [List.cons_append,ckL]
  split
  ·rfl
  ·split
   ·rfl
   ·cases ckR r n d with
    |inl f=>rfl
    |inr n2=>exact ck_app b d a n2
theorem q1b5:∀ (q:Nat) (l:List S59),szL l=q→∀ n d m,ckL l n d=.inr m→∀ n2,n2+szL l≤100→ckL l n2 d=.inr (n2+szL l):=by
 intro q
 induction q using Nat.strongRecOn with
 |_ q ih =>
  intro l
  induction l with
  |nil=>intro _ n d m _ n2 _;rfl
  |cons r l ihl =>
   intro hq n d m h n2 hn
   have hsz:szL (r::l)=szR r+szL l:=rfl
   have hs1:=szR_eq r
   simp only [ckL] at h ⊢
   split at h;· cases h
   split at h;· cases h
   rename_i hr
   have hr:=Decidable.not_not.1 hr
   have hc:rc r d=0:=hr
   rw [if_neg (by omega),if_neg (by rw [hc];simp)]
   rw [ckR_eq] at h ⊢
   cases h1:ckL r.Then (n+1) (d+1) with
   |inl f=>rw [h1] at h;cases h
   |inr n1 =>
    rw [h1] at h
    simp only at h
    cases h2:ckL r.Else n1 (d+1) with
    |inl f=>rw [h2] at h;cases h
    |inr n3 =>
     rw [h2] at h
     simp only at h
     rw [ih _ (by omega) r.Then rfl _ _ _ h1 (n2+1) (by omega)]
     simp only
     rw [ih _ (by omega) r.Else rfl _ _ _ h2 (n2+1+szL r.Then) (by omega)]
     simp only
     have hl:ckL l (n2+1+szL r.Then+szL r.Else) d=.inr (n2+1+szL r.Then+szL r.Else+szL l):=by
      rcases Nat.lt_or_ge (szL l) q with hlt|hge
      ·exact ih _ hlt l rfl _ _ _ h _ (by omega)
      ·omega
     rw [hl,hsz]
     congr 1
     omega
theorem q1bo {s t:List S59} (hs:(scriptF s).1=0) (ht:(scriptF t).1=0) (hn:szL s+szL t≤100):scriptF (s++t)=(0,0):=by
 obtain ⟨m,a1,a2,a3⟩:=q1aa hs
 obtain ⟨m2,b1,b2,b3⟩:=q1aa ht
 unfold scriptF
 rw [ck_app,a1]
 simp only
 rw [q1b5 _ t rfl _ _ _ b1 m (by omega)]
theorem q1bm {a b:List UInt8} {s t:List S59} (ha:sScript a=.inr s) (hb:sScript b=.inr t) (hn:szL s+szL t≤100):sScript (a++10::b)=.inr (s++t):=by
 obtain ⟨C,c1,c2,c3⟩:=q1bp ha
 obtain ⟨D,d1,d2,d3⟩:=q1bp hb
 have e:=q1b6 _ a (Nat.le_refl _) 0 C (c1 0) b 0
 rw [d1] at e
 have e0:(a++[10])++b=a++10::b:=by simp
 rw [e0] at e
 have hl:=q15g ((a++10::b).length+1) (a++10::b) 0
 have hne:noElse (D++[(0,[])]):=by
  intro y r' e'
  cases D with
  |nil=>injection e' with e' _;subst e';simp
  |cons z D'=>injection e' with e' _;exact d2 y D' (by rw [e'])
 obtain ⟨w1,v1,v2,v3⟩:=c3 (fuel (a++10::b)) 0 (toksF (a++10::b) 0) _ e hne (by omega) (by unfold fuel toksF;omega)
 obtain ⟨L4,q1,q2⟩:=v3 t (0+szL s+szL t) (fun L=>L.map er=[(0,[])]) fun f3 hf3=>by
  obtain ⟨w3,x1,x2,x3⟩:=d3 f3 (0+szL s) w1 [(0,[])] v1 (by intro y r e;injection e with e _;subst e;simp) (by omega) hf3
  obtain ⟨L3,y1,y2⟩:=x3 [] (0+szL s+szL t) (fun L=>L.map er=[(0,[])]) fun f4 hf4=>⟨w3,q12x (by rw [x1];intro x r e;injection e with e;subst e;exact .inl rfl) hf4,x1⟩
  rw [List.append_nil] at y1
  exact ⟨L3,y1,y2⟩
 unfold sScript
 have g1:sRules (fuel (a++10::b)) 1 0 (toks ((a++10::b).length+1) (a++10::b) 0)=.inr (s++t,L4,0+szL s+szL t):=q1
 rw [g1]
 obtain ⟨x,r,rfl,k1,k2,k3⟩:=qcl q2
 simp only at k1
 simp only [thn,k1,if_true]
theorem qbx (b:ByteArray):b.data.toList.length=b.size:=by rw [Array.length_toList];rfl
abbrev noTx:ByteArray:=ByteArray.mk (List.toArray [])
theorem q137 (c:UInt8) (l:List UInt8):strq (c::l)=if c=34 then some ([],1) else if c=92 then (match l with
  |[]=>none
  |d::r=>if d=34∨d=92 then (strq r).map fun x=>(d::x.1,x.2+2) else none) else (strq l).map fun x=>(c::x.1,x.2+1):=by
 cases l with
 |nil=>by_cases h:c=34 <;> simp [strq,h]
 |cons d r=>simp only [strq]
theorem q2z (l:List UInt8):(baL l).data.toList=l:=by simp [baL]
theorem q15a (l:List UInt8):ByteArray.toList (baL l)=l:=by rw [ByteArray.toList_eq];simp [baL]
theorem q3m (l m:List UInt8):(ByteArray.toList (baL l)==ByteArray.toList (baL m))=(l==m):=by rw [q15a,q15a]
theorem q30 (a:List UInt8):(baL a).size=a.length:=by simp [baL,ByteArray.size]
def numS (s:List UInt8):Prop:=s≠[]∧s.all digitB=true
def Good:List Tok→Prop
 |[]=>False
 |x::R=>(x.k=3→numS x.s)∧x.s.length≤4000∧(if endK x.k=true then R=[] else Good R)
theorem q13a:∀ (n:Nat) (l:List UInt8),l.length≤n→∀ x,strq l=some x→x.1.length≤x.2
 |_,[],_,x,h=>by simp [strq] at h
 |0,c::l,hl,_,_=>by simp at hl
 |n+1,c::l,hl,x,h=>by
  rw [q137] at h
  simp only [List.length_cons] at hl
  split at h
  ·injection h with h;subst h;simp
  ·split at h
   ·cases l with
    |nil=>cases h
    |cons d r =>
     simp only at h
     split at h
     ·cases hr:strq r with
      |none=>rw [hr] at h;cases h
      |some y =>
       rw [hr] at h
       injection h with h;subst h
       have:=q13a n r (by simp only [List.length_cons] at hl;omega) y hr
       simp only [List.length_cons];omega
     ·cases h
   ·cases hr:strq l with
    |none=>rw [hr] at h;cases h
    |some y =>
     rw [hr] at h
     injection h with h;subst h
     have:=q13a n l (by omega) y hr
     simp only [List.length_cons];omega
theorem q1p {p:UInt8→Bool} (l:List UInt8):(l.takeWhile p).all p=true:=by
 induction l with
 |nil=>rfl
 |cons c l ih =>
  rw [List.takeWhile_cons]
  split
  ·simp only [List.all_cons,ih,Bool.and_true];assumption
  ·rfl
theorem qc0 (l:List UInt8) (hl:l.length≤4000):((lexT l).1.1=3→numS (lexT l).1.2)∧(lexT l).1.2.length≤4000:=by
 cases l with
 |nil=>simp [lexT]
 |cons c r =>
  simp only [List.length_cons] at hl
  simp only [lexT]
  split
  ·cases hq:strq r with
   |none=>simp
   |some x =>
    have h1:=q13a _ r (Nat.le_refl _) x hq
    have h2:=q139 _ r (Nat.le_refl _) x hq
    exact ⟨fun h=>by simp at h,by show x.1.length≤4000;omega⟩
  ·split
   ·have:=q14t smallB r
    exact ⟨fun h=>by simp at h,by simp only [List.length_cons];omega⟩
   ·split
    ·rename_i hd
     have:=q14t digitB r
     refine ⟨fun _=>⟨by simp,?_⟩,by simp only [List.length_cons];omega⟩
     simp only [List.all_cons,q1p,hd,Bool.and_self]
    ·exact ⟨fun h=>by simp at h,by simp⟩
theorem q90:∀ (n:Nat) (l:List UInt8) (o:Nat),l.length≤n→n≤4000→Good (toksF l o):=by
 intro n
 induction n using Nat.strongRecOn with
 |_ n ih =>
  intro l o hl hn
  rw [q15c]
  have h1:=qc1 (l.drop (wsN l))
  have h2:=wsN_le l
  have h3:=qc0 (l.drop (wsN l)) (by rw [List.length_drop];omega)
  rw [List.length_drop] at h1
  refine ⟨h3.1,h3.2,?_⟩
  split
  ·rfl
  ·rename_i hk
   have hk':endK (lexT (l.drop (wsN l))).1.1=false:=by simpa using hk
   have h4:=h1.2 hk'
   exact ih (l.length - (wsN l+(lexT (l.drop (wsN l))).2)) (by omega) _ _ (by rw [List.length_drop];exact Nat.le_refl _) (by omega)
theorem qde:∀ (s:List UInt8),s.all digitB=true→∀ n:Nat,s.foldl (fun n c=>10*n+(c.toNat - 48)) n<(n+1)*10 ^ s.length:=by
 intro s
 induction s with
 |nil=>intro _ n;simp
 |cons c s ih =>
  intro h n
  simp only [List.all_cons,Bool.and_eq_true] at h
  have hd:c.toNat≤57:=by have:=h.1;simp [digitB] at this;omega
  have:=ih h.2 (10*n+(c.toNat - 48))
  simp only [List.foldl_cons,List.length_cons,Nat.pow_succ]
  have h2:(10*n+(c.toNat - 48)+1)*10 ^ s.length≤(10*(n+1))*10 ^ s.length:=Nat.mul_le_mul_right _ (by omega)
  have h3:(10*(n+1))*10 ^ s.length=(n+1)*(10 ^ s.length*10):=by rw [Nat.mul_comm 10,Nat.mul_assoc,Nat.mul_comm 10]
  omega
theorem q5f:∀ (n:Nat) (s:List UInt8),s.length≤n→s≠[]→s.all digitB=true→(1<s.length→s.head?≠some 48)→Lib.decDigits (numV s)=s:=by
 intro n
 induction n with
 |zero=>intro s h1 h2;exact absurd (List.eq_nil_of_length_eq_zero (by omega)) h2
 |succ n ih =>
  intro s hl hne ha hh
  rcases List.eq_nil_or_concat s with rfl|⟨a,c,rfl⟩
  ·exact absurd rfl hne
  rw [List.concat_eq_append] at *
  simp only [List.all_append,List.all_cons,List.all_nil,Bool.and_true,Bool.and_eq_true] at ha
  have hd:48≤c.toNat∧c.toNat≤57:=by have:=ha.2;simp [digitB] at this;omega
  have hc:UInt8.ofNat (48+(c.toNat - 48))=c:=by rw [show 48+(c.toNat - 48)=c.toNat by omega];exact UInt8.ofNat_toNat
  rw [qdf]
  by_cases h0:a=[]
  ·subst h0
   rw [show 10*numV []+(c.toNat - 48)=c.toNat - 48 by simp [numV],Lib.decDigits,dif_pos (by omega),hc]
   rfl
  ·have hla:0<a.length:=List.length_pos_iff.2 h0
   have hha:a.head?≠some 48:=by
    have:=hh (by simp;omega)
    cases a with
    |nil=>exact absurd rfl h0
    |cons x a=>simpa using this
   have hpos:1≤numV a:=by
    rcases Nat.eq_zero_or_pos (numV a) with h|h
    ·have e:=ih a (by simp at hl;omega) h0 ha.1 (fun _=>hha)
     rw [h,Lib.decDigits,dif_pos (by omega)] at e
     rw [←e] at hha
     exact absurd rfl hha
    ·exact h
   have e:=ih a (by simp at hl;omega) h0 ha.1 (fun _=>hha)
   rw [Lib.decDigits,dif_neg (by omega),show (10*numV a+(c.toNat - 48)) / 10=numV a by omega,show (10*numV a+(c.toNat - 48)) % 10=c.toNat - 48 by omega,e,hc]
theorem num_ok {s:List UInt8} (h:numS s):(s=Lib.decDigits (numV s)∧numV s≤9999999) ↔ numOk s=true:=by
 obtain ⟨hne,ha⟩:=h
 have hlen:0<s.length:=List.length_pos_iff.2 hne
 constructor
 ·rintro ⟨h1,h2⟩
  have hl:s.length≤7:=by rw [h1];exact q5c 6 _ (by omega)
  simp only [numOk,hl,decide_true,Bool.true_and,Bool.not_eq_true',Bool.and_eq_false_iff,decide_eq_false_iff_not]
  by_cases h3:1<s.length
  ·right
   have hp:1≤numV s:=by
    rcases Nat.eq_zero_or_pos (numV s) with h|h
    ·rw [h,Lib.decDigits,dif_pos (by omega)] at h1
     rw [h1] at h3;simp at h3
    ·exact h
   have:=q5b (numV s) hp
   rw [←h1] at this
   simpa using this
  ·exact .inl h3
 ·intro h
  simp only [numOk,Bool.and_eq_true,decide_eq_true_eq,Bool.not_eq_true',Bool.and_eq_false_iff,decide_eq_false_iff_not] at h
  refine ⟨(q5f _ s (Nat.le_refl _) hne ha fun h1=>?_).symm,?_⟩
  ·rcases h.2 with h2|h2
   ·exact absurd h1 h2
   ·simpa using h2
  ·have:=qde s ha 0
   have h7:10 ^ s.length≤10 ^ 7:=Nat.pow_le_pow_right (by decide) h.1
   have h7:10 ^ s.length≤10000000:=h7
   unfold numV
   omega
theorem eta_T (t:S57):(⟨t.Kind,t.Tests,t.Name,t.Pattern,t.Text,t.N⟩:S57)=t:=by cases t;rfl
abbrev TT:=Int×List S57×ByteArray×Int×ByteArray×Int
abbrev tup (t:S57):TT:=(t.Kind,t.Tests,t.Name,t.Pattern,t.Text,t.N)
theorem one_T (t:S57):([[C.int IntKind.i64 t.Kind,C.sl (q5t.encL t.Tests),C.str t.Name,C.int IntKind.i64 t.Pattern,C.str t.Text,C.int IntKind.i64 t.N]]:List (List C))=q5t.encL [t]:=by
 rw [lit_57,eta_T];rfl
theorem qbw {f d:Nat} {L:List Tok} {y:S57×List Tok} (h:sTest f d L=.inr y):y.2.length<L.length:=by
 obtain ⟨C,h1,h2,_⟩:=(f_test f).1 d L y.1 y.2 h
 have:=congrArg List.length h2
 simp only [List.length_map,List.length_append] at this
 have h3:0<C.length:=List.length_pos_iff.2 h1
 omega
abbrev RTp:=Int×Int×List S57×ByteArray×Int×ByteArray×Int×List S59×List S59×Int×ByteArray×ByteArray×Int
abbrev tupR (r:S59):RTp:=(r.Kind,r.Test_Kind,r.Test_Tests,r.Test_Name,r.Test_Pattern,r.Test_Text,r.Test_N,r.Then,r.Else,r.Act,r.Name,r.Text,r.N)
theorem eta_R (r:S59):(⟨r.Kind,r.Test_Kind,r.Test_Tests,r.Test_Name,r.Test_Pattern,r.Test_Text,r.Test_N,r.Then,r.Else,r.Act,r.Name,r.Text,r.N⟩:S59)=r:=by cases r;rfl
theorem qbv {f d m:Nat} {L:List Tok} {y:S59×List Tok×Nat} (h:sRule f d m L=.inr y):y.2.1.length<L.length:=by
 obtain ⟨_,w,C,_,h2,_⟩:=(q78 f).1 d m L y.1 y.2.1 y.2.2 h
 have:=congrArg List.length h2
 simp only [List.length_map,List.length_append,List.length_cons] at this
 omega
theorem qbt {f d m:Nat} {L:List Tok} {y:List S59×List Tok×Nat} (h:sBlock f d m L=.inr y):y.2.1.length≤L.length:=by
 obtain ⟨_,C,h2,_⟩:=(q78 f).2.1 d m L y.1 y.2.1 y.2.2 h
 have:=congrArg List.length h2
 simp only [List.length_map,List.length_append] at this
 omega
end Go.Proofs.YtognhcibcocbkaaGreatDoor
