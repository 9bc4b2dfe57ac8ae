/- Tokens that are read: what a reader has read. -/
import Derived.Test.YtmlcmoaonaomfaaGreatDoorZ39
namespace Go.Proofs.YtmlcmoaonaomfaaGreatDoor
open Go.RowKit
theorem qc6 (n:Nat):(Lib.decDigits n).all digitB=true/\Lib.decDigits n≠[]:=by
 induction n using Nat.strongRecOn with
 |_ n ih =>
  rw [Lib.decDigits]
  split
  ·rename_i h
   refine ⟨?_,by simp⟩
   simp only [x17q,x23q,Bool.and_true,digitB,x6q,decide_eq_true_eq]
   rw [UInt8.toNat_ofNat']
   omega
  ·rename_i h
   obtain ⟨h1,_⟩:=ih (n / 10) (by omega)
   refine ⟨?_,by simp⟩
   rw [List.all_append,h1]
   simp only [x17q,x23q,Bool.and_true,Bool.true_and,digitB,x6q,decide_eq_true_eq]
   rw [UInt8.toNat_ofNat']
   omega
theorem qrj {L:List Tok} {y:Nat×List UInt8} {M:List (Nat×List UInt8)} (h:L.map er=y::M):∃ x r,L=x::r/\x.k=y.1/\x.s=y.2/\r.map er=M:=by
 cases L with
 |nil=>cases h
 |cons x r =>
  rw [List.map_cons] at h
  injection h with h1 h2
  exact ⟨x,r,rfl,by rw [←h1];rfl,by rw [←h1];rfl,h2⟩
theorem p_take {L:List Tok} {k:Nat} {s:List UInt8} {M:List (Nat×List UInt8)} (h:L.map er=(k,s)::M):∃ r,sTake k L=.inr (s,r)/\r.map er=M/\r.length+1=L.length:=by
 obtain ⟨x,r,rfl,h1,h2,h3⟩:=qrj h
 simp only at h1 h2
 exact ⟨r,by simp only [sTake,h1,x20q,h2],h3,rfl⟩
theorem p_isT {L:List Tok} {k:Nat} {s:List UInt8} {M:List (Nat×List UInt8)} (h:L.map er=(k,s)::M):isT k s L=true/\L.tail.map er=M/\L.tail.length+1=L.length:=by
 obtain ⟨x,r,rfl,h1,h2,h3⟩:=qrj h
 simp only at h1 h2
 exact ⟨by simp [isT,h1,h2],h3,rfl⟩
theorem quw {L:List Tok} {s:List UInt8} {M:List (Nat×List UInt8)} (h:L.map er=(4,s)::M):∃ r,sNeed s L=.inr r/\r.map er=M/\r.length+1=L.length:=by
 obtain ⟨h1,h2,h3⟩:=p_isT h
 exact ⟨L.tail,by unfold sNeed;rw [if_pos h1],h2,h3⟩
theorem qtq (a:List UInt8) (c:UInt8):numV (a++[c])=10*numV a+(c.toNat - 48):=by simp [numV,List.foldl_append]
theorem qc9:∀ (k n:Nat),n<10 ^ (k+1)->(Lib.decDigits n).length<=k+1
 |0,n,h=>by
  rw [Lib.decDigits,dif_pos (by simpa using h)]
  simp
 |k+1,n,h=>by
  rw [Lib.decDigits]
  split
  ·simp
  ·rw [x12q]
   have:=qc9 k (n / 10) (by rw [Nat.pow_succ] at h;omega)
   simp only [List.length_singleton]
   omega
theorem qc8 (n:Nat) (h:1<=n):(Lib.decDigits n).head?≠some 48:=by
 induction n using Nat.strongRecOn with
 |_ n ih =>
  rw [Lib.decDigits]
  split
  ·rename_i h1
   simp only [List.head?_cons,ne_eq,Option.some.injEq]
   intro e
   have:=congrArg UInt8.toNat e
   rw [UInt8.toNat_ofNat'] at this
   have e2:(48:UInt8).toNat=48:=rfl
   omega
  ·rename_i h1
   rw [List.head?_append]
   have:=ih (n / 10) (by omega) (by omega)
   cases hd:(Lib.decDigits (n / 10)).head? with
   |none=>rw [List.head?_eq_none_iff] at hd;exact absurd hd (qc6 _).2
   |some c=>rw [hd] at this;simpa using this
def stopM (M:List (Nat×List UInt8)):Prop:=∀ x r,M=x::r->x.1=0∨x=(4,[125])
def noElse (M:List (Nat×List UInt8)):Prop:=∀ x r,M=x::r->x≠(2,wElse)
theorem q1dg:∀ (f:Nat) (l:List UInt8) (o:Nat),(toks f l o).length<=f
 |0,_,_=>Nat.le_refl _
 |f+1,l,o=>by
  simp only [toks,x9q]
  split
  ·simp
  ·have:=q1dg f (l.drop (wsN l+(lexT (l.drop (wsN l))).2)) (o+wsN l+(lexT (l.drop (wsN l))).2)
   omega
theorem q1d9 {α β:Type} {x:Nat⊕α} {f:α->Nat⊕β} {b:β} (h:thn x f=.inr b):∃ a,x=.inr a/\f a=.inr b:=by
 cases x with
 |inl o=>cases h
 |inr a=>exact ⟨a,rfl,h⟩
theorem f_take {k:Nat} {L L':List Tok} {s:List UInt8} (h:sTake k L=.inr (s,L')):L.map er=(k,s)::L'.map er:=by
 cases L with
 |nil=>cases h
 |cons x r =>
  simp only [sTake] at h
  split at h
  ·rename_i hk
   injection h with h
   injection h with h1 h2
   subst h1 h2 hk
   rfl
  ·cases h
theorem qg9 {s:List UInt8} {L L':List Tok} (h:sNeed s L=.inr L'):L.map er=(4,s)::L'.map er:=by
 unfold sNeed at h
 split at h
 ·rename_i hk
  injection h with h;subst h
  cases L with
  |nil=>cases hk
  |cons x r =>
   simp only [isT,x6q,beq_iff_eq] at hk
   simp only [List.map_cons,List.tail_cons,er,hk.1,hk.2]
 ·cases h
theorem f_num {L L':List Tok} {n:Nat} (h:sNum L=.inr (n,L')):∃ s,numOk s=true/\numV s=n/\L.map er=(3,s)::L'.map er:=by
 cases L with
 |nil=>cases h
 |cons x r =>
  simp only [sNum] at h
  split at h
  ·rename_i hk
   injection h with h
   injection h with h1 h2
   subst h1 h2
   exact ⟨x.s,hk.2,rfl,by simp only [List.map_cons,er,hk.1]⟩
  ·cases h
theorem g_num {L:List Tok} {s:List UInt8} {M:List (Nat×List UInt8)} (hs:numOk s=true) (h:L.map er=(3,s)::M):∃ r,sNum L=.inr (numV s,r)/\r.map er=M/\r.length+1=L.length:=by
 obtain ⟨x,r,rfl,h1,h2,h3⟩:=qrj h
 simp only at h1 h2
 refine ⟨r,?_,h3,rfl⟩
 simp only [sNum,h1,h2,hs,and_self,x20q]
theorem qg8 {L L':List Tok} {y:Nat×List UInt8} (h:sMatch L=.inr (y,L')):∃ w,matchN w=y.1/\matchN w≠0/\L.map er=(2,w)::(1,y.2)::L'.map er:=by
 cases L with
 |nil=>cases h
 |cons x r =>
  simp only [sMatch] at h
  split at h
  ·rename_i hk
   obtain ⟨a,h1,h2⟩:=q1d9 h
   injection h2 with h2
   injection h2 with h2 h3
   subst h2 h3
   obtain ⟨s,r2⟩:=a
   exact ⟨x.s,rfl,hk.2,by simp only [List.map_cons,er,hk.1];rw [f_take h1]⟩
  ·cases h
theorem qk2 {L:List Tok} {w s:List UInt8} (hw:matchN w≠0) {M:List (Nat×List UInt8)} (h:L.map er=(2,w)::(1,s)::M):∃ r,sMatch L=.inr ((matchN w,s),r)/\r.map er=M/\r.length+2=L.length:=by
 obtain ⟨x,r,rfl,h1,h2,h3⟩:=qrj h
 obtain ⟨r2,g1,g2,g3⟩:=p_take h3
 simp only at h1 h2
 refine ⟨r2,?_,g2,by simp only [x9q];omega⟩
 simp only [sMatch,h1,h2,g1,thn,true_and]
 rw [if_pos hw]
theorem q1d4 (s:List UInt8):testN s<=9:=by
 unfold testN
 repeat' split
 all_goals omega
def noComma (M:List (Nat×List UInt8)):Prop:=∀ x r,M=x::r->x≠(4,[44])
theorem isT_no {k:Nat} {s:List UInt8} {L:List Tok} {M:List (Nat×List UInt8)} (h:L.map er=M) (hM:∀ x r,M=x::r->x≠(k,s)):isT k s L=false:=by
 cases L with
 |nil=>rfl
 |cons y r =>
  have:=hM (er y) (r.map er) (by rw [←h];rfl)
  simp only [isT]
  cases e:y.k==k&&y.s==s with
  |false=>rfl
  |true =>
   simp only [x6q,beq_iff_eq] at e
   exact absurd (Prod.ext e.1 e.2) this
theorem qot {k:Nat} {s:List UInt8} {L:List Tok} (h:isT k s L=true):L.map er=(k,s)::L.tail.map er:=by
 cases L with
 |nil=>cases h
 |cons x r =>
  simp only [isT,x6q,beq_iff_eq] at h
  simp only [List.map_cons,List.tail_cons,er,h.1,h.2]
def FrT (d:Nat) (t:S35) (L L':List Tok):Prop:=∃ C,C≠[]/\L.map er=C++L'.map er/\∀ f2 L2 M2,L2.map er=C++M2->2*L2.length+1<=f2->∃ L2',sTest f2 d L2=.inr (t,L2')/\L2'.map er=M2/\L2'.length<L2.length
def FrTs (d:Nat) (ts:List S35) (L L':List Tok):Prop:=∃ C,C≠[]/\L.map er=C++L'.map er/\∀ f2 L2 M2,L2.map er=C++M2->noComma M2->2*L2.length+2<=f2->∃ L2',sTests f2 d L2=.inr (ts,L2')/\L2'.map er=M2/\L2'.length<L2.length
theorem f_test:∀ f,(∀ d L t L',sTest f d L=.inr (t,L')->FrT d t L L')/\(∀ d L ts L',sTests f d L=.inr (ts,L')->FrTs d ts L L')
 |0=>⟨λd L t L' h=>by simp [sTest] at h,λd L ts L' h=>by simp [sTests] at h⟩
 |f+1=>by
  obtain ⟨ih1,ih2⟩:=f_test f
  refine ⟨λd L t L' h=>?_,λd L ts L' h=>?_⟩
  ·cases L with
   |nil=>simp [sTest] at h
   |cons x r =>
    simp only [sTest] at h
    split at h
    ·cases h
    rename_i hc
    have hxk:x.k=2:=by omega
    have hx:er x=(2,x.s):=by simp only [er,hxk]
    have key:∀ (C:List (Nat×List UInt8)),r.map er=C++L'.map er->(∀ g y r2 M2,2*r2.length+2<=g->y.k=2->y.s=x.s->r2.map er=C++M2->∃ L2',sTest (g+1) d (y::r2)=.inr (t,L2')/\L2'.map er=M2/\L2'.length<=r2.length)->FrT d t (x::r) L':=by
     intro C h1 h2
     refine ⟨er x::C,by simp,by rw [List.map_cons,h1];rfl,λf2 L2 M2 e hf=>?_⟩
     rw [hx] at e
     obtain ⟨y,r2,rfl,k1,k2,k3⟩:=qrj e
     cases f2 with
     |zero=>omega
     |succ g =>
      simp only [x9q] at hf ⊢
      obtain ⟨L2',q1,q2,q3⟩:=h2 g y r2 M2 (by omega) k1 k2 k3
      exact ⟨L2',q1,q2,by omega⟩
    have hN:testN x.s=0∨testN x.s=1∨testN x.s=2∨testN x.s=3∨testN x.s=4∨testN x.s=5∨testN x.s=6∨testN x.s=7∨testN x.s=8∨testN x.s=9:=by have:=q1d4 x.s;omega
    have hd:∀ y:Tok,y.k=2->¬ (8<d∨y.k≠2):=λy hy=>by omega
    rcases hN with e|e|e|e|e|e|e|e|e|e <;> simp only [e] at h
    ·cases h
    ·injection h with h
     injection h with h1 h2
     subst h1 h2
     refine key [] rfl λg y r2 M2 hg y1 y2 y3=>⟨r2,?_,y3,Nat.le_refl _⟩
     simp only [sTest,if_neg (hd y y1),y2,e]
    ·obtain ⟨⟨u,L1⟩,h1,h2⟩:=q1d9 h
     injection h2 with h2
     injection h2 with h2 h3
     subst h2 h3
     obtain ⟨C,c0,c1,c2⟩:=ih1 _ _ _ _ h1
     refine key C c1 λg y r2 M2 hg y1 y2 y3=>?_
     obtain ⟨L2',q1,q2,q3⟩:=c2 g r2 M2 y3 (by omega)
     exact ⟨L2',by simp only [sTest,if_neg (hd y y1),y2,e,q1,thn],q2,by omega⟩
    ·obtain ⟨r1,h1,h⟩:=q1d9 h
     obtain ⟨⟨ts,L1⟩,h2,h⟩:=q1d9 h
     obtain ⟨r2,h3,h⟩:=q1d9 h
     injection h with h
     injection h with h4 h5
     subst h4 h5
     obtain ⟨C,c0,c1,c2⟩:=ih2 _ _ _ _ h2
     refine key ((4,[40])::(C++[(4,[41])])) (by rw [qg9 h1,c1,qg9 h3];simp) λg y r2 M2 hg y1 y2 y3=>?_
     simp only [List.cons_append,List.append_assoc,List.nil_append] at y3
     obtain ⟨w1,v1,v2,v3⟩:=quw y3
     obtain ⟨w2,u1,u2,u3⟩:=c2 g w1 _ v2 (by intro x r e;injection e with e;subst e;simp) (by omega)
     obtain ⟨w3,t1,t2,t3⟩:=quw u2
     exact ⟨w3,by simp only [sTest,if_neg (hd y y1),y2,e,v1,u1,t1,thn],t2,by omega⟩
    ·obtain ⟨r1,h1,h⟩:=q1d9 h
     obtain ⟨⟨ts,L1⟩,h2,h⟩:=q1d9 h
     obtain ⟨r2,h3,h⟩:=q1d9 h
     injection h with h
     injection h with h4 h5
     subst h4 h5
     obtain ⟨C,c0,c1,c2⟩:=ih2 _ _ _ _ h2
     refine key ((4,[40])::(C++[(4,[41])])) (by rw [qg9 h1,c1,qg9 h3];simp) λg y r2 M2 hg y1 y2 y3=>?_
     simp only [List.cons_append,List.append_assoc,List.nil_append] at y3
     obtain ⟨w1,v1,v2,v3⟩:=quw y3
     obtain ⟨w2,u1,u2,u3⟩:=c2 g w1 _ v2 (by intro x r e;injection e with e;subst e;simp) (by omega)
     obtain ⟨w3,t1,t2,t3⟩:=quw u2
     exact ⟨w3,by simp only [sTest,if_neg (hd y y1),y2,e,v1,u1,t1,thn],t2,by omega⟩
    ·obtain ⟨⟨nm,r1⟩,h1,h⟩:=q1d9 h
     obtain ⟨⟨mt,r2⟩,h2,h⟩:=q1d9 h
     injection h with h
     injection h with h4 h5
     subst h4 h5
     obtain ⟨w,m1,m2,m3⟩:=qg8 h2
     refine key [(1,nm),(2,w),(1,mt.2)] (by rw [f_take h1];simp only at m3 ⊢;rw [m3];rfl) λg y r2 M2 hg y1 y2 y3=>?_
     simp only [List.cons_append,List.nil_append] at y3
     obtain ⟨w1,v1,v2,v3⟩:=p_take y3
     obtain ⟨w2,u1,u2,u3⟩:=qk2 m2 v2
     exact ⟨w2,by simp only [sTest,if_neg (hd y y1),y2,e,v1,u1,thn,m1],u2,by omega⟩
    ·obtain ⟨⟨mt,r2⟩,h2,h⟩:=q1d9 h
     injection h with h
     injection h with h4 h5
     subst h4 h5
     obtain ⟨w,m1,m2,m3⟩:=qg8 h2
     refine key [(2,w),(1,mt.2)] (by rw [m3];rfl) λg y r2 M2 hg y1 y2 y3=>?_
     simp only [List.cons_append,List.nil_append] at y3
     obtain ⟨w2,u1,u2,u3⟩:=qk2 m2 y3
     exact ⟨w2,by simp only [sTest,if_neg (hd y y1),y2,e,u1,thn,m1],u2,by omega⟩
    ·obtain ⟨⟨mt,r2⟩,h2,h⟩:=q1d9 h
     injection h with h
     injection h with h4 h5
     subst h4 h5
     obtain ⟨w,m1,m2,m3⟩:=qg8 h2
     refine key [(2,w),(1,mt.2)] (by rw [m3];rfl) λg y r2 M2 hg y1 y2 y3=>?_
     simp only [List.cons_append,List.nil_append] at y3
     obtain ⟨w2,u1,u2,u3⟩:=qk2 m2 y3
     exact ⟨w2,by simp only [sTest,if_neg (hd y y1),y2,e,u1,thn,m1],u2,by omega⟩
    ·obtain ⟨⟨n,r2⟩,h2,h⟩:=q1d9 h
     injection h with h
     injection h with h4 h5
     subst h4 h5
     obtain ⟨s,m1,m2,m3⟩:=f_num h2
     refine key [(3,s)] (by rw [m3];rfl) λg y r2 M2 hg y1 y2 y3=>?_
     simp only [List.cons_append,List.nil_append] at y3
     obtain ⟨w2,u1,u2,u3⟩:=g_num m1 y3
     exact ⟨w2,by simp only [sTest,if_neg (hd y y1),y2,e,u1,thn,m2],u2,by omega⟩
    ·obtain ⟨⟨nm,r1⟩,h1,h⟩:=q1d9 h
     injection h with h
     injection h with h4 h5
     subst h4 h5
     refine key [(1,nm)] (by rw [f_take h1];rfl) λg y r2 M2 hg y1 y2 y3=>?_
     simp only [List.cons_append,List.nil_append] at y3
     obtain ⟨w1,v1,v2,v3⟩:=p_take y3
     exact ⟨w1,by simp only [sTest,if_neg (hd y y1),y2,e,v1,thn],v2,by omega⟩
  ·simp only [sTests] at h
   obtain ⟨⟨t,L1⟩,h1,h⟩:=q1d9 h
   obtain ⟨C,c0,c1,c2⟩:=ih1 _ _ _ _ h1
   simp only at h
   split at h
   ·rename_i hk
    obtain ⟨⟨us,L2⟩,h2,h⟩:=q1d9 h
    injection h with h
    injection h with h4 h5
    subst h4 h5
    obtain ⟨D,d0,d1,d2⟩:=ih2 _ _ _ _ h2
    refine ⟨C++(4,[44])::D,by simp,by rw [c1,qot hk,d1];simp,λf2 L2' M2 e hM hf=>?_⟩
    cases f2 with
    |zero=>omega
    |succ g =>
     rw [List.append_assoc] at e
     obtain ⟨w1,v1,v2,v3⟩:=c2 g L2' _ e (by omega)
     simp only [List.cons_append] at v2
     obtain ⟨k1,k2,k3⟩:=p_isT v2
     obtain ⟨w2,u1,u2,u3⟩:=d2 g w1.tail M2 k2 hM (by omega)
     exact ⟨w2,by simp only [sTests,v1,k1,u1,thn,x20q],u2,by omega⟩
   ·injection h with h
    injection h with h4 h5
    subst h4 h5
    refine ⟨C,c0,c1,λf2 L2' M2 e hM hf=>?_⟩
    cases f2 with
    |zero=>omega
    |succ g =>
     obtain ⟨w1,v1,v2,v3⟩:=c2 g L2' _ e (by omega)
     have hn:=isT_no v2 hM
     exact ⟨w1,by simp only [sTests,v1,hn,thn,x1q,x21q],v2,v3⟩
def FrR (d m:Nat) (r:S38) (L L':List Tok) (m':Nat):Prop:=m'=m+szR r/\∃ w C,w≠wElse/\L.map er=(2,w)::(C++L'.map er)/\∀ f2 m2 L2 M2,L2.map er=(2,w)::(C++M2)->noElse M2->m2+szR r<=100->2*L2.length+3<=f2->∃ L2',sRule f2 d m2 L2=.inr (r,L2',m2+szR r)/\L2'.map er=M2/\L2'.length<L2.length
def FrB (d m:Nat) (l:List S38) (L L':List Tok) (m':Nat):Prop:=m'=m+szL l/\∃ C,L.map er=C++L'.map er/\∀ f2 m2 L2 M2,L2.map er=C++M2->m2+szL l<=100->2*L2.length+3<=f2->∃ L2',sBlock f2 d m2 L2=.inr (l,L2',m2+szL l)/\L2'.map er=M2/\L2'.length<L2.length
def FrSs (d m:Nat) (l:List S38) (L L':List Tok) (m':Nat):Prop:=m'=m+szL l/\stopM (L'.map er)/\∃ C,noElse C/\L.map er=C++L'.map er/\∀ f2 m2 L2 M2,L2.map er=C++M2->noElse M2->m2+szL l<=100->2*L2.length+4<=f2->∃ L2',L2'.map er=M2/\L2'.length<=L2.length/\∀ z m3 (Q:List Tok->Prop),(∀ f3,2*L2'.length+4<=f3->∃ L3,sRules f3 d (m2+szL l) L2'=.inr (z,L3,m3)/\Q L3)->∃ L3,sRules f2 d m2 L2=.inr (l++z,L3,m3)/\Q L3
theorem q18l {d m f:Nat} {L:List Tok} (h:stopM (L.map er)) (hf:2*L.length+4<=f):sRules f d m L=.inr ([],L,m):=by
 cases f with
 |zero=>omega
 |succ f =>
  cases L with
  |nil=>simp [sRules]
  |cons x r =>
   have hs:stopB x=true:=by
    unfold stopB
    rcases h (er x) (r.map er) rfl with h|h
    ·have:x.k=0:=h
     simp [this]
    ·injection h with h1 h2
     have h1:x.k=4:=h1
     have h2:x.s=[125]:=h2
     simp [h1,h2]
   simp only [sRules,hs,x20q]
theorem qtg {M:List (Nat×List UInt8)} (h:stopM M):noElse M:=λx r e e2=>by
 rcases h x r e with h|h
 ·rw [e2] at h;cases h
 ·rw [e2] at h;injection h with h _;cases h
theorem q18k (M:List (Nat×List UInt8)):stopM ((4,[125])::M):=λx r e=>by injection e with e;subst e;exact .inr rfl
theorem qga:∀ f,(∀ d m L r L' m',sRule f d m L=.inr (r,L',m')->FrR d m r L L' m')/\(∀ d m L l L' m',sBlock f d m L=.inr (l,L',m')->FrB d m l L L' m')/\(∀ d m L l L' m',sRules f d m L=.inr (l,L',m')->FrSs d m l L L' m')
 |0=>⟨λd m L t L' m' h=>by simp [sRule] at h,λd m L ts L' m' h=>by simp [sBlock] at h,λd m L ts L' m' h=>by simp [sRules] at h⟩
 |f+1=>by
  obtain ⟨ih1,ih2,ih3⟩:=qga f
  refine ⟨λd m L u L' m' h=>?_,λd m L l L' m' h=>?_,λd m L l L' m' h=>?_⟩
  ·cases L with
   |nil=>simp [sRule] at h
   |cons x r =>
    simp only [sRule] at h
    split at h
    ·cases h
    rename_i hc
    have hxk:x.k=2:=by omega
    have hx:er x=(2,x.s):=by simp only [er,hxk]
    have hd:∀ (y:Tok) m2,y.k=2->m2+1<=100->¬ (100<m2+1∨8<d∨y.k≠2):=λy m2 hy hm=>by omega
    have key:∀ (C:List (Nat×List UInt8)),x.s≠wElse->m'=m+szR u->r.map er=C++L'.map er->(∀ g y m2 r2 M2,2*r2.length+4<=g->y.k=2->y.s=x.s->r2.map er=C++M2->noElse M2->m2+szR u<=100->∃ L2',sRule (g+1) d m2 (y::r2)=.inr (u,L2',m2+szR u)/\L2'.map er=M2/\L2'.length<=r2.length)->FrR d m u (x::r) L' m':=by
     intro C hw hm h1 h2
     refine ⟨hm,x.s,C,hw,by rw [List.map_cons,h1,hx],λf2 m2 L2 M2 e hM hm2 hf=>?_⟩
     obtain ⟨y,r2,rfl,k1,k2,k3⟩:=qrj e
     cases f2 with
     |zero=>omega
     |succ g =>
      simp only [x9q] at hf ⊢
      obtain ⟨L2',q1,q2,q3⟩:=h2 g y m2 r2 M2 (by omega) k1 k2 k3 hM hm2
      exact ⟨L2',q1,q2,by omega⟩
    split at h
    ·rename_i hi
     obtain ⟨⟨t,L1⟩,h1,h⟩:=q1d9 h
     obtain ⟨⟨th,L2,n1⟩,h2,h⟩:=q1d9 h
     obtain ⟨C,c0,c1,c2⟩:=(f_test f).1 _ _ _ _ h1
     obtain ⟨e1,D,d1,d2⟩:=ih2 _ _ _ _ _ _ h2
     simp only at h e1 d1
     split at h
     ·rename_i hk
      obtain ⟨⟨el,L3,n2⟩,h3,h⟩:=q1d9 h
      injection h with h
      injection h with h4 h5
      injection h5 with h5 h6
      subst h4 h5 h6
      obtain ⟨e2,E,g1,g2⟩:=ih2 _ _ _ _ _ _ h3
      have hsz:szR (rul 1 t th el 0 [] [] 0)=1+szL th+szL el:=rfl
      refine key (C++(D++(2,wElse)::E)) (by rw [hi];decide) (by rw [hsz];simp only at e2 ⊢;omega) (by rw [c1,d1,qot hk,g1];simp) λg y m2 r2 M2 hg y1 y2 y3 hM hm2=>?_
      rw [hsz] at hm2 ⊢
      simp only [List.append_assoc,List.cons_append] at y3
      obtain ⟨w1,v1,v2,v3⟩:=c2 g r2 _ y3 (by omega)
      obtain ⟨w2,t1,t2,t3⟩:=d2 g (m2+1) w1 _ v2 (by omega) (by omega)
      obtain ⟨k1,k2,k3⟩:=p_isT t2
      obtain ⟨w3,s1,s2,s3⟩:=g2 g (m2+1+szL th) w2.tail _ k2 (by omega) (by omega)
      refine ⟨w3,?_,s2,by omega⟩
      simp only [sRule,if_neg (hd y m2 y1 (by omega)),y2,hi,x20q,v1,t1,k1,s1,thn]
      rw [show m2+1+szL th+szL el=m2+(1+szL th+szL el) by omega]
     ·rename_i hk
      injection h with h
      injection h with h4 h5
      injection h5 with h5 h6
      subst h4 h5 h6
      have hsz:szR (rul 1 t th [] 0 [] [] 0)=1+szL th+0:=rfl
      refine key (C++D) (by rw [hi];decide) (by rw [hsz];omega) (by rw [c1,d1];simp) λg y m2 r2 M2 hg y1 y2 y3 hM hm2=>?_
      rw [hsz] at hm2 ⊢
      simp only [List.append_assoc,List.cons_append] at y3
      obtain ⟨w1,v1,v2,v3⟩:=c2 g r2 _ y3 (by omega)
      obtain ⟨w2,t1,t2,t3⟩:=d2 g (m2+1) w1 _ v2 (by omega) (by omega)
      have hn:=isT_no t2 hM
      refine ⟨w2,?_,t2,by omega⟩
      simp only [sRule,if_neg (hd y m2 y1 (by omega)),y2,hi,x20q,v1,t1,hn,thn,x1q,x21q]
      rw [show m2+1+szL th=m2+(1+szL th+0) by omega]
    rename_i hi
    split at h
    ·rename_i hs
     obtain ⟨⟨a,L1⟩,h1,h⟩:=q1d9 h
     obtain ⟨⟨b,L2⟩,h2,h⟩:=q1d9 h
     obtain ⟨r3,h3,h⟩:=q1d9 h
     injection h with h
     injection h with h4 h5
     injection h5 with h5 h6
     subst h4 h5 h6
     have hsz:szR (rul 3 t0 [] [] 0 a b 0)=1:=rfl
     have hwi:¬ wSet=wIf:=by decide
     refine key [(2,a),(1,b),(4,[59])] (by rw [hs];decide) (by rw [hsz]) (by rw [f_take h1,f_take h2,qg9 h3];rfl) λg y m2 r2 M2 hg y1 y2 y3 hM hm2=>?_
     rw [hsz] at hm2 ⊢
     simp only [List.cons_append,List.nil_append] at y3
     obtain ⟨w1,v1,v2,v3⟩:=p_take y3
     obtain ⟨w2,u1,u2,u3⟩:=p_take v2
     obtain ⟨w3,t1,t2,t3⟩:=quw u2
     exact ⟨w3,by simp only [sRule,if_neg (hd y m2 y1 (by omega)),y2,hs,if_neg hwi,x20q,v1,u1,t1,thn],t2,by omega⟩
    rename_i hs
    split at h
    ·rename_i hst
     obtain ⟨r3,h3,h⟩:=q1d9 h
     injection h with h
     injection h with h4 h5
     injection h5 with h5 h6
     subst h4 h5 h6
     have hsz:szR (rul 4 t0 [] [] 0 [] [] 0)=1:=rfl
     have hwi:¬ wStop=wIf:=by decide
     have hws:¬ wStop=wSet:=by decide
     refine key [(4,[59])] (by rw [hst];decide) (by rw [hsz]) (by rw [qg9 h3];rfl) λg y m2 r2 M2 hg y1 y2 y3 hM hm2=>?_
     rw [hsz] at hm2 ⊢
     simp only [List.cons_append,List.nil_append] at y3
     obtain ⟨w3,t1,t2,t3⟩:=quw y3
     exact ⟨w3,by simp only [sRule,if_neg (hd y m2 y1 (by omega)),y2,hst,if_neg hwi,if_neg hws,x20q,t1,thn],t2,by omega⟩
    rename_i hst
    split at h
    ·cases h
    rename_i ha
    have hwe:x.s≠wElse:=λe=>by rw [e] at ha;exact absurd (by decide) ha
    split at h
    ·rename_i h6
     obtain ⟨⟨n,L1⟩,h1,h⟩:=q1d9 h
     obtain ⟨r3,h3,h⟩:=q1d9 h
     injection h with h
     injection h with h4 h5
     injection h5 with h5 h7
     subst h4 h5 h7
     obtain ⟨s,m1,m2',m3⟩:=f_num h1
     have hsz:szR (rul 2 t0 [] [] 6 [] [] n)=1:=rfl
     refine key [(3,s),(4,[59])] hwe (by rw [hsz]) (by simp only at h3;rw [m3,qg9 h3];rfl) λg y m2 r2 M2 hg y1 y2 y3 hM hm2=>?_
     rw [hsz] at hm2 ⊢
     simp only [List.cons_append,List.nil_append] at y3
     obtain ⟨w1,v1,v2,v3⟩:=g_num m1 y3
     obtain ⟨w3,t1,t2,t3⟩:=quw v2
     exact ⟨w3,by simp only [sRule,if_neg (hd y m2 y1 (by omega)),y2,if_neg hi,if_neg hs,if_neg hst,if_neg ha,if_pos h6,v1,t1,thn,m2'],t2,by omega⟩
    rename_i h6
    split at h
    ·rename_i htx
     obtain ⟨⟨s,L1⟩,h1,h⟩:=q1d9 h
     obtain ⟨r3,h3,h⟩:=q1d9 h
     injection h with h
     injection h with h4 h5
     injection h5 with h5 h7
     subst h4 h5 h7
     have hsz:szR (rul 2 t0 [] [] (actN x.s) [] s 0)=1:=rfl
     refine key [(1,s),(4,[59])] hwe (by rw [hsz]) (by simp only at h3;rw [f_take h1,qg9 h3];rfl) λg y m2 r2 M2 hg y1 y2 y3 hM hm2=>?_
     rw [hsz] at hm2 ⊢
     simp only [List.cons_append,List.nil_append] at y3
     obtain ⟨w1,v1,v2,v3⟩:=p_take y3
     obtain ⟨w3,t1,t2,t3⟩:=quw v2
     exact ⟨w3,by simp only [sRule,if_neg (hd y m2 y1 (by omega)),y2,if_neg hi,if_neg hs,if_neg hst,if_neg ha,if_neg h6,if_pos htx,v1,t1,thn],t2,by omega⟩
    ·rename_i htx
     obtain ⟨r3,h3,h⟩:=q1d9 h
     injection h with h
     injection h with h4 h5
     injection h5 with h5 h7
     subst h4 h5 h7
     have hsz:szR (rul 2 t0 [] [] (actN x.s) [] [] 0)=1:=rfl
     refine key [(4,[59])] hwe (by rw [hsz]) (by rw [qg9 h3];rfl) λg y m2 r2 M2 hg y1 y2 y3 hM hm2=>?_
     rw [hsz] at hm2 ⊢
     simp only [List.cons_append,List.nil_append] at y3
     obtain ⟨w3,t1,t2,t3⟩:=quw y3
     exact ⟨w3,by simp only [sRule,if_neg (hd y m2 y1 (by omega)),y2,if_neg hi,if_neg hs,if_neg hst,if_neg ha,if_neg h6,if_neg htx,t1,thn],t2,by omega⟩
  ·simp only [sBlock] at h
   obtain ⟨r1,h1,h⟩:=q1d9 h
   obtain ⟨⟨l',L1,n1⟩,h2,h⟩:=q1d9 h
   obtain ⟨r3,h3,h⟩:=q1d9 h
   injection h with h
   injection h with h4 h5
   injection h5 with h5 h6
   subst h4 h5 h6
   obtain ⟨e1,st,C,cn,c1,c2⟩:=ih3 _ _ _ _ _ _ h2
   simp only at h3 e1 c1 c2 ⊢
   refine ⟨e1,(4,[123])::(C++[(4,[125])]),by rw [qg9 h1,c1,qg9 h3];simp,λf2 m2 L2 M2 e hm2 hf=>?_⟩
   cases f2 with
   |zero=>omega
   |succ g =>
    simp only [List.cons_append,List.append_assoc,List.nil_append] at e
    obtain ⟨w1,v1,v2,v3⟩:=quw e
    obtain ⟨w2,u1,u2,u3⟩:=c2 g m2 w1 _ v2 (qtg (q18k M2)) hm2 (by omega)
    obtain ⟨w2',hs,hq⟩:=u3 [] (m2+szL l') (·=w2) λf3 hf3=>⟨w2,q18l (by rw [u1];exact q18k M2) hf3,rfl⟩
    subst hq
    obtain ⟨w3,t1,t2,t3⟩:=quw u1
    refine ⟨w3,?_,t2,by omega⟩
    simp only [sBlock,v1,hs,t1,thn,List.append_nil]
  ·cases L with
   |nil =>
    simp only [sRules] at h
    injection h with h
    injection h with h4 h5
    injection h5 with h5 h6
    subst h4 h5 h6
    exact ⟨rfl,(by intro x r e;cases e),[],(by intro x r e;cases e),rfl,λf2 m2 L2 M2 e hM hm hf=>⟨L2,e,Nat.le_refl _,λz m3 Q hz=>hz f2 hf⟩⟩
   |cons x r =>
    simp only [sRules] at h
    split at h
    ·rename_i hs
     injection h with h
     injection h with h4 h5
     injection h5 with h5 h6
     subst h4 h5 h6
     refine ⟨rfl,?_,[],(by intro x r e;cases e),rfl,λf2 m2 L2 M2 e hM hm hf=>⟨L2,e,Nat.le_refl _,λz m3 Q hz=>hz f2 hf⟩⟩
     intro y r' e
     injection e with e
     subst e
     unfold stopB at hs
     simp only [Bool.or_eq_true,x6q,beq_iff_eq] at hs
     rcases hs with hs|hs
     ·exact .inl hs
     ·exact .inr (Prod.ext hs.1 hs.2)
    ·rename_i hs
     obtain ⟨⟨u,L1,n1⟩,h1,h⟩:=q1d9 h
     obtain ⟨⟨l',L2,n2⟩,h2,h⟩:=q1d9 h
     injection h with h
     injection h with h4 h5
     injection h5 with h5 h6
     subst h4 h5 h6
     obtain ⟨e1,w,C,hw,c1,c2⟩:=ih1 _ _ _ _ _ _ h1
     obtain ⟨e2,st,D,dn,d1,d2⟩:=ih3 _ _ _ _ _ _ h2
     simp only at h2 e1 e2 c1 c2 d1 d2 ⊢
     have hsz:szL (u::l')=szR u+szL l':=rfl
     refine ⟨by rw [hsz];omega,st,(2,w)::(C++D),?_,by rw [c1,d1];simp,λf2 m2 L3 M2 e hM hm2 hf=>?_⟩
     ·intro y r' e e'
      injection e with e
      rw [←e] at e'
      injection e' with _ e'
      exact hw e'
     rw [hsz] at hm2 ⊢
     cases f2 with
     |zero=>omega
     |succ g =>
      simp only [List.cons_append,List.append_assoc] at e
      have hne:noElse (D++M2):=by
       intro y r' e'
       cases D with
       |nil=>exact hM y r' e'
       |cons z D' =>
        simp only [List.cons_append] at e'
        injection e' with e' _
        exact dn y D' (by rw [←e'])
      obtain ⟨w1,v1,v2,v3⟩:=c2 g m2 L3 _ e hne (by omega) (by omega)
      obtain ⟨w2,u1,u2,u3⟩:=d2 g (m2+szR u) w1 M2 v2 hM (by omega) (by omega)
      refine ⟨w2,u1,by omega,λz m3 Q hz=>?_⟩
      obtain ⟨L4,this,hq⟩:=u3 z m3 Q (λf3 hf3=>by rw [Nat.add_assoc];exact hz f3 hf3)
      refine ⟨L4,?_,hq⟩
      obtain ⟨y,r0,rfl,k1,k2,k3⟩:=qrj e
      have hs2:stopB y=false:=by
       have k1':y.k=2:=k1
       unfold stopB;simp [k1']
      simp only [sRules,hs2,x1q,x21q,v1,this,thn,List.cons_append]
end Go.Proofs.YtmlcmoaonaomfaaGreatDoor
namespace Go.Proofs.YtmlcmoaonaomfaaGreatDoor
open Go.RowKit
theorem qqg (b:BA):b.data.toList.length=b.size:=by rw [x24q];rfl
abbrev noTx:BA:=ByteArray.mk (List.toArray [])
theorem q19v (c:UInt8) (l:List UInt8):strq (c::l)=if c=34 then some ([],1) else if c=92 then (match l with
  |[]=>none
  |d::r=>if d=34∨d=92 then (strq r).map λx=>(d::x.1,x.2+2) else none) else (strq l).map λx=>(c::x.1,x.2+1):=by
 cases l with
 |nil=>by_cases h:c=34 <;> simp [strq,h]
 |cons d r=>simp only [strq]
theorem q56 (l:List UInt8):(baL l).data.toList=l:=by simp [baL]
theorem q1dc (l:List UInt8):ByteArray.toList (baL l)=l:=by rw [ByteArray.toList_eq];simp [baL]
theorem beq_ba (l m:List UInt8):(ByteArray.toList (baL l)==ByteArray.toList (baL m))=(l==m):=by rw [q1dc,q1dc]
theorem q57 (a:List UInt8):(baL a).size=a.length:=by simp [baL,ByteArray.size]
def numS (s:List UInt8):Prop:=s≠[]/\s.all digitB=true
def Good:List Tok->Prop
 |[]=>False
 |x::R=>(x.k=3->numS x.s)/\x.s.length<=4000/\(if endK x.k=true then R=[] else Good R)
theorem q19y:∀ (n:Nat) (l:List UInt8),l.length<=n->∀ x,strq l=some x->x.1.length<=x.2
 |_,[],_,x,h=>by simp [strq] at h
 |0,c::l,hl,_,_=>by simp at hl
 |n+1,c::l,hl,x,h=>by
  rw [q19v] at h
  simp only [x9q] at hl
  split at h
  ·injection h with h;subst h;simp
  ·split at h
   ·cases l with
    |nil=>cases h
    |cons d r =>
     simp only at h
     split at h
     ·cases hr:strq r with
      |none=>rw [hr] at h;cases h
      |some y =>
       rw [hr] at h
       injection h with h;subst h
       have:=q19y n r (by simp only [x9q] at hl;omega) y hr
       simp only [x9q];omega
     ·cases h
   ·cases hr:strq l with
    |none=>rw [hr] at h;cases h
    |some y =>
     rw [hr] at h
     injection h with h;subst h
     have:=q19y n l (by omega) y hr
     simp only [x9q];omega
theorem q3o {p:UInt8->Bool} (l:List UInt8):(l.takeWhile p).all p=true:=by
 induction l with
 |nil=>rfl
 |cons c l ih =>
  rw [List.takeWhile_cons]
  split
  ·simp only [x17q,ih,Bool.and_true];assumption
  ·rfl
theorem qqj (l:List UInt8) (hl:l.length<=4000):((lexT l).1.1=3->numS (lexT l).1.2)/\(lexT l).1.2.length<=4000:=by
 cases l with
 |nil=>simp [lexT]
 |cons c r =>
  simp only [x9q] at hl
  simp only [lexT]
  split
  ·cases hq:strq r with
   |none=>simp
   |some x =>
    have h1:=q19y _ r (Nat.le_refl _) x hq
    have h2:=q19x _ r (Nat.le_refl _) x hq
    exact ⟨λh=>by simp at h,by show x.1.length<=4000;omega⟩
  ·split
   ·have:=q1cv smallB r
    exact ⟨λh=>by simp at h,by simp only [x9q];omega⟩
   ·split
    ·rename_i hd
     have:=q1cv digitB r
     refine ⟨λ_=>⟨by simp,?_⟩,by simp only [x9q];omega⟩
     simp only [x17q,q3o,hd,x4q]
    ·exact ⟨λh=>by simp at h,by simp⟩
theorem qka:∀ (n:Nat) (l:List UInt8) (o:Nat),l.length<=n->n<=4000->Good (toksF l o):=by
 intro n
 induction n using Nat.strongRecOn with
 |_ n ih =>
  intro l o hl hn
  rw [q1dd]
  have h1:=qqk (l.drop (wsN l))
  have h2:=wsN_le l
  have h3:=qqj (l.drop (wsN l)) (by rw [List.length_drop];omega)
  rw [List.length_drop] at h1
  refine ⟨h3.1,h3.2,?_⟩
  split
  ·rfl
  ·rename_i hk
   have hk':endK (lexT (l.drop (wsN l))).1.1=false:=by simpa using hk
   have h4:=h1.2 hk'
   exact ih (l.length - (wsN l+(lexT (l.drop (wsN l))).2)) (by omega) _ _ (by rw [List.length_drop];exact Nat.le_refl _) (by omega)
theorem qtp:∀ (s:List UInt8),s.all digitB=true->∀ n:Nat,s.foldl (λn c=>10*n+(c.toNat - 48)) n<(n+1)*10 ^ s.length:=by
 intro s
 induction s with
 |nil=>intro _ n;simp
 |cons c s ih =>
  intro h n
  simp only [x17q,x6q] at h
  have hd:c.toNat<=57:=by have:=h.1;simp [digitB] at this;omega
  have:=ih h.2 (10*n+(c.toNat - 48))
  simp only [List.foldl_cons,x9q,Nat.pow_succ]
  have h2:(10*n+(c.toNat - 48)+1)*10 ^ s.length<=(10*(n+1))*10 ^ s.length:=Nat.mul_le_mul_right _ (by omega)
  have h3:(10*(n+1))*10 ^ s.length=(n+1)*(10 ^ s.length*10):=by rw [Nat.mul_comm 10,Nat.mul_assoc,Nat.mul_comm 10]
  omega
theorem qcc:∀ (n:Nat) (s:List UInt8),s.length<=n->s≠[]->s.all digitB=true->(1<s.length->s.head?≠some 48)->Lib.decDigits (numV s)=s:=by
 intro n
 induction n with
 |zero=>intro s h1 h2;exact absurd (List.eq_nil_of_length_eq_zero (by omega)) h2
 |succ n ih =>
  intro s hl hne ha hh
  rcases List.eq_nil_or_concat s with rfl|⟨a,c,rfl⟩
  ·exact absurd rfl hne
  rw [List.concat_eq_append] at *
  simp only [List.all_append,x17q,x23q,Bool.and_true,x6q] at ha
  have hd:48<=c.toNat/\c.toNat<=57:=by have:=ha.2;simp [digitB] at this;omega
  have hc:UInt8.ofNat (48+(c.toNat - 48))=c:=by rw [show 48+(c.toNat - 48)=c.toNat by omega];exact UInt8.ofNat_toNat
  rw [qtq]
  by_cases h0:a=[]
  ·subst h0
   rw [show 10*numV []+(c.toNat - 48)=c.toNat - 48 by simp [numV],Lib.decDigits,dif_pos (by omega),hc]
   rfl
  ·have hla:0<a.length:=List.length_pos_iff.2 h0
   have hha:a.head?≠some 48:=by
    have:=hh (by simp;omega)
    cases a with
    |nil=>exact absurd rfl h0
    |cons x a=>simpa using this
   have hpos:1<=numV a:=by
    rcases Nat.eq_zero_or_pos (numV a) with h|h
    ·have e:=ih a (by simp at hl;omega) h0 ha.1 (λ_=>hha)
     rw [h,Lib.decDigits,dif_pos (by omega)] at e
     rw [←e] at hha
     exact absurd rfl hha
    ·exact h
   have e:=ih a (by simp at hl;omega) h0 ha.1 (λ_=>hha)
   rw [Lib.decDigits,dif_neg (by omega),show (10*numV a+(c.toNat - 48)) / 10=numV a by omega,show (10*numV a+(c.toNat - 48)) % 10=c.toNat - 48 by omega,e,hc]
theorem num_ok {s:List UInt8} (h:numS s):(s=Lib.decDigits (numV s)/\numV s<=9999999) ↔ numOk s=true:=by
 obtain ⟨hne,ha⟩:=h
 have hlen:0<s.length:=List.length_pos_iff.2 hne
 constructor
 ·rintro ⟨h1,h2⟩
  have hl:s.length<=7:=by rw [h1];exact qc9 6 _ (by omega)
  simp only [numOk,hl,decide_true,Bool.true_and,Bool.not_eq_true',Bool.and_eq_false_iff,decide_eq_false_iff_not]
  by_cases h3:1<s.length
  ·right
   have hp:1<=numV s:=by
    rcases Nat.eq_zero_or_pos (numV s) with h|h
    ·rw [h,Lib.decDigits,dif_pos (by omega)] at h1
     rw [h1] at h3;simp at h3
    ·exact h
   have:=qc8 (numV s) hp
   rw [←h1] at this
   simpa using this
  ·exact .inl h3
 ·intro h
  simp only [numOk,x6q,decide_eq_true_eq,Bool.not_eq_true',Bool.and_eq_false_iff,decide_eq_false_iff_not] at h
  refine ⟨(qcc _ s (Nat.le_refl _) hne ha λh1=>?_).symm,?_⟩
  ·rcases h.2 with h2|h2
   ·exact absurd h1 h2
   ·simpa using h2
  ·have:=qtp s ha 0
   have h7:10 ^ s.length<=10 ^ 7:=Nat.pow_le_pow_right (by decide) h.1
   have h7:10 ^ s.length<=10000000:=h7
   unfold numV
   omega
theorem eta_T (t:S35):(⟨t.Kind,t.Tests,t.Name,t.Pattern,t.Text,t.N⟩:S35)=t:=by cases t;rfl
abbrev TT:=Int×List S35×BA×Int×BA×Int
abbrev tup (t:S35):TT:=(t.Kind,t.Tests,t.Name,t.Pattern,t.Text,t.N)
theorem one_T (t:S35):([[C.int IntKind.i64 t.Kind,C.sl (qcu.encL t.Tests),C.str t.Name,C.int IntKind.i64 t.Pattern,C.str t.Text,C.int IntKind.i64 t.N]]:List (List C))=qcu.encL [t]:=by
 rw [lit_35,eta_T];rfl
theorem apd_T (l:List S35) (t:S35):qcu.encL l++[[C.int IntKind.i64 t.Kind,C.sl (qcu.encL t.Tests),C.str t.Name,C.int IntKind.i64 t.Pattern,C.str t.Text,C.int IntKind.i64 t.N]]=qcu.encL (l++[t]):=by
 rw [q3z,eta_T]
theorem qqf {f d:Nat} {L:List Tok} {y:S35×List Tok} (h:sTest f d L=.inr y):y.2.length<L.length:=by
 obtain ⟨C,h1,h2,_⟩:=(f_test f).1 d L y.1 y.2 h
 have:=congrArg List.length h2
 simp only [List.length_map,x12q] at this
 have h3:0<C.length:=List.length_pos_iff.2 h1
 omega
abbrev RTp:=Int×Int×List S35×BA×Int×BA×Int×List S38×List S38×Int×BA×BA×Int
abbrev tupR (r:S38):RTp:=(r.Kind,r.Test_Kind,r.Test_Tests,r.Test_Name,r.Test_Pattern,r.Test_Text,r.Test_N,r.Then,r.Else,r.Act,r.Name,r.Text,r.N)
theorem eta_R (r:S38):(⟨r.Kind,r.Test_Kind,r.Test_Tests,r.Test_Name,r.Test_Pattern,r.Test_Text,r.Test_N,r.Then,r.Else,r.Act,r.Name,r.Text,r.N⟩:S38)=r:=by cases r;rfl
theorem apd_R (l:List S38) (r:S38):qcw.encL l++[[C.int IntKind.i64 r.Kind,C.int IntKind.i64 r.Test_Kind,C.sl (qcu.encL r.Test_Tests),C.str r.Test_Name,C.int IntKind.i64 r.Test_Pattern,C.str r.Test_Text,C.int IntKind.i64 r.Test_N,C.sl (qcw.encL r.Then),C.sl (qcw.encL r.Else),C.int IntKind.i64 r.Act,C.str r.Name,C.str r.Text,C.int IntKind.i64 r.N]]=qcw.encL (l++[r]):=by
 rw [q41,eta_R]
theorem qqe {f d m:Nat} {L:List Tok} {y:S38×List Tok×Nat} (h:sRule f d m L=.inr y):y.2.1.length<L.length:=by
 obtain ⟨_,w,C,_,h2,_⟩:=(qga f).1 d m L y.1 y.2.1 y.2.2 h
 have:=congrArg List.length h2
 simp only [List.length_map,x12q,x9q] at this
 omega
theorem qqd {f d m:Nat} {L:List Tok} {y:List S38×List Tok×Nat} (h:sBlock f d m L=.inr y):y.2.1.length<=L.length:=by
 obtain ⟨_,C,h2,_⟩:=(qga f).2.1 d m L y.1 y.2.1 y.2.2 h
 have:=congrArg List.length h2
 simp only [List.length_map,x12q] at this
 omega
end Go.Proofs.YtmlcmoaonaomfaaGreatDoor
