/- Tokens that are read: what a reader has read. -/
import Derived.Test.YtmlcmoaonaomfaaGreatDoorZ18
namespace Go.Proofs.YtmlcmoaonaomfaaGreatDoor
open Go.RowKit
theorem qav (n:Nat):(Lib.decDigits n).all digitB=true/\Lib.decDigits n≠[]:=by
 induction n using Nat.strongRecOn with
 |_ n ih =>
  rw [Lib.decDigits];split
  ·rename_i h
   refine ⟨?_,by simp⟩
   simp only [x17q,x23q,Bool.and_true,digitB,x6q,y45q];rw [y47q];omega
  ·rename_i h
   obtain ⟨h1,_⟩:=ih (n / 10) (by omega)
   refine ⟨?_,by simp⟩
   rw [List.all_append,h1];simp only [x17q,x23q,Bool.and_true,Bool.true_and,digitB,x6q,y45q];rw [y47q];omega
theorem qsu {L:List Tok} {y:Nat×List UInt8} {M:List (Nat×List UInt8)} (h:L.map er=y::M):∃ x r,L=x::r/\x.k=y.1/\x.s=y.2/\r.map er=M:=by
 cases L with
 |nil=>cases h
 |cons x r =>
  rw [y20q] at h;injection h with h1 h2
  exact ⟨x,r,rfl,by rw [←h1];rfl,by rw [←h1];rfl,h2⟩
theorem qwp {L:List Tok} {k:Nat} {s:List UInt8} {M:List (Nat×List UInt8)} (h:L.map er=(k,s)::M):∃ r,sTake k L=.inr (s,r)/\r.map er=M/\r.length+1=L.length:=by obtain ⟨x,r,rfl,h1,h2,h3⟩:=qsu h;simp only at h1 h2;exact ⟨r,by simp only [sTake,h1,x20q,h2],h3,rfl⟩
theorem p_isT {L:List Tok} {k:Nat} {s:List UInt8} {M:List (Nat×List UInt8)} (h:L.map er=(k,s)::M):isT k s L=true/\L.tail.map er=M/\L.tail.length+1=L.length:=by obtain ⟨x,r,rfl,h1,h2,h3⟩:=qsu h;simp only at h1 h2;exact ⟨by simp [isT,h1,h2],h3,rfl⟩
theorem qwn {L:List Tok} {s:List UInt8} {M:List (Nat×List UInt8)} (h:L.map er=(4,s)::M):∃ r,sNeed s L=.inr r/\r.map er=M/\r.length+1=L.length:=by obtain ⟨h1,h2,h3⟩:=p_isT h;exact ⟨L.tail,by unfold sNeed;rw [if_pos h1],h2,h3⟩
theorem qva (a:List UInt8) (c:UInt8):numV (a++[c])=10*numV a+(c.toNat - 48):=by simp [numV,List.foldl_append]
theorem qay:∀ (k n:Nat),n<10 ^ (k+1)->(Lib.decDigits n).length<=k+1
 |0,n,h=>by
  rw [Lib.decDigits,dif_pos (by simpa using h)]
  simp
 |k+1,n,h=>by
  rw [Lib.decDigits];split
  ·simp
  ·rw [x12q]
   have:=qay k (n / 10) (by rw [Nat.pow_succ] at h;omega)
   simp only [List.length_singleton];omega
theorem qax (n:Nat) (h:1<=n):(Lib.decDigits n).head?≠some 48:=by
 induction n using Nat.strongRecOn with
 |_ n ih =>
  rw [Lib.decDigits];split
  ·rename_i h1
   simp only [List.head?_cons,ne_eq,y19q];intro e;have:=congrArg UInt8.toNat e
   rw [y47q] at this;have e2:(48:UInt8).toNat=48:=rfl
   omega
  ·rename_i h1
   rw [List.head?_append];have:=ih (n / 10) (by omega) (by omega)
   cases hd:(Lib.decDigits (n / 10)).head? with
   |none=>rw [List.head?_eq_none_iff] at hd;exact absurd hd (qav _).2
   |some c=>rw [hd] at this;simpa using this
def stopM (M:List (Nat×List UInt8)):Prop:=∀ x r,M=x::r->x.1=0∨x=(4,[125])
def noElse (M:List (Nat×List UInt8)):Prop:=∀ x r,M=x::r->x≠(2,wElse)
theorem q1ig:∀ (f:Nat) (l:List UInt8) (o:Nat),(toks f l o).length<=f
 |0,_,_=>Nat.le_refl _
 |f+1,l,o=>by
  simp only [toks,x9q];split
  ·simp
  ·have:=q1ig f (l.drop (wsN l+(lexT (l.drop (wsN l))).2)) (o+wsN l+(lexT (l.drop (wsN l))).2)
   omega
theorem q1i6 {α β:Type} {x:Nat⊕α} {f:α->Nat⊕β} {b:β} (h:thn x f=.inr b):∃ a,x=.inr a/\f a=.inr b:=by
 cases x with
 |inl o=>cases h
 |inr a=>exact ⟨a,rfl,h⟩
theorem f_take {k:Nat} {L L':List Tok} {s:List UInt8} (h:sTake k L=.inr (s,L')):L.map er=(k,s)::L'.map er:=by
 cases L with
 |nil=>cases h
 |cons x r =>
  simp only [sTake] at h;split at h
  ·rename_i hk
   injection h with h;injection h with h1 h2;subst h1 h2 hk;rfl
  ·cases h
theorem qi7 {s:List UInt8} {L L':List Tok} (h:sNeed s L=.inr L'):L.map er=(4,s)::L'.map er:=by
 unfold sNeed at h;split at h
 ·rename_i hk
  injection h with h;subst h;cases L with
  |nil=>cases hk
  |cons x r =>simp only [isT,x6q,beq_iff_eq] at hk;simp only [y20q,List.tail_cons,er,hk.1,hk.2]
 ·cases h
theorem f_num {L L':List Tok} {n:Nat} (h:sNum L=.inr (n,L')):∃ s,numOk s=true/\numV s=n/\L.map er=(3,s)::L'.map er:=by
 cases L with
 |nil=>cases h
 |cons x r =>
  simp only [sNum] at h;split at h
  ·rename_i hk
   injection h with h;injection h with h1 h2;subst h1 h2;exact ⟨x.s,hk.2,rfl,by simp only [y20q,er,hk.1]⟩
  ·cases h
theorem g_num {L:List Tok} {s:List UInt8} {M:List (Nat×List UInt8)} (hs:numOk s=true) (h:L.map er=(3,s)::M):∃ r,sNum L=.inr (numV s,r)/\r.map er=M/\r.length+1=L.length:=by obtain ⟨x,r,rfl,h1,h2,h3⟩:=qsu h;simp only at h1 h2;refine ⟨r,?_,h3,rfl⟩;simp only [sNum,h1,h2,hs,and_self,x20q]
theorem qi6 {L L':List Tok} {y:Nat×List UInt8} (h:sMatch L=.inr (y,L')):∃ w,matchN w=y.1/\matchN w≠0/\L.map er=(2,w)::(1,y.2)::L'.map er:=by
 cases L with
 |nil=>cases h
 |cons x r =>
  simp only [sMatch] at h;split at h
  ·rename_i hk
   obtain ⟨a,h1,h2⟩:=q1i6 h;injection h2 with h2
   injection h2 with h2 h3;subst h2 h3;obtain ⟨s,r2⟩:=a;exact ⟨x.s,rfl,hk.2,by simp only [y20q,er,hk.1];rw [f_take h1]⟩
  ·cases h
theorem qm0 {L:List Tok} {w s:List UInt8} (hw:matchN w≠0) {M:List (Nat×List UInt8)} (h:L.map er=(2,w)::(1,s)::M):∃ r,sMatch L=.inr ((matchN w,s),r)/\r.map er=M/\r.length+2=L.length:=by
 obtain ⟨x,r,rfl,h1,h2,h3⟩:=qsu h;obtain ⟨r2,g1,g2,g3⟩:=qwp h3;simp only at h1 h2;refine ⟨r2,?_,g2,by simp only [x9q];omega⟩
 simp only [sMatch,h1,h2,g1,thn,true_and];rw [if_pos hw]
theorem q1hp (s:List UInt8):testN s<=9:=by
 unfold testN
 repeat' split
 all_goals omega
def noComma (M:List (Nat×List UInt8)):Prop:=∀ x r,M=x::r->x≠(4,[44])
theorem isT_no {k:Nat} {s:List UInt8} {L:List Tok} {M:List (Nat×List UInt8)} (h:L.map er=M) (hM:∀ x r,M=x::r->x≠(k,s)):isT k s L=false:=by
 cases L with
 |nil=>rfl
 |cons y r =>
  have:=hM (er y) (r.map er) (by rw [←h];rfl)
  simp only [isT];cases e:y.k==k&&y.s==s with
  |false=>rfl
  |true =>simp only [x6q,beq_iff_eq] at e;exact absurd (Prod.ext e.1 e.2) this
theorem qq0 {k:Nat} {s:List UInt8} {L:List Tok} (h:isT k s L=true):L.map er=(k,s)::L.tail.map er:=by
 cases L with
 |nil=>cases h
 |cons x r =>simp only [isT,x6q,beq_iff_eq] at h;simp only [y20q,List.tail_cons,er,h.1,h.2]
def FrT (d:Nat) (t:S35) (L L':List Tok):Prop:=∃ C,C≠[]/\L.map er=C++L'.map er/\∀ f2 L2 M2,L2.map er=C++M2->2*L2.length+1<=f2->∃ L2',sTest f2 d L2=.inr (t,L2')/\L2'.map er=M2/\L2'.length<L2.length
def FrTs (d:Nat) (ts:List S35) (L L':List Tok):Prop:=∃ C,C≠[]/\L.map er=C++L'.map er/\∀ f2 L2 M2,L2.map er=C++M2->noComma M2->2*L2.length+2<=f2->∃ L2',sTests f2 d L2=.inr (ts,L2')/\L2'.map er=M2/\L2'.length<L2.length
theorem f_test:∀ f,(∀ d L t L',sTest f d L=.inr (t,L')->FrT d t L L')/\(∀ d L ts L',sTests f d L=.inr (ts,L')->FrTs d ts L L')
 |0=>⟨λd L t L' h=>by simp [sTest] at h,λd L ts L' h=>by simp [sTests] at h⟩
 |f+1=>by
  obtain ⟨ih1,ih2⟩:=f_test f;refine ⟨λd L t L' h=>?_,λd L ts L' h=>?_⟩
  ·cases L with
   |nil=>simp [sTest] at h
   |cons x r =>
    simp only [sTest] at h;split at h
    ·cases h
    rename_i hc;have hxk:x.k=2:=by omega
    have hx:er x=(2,x.s):=by simp only [er,hxk]
    have key:∀ (C:List (Nat×List UInt8)),r.map er=C++L'.map er->(∀ g y r2 M2,2*r2.length+2<=g->y.k=2->y.s=x.s->r2.map er=C++M2->∃ L2',sTest (g+1) d (y::r2)=.inr (t,L2')/\L2'.map er=M2/\L2'.length<=r2.length)->FrT d t (x::r) L':=by
     intro C h1 h2;refine ⟨er x::C,by simp,by rw [y20q,h1];rfl,λf2 L2 M2 e hf=>?_⟩
     rw [hx] at e;obtain ⟨y,r2,rfl,k1,k2,k3⟩:=qsu e;cases f2 with
     |zero=>omega
     |succ g =>
      simp only [x9q] at hf ⊢;obtain ⟨L2',q1,q2,q3⟩:=h2 g y r2 M2 (by omega) k1 k2 k3
      exact ⟨L2',q1,q2,by omega⟩
    have hN:testN x.s=0∨testN x.s=1∨testN x.s=2∨testN x.s=3∨testN x.s=4∨testN x.s=5∨testN x.s=6∨testN x.s=7∨testN x.s=8∨testN x.s=9:=by have:=q1hp x.s;omega
    have hd:∀ y:Tok,y.k=2->¬ (8<d∨y.k≠2):=λy hy=>by omega
    rcases hN with e|e|e|e|e|e|e|e|e|e <;> simp only [e] at h
    ·cases h
    ·injection h with h
     injection h with h1 h2;subst h1 h2;refine key [] rfl λg y r2 M2 hg y1 y2 y3=>⟨r2,?_,y3,Nat.le_refl _⟩;simp only [sTest,if_neg (hd y y1),y2,e]
    ·obtain ⟨⟨u,L1⟩,h1,h2⟩:=q1i6 h
     injection h2 with h2;injection h2 with h2 h3;subst h2 h3;obtain ⟨C,c0,c1,c2⟩:=ih1 _ _ _ _ h1;refine key C c1 λg y r2 M2 hg y1 y2 y3=>?_;obtain ⟨L2',q1,q2,q3⟩:=c2 g r2 M2 y3 (by omega)
     exact ⟨L2',by simp only [sTest,if_neg (hd y y1),y2,e,q1,thn],q2,by omega⟩
    ·obtain ⟨r1,h1,h⟩:=q1i6 h
     obtain ⟨⟨ts,L1⟩,h2,h⟩:=q1i6 h;obtain ⟨r2,h3,h⟩:=q1i6 h;injection h with h
     injection h with h4 h5;subst h4 h5;obtain ⟨C,c0,c1,c2⟩:=ih2 _ _ _ _ h2;refine key ((4,[40])::(C++[(4,[41])])) (by rw [qi7 h1,c1,qi7 h3];simp) λg y r2 M2 hg y1 y2 y3=>?_
     simp only [y8q,y12q,y14q] at y3;obtain ⟨w1,v1,v2,v3⟩:=qwn y3;obtain ⟨w2,u1,u2,u3⟩:=c2 g w1 _ v2 (by intro x r e;injection e with e;subst e;simp) (by omega)
     obtain ⟨w3,t1,t2,t3⟩:=qwn u2;exact ⟨w3,by simp only [sTest,if_neg (hd y y1),y2,e,v1,u1,t1,thn],t2,by omega⟩
    ·obtain ⟨r1,h1,h⟩:=q1i6 h
     obtain ⟨⟨ts,L1⟩,h2,h⟩:=q1i6 h;obtain ⟨r2,h3,h⟩:=q1i6 h;injection h with h
     injection h with h4 h5;subst h4 h5;obtain ⟨C,c0,c1,c2⟩:=ih2 _ _ _ _ h2;refine key ((4,[40])::(C++[(4,[41])])) (by rw [qi7 h1,c1,qi7 h3];simp) λg y r2 M2 hg y1 y2 y3=>?_
     simp only [y8q,y12q,y14q] at y3;obtain ⟨w1,v1,v2,v3⟩:=qwn y3;obtain ⟨w2,u1,u2,u3⟩:=c2 g w1 _ v2 (by intro x r e;injection e with e;subst e;simp) (by omega)
     obtain ⟨w3,t1,t2,t3⟩:=qwn u2;exact ⟨w3,by simp only [sTest,if_neg (hd y y1),y2,e,v1,u1,t1,thn],t2,by omega⟩
    ·obtain ⟨⟨nm,r1⟩,h1,h⟩:=q1i6 h
     obtain ⟨⟨mt,r2⟩,h2,h⟩:=q1i6 h;injection h with h
     injection h with h4 h5;subst h4 h5;obtain ⟨w,m1,m2,m3⟩:=qi6 h2;refine key [(1,nm),(2,w),(1,mt.2)] (by rw [f_take h1];simp only at m3 ⊢;rw [m3];rfl) λg y r2 M2 hg y1 y2 y3=>?_
     simp only [y8q,y14q] at y3;obtain ⟨w1,v1,v2,v3⟩:=qwp y3;obtain ⟨w2,u1,u2,u3⟩:=qm0 m2 v2;exact ⟨w2,by simp only [sTest,if_neg (hd y y1),y2,e,v1,u1,thn,m1],u2,by omega⟩
    ·obtain ⟨⟨mt,r2⟩,h2,h⟩:=q1i6 h
     injection h with h;injection h with h4 h5;subst h4 h5;obtain ⟨w,m1,m2,m3⟩:=qi6 h2;refine key [(2,w),(1,mt.2)] (by rw [m3];rfl) λg y r2 M2 hg y1 y2 y3=>?_
     simp only [y8q,y14q] at y3;obtain ⟨w2,u1,u2,u3⟩:=qm0 m2 y3;exact ⟨w2,by simp only [sTest,if_neg (hd y y1),y2,e,u1,thn,m1],u2,by omega⟩
    ·obtain ⟨⟨mt,r2⟩,h2,h⟩:=q1i6 h
     injection h with h;injection h with h4 h5;subst h4 h5;obtain ⟨w,m1,m2,m3⟩:=qi6 h2;refine key [(2,w),(1,mt.2)] (by rw [m3];rfl) λg y r2 M2 hg y1 y2 y3=>?_
     simp only [y8q,y14q] at y3;obtain ⟨w2,u1,u2,u3⟩:=qm0 m2 y3;exact ⟨w2,by simp only [sTest,if_neg (hd y y1),y2,e,u1,thn,m1],u2,by omega⟩
    ·obtain ⟨⟨n,r2⟩,h2,h⟩:=q1i6 h
     injection h with h;injection h with h4 h5;subst h4 h5;obtain ⟨s,m1,m2,m3⟩:=f_num h2;refine key [(3,s)] (by rw [m3];rfl) λg y r2 M2 hg y1 y2 y3=>?_
     simp only [y8q,y14q] at y3;obtain ⟨w2,u1,u2,u3⟩:=g_num m1 y3;exact ⟨w2,by simp only [sTest,if_neg (hd y y1),y2,e,u1,thn,m2],u2,by omega⟩
    ·obtain ⟨⟨nm,r1⟩,h1,h⟩:=q1i6 h
     injection h with h;injection h with h4 h5;subst h4 h5;refine key [(1,nm)] (by rw [f_take h1];rfl) λg y r2 M2 hg y1 y2 y3=>?_
     simp only [y8q,y14q] at y3;obtain ⟨w1,v1,v2,v3⟩:=qwp y3;exact ⟨w1,by simp only [sTest,if_neg (hd y y1),y2,e,v1,thn],v2,by omega⟩
  ·simp only [sTests] at h
   obtain ⟨⟨t,L1⟩,h1,h⟩:=q1i6 h;obtain ⟨C,c0,c1,c2⟩:=ih1 _ _ _ _ h1;simp only at h;split at h
   ·rename_i hk
    obtain ⟨⟨us,L2⟩,h2,h⟩:=q1i6 h;injection h with h
    injection h with h4 h5;subst h4 h5;obtain ⟨D,d0,d1,d2⟩:=ih2 _ _ _ _ h2;refine ⟨C++(4,[44])::D,by simp,by rw [c1,qq0 hk,d1];simp,λf2 L2' M2 e hM hf=>?_⟩
    cases f2 with
    |zero=>omega
    |succ g =>
     rw [y12q] at e;obtain ⟨w1,v1,v2,v3⟩:=c2 g L2' _ e (by omega)
     simp only [y8q] at v2;obtain ⟨k1,k2,k3⟩:=p_isT v2;obtain ⟨w2,u1,u2,u3⟩:=d2 g w1.tail M2 k2 hM (by omega)
     exact ⟨w2,by simp only [sTests,v1,k1,u1,thn,x20q],u2,by omega⟩
   ·injection h with h
    injection h with h4 h5;subst h4 h5;refine ⟨C,c0,c1,λf2 L2' M2 e hM hf=>?_⟩;cases f2 with
    |zero=>omega
    |succ g =>
     obtain ⟨w1,v1,v2,v3⟩:=c2 g L2' _ e (by omega)
     have hn:=isT_no v2 hM;exact ⟨w1,by simp only [sTests,v1,hn,thn,x1q,x21q],v2,v3⟩
def FrR (d m:Nat) (r:S38) (L L':List Tok) (m':Nat):Prop:=m'=m+szR r/\∃ w C,w≠wElse/\L.map er=(2,w)::(C++L'.map er)/\∀ f2 m2 L2 M2,L2.map er=(2,w)::(C++M2)->noElse M2->m2+szR r<=100->2*L2.length+3<=f2->∃ L2',sRule f2 d m2 L2=.inr (r,L2',m2+szR r)/\L2'.map er=M2/\L2'.length<L2.length
def FrB (d m:Nat) (l:List S38) (L L':List Tok) (m':Nat):Prop:=m'=m+szL l/\∃ C,L.map er=C++L'.map er/\∀ f2 m2 L2 M2,L2.map er=C++M2->m2+szL l<=100->2*L2.length+3<=f2->∃ L2',sBlock f2 d m2 L2=.inr (l,L2',m2+szL l)/\L2'.map er=M2/\L2'.length<L2.length
def FrSs (d m:Nat) (l:List S38) (L L':List Tok) (m':Nat):Prop:=m'=m+szL l/\stopM (L'.map er)/\∃ C,noElse C/\L.map er=C++L'.map er/\∀ f2 m2 L2 M2,L2.map er=C++M2->noElse M2->m2+szL l<=100->2*L2.length+4<=f2->∃ L2',L2'.map er=M2/\L2'.length<=L2.length/\∀ z m3 (Q:List Tok->Prop),(∀ f3,2*L2'.length+4<=f3->∃ L3,sRules f3 d (m2+szL l) L2'=.inr (z,L3,m3)/\Q L3)->∃ L3,sRules f2 d m2 L2=.inr (l++z,L3,m3)/\Q L3
theorem q1dt {d m f:Nat} {L:List Tok} (h:stopM (L.map er)) (hf:2*L.length+4<=f):sRules f d m L=.inr ([],L,m):=by
 cases f with
 |zero=>omega
 |succ f =>
  cases L with
  |nil=>simp [sRules]
  |cons x r =>
   have hs:stopB x=true:=by
    unfold stopB;rcases h (er x) (r.map er) rfl with h|h
    ·have:x.k=0:=h
     simp [this]
    ·injection h with h1 h2
     have h1:x.k=4:=h1;have h2:x.s=[125]:=h2
     simp [h1,h2]
   simp only [sRules,hs,x20q]
theorem quz {M:List (Nat×List UInt8)} (h:stopM M):noElse M:=λx r e e2=>by
 rcases h x r e with h|h
 ·rw [e2] at h;cases h
 ·rw [e2] at h;injection h with h _;cases h
theorem q1ds (M:List (Nat×List UInt8)):stopM ((4,[125])::M):=λx r e=>by injection e with e;subst e;exact .inr rfl
theorem qi8:∀ f,(∀ d m L r L' m',sRule f d m L=.inr (r,L',m')->FrR d m r L L' m')/\(∀ d m L l L' m',sBlock f d m L=.inr (l,L',m')->FrB d m l L L' m')/\(∀ d m L l L' m',sRules f d m L=.inr (l,L',m')->FrSs d m l L L' m')
 |0=>⟨λd m L t L' m' h=>by simp [sRule] at h,λd m L ts L' m' h=>by simp [sBlock] at h,λd m L ts L' m' h=>by simp [sRules] at h⟩
 |f+1=>by
  obtain ⟨ih1,ih2,ih3⟩:=qi8 f;refine ⟨λd m L u L' m' h=>?_,λd m L l L' m' h=>?_,λd m L l L' m' h=>?_⟩
  ·cases L with
   |nil=>simp [sRule] at h
   |cons x r =>
    simp only [sRule] at h;split at h
    ·cases h
    rename_i hc;have hxk:x.k=2:=by omega
    have hx:er x=(2,x.s):=by simp only [er,hxk]
    have hd:∀ (y:Tok) m2,y.k=2->m2+1<=100->¬ (100<m2+1∨8<d∨y.k≠2):=λy m2 hy hm=>by omega
    have key:∀ (C:List (Nat×List UInt8)),x.s≠wElse->m'=m+szR u->r.map er=C++L'.map er->(∀ g y m2 r2 M2,2*r2.length+4<=g->y.k=2->y.s=x.s->r2.map er=C++M2->noElse M2->m2+szR u<=100->∃ L2',sRule (g+1) d m2 (y::r2)=.inr (u,L2',m2+szR u)/\L2'.map er=M2/\L2'.length<=r2.length)->FrR d m u (x::r) L' m':=by
     intro C hw hm h1 h2;refine ⟨hm,x.s,C,hw,by rw [y20q,h1,hx],λf2 m2 L2 M2 e hM hm2 hf=>?_⟩
     obtain ⟨y,r2,rfl,k1,k2,k3⟩:=qsu e;cases f2 with
     |zero=>omega
     |succ g =>
      simp only [x9q] at hf ⊢;obtain ⟨L2',q1,q2,q3⟩:=h2 g y m2 r2 M2 (by omega) k1 k2 k3 hM hm2
      exact ⟨L2',q1,q2,by omega⟩
    split at h
    ·rename_i hi
     obtain ⟨⟨t,L1⟩,h1,h⟩:=q1i6 h;obtain ⟨⟨th,L2,n1⟩,h2,h⟩:=q1i6 h;obtain ⟨C,c0,c1,c2⟩:=(f_test f).1 _ _ _ _ h1;obtain ⟨e1,D,d1,d2⟩:=ih2 _ _ _ _ _ _ h2;simp only at h e1 d1;split at h
     ·rename_i hk
      obtain ⟨⟨el,L3,n2⟩,h3,h⟩:=q1i6 h;injection h with h
      injection h with h4 h5;injection h5 with h5 h6;subst h4 h5 h6;obtain ⟨e2,E,g1,g2⟩:=ih2 _ _ _ _ _ _ h3;have hsz:szR (rul 1 t th el 0 [] [] 0)=1+szL th+szL el:=rfl
      refine key (C++(D++(2,wElse)::E)) (by rw [hi];decide) (by rw [hsz];simp only at e2 ⊢;omega) (by rw [c1,d1,qq0 hk,g1];simp) λg y m2 r2 M2 hg y1 y2 y3 hM hm2=>?_
      rw [hsz] at hm2 ⊢;simp only [y12q,y8q] at y3;obtain ⟨w1,v1,v2,v3⟩:=c2 g r2 _ y3 (by omega)
      obtain ⟨w2,t1,t2,t3⟩:=d2 g (m2+1) w1 _ v2 (by omega) (by omega)
      obtain ⟨k1,k2,k3⟩:=p_isT t2;obtain ⟨w3,s1,s2,s3⟩:=g2 g (m2+1+szL th) w2.tail _ k2 (by omega) (by omega)
      refine ⟨w3,?_,s2,by omega⟩
      simp only [sRule,if_neg (hd y m2 y1 (by omega)),y2,hi,x20q,v1,t1,k1,s1,thn]
      rw [show m2+1+szL th+szL el=m2+(1+szL th+szL el) by omega]
     ·rename_i hk
      injection h with h;injection h with h4 h5;injection h5 with h5 h6;subst h4 h5 h6;have hsz:szR (rul 1 t th [] 0 [] [] 0)=1+szL th+0:=rfl
      refine key (C++D) (by rw [hi];decide) (by rw [hsz];omega) (by rw [c1,d1];simp) λg y m2 r2 M2 hg y1 y2 y3 hM hm2=>?_
      rw [hsz] at hm2 ⊢;simp only [y12q] at y3;obtain ⟨w1,v1,v2,v3⟩:=c2 g r2 _ y3 (by omega)
      obtain ⟨w2,t1,t2,t3⟩:=d2 g (m2+1) w1 _ v2 (by omega) (by omega)
      have hn:=isT_no t2 hM;refine ⟨w2,?_,t2,by omega⟩
      simp only [sRule,if_neg (hd y m2 y1 (by omega)),y2,hi,x20q,v1,t1,hn,thn,x1q,x21q]
      rw [show m2+1+szL th=m2+(1+szL th+0) by omega]
    rename_i hi;split at h
    ·rename_i hs
     obtain ⟨⟨a,L1⟩,h1,h⟩:=q1i6 h;obtain ⟨⟨b,L2⟩,h2,h⟩:=q1i6 h;obtain ⟨r3,h3,h⟩:=q1i6 h;injection h with h
     injection h with h4 h5;injection h5 with h5 h6;subst h4 h5 h6;have hsz:szR (rul 3 t0 [] [] 0 a b 0)=1:=rfl
     have hwi:¬ wSet=wIf:=by decide
     refine key [(2,a),(1,b),(4,[59])] (by rw [hs];decide) (by rw [hsz]) (by rw [f_take h1,f_take h2,qi7 h3];rfl) λg y m2 r2 M2 hg y1 y2 y3 hM hm2=>?_
     rw [hsz] at hm2 ⊢;simp only [y8q,y14q] at y3;obtain ⟨w1,v1,v2,v3⟩:=qwp y3;obtain ⟨w2,u1,u2,u3⟩:=qwp v2;obtain ⟨w3,t1,t2,t3⟩:=qwn u2;exact ⟨w3,by simp only [sRule,if_neg (hd y m2 y1 (by omega)),y2,hs,if_neg hwi,x20q,v1,u1,t1,thn],t2,by omega⟩
    rename_i hs;split at h
    ·rename_i hst
     obtain ⟨r3,h3,h⟩:=q1i6 h;injection h with h
     injection h with h4 h5;injection h5 with h5 h6;subst h4 h5 h6;have hsz:szR (rul 4 t0 [] [] 0 [] [] 0)=1:=rfl
     have hwi:¬ wStop=wIf:=by decide
     have hws:¬ wStop=wSet:=by decide
     refine key [(4,[59])] (by rw [hst];decide) (by rw [hsz]) (by rw [qi7 h3];rfl) λg y m2 r2 M2 hg y1 y2 y3 hM hm2=>?_
     rw [hsz] at hm2 ⊢;simp only [y8q,y14q] at y3;obtain ⟨w3,t1,t2,t3⟩:=qwn y3;exact ⟨w3,by simp only [sRule,if_neg (hd y m2 y1 (by omega)),y2,hst,if_neg hwi,if_neg hws,x20q,t1,thn],t2,by omega⟩
    rename_i hst;split at h
    ·cases h
    rename_i ha;have hwe:x.s≠wElse:=λe=>by rw [e] at ha;exact absurd (by decide) ha
    split at h
    ·rename_i h6
     obtain ⟨⟨n,L1⟩,h1,h⟩:=q1i6 h;obtain ⟨r3,h3,h⟩:=q1i6 h;injection h with h
     injection h with h4 h5;injection h5 with h5 h7;subst h4 h5 h7;obtain ⟨s,m1,m2',m3⟩:=f_num h1;have hsz:szR (rul 2 t0 [] [] 6 [] [] n)=1:=rfl
     refine key [(3,s),(4,[59])] hwe (by rw [hsz]) (by simp only at h3;rw [m3,qi7 h3];rfl) λg y m2 r2 M2 hg y1 y2 y3 hM hm2=>?_
     rw [hsz] at hm2 ⊢;simp only [y8q,y14q] at y3;obtain ⟨w1,v1,v2,v3⟩:=g_num m1 y3;obtain ⟨w3,t1,t2,t3⟩:=qwn v2;exact ⟨w3,by simp only [sRule,if_neg (hd y m2 y1 (by omega)),y2,if_neg hi,if_neg hs,if_neg hst,if_neg ha,if_pos h6,v1,t1,thn,m2'],t2,by omega⟩
    rename_i h6;split at h
    ·rename_i htx
     obtain ⟨⟨s,L1⟩,h1,h⟩:=q1i6 h;obtain ⟨r3,h3,h⟩:=q1i6 h;injection h with h
     injection h with h4 h5;injection h5 with h5 h7;subst h4 h5 h7;have hsz:szR (rul 2 t0 [] [] (actN x.s) [] s 0)=1:=rfl
     refine key [(1,s),(4,[59])] hwe (by rw [hsz]) (by simp only at h3;rw [f_take h1,qi7 h3];rfl) λg y m2 r2 M2 hg y1 y2 y3 hM hm2=>?_
     rw [hsz] at hm2 ⊢;simp only [y8q,y14q] at y3;obtain ⟨w1,v1,v2,v3⟩:=qwp y3;obtain ⟨w3,t1,t2,t3⟩:=qwn v2;exact ⟨w3,by simp only [sRule,if_neg (hd y m2 y1 (by omega)),y2,if_neg hi,if_neg hs,if_neg hst,if_neg ha,if_neg h6,if_pos htx,v1,t1,thn],t2,by omega⟩
    ·rename_i htx
     obtain ⟨r3,h3,h⟩:=q1i6 h;injection h with h
     injection h with h4 h5;injection h5 with h5 h7;subst h4 h5 h7;have hsz:szR (rul 2 t0 [] [] (actN x.s) [] [] 0)=1:=rfl
     refine key [(4,[59])] hwe (by rw [hsz]) (by rw [qi7 h3];rfl) λg y m2 r2 M2 hg y1 y2 y3 hM hm2=>?_
     rw [hsz] at hm2 ⊢;simp only [y8q,y14q] at y3;obtain ⟨w3,t1,t2,t3⟩:=qwn y3;exact ⟨w3,by simp only [sRule,if_neg (hd y m2 y1 (by omega)),y2,if_neg hi,if_neg hs,if_neg hst,if_neg ha,if_neg h6,if_neg htx,t1,thn],t2,by omega⟩
  ·simp only [sBlock] at h
   obtain ⟨r1,h1,h⟩:=q1i6 h;obtain ⟨⟨l',L1,n1⟩,h2,h⟩:=q1i6 h;obtain ⟨r3,h3,h⟩:=q1i6 h;injection h with h
   injection h with h4 h5;injection h5 with h5 h6;subst h4 h5 h6;obtain ⟨e1,st,C,cn,c1,c2⟩:=ih3 _ _ _ _ _ _ h2;simp only at h3 e1 c1 c2 ⊢;refine ⟨e1,(4,[123])::(C++[(4,[125])]),by rw [qi7 h1,c1,qi7 h3];simp,λf2 m2 L2 M2 e hm2 hf=>?_⟩
   cases f2 with
   |zero=>omega
   |succ g =>
    simp only [y8q,y12q,y14q] at e;obtain ⟨w1,v1,v2,v3⟩:=qwn e;obtain ⟨w2,u1,u2,u3⟩:=c2 g m2 w1 _ v2 (quz (q1ds M2)) hm2 (by omega)
    obtain ⟨w2',hs,hq⟩:=u3 [] (m2+szL l') (·=w2) λf3 hf3=>⟨w2,q1dt (by rw [u1];exact q1ds M2) hf3,rfl⟩
    subst hq;obtain ⟨w3,t1,t2,t3⟩:=qwn u1;refine ⟨w3,?_,t2,by omega⟩
    simp only [sBlock,v1,hs,t1,thn,List.append_nil]
  ·cases L with
   |nil =>
    simp only [sRules] at h;injection h with h
    injection h with h4 h5;injection h5 with h5 h6;subst h4 h5 h6;exact ⟨rfl,(by intro x r e;cases e),[],(by intro x r e;cases e),rfl,λf2 m2 L2 M2 e hM hm hf=>⟨L2,e,Nat.le_refl _,λz m3 Q hz=>hz f2 hf⟩⟩
   |cons x r =>
    simp only [sRules] at h;split at h
    ·rename_i hs
     injection h with h;injection h with h4 h5;injection h5 with h5 h6;subst h4 h5 h6;refine ⟨rfl,?_,[],(by intro x r e;cases e),rfl,λf2 m2 L2 M2 e hM hm hf=>⟨L2,e,Nat.le_refl _,λz m3 Q hz=>hz f2 hf⟩⟩
     intro y r' e;injection e with e
     subst e;unfold stopB at hs;simp only [y29q,x6q,beq_iff_eq] at hs;rcases hs with hs|hs
     ·exact .inl hs
     ·exact .inr (Prod.ext hs.1 hs.2)
    ·rename_i hs
     obtain ⟨⟨u,L1,n1⟩,h1,h⟩:=q1i6 h;obtain ⟨⟨l',L2,n2⟩,h2,h⟩:=q1i6 h;injection h with h
     injection h with h4 h5;injection h5 with h5 h6;subst h4 h5 h6;obtain ⟨e1,w,C,hw,c1,c2⟩:=ih1 _ _ _ _ _ _ h1;obtain ⟨e2,st,D,dn,d1,d2⟩:=ih3 _ _ _ _ _ _ h2;simp only at h2 e1 e2 c1 c2 d1 d2 ⊢;have hsz:szL (u::l')=szR u+szL l':=rfl
     refine ⟨by rw [hsz];omega,st,(2,w)::(C++D),?_,by rw [c1,d1];simp,λf2 m2 L3 M2 e hM hm2 hf=>?_⟩
     ·intro y r' e e'
      injection e with e;rw [←e] at e';injection e' with _ e';exact hw e'
     rw [hsz] at hm2 ⊢;cases f2 with
     |zero=>omega
     |succ g =>
      simp only [y8q,y12q] at e;have hne:noElse (D++M2):=by
       intro y r' e';cases D with
       |nil=>exact hM y r' e'
       |cons z D' =>
        simp only [y8q] at e';injection e' with e' _
        exact dn y D' (by rw [←e'])
      obtain ⟨w1,v1,v2,v3⟩:=c2 g m2 L3 _ e hne (by omega) (by omega)
      obtain ⟨w2,u1,u2,u3⟩:=d2 g (m2+szR u) w1 M2 v2 hM (by omega) (by omega)
      refine ⟨w2,u1,by omega,λz m3 Q hz=>?_⟩
      obtain ⟨L4,this,hq⟩:=u3 z m3 Q (λf3 hf3=>by rw [Nat.add_assoc];exact hz f3 hf3)
      refine ⟨L4,?_,hq⟩;obtain ⟨y,r0,rfl,k1,k2,k3⟩:=qsu e;have hs2:stopB y=false:=by have k1':y.k=2:=k1;unfold stopB;simp [k1']
      simp only [sRules,hs2,x1q,x21q,v1,this,thn,y8q]
end Go.Proofs.YtmlcmoaonaomfaaGreatDoor
namespace Go.Proofs.YtmlcmoaonaomfaaGreatDoor
open Go.RowKit
theorem q1f4 (r:S38):szR r=1+szL r.Then+szL r.Else:=by cases r;rfl
theorem q1f2 {l:List S38} {r:S38} (h:r∈l):szR r<=szL l:=by
 induction l with
 |nil=>cases h
 |cons x l ih =>
  rcases y32q.1 h with rfl|h
  ·simp only [szL];omega
  ·have:=ih h;simp only [szL];omega
theorem q1f6 {l:List S38} {r:S38} (h:r∈l):szL r.Then<szL l:=by have:=q1f2 h;rw [q1f4] at this;omega
theorem q1f5 {l:List S38} {r:S38} (h:r∈l):szL r.Else<szL l:=by have:=q1f2 h;rw [q1f4] at this;omega
mutual
def okT:S35->Prop
 |⟨_,ts,_,_,_,_⟩=>ts.length<=big/\okTL ts
def okTL:List S35->Prop
 |[]=>True
 |r::l=>okT r/\okTL l
end
mutual
def okR:S38->Prop
 |⟨_,_,ts,_,_,_,_,t,e,_,nm,_,_⟩=>(ts.length<=big/\okTL ts)/\(t.length<=big/\okL t)/\(e.length<=big/\okL e)/\nm.size<=big
def okL:List S38->Prop
 |[]=>True
 |r::l=>okR r/\okL l
end
theorem okT_eq (t:S35):okT t ↔ t.Tests.length<=big/\okTL t.Tests:=by cases t;rfl
theorem okR_eq (r:S38):okR r ↔ (r.Test_Tests.length<=big/\okTL r.Test_Tests)/\(r.Then.length<=big/\okL r.Then)/\(r.Else.length<=big/\okL r.Else)/\r.Name.size<=big:=by cases r;rfl
theorem qw0 {l:List S35} (h:okTL l) {t:S35} (ht:t∈l):okT t:=by
 induction l with
 |nil=>cases ht
 |cons x l ih =>
  rcases y32q.1 ht with rfl|ht
  ·exact h.1
  ·exact ih h.2 ht
theorem qvz {l:List S38} (h:okL l) {r:S38} (hr:r∈l):okR r:=by
 induction l with
 |nil=>cases hr
 |cons x l ih =>
  rcases y32q.1 hr with rfl|hr
  ·exact h.1
  ·exact ih h.2 hr
mutual
def tzT:S35->Nat
 |⟨_,ts,_,_,_,_⟩=>1+tzL ts
def tzL:List S35->Nat
 |[]=>0
 |r::l=>tzT r+tzL l
end
theorem tzT_eq (t:S35):tzT t=1+tzL t.Tests:=by cases t;rfl
theorem tz_mem {l:List S35} {t:S35} (h:t∈l):tzT t<=tzL l:=by
 induction l with
 |nil=>cases h
 |cons x l ih =>
  rcases y32q.1 h with rfl|h
  ·simp only [tzL];omega
  ·have:=ih h;simp only [tzL];omega
theorem used_s (k:Int):q1b4 k=some (k==5||k==9,k==5||k==6||k==7,k==8):=by
 refine q1b3 ?_;simp only [q1b5,q8c];by_cases h5:k=5
 ·subst h5;rfl
 by_cases h6:k=6
 ·subst h6;rfl
 by_cases h7:k=7
 ·subst h7;rfl
 by_cases h8:k=8
 ·subst h8;rfl
 by_cases h9:k=9
 ·subst h9;rfl
 simp [h5,h6,h7,h8,h9]
def innerB (k:Int) (n:Nat):Bool:=if k=2 then n==1 else if k=3∨k=4 then decide (1<=n)&&decide (n<=60) else n==0
theorem qpc (k:Int) (ts:List S35) (nm:BA) (p:Int) (tx:BA) (n:Int):q13d k ts nm p tx n=some (innerB k ts.length):=by
 refine q13c ?_;simp only [q13e,lN,q8c,x27q];unfold innerB;by_cases h2:k=2
 ·subst h2;simp;rw [Bool.eq_iff_iff];simp;omega
 by_cases h3:k=3
 ·subst h3;by_cases h:1<=ts.length <;> simp [h,show ((1:Int)<=ts.length) ↔ 1<=ts.length by omega,show ((ts.length:Int)<=60) ↔ ts.length<=60 by omega]
 by_cases h4:k=4
 ·subst h4;by_cases h:1<=ts.length <;> simp [h,show ((1:Int)<=ts.length) ↔ 1<=ts.length by omega,show ((ts.length:Int)<=60) ↔ ts.length<=60 by omega]
 simp [h2,h3,h4];rw [Bool.eq_iff_iff];simp
def tHead (k:Int) (nt:Nat) (nm:BA) (p:Int) (tx:BA) (n d:Int):Int :=
 if decide (d>8)=true then 5
 else if (decide (k<1)||decide (k>9))=true then 4
 else if (!innerB k nt)=true then 5
 else if ((!(k==5||k==9)&&!em nm)||(!(k==5||k==6||k==7)&&(!(p==0)||!em tx))||(!(k==8)&&!(n==0)))=true then 5
 else if ((k==5||k==9)&&(em nm||decide ((nm.size:Int)>60)))=true then 10
 else if ((k==5||k==6||k==7)&&(decide (p<1)||decide (p>3)))=true then 4
 else if decide ((tx.size:Int)>200)=true then 1
 else if (decide (n<0)||decide (n>1000000))=true then 3
 else 0
mutual
def tfT:S35->Nat->Int
 |⟨k,ts,nm,p,tx,n⟩,d=>if tHead k ts.length nm p tx n d≠0 then tHead k ts.length nm p tx n d else tfL ts (d+1)
def tfL:List S35->Nat->Int
 |[],_=>0
 |t::ts,d=>if tfT t d≠0 then tfT t d else tfL ts d
end
theorem tfT_eq (t:S35) (d:Nat):tfT t d=if tHead t.Kind t.Tests.length t.Name t.Pattern t.Text t.N d≠0 then tHead t.Kind t.Tests.length t.Name t.Pattern t.Text t.N d else tfL t.Tests (d+1):=by cases t;rfl
theorem q1hv (d:Nat) (hd:d<=8) (ts:List S35) (hl:ts.length<=big) (ih:∀ t∈ts,q1as t.Kind t.Tests t.Name t.Pattern t.Text t.N ((d+1:Nat):Int)=some (tfT t (d+1))) :
  ∀ m k,k+m=ts.length->∃ x,q1ak d ts ts.length k=some x/\Sum.elim (λr=>r.1) (λ_=>0) x=tfL (ts.drop k) (d+1):=by
 intro m;induction m with
 |zero =>
  intro k hk;have hk:k=ts.length:=by omega
  subst hk
  refine ⟨.inr (((d:Int),ts,(ts.length:Int),(ts.length:Int),false),()),q1am (by
   simp only [q1ar,zj,gL,dL,eC,wI,p0,uL,q8c,qm1,x25q,x26q,x27q,qpt,q4h,q4i,q4j,q4k,q4l,q4m];simp),?_⟩
  simp [tfL]
 |succ m ihm =>
  intro k hk;have hlt:k<ts.length:=by omega
  have i1:=ih ts[k] (y24q hlt);have e1:((k:Int)<(ts.length:Int)):=by omega
  have e2:IntKind.i64.wrap ((k:Int)+1)=((k+1:Nat):Int):=q1jr hlt (by unfold big at hl;omega)
  have e3:IntKind.i64.wrap ((d:Int)+1)=((d+1:Nat):Int):=q1jr (n:=100) (by omega) (by omega)
  rw [qbm hlt,tfL];by_cases h0:tfT ts[k] (d+1)=0
  ·obtain ⟨x,h1,h2⟩:=ihm (k+1) (by omega)
   refine ⟨x,q1am ?_,?_⟩
   ·simp only [q1ar,zj,gL,dL,eC,wI,p0,uL,q8c,qm1,x25q,x26q,x27q,qpt,q4h,q4i,q4j,q4k,q4l,q4m]
    simp only [e1,decide_true,x20q,show (0:Int)<=(k:Int) by omega,x3q,hlt,x4q,qm4 hlt,e3,i1,x0q,h0,e2]
    exact h1
   ·rw [if_neg (by simpa using h0)];exact h2
  ·refine ⟨.inl (tfT ts[k] (d+1),()),q1am ?_,?_⟩
   ·simp only [q1ar,zj,gL,dL,eC,wI,p0,uL,q8c,qm1,x25q,x26q,x27q,qpt,q4h,q4i,q4j,q4k,q4l,q4m]
    simp only [e1,decide_true,x20q,show (0:Int)<=(k:Int) by omega,x3q,hlt,x4q,qm4 hlt,e3,i1,x0q]
    simp [h0]
   ·rw [if_pos h0];rfl
theorem q1hs (k:Int) (ts:List S35) (nm:BA) (p:Int) (tx:BA) (n:Int) (d:Nat) (e:Int) (hg:d<=8->q1ad d k ts nm p tx n=some (e,())) :
  q1as k ts nm p tx n d=some (if (tHead k ts.length nm p tx n d != 0)=true then tHead k ts.length nm p tx n d else e):=by
 refine q1ac ?_;simp only [q1at,q1kn,gL,dL,q1ko,zn,zo,gL,dL,q8c,qm1,x25q,x26q,used_s,qpc,x0q,em_def,x20q];unfold tHead;cases hd:decide ((d:Int)>8) with
 |true=>rfl
 |false =>
 rw [hg (by have:=of_decide_eq_false hd;omega)]
 simp only [bne,x0q];generalize (k==5||k==9)=c1;generalize (k==5||k==6||k==7)=c2;generalize (k==8)=c3;generalize decide (k<1)=a1;generalize decide (k>9)=a2;generalize innerB k ts.length=a3;generalize em nm=b1;generalize decide ((nm.size:Int)>60)=b2;generalize (p==0)=b3;generalize decide (p<1)=b4;generalize decide (p>3)=b5;generalize em tx=b6;generalize decide ((tx.size:Int)>200)=b7;generalize (n==0)=b8;generalize decide (n<0)=b9;generalize decide (n>1000000)=b10;cases a1 <;> first|rfl|skip
 cases a2 <;> first|rfl|skip
 cases a3 <;> first|rfl|skip
 cases c1 <;> cases b1 <;> first|rfl|skip
 all_goals cases c2 <;> cases b3 <;> first|rfl|skip
 all_goals cases b6 <;> first|rfl|skip
 all_goals cases c3 <;> cases b8 <;> first|rfl|skip
 all_goals cases b2 <;> first|rfl|skip
 all_goals cases b4 <;> first|rfl|skip
 all_goals cases b5 <;> first|rfl|skip
 all_goals cases b7 <;> first|rfl|skip
 all_goals cases b9 <;> first|rfl|skip
 all_goals cases b10 <;> rfl
theorem test_s (t:S35) (ho:okT t) (d:Nat):q1as t.Kind t.Tests t.Name t.Pattern t.Text t.N d=some (tfT t d):=by
 generalize hn:tzT t=n;induction n using Nat.strongRecOn generalizing t d with
 |_ n ih =>
  subst hn;obtain ⟨hl,hol⟩:=(okT_eq t).1 ho;rw [q1hs (e:=tfL t.Tests (d+1)),tfT_eq]
  ·congr 1
   by_cases h:tHead t.Kind t.Tests.length t.Name t.Pattern t.Text t.N d=0 <;> simp [h]
  ·intro hd
   obtain ⟨x,h1,h2⟩:=q1hv d hd t.Tests hl (λt' ht'=>ih (tzT t') (by have:=tz_mem ht';rw [tzT_eq t];omega) t' (qw0 hol ht') (d+1) rfl) t.Tests.length 0 (by omega)
   refine q1af ?_;simp only [q1aj,gL,dL,lN,qm1,x25q,x26q,x27q];have e:q1ak d t.Tests t.Tests.length 0=some x:=h1
   rw [x10q] at h2;simp only [x20q,e,x0q];cases x <;> simp only [Sum.elim_inl,Sum.elim_inr] at h2 ⊢ <;> rw [←h2]
def vOk:Bool->List UInt8->Bool
 |_,[]=>true
 |b,c::l=>(letterB c||(!b&&digitB c))&&vOk false l
def varB (s:BA):Bool:=vOk true s.data.toList&&(decide (1<=s.size)&&decide (s.size<=60))
theorem q1j0 (l:List UInt8):vOk false l=l.all smallB:=by
 induction l with
 |nil=>rfl
 |cons c l ih=>simp only [vOk,x17q,ih,smallB,x11q,Bool.true_and]
theorem var1_s (c:UInt8):q1ba ((c.toNat:Nat):Int)=some (smallB c):=by
 refine q1b9 ?_;simp only [q1bb,q8c,smallB,letterB,digitB]
 by_cases h1:(97:Int)<=c.toNat <;> by_cases h2:(c.toNat:Int)<=122 <;> by_cases h3:(48:Int)<=c.toNat <;> by_cases h4:(c.toNat:Int)<=57 <;>
  simp [h1,h2,h3,h4,show (97<=c.toNat) ↔ ((97:Int)<=c.toNat) by omega,show (c.toNat<=122) ↔ ((c.toNat:Int)<=122) by omega,show (48<=c.toNat) ↔ ((48:Int)<=c.toNat) by omega,show (c.toNat<=57) ↔ ((c.toNat:Int)<=57) by omega]
theorem q3x (s:BA) (hl:s.size<=big):∀ m k,k+m=s.size->∃ x,q3i s s.size k=some x/\Sum.elim (λr=>r.1) (λ_=>true) x=(s.data.toList.drop k).all smallB:=by
 intro m;induction m with
 |zero =>
  intro k hk;have hk:k=s.size:=by omega
  subst hk
  refine ⟨.inr ((s,(),(s.size:Int),(s.size:Int),false),()),q3k (by
   simp only [q3p,wI,p0,q8c,qm1];simp),?_⟩
  have:s.data.toList.drop s.size=[]:=y16q (by simp <;> rfl)
  rw [this];rfl
 |succ m ihm =>
  intro k hk;have hlt:k<s.size:=by omega
  have e1:((k:Int)<(s.size:Int)):=by omega
  have e2:IntKind.i64.wrap ((k:Int)+1)=((k+1:Nat):Int):=q1jr hlt (by unfold big at hl;omega)
  rw [qap s hlt,x17q];cases h0:smallB (s.data.getD k 0) with
  |true =>
   obtain ⟨x,h1,h2⟩:=ihm (k+1) (by omega)
   refine ⟨x,q3k ?_,by simpa using h2⟩
   simp only [q3p,wI,p0,q8c,qm1];simp only [e1,decide_true,x20q,show (0:Int)<=(k:Int) by omega,x3q,hlt,x4q,var1_s,h0,x0q,e2]
   exact h1
  |false =>
   refine ⟨.inl (false,()),q3k ?_,rfl⟩;simp only [q3p,wI,p0,q8c,qm1];simp only [e1,decide_true,x20q,show (0:Int)<=(k:Int) by omega,x3q,hlt,x4q,var1_s,h0,x0q]
   rfl
theorem q3q (s:BA) (hl:s.size<=big):q3r s=some (s.data.toList.all smallB):=by
 obtain ⟨x,h1,h2⟩:=q3x s hl s.size 0 (by omega)
 refine q3h ?_;have e:q3i s s.size 0=some x:=h1
 simp only [q3s,e,x0q];rw [x10q] at h2;cases x <;> simp only [Sum.elim_inl,Sum.elim_inr] at h2 ⊢ <;> rw [←h2]
theorem q1j8 (s:BA):q1bg s=some (varB s):=by
 refine q1bf ?_;simp only [q1bh,q8c,qm1,em_def];unfold varB;by_cases h0:s.size=0
 ·have:em s=true:=by rw [qc9];simpa using h0
  simp [this,h0]
 have hem:em s=false:=by rw [qc9];simpa using h0
 by_cases h1:s.size<=60
 case neg =>
  simp [hem,show ¬ ((s.size:Int)<=60) by omega,h1]
 have hb:s.size<=big:=by unfold big;omega
 have h2:=qap s (k:=0) (by omega)
 rw [x10q] at h2;rw [q3q s hb,h2];simp only [hem,show ((s.size:Int)<=60) by omega,decide_true,x0q,x17q,vOk,q1j0,h1,show 1<=s.size by omega,Bool.and_true,Int.toNat_zero,show 0<s.size by omega,x15q,Bool.false_and,Bool.or_false]
 cases (List.drop 1 s.data.toList).all smallB with
 |false=>simp
 |true =>
  simp only [Bool.and_true,x11q,x19q,x20q,show (0:Int)<=0 by omega,decide_true]
  have key:∀ c:UInt8,(if (smallB c==true)=true then some (decide (((c.toNat:Nat):Int)>57)) else some false)=some (letterB c):=by intro c;unfold smallB letterB digitB;by_cases h5:97<=c.toNat <;> by_cases h6:c.toNat<=122 <;> by_cases h7:48<=c.toNat <;> by_cases h8:c.toNat<=57 <;> simp [h5,h6,h7,h8] <;> omega
  exact key _
def noB (k:Int) (nt:Nat) (nm:BA) (p:Int) (tx:BA) (n:Int):Bool:=k==0&&(nt==0&&(em nm&&(p==0&&(em tx&&n==0))))
theorem qv2 (k:Int) (ts:List S35) (nm:BA) (p:Int) (tx:BA) (n:Int):q13w k ts nm p tx n=some (noB k ts.length nm p tx n):=by
 refine q13v ?_;simp only [q13x,lN,q8c,x27q,em_def,noB];have e1:(((ts.length:Nat):Int)==0)=(ts.length==0):=by rw [Bool.eq_iff_iff];simp
 rw [e1];cases k==0 <;> cases ts.length==0 <;> cases em nm <;> cases p==0 <;> cases em tx <;> cases n==0 <;> rfl
def pHead (no len:Bool) (k act:Int) (nm tx:BA) (n:Int):Int :=
 if (!no||len||(!(k==2)&&(!(act==0)||!(n==0)))||(!(k==3)&&!em nm)||((k==4)&&!em tx))=true then 5
 else if ((k==2)&&(decide (act<1)||decide (act>7)))=true then 4
 else if ((k==2)&&((!txtB act&&!em tx)||(!(act==6)&&!(n==0))))=true then 5
 else if ((k==3)&&!varB nm)=true then 10
 else if decide ((tx.size:Int)>200)=true then 1
 else if (decide (n<0)||decide (n>63))=true then 3
 else 0
theorem qrn {a b:Nat} (ha:a<=big) (hb:b<=big):decide (IntKind.i64.wrap (((a:Nat):Int)+((b:Nat):Int))>0)=(!(a==0)||!(b==0)):=by
 rw [q1jq (by unfold big at *;omega)]
 rw [Bool.eq_iff_iff];simp only [y45q,y29q,Bool.not_eq_true',beq_eq_false_iff_ne];omega
theorem qyj (k tk:Int) (tts:List S35) (tnm:BA) (tp:Int) (ttx:BA) (tn:Int) (t e:List S38) (act:Int) (nm tx:BA) (n:Int) (ht:t.length<=big) (he:e.length<=big) :
  q1a1 k tk tts tnm tp ttx tn t e act nm tx n=some (pHead (noB tk tts.length tnm tp ttx tn) (!(t.length==0)||!(e.length==0)) k act nm tx n):=by
 refine q1a0 ?_;simp only [q1a2,zh_t,zg_t,zi_t,gL,dL,lN,q8c,qm1,x25q,x26q,x27q,qv2,q1i1,q1j8,x0q,em_def,x20q,qrn ht he,bne];unfold pHead;generalize noB tk tts.length tnm tp ttx tn=c1;generalize (!(t.length==0)||!(e.length==0))=c2;generalize hk2:(k==2)=k2;generalize hk3:(k==3)=k3;generalize hk4:(k==4)=k4;generalize (act==0)=c3;generalize (n==0)=c4;generalize em nm=c5;generalize em tx=c6;generalize decide (act<1)=c7;generalize decide (act>7)=c8;generalize txtB act=c9;generalize (act==6)=c10;generalize varB nm=c11;generalize decide ((tx.size:Int)>200)=c12;generalize decide (n<0)=c13;generalize decide (n>63)=c14;cases c1 <;> first|rfl|skip
 cases c2 <;> first|rfl|skip
 cases k2 <;> cases k3 <;> cases k4;all_goals first|(exfalso;simp at hk2 hk3 hk4;omega)|skip
 all_goals cases c3 <;> cases c4 <;> first|rfl|skip
 all_goals cases c5 <;> first|rfl|skip
 all_goals cases c6 <;> first|rfl|skip
 all_goals cases c7 <;> first|rfl|skip
 all_goals cases c8 <;> first|rfl|skip
 all_goals cases c9 <;> first|rfl|skip
 all_goals cases c10 <;> first|rfl|skip
 all_goals cases c11 <;> first|rfl|skip
 all_goals cases c12 <;> first|rfl|skip
 all_goals cases c13 <;> first|rfl|skip
 all_goals cases c14 <;> rfl
def rHead (r:S38):Int :=
 if (decide (r.Kind<1)||decide (r.Kind>4))=true then 4
 else if (r.Kind==1)=true then (if (!(r.Act==0)||!em r.Name||!em r.Text||!(r.N==0))=true then 5 else tfT ⟨r.Test_Kind,r.Test_Tests,r.Test_Name,r.Test_Pattern,r.Test_Text,r.Test_N⟩ 1)
 else pHead (noB r.Test_Kind r.Test_Tests.length r.Test_Name r.Test_Pattern r.Test_Text r.Test_N) (!(r.Then.length==0)||!(r.Else.length==0)) r.Kind r.Act r.Name r.Text r.N
theorem rule_s (r:S38) (ho:okR r) (d:Nat):q1a7 r.Kind r.Test_Kind r.Test_Tests r.Test_Name r.Test_Pattern r.Test_Text r.Test_N r.Then r.Else r.Act r.Name r.Text r.N d=some (if decide ((d:Int)>8)=true then 5 else rHead r):=by
 obtain ⟨⟨o1,o2⟩,⟨o3,o4⟩,⟨o5,o6⟩,o7⟩:=(okR_eq r).1 ho;have ht:=test_s ⟨r.Test_Kind,r.Test_Tests,r.Test_Name,r.Test_Pattern,r.Test_Text,r.Test_N⟩ ⟨o1,o2⟩ 1
 refine q1a6 ?_;simp only [q1a8,gL,dL,q8c,qm1,x25q,x26q,qyj _ _ _ _ _ _ _ _ _ _ _ _ _ o3 o5,x0q,em_def,x20q,bne];have ht':q1as r.Test_Kind r.Test_Tests r.Test_Name r.Test_Pattern r.Test_Text r.Test_N 1=some (tfT ⟨r.Test_Kind,r.Test_Tests,r.Test_Name,r.Test_Pattern,r.Test_Text,r.Test_N⟩ 1):=ht
 rw [ht'];unfold rHead;generalize pHead _ _ r.Kind r.Act r.Name r.Text r.N=x1;generalize tfT _ 1=x2;generalize decide ((d:Int)>8)=c1;generalize decide (r.Kind<1)=c2;generalize decide (r.Kind>4)=c3;generalize (r.Kind==1)=c4;generalize (r.Act==0)=c5;generalize em r.Name=c6;generalize em r.Text=c7;generalize (r.N==0)=c8;cases c1 <;> cases c2 <;> cases c3 <;> cases c4 <;> cases c5 <;> cases c6 <;> cases c7 <;> cases c8 <;> rfl
theorem qwr (a b:List S38):([[.sl (qbr.encL a)],[.sl (qbr.encL b)]]:List (List C))=qbq.encL [a,b]:=rfl
def rc (r:S38) (d:Nat):Int:=if decide ((d:Int)>8)=true then 5 else rHead r
mutual
def ckR:S38->Nat->Nat->(Int×Int)⊕Nat
 |⟨_,_,_,_,_,_,_,t,e,_,_,_,_⟩,n,d=>match ckL t (n+1) (d+1) with
  |.inl f=>.inl f
  |.inr n1=>ckL e n1 (d+1)
def ckL:List S38->Nat->Nat->(Int×Int)⊕Nat
 |[],n,_=>.inr n
 |r::l,n,d=>if 100<=n then .inl (2,-1) else if rc r d≠0 then .inl (rc r d,n) else match ckR r n d with
  |.inl f=>.inl f
  |.inr n2=>ckL l n2 d
end
theorem ckR_eq (r:S38) (n d:Nat):ckR r n d=match ckL r.Then (n+1) (d+1) with|.inl f=>.inl f|.inr n1=>ckL r.Else n1 (d+1):=by cases r;rfl
theorem ck_sz:∀ (q:Nat) (l:List S38),szL l=q->∀ n d,n<=100->(∀ m,ckL l n d=.inr m->m=n+szL l/\m<=100)/\(∀ f,ckL l n d=.inl f->f.1≠0):=by
 intro q;induction q using Nat.strongRecOn with
 |_ q ih =>
  intro l;induction l with
  |nil =>
   intro _ n d hn;refine ⟨λm h=>?_,λf h=>by cases h⟩
   injection h with h;subst h;exact ⟨by simp [szL],hn⟩
  |cons r l ihl =>
   intro hq n d hn;have h1:=q1f6 (l:=r::l) (r:=r) (by simp)
   have h2:=q1f5 (l:=r::l) (r:=r) (by simp)
   have hR:n<100->(∀ m,ckR r n d=.inr m->m=n+szR r/\m<=100)/\(∀ f,ckR r n d=.inl f->f.1≠0):=by
    intro hlt;obtain ⟨a1,a2⟩:=ih _ (hq ▸ h1) r.Then rfl (n+1) (d+1) (by omega)
    rw [ckR_eq];cases ht:ckL r.Then (n+1) (d+1) with
    |inl f=>exact ⟨λm h=>(by cases h),λf' h=>(by injection h with h;subst h;exact a2 _ ht)⟩
    |inr n1 =>obtain ⟨b1,b2⟩:=a1 n1 ht;obtain ⟨c1,c2⟩:=ih _ (hq ▸ h2) r.Else rfl n1 (d+1) b2;refine ⟨λm h=>?_,λf h=>c2 f h⟩;obtain ⟨e1,e2⟩:=c1 m h;exact ⟨by rw [e1,b1,q1f4];omega,e2⟩
   have hl:∀ n2,n2<=100->(∀ m,ckL l n2 d=.inr m->m=n2+szL l/\m<=100)/\(∀ f,ckL l n2 d=.inl f->f.1≠0):=by intro n2 hn2;exact ih (szL l) (by rw [←hq];simp only [szL];have:=q1f4 r;omega) l rfl n2 d hn2
   simp only [ckL];split
   ·exact ⟨λm h=>(by cases h),λf h=>(by injection h with h;subst h;decide)⟩
   ·rename_i hlt
    split
    ·rename_i hne
     exact ⟨λm h=>(by cases h),λf h=>(by injection h with h;subst h;exact hne)⟩
    ·obtain ⟨a1,a2⟩:=hR (by omega)
     cases hr:ckR r n d with
     |inl f=>exact ⟨λm h=>(by cases h),λf' h=>(by injection h with h;subst h;exact a2 _ hr)⟩
     |inr n2 =>obtain ⟨b1,b2⟩:=a1 n2 hr;obtain ⟨c1,c2⟩:=hl n2 b2;refine ⟨λm h=>?_,λf h=>c2 f h⟩;obtain ⟨e1,e2⟩:=c1 m h;exact ⟨by rw [e1,b1];simp only [szL];omega,e2⟩
theorem ck_inr {l:List S38} {n d m:Nat} (hn:n<=100) (h:ckL l n d=.inr m):m=n+szL l/\m<=100:=(ck_sz _ l rfl n d hn).1 m h
theorem ck_inl {l:List S38} {n d:Nat} {f:Int×Int} (hn:n<=100) (h:ckL l n d=.inl f):f.1≠0:=(ck_sz _ l rfl n d hn).2 f h
def VR (c:(Int×Int)⊕Nat) (x:(Int×Int)×(Int×Int)×Int×Unit×Unit):Prop:=match c with
 |.inl f=>x.1=f
 |.inr m=>x.1=(0,0)/\x.2.2.1=(m:Int)
def VL (c:(Int×Int)⊕Nat) {α:Type} (x:(Unit×(Int×Int)×Int×Unit×Unit)⊕α) (y:Nat->α->Prop):Prop:=match c with
 |.inl f=>∃ n',x=.inl ((),f,n',(),())
 |.inr m=>∃ z,x=.inr z/\y m z
theorem q1j2 (d:Nat) (hd:d<=8) (l:List S38) (t14 t15 b2 b21:Int) (r:S38) (n:Nat) (hn:n<100)
  (i1:∀ n:Nat,n<=100->∃ x,q12a r.Then ((d+1:Nat):Int) (n:Int)=some x/\VR (ckL r.Then n (d+1)) x) (i2:∀ n:Nat,n<=100->∃ x,q12a r.Else ((d+1:Nat):Int) (n:Int)=some x/\VR (ckL r.Else n (d+1)) x) :
  ∃ x,q12d d l t14 t15 2 2 0 ((n+1:Nat):Int) b2 b21 [r.Then,r.Else]=some x/\VL (ckR r n d) x (λ(m:Nat) z=>z=(((d:Int),(),(),(),l,t14,t15,2,2,2,false),(m:Int),((),()),(b2,b21),[r.Then,r.Else])):=by
 have e3:IntKind.i64.wrap ((d:Int)+1)=((d+1:Nat):Int):=q1jr (n:=100) (by omega) (by omega)
 have w1:IntKind.i64.wrap ((0:Int)+1)=1:=q1jq (by omega)
 have w2:IntKind.i64.wrap ((1:Int)+1)=2:=q1jq (by omega)
 have f0:((List.getD (qbq.encL [r.Then,r.Else]) 0 []).length==1)=true:=rfl;have f1:((List.getD (qbq.encL [r.Then,r.Else]) 1 []).length==1)=true:=rfl
 have p0:isP [K1.sl] 0 (List.getD (qbq.encL [r.Then,r.Else]) 0 [])=true:=rfl;have p1:isP [K1.sl] 0 (List.getD (qbq.encL [r.Then,r.Else]) 1 [])=true:=rfl
 have q0:∀ z,List.getD [r.Then,r.Else] 0 z=r.Then:=λ_=>rfl;have q1:∀ z,List.getD [r.Then,r.Else] 1 z=r.Else:=λ_=>rfl
 have l0:decide (0<List.length [r.Then,r.Else])=true:=rfl;have l1:decide (1<List.length [r.Then,r.Else])=true:=rfl
 have n0:Int.toNat 0=0:=rfl;have n1:Int.toNat 1=1:=rfl
 have c1:decide ((0:Int)<2)=true:=rfl;have c2:decide ((1:Int)<2)=true:=rfl
 have c3:decide ((2:Int)<2)=false:=rfl;have c4:decide ((0:Int)<=0)=true:=rfl
 have c5:decide ((0:Int)<=1)=true:=rfl;have c6:decide ((0:Int)<((2:Nat):Int))=true:=rfl
 have c7:decide ((1:Int)<((2:Nat):Int))=true:=rfl
 have s2:∀ m:Nat,q12d d l t14 t15 2 2 2 m b2 b21 [r.Then,r.Else]=some (.inr (((d:Int),(),(),(),l,t14,t15,2,2,2,false),(m:Int),((),()),(b2,b21),[r.Then,r.Else])):=λm=>q12f (by
  simp only [q12k,gL,dL,lN,wI,uL,q8c,qm1,x25q,x26q,x27q,q4n,c3,x1q,x21q,x20q])
 have s1:∀ m:Nat,m<=100->∃ x,q12d d l t14 t15 2 2 1 m b2 b21 [r.Then,r.Else]=some x/\VL (ckL r.Else m (d+1)) x (λ(m:Nat) z=>z=(((d:Int),(),(),(),l,t14,t15,2,2,2,false),(m:Int),((),()),(b2,b21),[r.Then,r.Else])):=by
  intro m hm;obtain ⟨x,h1,h2⟩:=i2 m hm;cases hc:ckL r.Else m (d+1) with
  |inl f =>
   rw [hc] at h2;have h2:x.1=f:=h2
   have hf:(f.1 != 0)=true:=by simpa using ck_inl hm hc
   refine ⟨.inl ((),f,x.2.2.1,(),()),q12f ?_,⟨_,rfl⟩⟩;simp only [q12k,gL,dL,lN,wI,uL,q8c,qm1,x25q,x26q,x27q,q4n,c2,c5,c7,n1,l1,f1,p1,q1,x4q,x20q,e3,h1,qi9,x0q,h2,hf]
  |inr q =>rw [hc] at h2;obtain ⟨h2,h3⟩:x.1=(0,0)/\x.2.2.1=(q:Int):=h2;refine ⟨_,q12f (r:=.inr (((d:Int),(),(),(),l,t14,t15,2,2,2,false),(q:Int),((),()),(b2,b21),[r.Then,r.Else])) ?_,⟨_,rfl,rfl⟩⟩;simp only [q12k,gL,dL,lN,wI,uL,q8c,qm1,x25q,x26q,x27q,q4n,c2,c5,c7,n1,l1,f1,p1,q1,x4q,x20q,e3,h1,qi9,x0q,h2,h3,w2,s2,bne_self_eq_false,x1q,x21q]
 obtain ⟨x,h1,h2⟩:=i1 (n+1) (by omega)
 rw [ckR_eq];cases hc:ckL r.Then (n+1) (d+1) with
 |inl f =>
  rw [hc] at h2;have h2:x.1=f:=h2
  have hf:(f.1 != 0)=true:=by simpa using ck_inl (by omega) hc
  refine ⟨.inl ((),f,x.2.2.1,(),()),q12f ?_,⟨_,rfl⟩⟩;simp only [q12k,gL,dL,lN,wI,uL,q8c,qm1,x25q,x26q,x27q,q4n,c1,c4,c6,n0,l0,f0,p0,q0,x4q,x20q,e3,h1,qi9,x0q,h2,hf]
 |inr q =>
  rw [hc] at h2;obtain ⟨h2,h3⟩:x.1=(0,0)/\x.2.2.1=(q:Int):=h2;obtain ⟨y,g1,g2⟩:=s1 q (ck_inr (by omega) hc).2
  refine ⟨y,q12f ?_,g2⟩;simp only [q12k,gL,dL,lN,wI,uL,q8c,qm1,x25q,x26q,x27q,q4n,c1,c4,c6,n0,l0,f0,p0,q0,x4q,x20q,e3,h1,qi9,x0q,h2,h3,w1,g1,bne_self_eq_false,x1q,x21q]
theorem val_l2 (d:Nat) (hd:d<=9) (l:List S38) (hl:l.length<=big) (ho:okL l)
  (ih:d<=8->∀ r∈l,(∀ n:Nat,n<=100->∃ x,q12a r.Then ((d+1:Nat):Int) (n:Int)=some x/\VR (ckL r.Then n (d+1)) x)/\(∀ n:Nat,n<=100->∃ x,q12a r.Else ((d+1:Nat):Int) (n:Int)=some x/\VR (ckL r.Else n (d+1)) x)) :
  ∀ m k (n:Nat) b2 b21,n<=100->k+m=l.length->∃ x,q12l d l l.length k n b2 b21=some x/\VL (ckL (l.drop k) n d) x (λ(m:Nat) z=>z.2.1=(m:Int)):=by
 intro m;induction m with
 |zero =>
  intro k n b2 b21 hn hk;have hk:k=l.length:=by omega
  subst hk
  refine ⟨_,q12n (r:=.inr (((d:Int),(),(),(),l,(l.length:Int),(l.length:Int),false),(n:Int),((),()),b2,b21)) (by
   simp only [q12s,zq,gL,dL,eC,wI,p0,uL,q8c,qm1,x25q,x26q,x27q,qpu,q4o,q4p,q4t,q4u,q4v,q4w,q4x,q4y,q4z,q50,q4q,q4r,q4s];simp),?_⟩
  rw [List.drop_length];exact ⟨_,rfl,rfl⟩
 |succ m ihm =>
  intro k n b2 b21 hn hk;have hlt:k<l.length:=by omega
  have hr:=y24q hlt;have e1:decide ((k:Int)<(l.length:Int))=true:=by simp;omega
  have e0:decide ((0:Int)<=(k:Int))=true:=by simp
  have e2:IntKind.i64.wrap ((k:Int)+1)=((k+1:Nat):Int):=q1jr hlt (by unfold big at hl;omega)
  have e3:IntKind.i64.wrap ((n:Int)+1)=((n+1:Nat):Int):=q1jr (n:=1000) (by omega) (by omega)
  have hd2:decide (k<l.length)=true:=by simp [hlt]
  rw [qbm hlt,ckL];by_cases h100:100<=n
  ·have hn100:n=100:=by omega
   subst hn100;refine ⟨_,q12n (r:=.inl ((),(2,-1),(100:Nat),(),())) ?_,?_⟩
   ·simp only [q12s,zq,gL,dL,eC,wI,p0,uL,q8c,qm1,x25q,x26q,x27q,qpu,q4o,q4p,q4t,q4u,q4v,q4w,q4x,q4y,q4z,q50,q4q,q4r,q4s,e1,e0,x20q,x3q,hd2,x4q,qib,x0q]
    rfl
   ·rw [if_pos h100];exact ⟨_,rfl⟩
  rw [if_neg h100];have en:((n:Int)==100)=false:=by simp;omega
  have hrule:=rule_s l[k] (qvz ho hr) d;have hrule:q1a7 l[k].Kind l[k].Test_Kind l[k].Test_Tests l[k].Test_Name l[k].Test_Pattern l[k].Test_Text l[k].Test_N l[k].Then l[k].Else l[k].Act l[k].Name l[k].Text l[k].N d=some (rc l[k] d):=hrule
  by_cases hc:rc l[k] d=0
  case neg =>
   refine ⟨_,q12n (r:=.inl ((),(rc l[k] d,(n:Int)),(n:Int),(),())) ?_,?_⟩
   ·have hcb:(rc l[k] d != 0)=true:=by simpa using hc
    simp only [q12s,zq,gL,dL,eC,wI,p0,uL,q8c,qm1,x25q,x26q,x27q,qpu,q4o,q4p,q4t,q4u,q4v,q4w,q4x,q4y,q4z,q50,q4q,q4r,q4s,e1,e0,x20q,x3q,hd2,x4q,qib,x0q,en,x1q,x21q,qm4 hlt,hrule,hcb]
   ·rw [if_pos hc];exact ⟨_,rfl⟩
  have hcb:(rc l[k] d != 0)=false:=by simpa using hc
  have hd8:d<=8:=by
   rcases y30q 8 d with h|h
   ·unfold rc at hc
    rw [if_pos (by simp;omega)] at hc
    cases hc
   ·exact h
  rw [if_neg (by simpa using hc)]
  obtain ⟨i1,i2⟩:=ih hd8 l[k] hr;obtain ⟨x,h1,h2⟩:=q1j2 d hd8 l (l.length:Int) (k:Int) b2 b21 l[k] n (by omega) i1 i2
  cases hq:ckR l[k] n d with
  |inl f =>
   rw [hq] at h2;obtain ⟨n',rfl⟩:=h2;refine ⟨_,q12n (r:=.inl ((),f,n',(),())) ?_,⟨_,rfl⟩⟩;simp only [q12s,zq,gL,dL,eC,wI,p0,uL,q8c,qm1,x25q,x26q,x27q,qpu,q4o,q4p,q4t,q4u,q4v,q4w,q4x,q4y,q4z,q50,q4q,q4r,q4s,e1,e0,x20q,x3q,hd2,x4q,x0q,en,x1q,x21q,qm4 hlt,hrule,hcb,qwr,e3];have h1':q12d d l l.length k 2 ((2:Nat):Int) 0 ((n+1:Nat):Int) b2 b21 [l[k].Then,l[k].Else]=_:=h1
   rw [h1'];rfl
  |inr q =>
   rw [hq] at h2;obtain ⟨z,rfl,rfl⟩:=h2;have hq100:q<=100:=by
    have:=(ck_sz (szL [l[k]]) [l[k]] rfl n d hn).1 q (by simp only [ckL];rw [if_neg h100,if_neg (by simpa using hc),hq])
    exact this.2
   obtain ⟨y,g1,g2⟩:=ihm (k+1) q b2 b21 hq100 (by omega)
   refine ⟨y,q12n ?_,g2⟩;simp only [q12s,zq,gL,dL,eC,wI,p0,uL,q8c,qm1,x25q,x26q,x27q,qpu,q4o,q4p,q4t,q4u,q4v,q4w,q4x,q4y,q4z,q50,q4q,q4r,q4s,e1,e0,x20q,x3q,hd2,x4q,x0q,en,x1q,x21q,qm4 hlt,hrule,hcb,qwr,e3];have h1':q12d d l l.length k 2 ((2:Nat):Int) 0 ((n+1:Nat):Int) b2 b21 [l[k].Then,l[k].Else]=_:=h1
   rw [h1'];simp only [x0q,Sum.elim_inr,e2];exact g1
theorem val_h2:∀ (q:Nat) (l:List S38),szL l=q->l.length<=big->okL l->∀ d:Nat,d<=9->∀ n:Nat,n<=100->∃ x,q12a l (d:Int) (n:Int)=some x/\VR (ckL l n d) x:=by
 intro q;induction q using Nat.strongRecOn with
 |_ q ih =>
  intro l hq hl ho d hd n hn;obtain ⟨x,h1,h2⟩:=val_l2 d hd l hl ho (λhd8 r hr=>by
   have:=(okR_eq r).1 (qvz ho hr);exact ⟨λn hn=>ih _ (hq ▸ q1f6 hr) r.Then rfl this.2.1.1 this.2.1.2 (d+1) (by omega) n hn,λn hn=>ih _ (hq ▸ q1f5 hr) r.Else rfl this.2.2.1.1 this.2.2.1.2 (d+1) (by omega) n hn⟩) l.length 0 n 0 0 hn (by omega)
  have e:q12l d l l.length 0 n 0 0=some x:=h1;rw [x10q] at h2;cases hc:ckL l n d with
  |inl f =>rw [hc] at h2;obtain ⟨n',rfl⟩:=h2;refine ⟨_,q12c (r:=(f,f,n',(),())) ?_,rfl⟩;simp only [q12w,gL,dL,lN,qm1,x25q,x26q,x27q,x20q,e,x0q,Sum.elim_inl]
  |inr m =>rw [hc] at h2;obtain ⟨z,rfl,h3⟩:=h2;refine ⟨_,q12c (r:=((0,0),(0,0),(m:Int),(),())) ?_,⟨rfl,rfl⟩⟩;simp only [q12w,gL,dL,lN,qm1,x25q,x26q,x27q,x20q,e,x0q,Sum.elim_inr,none_s,h3]
def scrF (l:List S38):Int×Int:=match ckL l 0 1 with
 |.inl f=>f
 |.inr _=>(0,0)
theorem q1j3 (l:List S38) (hl:l.length<=big) (ho:okL l):q131 l=some (scrF l):=by
 obtain ⟨x,h1,h2⟩:=val_h2 _ l rfl hl ho 1 (by omega) 0 (by omega)
 refine q130 ?_;have e:q12a l 1 0=some x:=h1
 simp only [q132,gL,dL,qm1,x25q,x26q,x20q,e,x0q];unfold scrF;cases hc:ckL l 0 1 with
 |inl f=>rw [hc] at h2;have h2:x.1=f:=h2;simp only [h2]
 |inr m=>rw [hc] at h2;have h2:x.1=(0,0):=h2.1;simp only [h2]
theorem q1cj {l:List S38} (hl:l.length<=big) (ho:okL l):scriptF l=scrF l:=by unfold scriptF;rw [q1j3 l hl ho];rfl
end Go.Proofs.YtmlcmoaonaomfaaGreatDoor
