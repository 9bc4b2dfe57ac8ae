/- Operations of a region that are not ordered may be exchanged; so every order comes to the same. -/
import Derived.Test.YtmlcmoaonaomfaaGreatDoorZ09
namespace Go.Proofs.YtmlcmoaonaomfaaGreatDoor
open Go.RowKit
section
variable {P:Program} {call:HP} {nt:Nat} {ops:Array Oper} {an:Nat->Nat} {rb:Nat}
theorem st_ext {a b:St} (h1:a.t=b.t) (h2:a.h=b.h) (h3:a.sh=b.sh) (h4:a.nx=b.nx) (h5:a.lr=b.lr) (h6:a.lw=b.lw) (h7:a.og=b.og):a=b:=by
 cases a;cases b
 simp only at h1 h2 h3 h4 h5 h6 h7
 subst h1 h2 h3 h4 h5 h6 h7
 rfl
def noLog (s:St) (i:Nat):Prop:=s.lr i=[]/\s.lw i=[]
theorem qqv {n j:Nat} {lg:Nat->List Nat} {a:List Nat}:logOk n an lg j a=true ↔ ∀ x∈a,∀ q,q<n->x ∉ lg q∨ordB an q j=true:=by
 unfold logOk
 simp only [List.all_eq_true,List.mem_range,Bool.or_eq_true,Bool.not_eq_true',List.contains_eq_mem,decide_eq_false_iff_not]
theorem qqw {n i j:Nat} {lg:Nat->List Nat} {a b:List Nat} (hi:lg i=[]) (h:(∀ x∈a,x ∉ b)∨ordB an i j=true):logOk n an (upd lg i b) j a=logOk n an lg j a:=by
 rw [Bool.eq_iff_iff,qqv,qqv]
 constructor
 ·intro g x hx q hq
  by_cases e:q=i
  ·subst e;rw [hi];exact .inl (by simp)
  ·have:=g x hx q hq;simpa [upd,e] using this
 ·intro g x hx q hq
  by_cases e:q=i
  ·subst e
   rcases h with h|h
   ·exact .inl (by simpa [upd] using h x hx)
   ·exact .inr h
  ·have:=g x hx q hq;simpa [upd,e] using this
theorem qqx {n i j:Nat} {lg:Nat->List Nat} {a b:List Nat} {x:Nat} (hxa:x∈a) (hxb:x∈b) (hi:i<n) (h:ordB an i j=false):logOk n an (upd lg i b) j a=false:=by
 rw [←Bool.not_eq_true,qqv]
 intro g
 rcases g x hxa i hi with h1|h1
 ·exact h1 (by simpa [upd] using hxb)
 ·rw [h] at h1;cases h1
theorem qy9 {x y:Oper} (hap:∀ d,x.dst=some d->d ∉ y.looksAt ops) {i:Nat} {e:V×Hact} {s:St}:∀ z∈y.op.operands,rho (afD call.io ops rb i x e s).t z=rho s.t z:=qya (ops:=ops) (o:=y) hap
theorem st_af {x y:Oper} (hap:∀ d,x.dst=some d->d ∉ y.looksAt ops) {i:Nat} {e:V×Hact} {s:St} (hh:isIo call.io y.op=false∨(afD call.io ops rb i x e s).h=s.h):stAdr call.io ops (afD call.io ops rb i x e s).h (rho (afD call.io ops rb i x e s).t) y.op=stAdr call.io ops s.h (rho s.t) y.op:=by
 rw [(q12 (qy9 hap)).2]
 rcases hh with hh|hh
 ·generalize (afD call.io ops rb i x e s).h=h1
  unfold stAdr
  split
  ·rfl
  ·rename_i he
   rw [he] at hh
   simp only [isIo] at hh
   rw [hh];rfl
  ·rename_i he
   rw [he] at hh
   simp only [isIo] at hh
   rw [hh];rfl
  ·rfl
  ·rfl
 ·rw [hh]
theorem lg_af {x y:Oper} (hap:∀ d,x.dst=some d->d ∉ y.looksAt ops) {i j n:Nat} {e:V×Hact} {s:St} (hl:noLog s i) (hh:isIo call.io y.op=false∨(afD call.io ops rb i x e s).h=s.h)
  (h1:∀ z∈ldAdr (rho s.t) y.op,z ∉ stAdr call.io ops s.h (rho s.t) x.op) (h2:∀ z∈stAdr call.io ops s.h (rho s.t) y.op,z ∉ ldAdr (rho s.t) x.op):lgD call.io ops n an j y (afD call.io ops rb i x e s)=lgD call.io ops n an j y s:=by
 have hr:=q12 (io:=call.io) (ops:=ops) (h:=s.h) (qy9 (call:=call) (rb:=rb) (i:=i) (e:=e) (s:=s) hap)
 unfold lgD
 rw [hr.1,st_af hap hh]
 show (logOk n an (upd s.lw i (stAdr call.io ops s.h (rho s.t) x.op)) j (ldAdr (rho s.t) y.op)&&logOk n an (upd s.lr i (ldAdr (rho s.t) x.op)) j (stAdr call.io ops s.h (rho s.t) y.op))=_
 rw [qqw hl.2 (.inl h1),qqw hl.1 (.inl h2)]
theorem evD_af {x y:Oper} (hap:∀ d,x.dst=some d->d ∉ y.looksAt ops) {i:Nat} {e:V×Hact} {s:St} {hv:Nat->Oq B} {base:Nat} (hl:∀ q,x.dst=some q->q ∉ call.lv base) :
  evD P call nt ops hv base y (afD call.io ops rb i x e s)=evD P call nt ops hv base y { s with h:=(afD call.io ops rb i x e s).h,sh:=(afD call.io ops rb i x e s).sh }:=by
 have:=evD_t (P:=P) (call:=call) (nt:=nt) (ops:=ops) (hv:=hv) (base:=base) (o:=y) (s:={ s with h:=(afD call.io ops rb i x e s).h,sh:=(afD call.io ops rb i x e s).sh }) (d:=x.dst) (v:=e.1) (lr:=(afD call.io ops rb i x e s).lr) (lw:=(afD call.io ops rb i x e s).lw) hap hl
 rw [←this]
 rfl
theorem q16 {x:Oper} {i:Nat} {v:V} {bs:List B} {fl:List Nat} {s:St}:(afD call.io ops rb i x (v,.inl (bs,fl)) s).h=addB s.h (rb+8*i) bs/\(afD call.io ops rb i x (v,.inl (bs,fl)) s).sh=flag s.sh fl:=⟨rfl,rfl⟩
theorem qba {i j:Nat} {x y:Oper} {s:St} (hij:i≠j) (hb1:(an j).testBit i=false) (hb2:(an i).testBit j=false) (hap:x.apart ops y=true) (kx:kindB P call.io ops x.op=0∨kindB P call.io ops x.op=1) (ky:kindB P call.io ops y.op=0∨kindB P call.io ops y.op=1) (hlx:∀ q b,x.dst=some q->q ∉ call.lv b) (hly:∀ q b,y.dst=some q->q ∉ call.lv b) (l1:noLog s i) (l2:noLog s j) :
  (stepD P call nt ops an rb i x s).bind (stepD P call nt ops an rb j y)=(stepD P call nt ops an rb j y s).bind (stepD P call nt ops an rb i x):=by
 obtain ⟨a1,a2,a3⟩:=q3s hap
 have sx:∀ h r,stAdr call.io ops h r x.op=[]:=λh r=>q13.2 (kx.elim (λh=>(qpc h).2) qpd)
 have sy:∀ h r,stAdr call.io ops h r y.op=[]:=λh r=>q13.2 (ky.elim (λh=>(qpc h).2) qpd)
 have act:∀ {hv base o e},(kindB P call.io ops o.op=0∨kindB P call.io ops o.op=1)->evD P call nt ops hv base o s=some e->∃ v bs fl,e=(v,.inl (bs,fl))/\bs.length<=8:=by
  intro hv base o e hk he
  rcases qfr he with ⟨bs,fl,h1,h2,_⟩|⟨z,_,h0,h1⟩
  ·obtain ⟨v,q⟩:=e;simp only at h1;subst h1;exact ⟨v,bs,fl,rfl,h2⟩
  ·rcases hk with h|h
   ·exact absurd h h0
   ·exact absurd h h1
 refine qbc ?_ ?_ ?_
 ·intro e he _
  obtain ⟨v,bs,fl,rfl,hl⟩:=act kx he
  refine ⟨lg_af a1 l1 (.inl (qpe ky)) (by rw [sx];simp) (by rw [sy];simp),?_⟩
  rw [evD_af a1 (λq h=>hlx q _ h),qfs ky,q16.1,q1ec hl hb1]
 ·intro e he _
  obtain ⟨v,bs,fl,rfl,hl⟩:=act ky he
  refine ⟨lg_af a2 l2 (.inl (qpe kx)) (by rw [sy];simp) (by rw [sx];simp),?_⟩
  rw [evD_af a2 (λq h=>hly q _ h),qfs kx,q16.1,q1ec hl hb2]
 ·intro e f he hf
  obtain ⟨v,bs,fl,rfl,hl⟩:=act kx he
  obtain ⟨v',bs',fl',rfl,hl'⟩:=act ky hf
  have r1:=q12 (io:=call.io) (ops:=ops) (h:=s.h) (qy9 (call:=call) (rb:=rb) (i:=i) (e:=(v,.inl (bs,fl))) (s:=s) a1)
  have r2:=q12 (io:=call.io) (ops:=ops) (h:=s.h) (qy9 (call:=call) (rb:=rb) (i:=j) (e:=(v',.inl (bs',fl'))) (s:=s) a2)
  refine st_ext ?_ ?_ ?_ rfl ?_ ?_ rfl
  ·exact qx5 a3
  ·exact qx hl hl' (by omega)
  ·exact qgq fl fl'
  ·show upd (upd s.lr i _) j (ldAdr (rho (afD call.io ops rb i x (v,.inl (bs,fl)) s).t) y.op)=upd (upd s.lr j _) i (ldAdr (rho (afD call.io ops rb j y (v',.inl (bs',fl')) s).t) x.op)
   rw [r1.1,r2.1]
   exact q1dx hij
  ·show upd (upd s.lw i (stAdr call.io ops s.h (rho s.t) x.op)) j (stAdr call.io ops _ _ y.op)=upd (upd s.lw j (stAdr call.io ops s.h (rho s.t) y.op)) i (stAdr call.io ops _ _ x.op)
   simp only [sx,sy]
   exact q1dx hij
theorem qb9 {i j:Nat} {x y:Oper} {s:St} (hij:i≠j) (hap:x.apart ops y=true) (kx:kindB P call.io ops x.op=0) (_ky:kindB P call.io ops y.op≠0/\kindB P call.io ops y.op≠1) (hlx:∀ q b,x.dst=some q->q ∉ call.lv b) (hly:∀ q b,y.dst=some q->q ∉ call.lv b) (l1:noLog s i) (l2:noLog s j) :
  (stepD P call nt ops an rb i x s).bind (stepD P call nt ops an rb j y)=(stepD P call nt ops an rb j y s).bind (stepD P call nt ops an rb i x):=by
 obtain ⟨a1,a2,a3⟩:=q3s hap
 have px:=qpc kx
 have sx:∀ h r,stAdr call.io ops h r x.op=[]:=λh r=>q13.2 px.2
 have lx:∀ r,ldAdr r x.op=[]:=λr=>(q13 (io:=call.io) (ops:=ops) (h:=s.h)).1 px.1
 have xio:=qpe (.inl kx)
 have actx:∀ {hv base e},evD P call nt ops hv base x s=some e->∃ v,e=(v,.inl ([],[])):=by
  intro hv base e he
  rcases qfr he with ⟨bs,fl,h1,_,h3,_⟩|⟨z,_,h0,_⟩
  ·obtain ⟨rfl,rfl⟩:=h3 kx
   obtain ⟨v,q⟩:=e;simp only at h1;subst h1;exact ⟨v,rfl⟩
  ·exact absurd kx h0
 refine qbc ?_ ?_ ?_
 ·intro e he _
  obtain ⟨v,rfl⟩:=actx he
  refine ⟨lg_af a1 l1 (.inr (by rw [q16.1,qy])) (by rw [sx];simp) (by rw [lx];simp),?_⟩
  rw [evD_af a1 (λq h=>hlx q _ h),q16.1,q16.2,qy,qgr]
 ·intro e he _
  refine ⟨lg_af a2 l2 (.inl xio) (by rw [lx];simp) (by rw [sx];simp),?_⟩
  rw [evD_af a2 (λq h=>hly q _ h),qfs (.inl kx)]
  exact qft (by omega)
 ·intro e f he hf
  obtain ⟨v,rfl⟩:=actx he
  have r1:=q12 (io:=call.io) (ops:=ops) (h:=s.h) (qy9 (call:=call) (rb:=rb) (i:=i) (e:=(v,.inl ([],[]))) (s:=s) a1)
  have r2:=q12 (io:=call.io) (ops:=ops) (h:=s.h) (qy9 (call:=call) (rb:=rb) (i:=j) (e:=f) (s:=s) a2)
  have hh:∀ q:V×Hact,(apD (rb+8*j) y q (afD call.io ops rb i x (v,.inl ([],[])) s)).h=(apD (rb+8*i) x (v,.inl ([],[])) (afD call.io ops rb j y q s)).h/\(apD (rb+8*j) y q (afD call.io ops rb i x (v,.inl ([],[])) s)).sh=(apD (rb+8*i) x (v,.inl ([],[])) (afD call.io ops rb j y q s)).sh:=by
   rintro ⟨v',z|z⟩
   ·refine ⟨?_,?_⟩
    ·show addB (addB s.h (rb+8*i) []) (rb+8*j) z.1=addB (addB s.h (rb+8*j) z.1) (rb+8*i) []
     rw [qy,qy]
    ·show flag (flag s.sh []) z.2=flag (flag s.sh z.2) []
     rw [qgr,qgr]
   ·refine ⟨?_,?_⟩
    ·show z.1=addB z.1 (rb+8*i) []
     rw [qy]
    ·show z.2=flag z.2 []
     rw [qgr]
  refine st_ext ?_ ?_ ?_ rfl ?_ ?_ rfl
  ·exact qx5 a3
  ·exact (hh f).1
  ·exact (hh f).2
  ·show upd (upd s.lr i _) j (ldAdr (rho (afD call.io ops rb i x (v,.inl ([],[])) s).t) y.op)=upd (upd s.lr j _) i (ldAdr (rho (afD call.io ops rb j y f s).t) x.op)
   rw [r1.1,r2.1]
   exact q1dx hij
  ·show upd (upd s.lw i (stAdr call.io ops s.h (rho s.t) x.op)) j (stAdr call.io ops (afD call.io ops rb i x (v,.inl ([],[])) s).h (rho (afD call.io ops rb i x (v,.inl ([],[])) s).t) y.op)=upd (upd s.lw j (stAdr call.io ops s.h (rho s.t) y.op)) i (stAdr call.io ops _ _ x.op)
   rw [st_af a1 (.inr (by rw [q16.1,qy])),sx,sx]
   exact q1dx hij
theorem qqq {hv hv':Nat->Oq B} {t:TypeId} {A:V} (h:∀ q∈adrOf A,hv q=hv' q):loadV P hv t A=loadV P hv' t A:=by
 cases A <;> simp only [adrOf] at h <;> simp only [loadV]
 case ptr q off=>rw [h q (by simp)]
 case rptr q k i off=>rw [h q (by simp)]
theorem q18o {h0:Nat->Oq B} {sh:Nat->Bool} {t:TypeId} {A X:V} {z:(Nat->Oq B)×(Nat->Bool)} (h3:storeV P h0 sh t A X=some z):∀ q,q ∉ adrOf A->z.1 q=h0 q:=by
 have far:∀ {id:Nat} {b:Oq B} {q:Nat},q ∉ [id]->upd h0 id b q=h0 q:=λ{id b q} hq=>by
  have:q≠id:=by simpa using hq
  simp [upd,this]
 intro q hq
 unfold storeV at h3
 cases hcl:X.cells with
 |none=>rw [hcl] at h3;cases h3
 |some vs =>
  rw [hcl] at h3
  simp only [x0q] at h3
  split at h3
  ·cases h3
  split at h3
  ·rename_i id off
   split at h3
   ·split at h3
    ·injection h3 with h3;subst h3;exact far hq
    ·cases h3
   ·cases h3
  ·rename_i id k q' off
   split at h3
   ·unfold storeT at h3
    split at h3
    ·split at h3
     ·injection h3 with h3;subst h3;exact far hq
     ·cases h3
    ·split at h3
     case isFalse=>cases h3
     split at h3
     case isFalse=>injection h3 with h3;subst h3;exact far hq
     ·cases hf:frzC h0 _ with
      |none=>rw [hf] at h3;cases h3
      |some yy =>
       rw [hf] at h3
       simp only [x0q] at h3
       split at h3
       ·cases h3
       ·injection h3 with h3;subst h3;exact far hq
    ·cases h3
   split at h3
   ·rename_i es hes
    split at h3
    ·cases h3
    cases hq':es[q']? with
    |none=>rw [hq'] at h3;cases h3
    |some el =>
     rw [hq'] at h3
     simp only [x0q] at h3
     split at h3
     ·cases hf:frzL h0 vs with
      |none=>rw [hf] at h3;cases h3
      |some yy =>
       rw [hf] at h3
       simp only [x0q] at h3
       split at h3
       ·cases h3
       ·injection h3 with h3;subst h3;exact far hq
     ·cases h3
   ·cases h3
  ·cases h3
theorem qm6 {g:List V->St->Oq (V×St)} {args:List V} {N:Nat} {lv:List Nat} {base:Nat} {s:St} {y:V×(Nat->Oq B)×(Nat->Bool)} (hy:heapD g args N lv base s=some y):∀ q,q ∉ reach s.h args->¬ (base<=q/\q<base+8)->y.2.1 q=s.h q:=by
 intro q h1 h2
 unfold heapD at hy
 cases hx:g args _ with
 |none=>rw [hx] at hy;cases hy
 |some x =>
  rw [hx] at hy
  simp only [x0q] at hy
  split at hy
  ·rename_i hc
   injection hy with hy;subst hy
   simp only [bkH]
   rw [if_neg (λh=>h2 ⟨h.1,by omega⟩),if_neg h1]
  ·cases hy
theorem q3w {h:Nat->Oq B} {sh:Nat->Bool} {base:Nat} {e:TypeId} {s:V} {y:Oq (C×List Nat)} {z:V×(Nat->Oq B)×(Nat->Bool)} (hz:apdV P h sh base e s y=some z) (q:Nat) (h1:q ∉ rowId s) (h2:¬ (base<=q/\q<base+8)):z.2.1 q=h q:=by
 unfold apdV at hz
 cases hi:P.info? e with
 |none=>rw [hi] at hz;cases hz
 |some i =>
 rw [hi] at hz
 simp only [x0q] at hz
 split at hz
 case isFalse=>cases hz
 cases y with
 |none=>cases hz
 |some y =>
 simp only [x0q] at hz
 split at hz
 case h_2=>cases hz
 rename_i xs _
 cases hg:tgtV h s xs.isEmpty with
 |none=>rw [hg] at hz;cases hz
 |some g =>
 rw [hg] at hz
 simp only [x0q] at hz
 split at hz
 case isFalse=>cases hz
 injection hz with hz;subst hz
 have hb:q≠base:=by omega
 simp only [upd,hb,x21q]
 unfold tgtV at hg
 split at hg
 ·rename_i id n
  split at hg
  ·injection hg with hg;subst hg
   simp only [dropO,upd]
   rw [if_neg (by intro e;subst e;exact h1 (by simp [rowId]))]
  ·cases hg
 ·injection hg with hg;subst hg;rfl
 ·injection hg with hg;subst hg;rfl
 ·cases hg
theorem qbb {i j:Nat} {x y:Oper} {s:St} (hi:i<ops.size) (hj:j<ops.size) (hij:i≠j) (hord:ordB an i j=false) (hap:x.apart ops y=true) (kx:isLd x.op=true) (ky:isWr call.io ops y.op=true) (hlx:∀ q b,x.dst=some q->q ∉ call.lv b) (hly:∀ q b,y.dst=some q->q ∉ call.lv b) (l1:noLog s i) (l2:noLog s j) :
  (stepD P call nt ops an rb i x s).bind (stepD P call nt ops an rb j y)=(stepD P call nt ops an rb j y s).bind (stepD P call nt ops an rb i x):=by
 obtain ⟨a1,a2,a3⟩:=q3s hap
 obtain ⟨kx1,t,ax,hx⟩:=qpf (P:=P) (io:=call.io) (ops:=ops) kx
 have ky2:=qpg (P:=P) (ops:=ops) ky
 have xio:=qpe (.inr kx1)
 have yl:isLd y.op=false:=by
  cases hl:isLd y.op with
  |false=>rfl
  |true=>have:=(qpf (P:=P) (io:=call.io) (ops:=ops) hl).1;rw [ky2] at this;cases this
 have sx:∀ h r,stAdr call.io ops h r x.op=[]:=λh r=>q13.2 (qpd kx1)
 have ly:∀ r,ldAdr r y.op=[]:=λr=>(q13 (io:=call.io) (ops:=ops) (h:=s.h)).1 yl
 have lx:ldAdr (rho s.t) x.op=adrOf (rho s.t ax):=by rw [hx];rfl
 have hb0:=hord
 unfold ordB at hb0
 simp only [Bool.or_eq_false_iff,beq_eq_false_iff_ne] at hb0
 have hordj:ordB an j i=false:=by
  unfold ordB
  simp only [Bool.or_eq_false_iff,beq_eq_false_iff_ne]
  exact ⟨⟨hb0.1.2,hb0.1.1⟩,Ne.symm hb0.2⟩
 have actx:∀ {hv base e},evD P call nt ops hv base x s=some e->∃ v,e=(v,.inl ([],[])):=by
  intro hv base e he
  rcases qfr he with ⟨bs,fl,h1,_,_,h4⟩|⟨z,_,_,h0⟩
  ·obtain ⟨rfl,rfl⟩:=h4 kx
   obtain ⟨v,q⟩:=e;simp only at h1;subst h1;exact ⟨v,rfl⟩
  ·exact absurd kx1 h0
 by_cases hc:∃ q,q∈ldAdr (rho s.t) x.op/\q∈stAdr call.io ops s.h (rho s.t) y.op
 ·-- one block: both orders are refused
  obtain ⟨q,hq1,hq2⟩:=hc
  have n1:(stepD P call nt ops an rb i x s).bind (stepD P call nt ops an rb j y)=none:=by
   rw [q18i]
   split
   ·cases he:evD P call nt ops (visB s.h rb (an i)) (rb+8*i) x s with
    |none=>rfl
    |some e =>
     obtain ⟨v,rfl⟩:=actx he
     simp only [x18q,x0q]
     rw [q18i,if_neg]
     have:logOk ops.size an (afD call.io ops rb i x (v,.inl ([],[])) s).lr j (stAdr call.io ops (afD call.io ops rb i x (v,.inl ([],[])) s).h (rho (afD call.io ops rb i x (v,.inl ([],[])) s).t) y.op)=false:=by
      rw [st_af a1 (.inr (by rw [q16.1,qy]))]
      show logOk ops.size an (upd s.lr i (ldAdr (rho s.t) x.op)) j _=false
      exact qqx hq2 hq1 hi hord
     simp [lgD,this]
   ·rfl
  have n2:(stepD P call nt ops an rb j y s).bind (stepD P call nt ops an rb i x)=none:=by
   rw [q18i]
   split
   ·cases he:evD P call nt ops (visB s.h rb (an j)) (rb+8*j) y s with
    |none=>rfl
    |some e =>
     simp only [x18q,x0q]
     rw [q18i,if_neg]
     have hr:=q12 (io:=call.io) (ops:=ops) (h:=s.h) (qy9 (call:=call) (rb:=rb) (i:=j) (e:=e) (s:=s) a2)
     have:logOk ops.size an (afD call.io ops rb j y e s).lw i (ldAdr (rho (afD call.io ops rb j y e s).t) x.op)=false:=by
      rw [hr.1]
      show logOk ops.size an (upd s.lw j (stAdr call.io ops s.h (rho s.t) y.op)) i _=false
      exact qqx hq1 hq2 hj hordj
     simp [lgD,this]
   ·rfl
  rw [n1,n2]
 ·have hne1:∀ z∈ldAdr (rho s.t) x.op,z ∉ stAdr call.io ops s.h (rho s.t) y.op:=λz h1 h2=>hc ⟨z,h1,h2⟩
  have hne2:∀ z∈stAdr call.io ops s.h (rho s.t) y.op,z ∉ ldAdr (rho s.t) x.op:=λz h1 h2=>hc ⟨z,h2,h1⟩
  refine qbc ?_ ?_ ?_
  ·intro e he _
   obtain ⟨v,rfl⟩:=actx he
   refine ⟨lg_af a1 l1 (.inr (by rw [q16.1,qy])) (by rw [ly];simp) hne2,?_⟩
   rw [evD_af a1 (λq h=>hlx q _ h),q16.1,q16.2,qy,qgr]
  ·intro e he _
   refine ⟨lg_af a2 l2 (.inl xio) hne1 (by rw [sx];simp),?_⟩
   rw [evD_af a2 (λq h=>hly q _ h),qfs (.inr kx1)]
   -- what was written is another block
   have hh:∀ q,q ∉ stAdr call.io ops s.h (rho s.t) y.op->¬ (rb+8*j<=q/\q<rb+8*j+8)->(afD call.io ops rb j y e s).h q=s.h q:=by
    intro q hq1 hq2
    unfold evD at he
    split at he
    case isFalse=>cases he
    cases hw:wantedV ops s.t y with
    |none=>rw [hw] at he;cases he
    |some w =>
     rw [hw] at he
     simp only [x0q] at he
     cases w with
     |false =>
      simp only [x1q,x21q] at he
      injection he with he;subst he
      rw [q16.1,qy]
     |true =>
      simp only [x20q,ky2] at he
      cases h2:ev2H P call (rb+8*j) y.op s with
      |none=>rw [h2] at he;cases he
      |some z =>
       rw [h2] at he
       injection he with he;subst he
       show z.2.1 q=s.h q
       unfold ev2H at h2
       cases hio:isIo call.io y.op with
       |true =>
        rw [hio,x22q] at h2
        cases hz:ioOf P call.ch (rho s.t) y.op with
        |none=>rw [hz] at h2;cases h2
        |some zz =>
         rw [hz] at h2
         simp only [x0q] at h2
         obtain ⟨f,args,ats,ho,hf⟩:=qoq hio
         refine qm6 h2 q ?_ hq2
         obtain ⟨fx,args',ats',fn,caps,g0,ho',hfx,_,_,_,has⟩:=qoc hz
         rw [ho] at ho' hq1
         injection ho' with ho'
         injection ho' with b1 b2 b3
         injection b1 with b1
         subst b1 b2 b3
         rcases hf with ⟨f,rfl,hf⟩|⟨t,rfl,hf⟩
         case inr =>
          simp only [stAdr,hf,x22q,hfx] at hq1
          rw [has]
          exact hq1
         simp only [stAdr,hf,x22q] at hq1
         have hcaps:cAr g0 (args.toList.map (rho s.t)) caps=args.toList.map (rho s.t):=by
          simp only [rho] at hfx
          cases hb:Nat.blt f 1000000 with
          |false=>rw [hb] at hfx;cases hfx
          |true =>
           rw [hb,x22q] at hfx
           injection hfx with q1 q2
           subst q1 q2
           simp [cAr,hb]
         rw [has,hcaps]
         exact hq1
       |false =>
        rw [hio,cond_false] at h2
        have hst:isSt y.op=true∨isApd ops y.op=true:=by unfold isWr at ky;rw [hio,Bool.or_false] at ky;simpa using ky
        rcases hst with hst|hst
        case inr =>
         obtain ⟨args,ats,ho,hf⟩:=qod hst
         rw [ho] at h2 hq1 hf
         simp only [stAdr,hf,cond_false] at hq1
         simp only [ev2] at h2
         split at h2
         case h_2=>cases h2
         rename_i t1 t2 as ax _ hl
         rw [hl] at hq1
         simp only at hq1
         split at h2
         ·exact q3w h2 q hq1 hq2
         ·rename_i e1 _ _
          cases hb:isByteT P e1 with
          |true=>rw [hb] at h2;exact q3w h2 q hq1 hq2
          |false=>rw [hb] at h2;cases h2
         ·cases h2
        obtain ⟨t',ay,vy,hy⟩:∃ t a x,y.op=.store t a x:=by
         cases hyo:y.op <;> rw [hyo] at hst <;> simp [isSt] at hst
         exact ⟨_,_,_,rfl⟩
        rw [hy] at h2 hq1
        simp only [ev2] at h2
        cases h3:storeV P s.h s.sh t' (rho s.t ay) (rho s.t vy) with
        |none=>rw [h3] at h2;cases h2
        |some z' =>
         rw [h3] at h2
         injection h2 with h2;subst h2
         exact q18o h3 q hq1
   unfold evD
   simp only [kx1]
   have hl:∀ base,ev1 P call.call (visB (afD call.io ops rb j y e s).h rb (an i)) (rho s.t) base x.op=ev1 P call.call (visB s.h rb (an i)) (rho s.t) base x.op:=by
    intro base
    rw [hx]
    simp only [ev1]
    rw [qqq (hv':=visB s.h rb (an i))]
    intro q hq
    simp only [visB]
    by_cases hr:rb+8*j<=q/\q<rb+8*j+8
    ·have:(q - rb) / 8=j:=by omega
     rw [this,hb0.1.2]
     have hlt:¬ q<rb:=by omega
     simp [hlt]
    ·rw [hh q (hne1 q (by rw [lx];exact hq)) hr]
   rw [hl]
  ·intro e f he hf
   obtain ⟨v,rfl⟩:=actx he
   have r1:=q12 (io:=call.io) (ops:=ops) (h:=s.h) (qy9 (call:=call) (rb:=rb) (i:=i) (e:=(v,.inl ([],[]))) (s:=s) a1)
   have r2:=q12 (io:=call.io) (ops:=ops) (h:=s.h) (qy9 (call:=call) (rb:=rb) (i:=j) (e:=f) (s:=s) a2)
   have hh:∀ q:V×Hact,(apD (rb+8*j) y q (afD call.io ops rb i x (v,.inl ([],[])) s)).h=(apD (rb+8*i) x (v,.inl ([],[])) (afD call.io ops rb j y q s)).h/\(apD (rb+8*j) y q (afD call.io ops rb i x (v,.inl ([],[])) s)).sh=(apD (rb+8*i) x (v,.inl ([],[])) (afD call.io ops rb j y q s)).sh:=by
    rintro ⟨v',z|z⟩
    ·refine ⟨?_,?_⟩
     ·show addB (addB s.h (rb+8*i) []) (rb+8*j) z.1=addB (addB s.h (rb+8*j) z.1) (rb+8*i) []
      rw [qy,qy]
     ·show flag (flag s.sh []) z.2=flag (flag s.sh z.2) []
      rw [qgr,qgr]
    ·refine ⟨?_,?_⟩
     ·show z.1=addB z.1 (rb+8*i) []
      rw [qy]
     ·show z.2=flag z.2 []
      rw [qgr]
   refine st_ext ?_ ?_ ?_ rfl ?_ ?_ rfl
   ·exact qx5 a3
   ·exact (hh f).1
   ·exact (hh f).2
   ·show upd (upd s.lr i _) j (ldAdr (rho (afD call.io ops rb i x (v,.inl ([],[])) s).t) y.op)=upd (upd s.lr j _) i (ldAdr (rho (afD call.io ops rb j y f s).t) x.op)
    rw [r1.1,r2.1]
    exact q1dx hij
   ·show upd (upd s.lw i (stAdr call.io ops s.h (rho s.t) x.op)) j (stAdr call.io ops (afD call.io ops rb i x (v,.inl ([],[])) s).h (rho (afD call.io ops rb i x (v,.inl ([],[])) s).t) y.op)=upd (upd s.lw j (stAdr call.io ops s.h (rho s.t) y.op)) i (stAdr call.io ops _ _ x.op)
    rw [st_af a1 (.inr (by rw [q16.1,qy])),sx,sx]
    exact q1dx hij
theorem q3t {x y:Oper} (h:x.apart ops y=true):y.apart ops x=true:=by
 obtain ⟨h1,h2,h3⟩:=q3s h
 unfold Oper.apart
 cases hx:x.dst with
 |none =>
  cases hy:y.dst with
  |none=>rfl
  |some e=>have:=h2 e hy;simp [this]
 |some d =>
  have a1:=h1 d hx
  have a3:=h3 d hx
  cases hy:y.dst with
  |none=>simp [a1]
  |some e =>
   have:=h2 e hy
   rw [hy] at a3
   simp [this,a1]
   intro e'
   exact a3 (by rw [e'])
theorem comm {i j:Nat} {x y:Oper} {s:St} (hi:i<ops.size) (hj:j<ops.size) (hij:i≠j) (hord:ordB an i j=false) (hf:freeB P call.io ops x y=true) (hlx:∀ q b,x.dst=some q->q ∉ call.lv b) (hly:∀ q b,y.dst=some q->q ∉ call.lv b) (l1:noLog s i) (l2:noLog s j) :
  (stepD P call nt ops an rb i x s).bind (stepD P call nt ops an rb j y)=(stepD P call nt ops an rb j y s).bind (stepD P call nt ops an rb i x):=by
 have ho:=hord
 unfold ordB at ho
 simp only [Bool.or_eq_false_iff,beq_eq_false_iff_ne] at ho
 have hordj:ordB an j i=false:=by
  unfold ordB
  simp only [Bool.or_eq_false_iff,beq_eq_false_iff_ne]
  exact ⟨⟨ho.1.2,ho.1.1⟩,Ne.symm ho.2⟩
 unfold freeB at hf
 simp only [x6q,Bool.or_eq_true,beq_iff_eq] at hf
 obtain ⟨hap,hk⟩:=hf
 have hap':=q3t hap
 rcases hk with (((hk|hk)|hk)|hk)|hk
 ·by_cases h1:kindB P call.io ops y.op=0∨kindB P call.io ops y.op=1
  ·exact qba hij ho.1.1 ho.1.2 hap (.inl hk) h1 hlx hly l1 l2
  ·exact qb9 hij hap hk ⟨λh=>h1 (.inl h),λh=>h1 (.inr h)⟩ hlx hly l1 l2
 ·by_cases h1:kindB P call.io ops x.op=0∨kindB P call.io ops x.op=1
  ·exact qba hij ho.1.1 ho.1.2 hap h1 (.inl hk) hlx hly l1 l2
  ·exact (qb9 (Ne.symm hij) hap' hk ⟨λh=>h1 (.inl h),λh=>h1 (.inr h)⟩ hly hlx l2 l1).symm
 ·exact qba hij ho.1.1 ho.1.2 hap (.inr hk.1) (.inr hk.2) hlx hly l1 l2
 ·exact qbb hi hj hij hord hap hk.1 hk.2 hlx hly l1 l2
 ·exact (qbb hj hi (Ne.symm hij) hordj hap' hk.2 hk.1 hly hlx l2 l1).symm
end
end Go.Proofs.YtmlcmoaonaomfaaGreatDoor
