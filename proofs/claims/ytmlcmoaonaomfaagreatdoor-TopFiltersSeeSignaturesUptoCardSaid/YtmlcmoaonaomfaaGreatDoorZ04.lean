/- Operations that read memory or make some: loads, variables, calls. -/
import Derived.Test.YtmlcmoaonaomfaaGreatDoorZ03
namespace Go.Proofs.YtmlcmoaonaomfaaGreatDoor
open Go.RowKit
section
variable {P:Program} {Z Y:ZMap} {m:Nat->Oq Value} {w0:WB} {w w':World} {h hv:Nat->Oq B} {sh:Nat->Bool}
theorem q14r {a:Addr} {u:Value} (hc:w.cell? a=some u):(load a).run P w=.ok u w:=by simp [load,Sem.run,hc]
theorem q14t {b o:Nat}:∀ (l:List Value) (i:Nat) (acc:Array Value),(∀ (j:Nat) u,l[j]?=some u->w.cell? ⟨b,o+(i+j),none⟩=some u)->(loadCellsFrom ⟨b,o,none⟩ i l.length acc).run P w=.ok (acc++l.toArray) w
 |[],i,acc,_=>by simp [loadCellsFrom]
 |u::l,i,acc,hc=>by
  have h0:=hc 0 u rfl
  simp only [x9q,loadCellsFrom,Sem.run_bind,q10]
  rw [q14r (by simpa using h0),Result.andThen_ok,q14t l (i+1) (acc.push u) (λj v hj=>by
   have:=hc (j+1) v (by simpa using hj)
   rw [show i+1+j=i+(j+1) from by omega];exact this)]
  simp
theorem q14s {b o:Nat} (l:List Value) (n:Nat) (hn:l.length=n) (hc:∀ (j:Nat) u,l[j]?=some u->w.cell? ⟨b,o+j,none⟩=some u):(loadCells ⟨b,o,none⟩ n).run P w=.ok l.toArray w:=by
 subst hn
 have:=q14t (P:=P) (b:=b) (o:=o) l 0 #[] (λj u hj=>by simpa using hc j u hj)
 simpa [loadCells] using this
theorem qqs {t:TypeId} {b o off:Nat} {vs:Array Value} {cs:List V} {v:V} (hr:Rep Z Y m (.agg vs) (.agg cs)) (hmem:∀ (j:Nat) u,vs[j]?=some u->w.cell? ⟨b,o+j,none⟩=some u) (hp:partV P t cs off=some v) :
  ∃ cv,Rep Z Y m cv v/\(loadVar t ⟨b,o+off,none⟩).run P w=.ok cv w:=by
 unfold partV at hp
 cases ha:aggB P t with
 |none=>rw [ha] at hp;cases hp
 |some q =>
  cases hs:szO P t with
  |none=>rw [ha,hs] at hp;cases hp
  |some n =>
   rw [ha,hs] at hp
   simp only [x0q] at hp
   cases q with
   |true =>
    simp only [x20q] at hp
    split at hp
    ·rename_i hle
     injection hp with hp
     subst hp
     refine ⟨_,hr.agg_extract off n hle,?_⟩
     have hsz:=hr.agg_size
     have:=q14s (P:=P) (w:=w) (b:=b) (o:=o+off) (vs.extract off (off+n)).toList n (by simp;omega) (λj u hj=>by
      have hjn:j<n:=by have:=(List.getElem?_eq_some_iff.1 hj).1;simp at this;omega
      rw [Array.getElem?_toList,Array.getElem?_extract_of_lt (by omega)] at hj
      rw [Nat.add_assoc]
      exact hmem (off+j) u (by rw [Array.getElem?_eq_getElem (by omega)];exact hj))
     simp only [loadVar,Sem.run_bind,q14l ha,Result.andThen_ok,x20q,q153 hs,this,Sem.run_pure,Array.toArray_toList]
    ·cases hp
   |false =>
    simp only [x1q,x21q] at hp
    obtain ⟨u,hu,hru,_⟩:=hr.agg_get hp
    exact ⟨u,hru,by simp only [loadVar,Sem.run_bind,q14l ha,Result.andThen_ok,x1q,x21q,q14r (hmem off u hu)]⟩
theorem qqr (R:Rel w0 Z Y m h sh w) (hs:∀ id b,hv id=some b->h id=some b) {t:TypeId} {x v:V} {vx:Value} (hl:loadV P hv t x=some v) (r:Rep Z Y m vx x):∃ cv,Rep Z Y m cv v/\(Instr.loadAt t vx).run P w=.ok cv w:=by
 unfold loadV at hl
 split at hl
 ·rename_i id off
  split at hl
  ·rename_i cs he
   obtain ⟨g,hm,hat⟩:=R.box id cs (hs _ _ he)
   obtain ⟨t',vs,hvs,hrep⟩:=hat.ex
   cases r with
   |ptr _ _ g' hm' =>
    rw [hm] at hm'
    injection hm' with hm';injection hm' with hm';injection hm' with hm';injection hm' with hm'
    subst hm'
    obtain ⟨cv,h1,h2⟩:=qqs (w:=w) (b:=g) (o:=0) hrep (λj u hj=>by simp only [World.cell?,hvs,x13q];simpa using hj) hl
    exact ⟨cv,h1,by simpa [Instr.loadAt,Instr.sureAddr] using h2⟩
  ·cases hl
 ·rename_i id k i off
  split at hl
  ·rename_i es he
   cases hei:es[i]? with
   |none=>rw [hei] at hl;cases hl
   |some e =>
    rw [hei] at hl
    simp only [x0q] at hl
    split at hl
    ·rename_i hk
     cases r with
     |rptr _ _ _ _ g n c hm' =>
      rcases R.row id es (hs _ _ he) with ⟨_,h0⟩|⟨g',n',c',k',hm,hat⟩
      ·subst h0;cases hei
      ·rw [hm] at hm'
       injection hm' with hm';injection hm' with a1 a2 a3;injection a1 with a1;injection a1 with a1
       subst a1 a2 a3
       have hkk:k'=k:=by rw [←hk];exact (hat.each e (List.mem_of_getElem? hei)).symm
       subst hkk
       obtain ⟨t',fz,cur,hv',hcs,hfz,hcell⟩:=hat.ex
       have hlen:e.length=k':=hk
       have hrep:Rep Z Y m (.agg (Array.ofFn (n:=k') λj=>(cur[i*k'+j.1]?).getD .nilFunc)) (.agg (e.map .c)):=by
        refine .agg _ _ (by simp [hlen]) ?_ ?_
        ·intro u hu
         simp only [Array.toList_ofFn,List.mem_ofFn] at hu
         obtain ⟨j,rfl⟩:=hu
         obtain ⟨u,hu,hr⟩:=hcell i e j.1 (e[j.1]'(by omega)) hei (List.getElem?_eq_getElem _)
         rw [hu];exact hr.one
        ·intro j u x hu hx
         rw [x14q] at hx
         cases hej:e[j]? with
         |none=>rw [hej] at hx;cases hx
         |some z =>
          rw [hej] at hx
          injection hx with hx;subst hx
          have hjk:j<k':=by have:=(List.getElem?_eq_some_iff.1 hej).1;omega
          obtain ⟨u',hu',hr⟩:=hcell i e j z hei hej
          simp [hjk,hu'] at hu
          subst hu
          exact .c hr
       obtain ⟨cv,h1,h2⟩:=qqs (w:=w) (b:=g') (o:=i*k') hrep (λj u hj=>by
        have hjk:j<k':=by have:=(Array.getElem?_eq_some_iff.1 hj).1;simpa using this
        simp only [Array.getElem?_ofFn,hjk,dite_true,Option.some.injEq] at hj
        obtain ⟨u',hu',_⟩:=hcell i e j (e[j]'(by omega)) hei (List.getElem?_eq_getElem _)
        rw [hu'] at hj
        simp only [Option.getD_some] at hj
        subst hj
        simp only [World.cell?,hv']
        simpa using hu') hl
       exact ⟨cv,h1,by simpa [Instr.loadAt,Instr.sureAddr] using h2⟩
    ·cases hl
  ·rename_i es q v0 he
   split at hl
   case isFalse=>cases hl
   rename_i hko
   obtain ⟨rfl,rfl⟩:=hko
   cases hei:es[i]? with
   |none=>rw [hei] at hl;cases hl
   |some e =>
    rw [hei] at hl
    simp only [x0q] at hl
    have hl':∃ x,(tabC es q v0)[i]?=some x/\partV P t [x] 0=some v:=by
     unfold tabC
     by_cases hiq:i=q
     ·rw [if_pos hiq] at hl
      subst hiq
      exact ⟨v0,by rw [List.getElem?_set_self (by rw [List.length_map];exact (List.getElem?_eq_some_iff.1 hei).1)],hl⟩
     ·rw [if_neg hiq] at hl
      split at hl
      case isFalse=>cases hl
      rename_i h1
      match e,h1 with
      |[x],_=>exact ⟨.c x,by rw [List.getElem?_set_ne (Ne.symm hiq),x14q,hei];rfl,hl⟩
    obtain ⟨x,hx,hp⟩:=hl'
    obtain ⟨g,n,c,hm,hat⟩:=R.tab id es q v0 (hs _ _ he)
    obtain ⟨t',fz,cur,hv',hcs,hfz,hcell⟩:=hat.ex
    cases r with
    |rptr _ _ _ _ g' n' c' hm' =>
     rw [hm] at hm'
     injection hm' with hm';injection hm' with a1 a2 a3;injection a1 with a1;injection a1 with a1
     subst a1 a2 a3
     obtain ⟨u,hu,ho,hr⟩:=hcell i x hx
     have hrep:Rep Z Y m (.agg #[u]) (.agg [x]):=.agg _ _ rfl (by simpa using ho) (λj u' x' h1 h2=>by
      cases j with
      |zero=>simp at h1 h2;subst h1 h2;exact hr
      |succ j=>simp at h1)
     obtain ⟨cv,h1,h2⟩:=qqs (w:=w) (b:=g) (o:=i) (off:=0) hrep (λj u' hj=>by
      cases j with
      |zero =>
       simp at hj;subst hj
       simp only [World.cell?,hv']
       simpa using hu
      |succ j=>simp at hj) hp
     exact ⟨cv,h1,by simpa [Instr.loadAt,Instr.sureAddr] using h2⟩
  ·cases hl
 ·rename_i cs off
  cases r with
  |eptr b o _ U _ hz hr =>
   have hrep:Rep Z Y m (.agg (Array.ofFn (n:=cs.length) λj=>U j.1)) (.agg (cs.map .c)):=by
    refine .agg _ _ (by simp) ?_ ?_
    ·intro u hu
     simp only [Array.toList_ofFn,List.mem_ofFn] at hu
     obtain ⟨j,rfl⟩:=hu
     exact (hr j.1 (cs[j.1]) (List.getElem?_eq_getElem _)).one
    ·intro j u x hu hx
     rw [x14q] at hx
     cases hej:cs[j]? with
     |none=>rw [hej] at hx;cases hx
     |some z =>
      rw [hej] at hx
      injection hx with hx;subst hx
      have hjk:=(List.getElem?_eq_some_iff.1 hej).1
      simp [hjk] at hu
      subst hu
      exact .c (hr j z hej)
   obtain ⟨cv,h1,h2⟩:=qqs (w:=w) (b:=b) (o:=o) hrep (λj u hj=>by
    have hjk:j<cs.length:=by have:=(Array.getElem?_eq_some_iff.1 hj).1;simpa using this
    simp only [Array.getElem?_ofFn,hjk,dite_true,Option.some.injEq] at hj
    subst hj
    rcases hz j (cs[j]) (List.getElem?_eq_getElem _) with hz|hy
    ·exact R.zok _ _ _ hz
    ·exact R.yok' hy) hl
   exact ⟨cv,h1,by simpa [Instr.loadAt,Instr.sureAddr] using h2⟩
 ·cases hl
theorem qy (base:Nat):addB h base []=h:=by funext j;simp [addB];intro h1 h2;omega
theorem qz (base:Nat) (b:B):addB h base [b]=upd h base (some b):=by
 funext j
 simp only [addB,upd,x9q,x8q]
 by_cases e:j=base
 ·subst e;simp
 ·rw [if_neg (by omega),if_neg e]
def CallOk (P:Program) (g:FuncId) (args:List V) (res:V×List B):Prop :=
 okRes res.1=true/\(∀ b∈res.2,∃ es,b=.row es)/\∀ (w:World) (Z Y:ZMap) (cargs:Array Value),GW w->(∀ b o u,Z b o=some u->w.cell? ⟨b,o,none⟩=some u)->(∀ b o u,Y b o=some u->w.cell? ⟨b,o,none⟩=some u)->cargs.size=args.length ->
  (∀ (i:Nat) u x,cargs[i]?=some u->args[i]?=some x->Rep Z Y noM u x) ->
  Calls P g cargs w λe w'=>∃ cv Z' m',e=.returned cv/\ZUp (wb w) Z Z'/\Rel (wb w) Z' (λ_ _=>none) m' (λi=>res.2[i]?) (λ_=>false) w'/\Rep Z' (λ_ _=>none) m' cv res.1/\∀ i,m' i≠none->i<res.2.length
theorem qan {Z' Y0:ZMap} {m' m'':Nat->Oq Value} {f:Nat->Nat} (hm:∀ i v,m' i=some v->m'' (f i)=some v) {v:Value} {x:V} (hx:cellOk x=true) (r:Rep Z' Y0 m' v x):Rep Z' Y m'' v (cellR f x):=by
 cases r with
 |any v=>exact .any v
 |c h=>exact .c h
 |row id n A c h hA=>exact .row _ n A c (hm _ _ h) hA
 |row0 id A h=>exact .row0 _ A (hm _ _ h)
 |_=>cases hx
theorem q18 {Z' Y0:ZMap} {m' m'':Nat->Oq Value} {f:Nat->Nat} (hm:∀ i v,m' i=some v->m'' (f i)=some v) {v:Value} {x:V} (hx:aggOk x=true) (r:Rep Z' Y0 m' v x):Rep Z' Y m'' v (aggR f x):=by
 cases r with
 |agg vs cs hl h1 hr =>
  refine .agg vs _ (by simp [hl]) h1 (λi u x hu hx'=>?_)
  rw [x14q] at hx'
  cases hc:cs[i]? with
  |none=>rw [hc] at hx';cases hx'
  |some y =>
   rw [hc] at hx'
   injection hx' with hx';subst hx'
   exact qan hm (List.all_eq_true.1 hx y (List.mem_of_getElem? hc)) (hr i u y hu hc)
 |c h=>exact .c h
 |row id n A c h hA=>exact .row _ n A c (hm _ _ h) hA
 |row0 id A h=>exact .row0 _ A (hm _ _ h)
 |_=>cases hx
theorem qxv {Z' Y0:ZMap} {m' m'':Nat->Oq Value} {f:Nat->Nat} (hm:∀ i v,m' i=some v->m'' (f i)=some v) {v:Value} {x:V} (hx:okRes x=true) (r:Rep Z' Y0 m' v x):Rep Z' Y m'' v (x.ren f):=by
 cases r with
 |tup us vs hl hr =>
  refine .tup us _ (by simp [hl]) (λi u y hu hy=>?_)
  rw [x14q] at hy
  cases hc:vs[i]? with
  |none=>rw [hc] at hy;cases hy
  |some z =>
   rw [hc] at hy
   injection hy with hy;subst hy
   exact q18 hm (List.all_eq_true.1 hx z (List.mem_of_getElem? hc)) (hr i u z hu hc)
 |agg vs cs hl h1 hr=>exact q18 (x:=.agg cs) hm hx (.agg vs cs hl h1 hr)
 |c h=>exact .c h
 |row id n A c h hA=>exact .row _ n A c (hm _ _ h) hA
 |row0 id A h=>exact .row0 _ A (hm _ _ h)
 |_=>cases hx
theorem Rel.join {Z1 Z':ZMap} {m':Nat->Oq Value} {bs:List B} {base:Nat} (R:Rel w0 Z1 Y m h sh w) (Rc:Rel (wb w) Z' (λ_ _=>none) m' (λi=>bs[i]?) (λ_=>false) w') (hz:ZUp (wb w) Z1 Z') (hfr:∀ i,base<=i->i<base+bs.length->m i=none/\h i=none)
  (hbs:∀ b∈bs,∃ es,b=.row es):Rel w0 Z' Y (λi=>if base<=i/\i<base+bs.length then m' (i - base) else m i) (addB h base bs) sh w':=by
 have Rcb:=q1el.1 Rc.bel
 have hmle:MLe m (λi=>if base<=i/\i<base+bs.length then m' (i - base) else m i):=λi v hi=>by
  dsimp only
  rw [if_neg (λhc=>by rw [(hfr i hc.1 hc.2).1] at hi;cases hi)]
  exact hi
 have hold:∀ g x,w.heap[g]?=some x->w'.heap[g]?=some x:=λg x hx=>by rw [Rcb.block g (qma hx)];exact hx
 have hzold:∀ g o,g<w.heap.size->Z' g o≠none->Z1 g o≠none:=λg o hg hn=>by
  cases hzz:Z' g o with
  |none=>exact absurd hzz hn
  |some u =>
   rcases hz.own g o u hzz with h1|h1
   ·rw [h1];simp
   ·have:=wb_own.1 h1;omega
 refine ⟨BelA.trans R.bel Rcb,R.gw,Rc.zok,R.yok,λid cs hi=>?_,λid es hi=>?_,λid es i v hi=>?_,λid l hi=>?_,λid id' g h1 h2 e1 e2=>?_⟩
 ·unfold addB at hi
  split at hi
  ·obtain ⟨es,he⟩:=hbs _ (List.mem_of_getElem? hi);cases he
  ·rename_i hc
   obtain ⟨g,hm,hat⟩:=R.box id cs hi
   obtain ⟨t,vs,hv,hr⟩:=hat.ex
   refine ⟨g,hmle _ _ hm,⟨hat.base,⟨t,vs,hold _ _ hv,hr.mono hz.le hmle⟩,λo=>?_⟩⟩
   cases hzz:Z' g o with
   |none=>rfl
   |some u=>exact absurd (hat.apart o) (hzold g o (qma hv) (by rw [hzz];simp))
 ·unfold addB at hi
  split at hi
  ·rename_i hc
   rcases Rc.row (id - base) es hi with ⟨h0,h1⟩|⟨g,n,c,k,hm,hat⟩
   ·exact .inl ⟨by dsimp only;rw [if_pos hc];exact h0,h1⟩
   ·refine .inr ⟨g,n,c,k,by dsimp only;rw [if_pos hc];exact hm,⟨.inl (Nat.le_trans R.bel.size (wb_own.1 hat.base)),hat.ex,hat.len,hat.le,hat.max,hat.pos,hat.zero,hat.each,λo ho=>?_⟩⟩
    have:=hat.apart o ho
    cases this.1
  ·rcases R.row id es hi with ⟨h0,h1⟩|⟨g,n,c,k,hm,hat⟩
   ·exact .inl ⟨hmle _ _ h0,h1⟩
   ·obtain ⟨t,fz,cur,hv,hcs,hfz,hcell⟩:=hat.ex
    refine .inr ⟨g,n,c,k,hmle _ _ hm,⟨hat.base,⟨t,fz,cur,hold _ _ hv,hcs,hfz,λi e j x he hx=>?_⟩,hat.len,hat.le,hat.max,hat.pos,hat.zero,hat.each,λo ho=>hat.apart o (hzold g o (qma hv) ho)⟩⟩
    obtain ⟨u,hu,hr⟩:=hcell i e j x he hx
    exact ⟨u,hu,hr.mono hz.le⟩
 ·unfold addB at hi
  split at hi
  ·obtain ⟨es,he⟩:=hbs _ (List.mem_of_getElem? hi);cases he
  ·obtain ⟨g,n,c,hm,hat⟩:=R.tab id es i v hi
   obtain ⟨t,fz,cur,hv,_⟩:=hat.ex
   refine ⟨g,n,c,hmle _ _ hm,hat.up hz.le hmle (hold g) λo=>?_⟩
   cases hzz:Z' g o with
   |none=>rfl
   |some u=>exact absurd (hat.apart o) (hzold g o (qma hv) (by rw [hzz];simp))
 ·unfold addB at hi
  split at hi
  ·obtain ⟨es,he⟩:=hbs _ (List.mem_of_getElem? hi);cases he
  ·obtain ⟨g,hm,hat⟩:=R.mp id l hi
   obtain ⟨es,clock,hv,hr⟩:=hat.ex
   exact ⟨g,hmle _ _ hm,hat.base,es,clock,hold _ _ hv,hr⟩
 ·have cases_:∀ j,addB h base bs j≠none->blkOf (λi=>if base<=i/\i<base+bs.length then m' (i - base) else m i) j=some g ->
    ((base<=j/\j<base+bs.length)/\bs[j - base]?≠none/\blkOf m' (j - base)=some g/\w.heap.size<=g)∨(¬ (base<=j/\j<base+bs.length)/\h j≠none/\blkOf m j=some g/\g<w.heap.size):=by
   intro j hj hg
   by_cases hc:base<=j/\j<base+bs.length
   ·left
    have hj':bs[j - base]?≠none:=by simpa [addB,hc] using hj
    have hg':blkOf m' (j - base)=some g:=by simpa [blkOf,hc] using hg
    exact ⟨hc,hj',hg',wb_own.1 (Rc.blk_lt hj' hg').2⟩
   ·right
    have hj':h j≠none:=by simpa [addB,hc] using hj
    have hg':blkOf m j=some g:=by simpa [blkOf,hc] using hg
    exact ⟨hc,hj',hg',(R.blk_lt hj' hg').1⟩
  rcases cases_ id h1 e1 with ⟨c1,n1,b1,l1⟩|⟨c1,n1,b1,l1⟩ <;> rcases cases_ id' h2 e2 with ⟨c2,n2,b2,l2⟩|⟨c2,n2,b2,l2⟩
  ·have:=Rc.inj _ _ g n1 n2 b1 b2
   omega
  ·omega
  ·omega
  ·exact R.inj _ _ g n1 n2 b1 b2
end
end Go.Proofs.YtmlcmoaonaomfaaGreatDoor
namespace Go.Proofs.YtmlcmoaonaomfaaGreatDoor
open Go.RowKit
section
variable {P:Program} {Z Y:ZMap} {m:Nat->Oq Value} {w0:WB} {w w':World} {h hv:Nat->Oq B} {sh:Nat->Bool}
theorem Rel.new_row (R:Rel w0 Z Y m h sh w) {base:Nat} {es:List (List C)} {cur:Array Value} {n c k:Nat} (t:TypeId) (fz:Nat×Nat) (hm:m base=none) (hlen:es.length=n) (hnc:n<=c) (hc:c<=maxLen) (hk:0<k) (h0:n=0->c=0) (hsz:cur.size=c*k) (hfz:(∀ o,o<cur.size->¬ (fz.1<=o/\o<fz.2))/\(k≠1->fz=(0,0))/\fz.1<=fz.2)
  (each:∀ e∈es,e.length=k) (hcell:∀ (i:Nat) (e:List C) (j:Nat) (x:C),es[i]?=some e->e[j]?=some x->∃ u,cur[i*k+j]?=some u/\RepC Z u x) :
  Rel w0 Z Y (upd m base (some (.slice (some ⟨w.heap.size,0,none⟩) n c))) (upd h base (some (.row es))) sh (w.alloc (.cells cur t fz)) :=
 R.new hm (.inr trivial) (.inr (.inl ⟨es,n,c,k,rfl,rfl,⟨.inl R.bel.size,⟨t,fz,cur,heap_alloc_new w _,hsz,hfz,hcell⟩,hlen,hnc,hc,hk,h0,each,λo ho=>by
  cases hz:Z w.heap.size o with
  |none=>exact absurd hz ho
  |some u=>have:=R.z_lt hz;omega⟩⟩))
theorem Rel.new_tab (R:Rel w0 Z Y m h sh w) {base:Nat} {es:List (List C)} {cur:Array Value} {n c:Nat} {v:V} (t:TypeId) (fz:Nat×Nat) (hm:m base=none) (hlen:es.length=n) (hnc:n<=c) (hsz:cur.size=c) (hfz:∀ o,o<cur.size->¬ (fz.1<=o/\o<fz.2))
  (each:∀ e∈es,e.length=1) (hcell:∀ (i:Nat) (e:List C) (j:Nat) (x:C),es[i]?=some e->e[j]?=some x->∃ u,cur[i*1+j]?=some u/\RepC Z u x) :
  Rel w0 Z Y (upd m base (some (.slice (some ⟨w.heap.size,0,none⟩) n c))) (upd h base (some (.tab es n v))) sh (w.alloc (.cells cur t fz)) :=
 R.new hm (.inr trivial) (.inr (.inr<| .inl ⟨es,n,v,n,c,rfl,rfl,⟨.inl R.bel.size,⟨t,fz,cur,heap_alloc_new w _,hsz,hfz,λj x hx=>by
  unfold tabC at hx
  rw [List.set_eq_of_length_le (by simp [hlen]),List.getElem?_map] at hx
  cases he:es[j]? with
  |none=>rw [he] at hx;cases hx
  |some e =>
   rw [he] at hx
   injection hx with hx;subst hx
   have h1:=each e (List.mem_of_getElem? he)
   match e,h1 with
   |[z],_ =>
    obtain ⟨u,hu,hr⟩:=hcell j [z] 0 z he rfl
    exact ⟨u,by simpa using hu,hr.one,.c hr⟩⟩,by simp [tabC,hlen],hnc,λo=>by
  cases hz:Z w.heap.size o with
  |none=>rfl
  |some u=>have:=R.z_lt hz;omega⟩⟩))
def Laid (Z:ZMap) (k:Nat) (es:List (List C)) (cur:Array Value):Prop:=(∀ e∈es,e.length=k)/\∀ (i:Nat) (e:List C) (j:Nat) (x:C),es[i]?=some e->e[j]?=some x->∃ u,cur[i*k+j]?=some u/\RepC Z u x
theorem qpq {k len:Nat} {zc:List C} {zs:Array Value} (hl:zc.length=k) (hs:zs.size=k) (hr:∀ (j:Nat) u x,zs[j]?=some u->zc[j]?=some x->RepC Z u x) :
  Laid Z k (List.replicate len zc) ((Array.range (len*k)).map (zs[· % zs.size]!)):=by
 refine ⟨λe he=>by rw [List.eq_of_mem_replicate he];exact hl,λi e j x he hx=>?_⟩
 rw [List.getElem?_replicate] at he
 split at he
 ·rename_i hi
  injection he with he;subst he
  have hj:=(List.getElem?_eq_some_iff.1 hx).1
  rw [hl] at hj
  have hlt:i*k+j<len*k:=by
   have:(i+1)*k<=len*k:=Nat.mul_le_mul_right k hi
   rw [Nat.add_mul] at this
   omega
  refine ⟨zs[j]'(by omega),?_,hr j _ x (Array.getElem?_eq_getElem _) hx⟩
  have e:(i*k+j) % zs.size=j:=by rw [hs,Nat.add_comm,Nat.add_mul_mod_self_right];exact Nat.mod_eq_of_lt hj
  simp only [Array.getElem?_map,Array.getElem?_range,hlt,x20q,x18q,e]
  rw [getElem!_pos zs j (by omega)]
 ·cases he
theorem q8e {k len:Nat} {r:Operand->V} {ρ:Operand->Value} (hk:0<k) (hs:∀ id b,hv id=some b->h id=some b):∀ (ps:List (Nat×Operand)) {Z:ZMap} {sh:Nat->Bool} {es:List (List C)} {cur:Array Value} {y:List (List C)×List Nat},
  Rel w0 Z Y m h sh w->(∀ x,Rep Z Y m (ρ x) (r x))->buildS hv k len r ps es=some y->es.length=len->cur.size=len*k->Laid Z k es cur ->
  ∃ Z' cur',ZUp w0 Z Z'/\Rel w0 Z' Y m h (flag sh y.2) w/\y.1.length=len/\cur'.size=len*k/\Laid Z' k y.1 cur'/\Instr.fill (λi=>some (i*k,k)) cur (ps.map λp=>(p.1,ρ p.2))=some cur'
 |[],Z,sh,es,cur,y,R,_,hb,hl,hc,hla=>by
  injection hb with hb;subst hb
  exact ⟨Z,cur,ZUp.refl,by rw [qgr];exact R,hl,hc,hla,rfl⟩
 |(i,x)::ps,Z,sh,es,cur,y,R,hρ,hb,hl,hc,hla=>by
  simp only [buildS] at hb
  split at hb
  ·rename_i hi
   cases hcx:(r x).cells with
   |none=>rw [hcx] at hb;cases hb
   |some vs =>
    rw [hcx] at hb
    simp only [x0q] at hb
    cases hf:frzL hv vs with
    |none=>rw [hf] at hb;cases hb
    |some a =>
     rw [hf] at hb
     simp only [x0q] at hb
     split at hb
     ·rename_i hak
      cases hb2:buildS hv k len r ps (es.set i a.1) with
      |none=>rw [hb2] at hb;cases hb
      |some y' =>
       rw [hb2] at hb
       injection hb with hb;subst hb
       have rc:=(hρ x).cells hcx
       obtain ⟨Z1,u1,R1,l1,r1⟩:=qjy vs (us:=(ρ x).cells.toList) R hs hf (by simpa using rc.agg_size) (λj u z hu hz=>by
        obtain ⟨u',hu',hr',_⟩:=rc.agg_get hz
        rw [Array.getElem?_toList,hu'] at hu
        injection hu with hu;subst hu;exact hr')
       have hvk:(ρ x).cells.size=k:=by rw [rc.agg_size,←l1];exact hak
       have hik:i*k+k<=len*k:=by
        have:(i+1)*k<=len*k:=Nat.mul_le_mul_right k hi
        rw [Nat.add_mul] at this
        omega
       obtain ⟨s1,g1⟩:=qi8 (i*k) (ρ x).cells.toList 0 cur
       have hla1:Laid Z1 k (es.set i a.1) (((ρ x).cells.toList.zipIdx 0).foldl (λ(cs:Array Value) (p:Value×Nat)=>cs.setIfInBounds (i*k+p.2) p.1) cur):=by
        refine ⟨λe he=>?_,λi' e j z he hz=>?_⟩
        ·rcases List.mem_or_eq_of_mem_set he with he|he
         ·exact hla.1 e he
         ·subst he;exact hak
        ·have hi'l:i'<len:=by have:=(List.getElem?_eq_some_iff.1 he).1;simpa [hl] using this
         have hek:e.length=k:=by
          rcases List.mem_or_eq_of_mem_set (List.mem_of_getElem? he) with he|he
          ·exact hla.1 e he
          ·subst he;exact hak
         have hj:j<k:=by have:=(List.getElem?_eq_some_iff.1 hz).1;omega
         have hlt:i'*k+j<cur.size:=by
          rw [hc]
          have:(i'+1)*k<=len*k:=Nat.mul_le_mul_right k hi'l
          rw [Nat.add_mul] at this
          omega
         rw [g1 _ hlt]
         simp only [x24q,hvk,Nat.add_zero]
         by_cases e':i'=i
         ·subst e'
          rw [List.getElem?_set_self (by omega)] at he
          injection he with he;subst he
          rw [if_pos (by omega)]
          have hsub:i'*k+j - i'*k=j:=by omega
          rw [hsub]
          have hju:(ρ x).cells.toList[j]?=some ((ρ x).cells[j]'(by omega)):=by simp
          exact ⟨_,hju,r1 j _ z hju hz⟩
         ·rw [List.getElem?_set_ne (Ne.symm e')] at he
          rw [if_neg (by
           intro hcon
           rcases Nat.lt_or_gt_of_ne e' with hlt'|hgt'
           ·have:(i'+1)*k<=i*k:=Nat.mul_le_mul_right k hlt'
            rw [Nat.add_mul] at this
            omega
           ·have:(i+1)*k<=i'*k:=Nat.mul_le_mul_right k hgt'
            rw [Nat.add_mul] at this
            omega)]
          obtain ⟨u,hu,hr⟩:=hla.2 i' e j z he hz
          exact ⟨u,hu,hr.mono u1.le⟩
       obtain ⟨Z2,cur',u2,R2,l2,c2,la2,f2⟩:=q8e (ρ:=ρ) hk hs ps (es:=es.set i a.1) R1 (λz=>(hρ z).mono u1.le (MLe.refl _)) hb2 (by simpa using hl) (by rw [s1];exact hc) hla1
       refine ⟨Z2,cur',u1.trans u2,by rw [←qgp];exact R2,l2,c2,la2,?_⟩
       simp only [List.map_cons,Instr.fill]
       rw [if_neg (by simp [hvk];omega),←Array.foldl_toList,Array.toList_zipIdx]
       exact f2
     ·cases hb
  ·cases hb
end
section
variable {P:Program} {Z Y:ZMap} {m:Nat->Oq Value} {w0:WB} {w w':World} {h hv:Nat->Oq B} {sh:Nat->Bool}
theorem q1eq {o:Oper} {a:Act} {K:Act->World->Prop} {Q:Exit->Act->World->Prop} {cv:Value} (hr:(execOp a.eval o).run P w=.ok (.value cv) w') (hK:K (a.put o.dst cv) w'):o.wp P a w K Q:=by
 unfold Oper.wp
 rw [hr]
 exact hK
theorem q14w (e:TypeId) (cells:Array Value):(newRow e cells).run P w=.ok ⟨w.heap.size,0,none⟩ (w.alloc (.cells cells e)):=rfl
theorem q1dy {base:Nat} {v:Value} {n:Nat} (hn:0<n):∀ i,upd m base (some v) i≠none->m i≠none∨(base<=i/\i<base+n):=by
 intro i hi
 by_cases e:i=base
 ·right;omega
 ·left;simpa [upd,e] using hi
theorem q17p {v:Value} {es:List (List C)} (r:RepC Z v (.sl es)) (R:∀ b o u,Z b o=some u->w.cell? ⟨b,o,none⟩=some u) {k:Nat} (hk:∀ e∈es,e.length=k) :
  ∃ A c,v=.slice A es.length c/\es.length<=c/\c<=maxLen/\(es=[]∨∃ (b off:Nat) (U:Nat->Value),A=some ⟨b,off,none⟩/\(∀ (i:Nat) (e:List C) (j:Nat) (x:C),es[i]?=some e->e[j]?=some x->Z b (off+(i*k+j))=some (U (i*k+j))/\w.cell? ⟨b,off+(i*k+j),none⟩=some (U (i*k+j))/\RepC Z (U (i*k+j)) x)):=by
 cases r with
 |sl A n c k' b off U _ hl hc hm hk' hA hz hr hN =>
  subst hl
  refine ⟨A,c,rfl,hc,hm,?_⟩
  cases es with
  |nil=>exact .inl rfl
  |cons e0 es =>
   right
   have hkk:k'=k:=by rw [←hk e0 (by simp),hk' e0 (by simp)]
   subst hkk
   exact ⟨b,off,U,hA (by simp),λi e j x he hx=>⟨hz i e j x he hx,R _ _ _ (hz i e j x he hx),hr i e j x he hx⟩⟩
theorem q8n:∀ {es:List (List C)} {l:List UInt8},bytesOf es=some l->es.length=l.length/\(∀ e∈es,e.length=1)/\∀ (i:Nat) e,es[i]?=some e->∃ n b,e=[.int .u8 n]/\l[i]?=some b/\b=UInt8.ofNat n.toNat
 |[],l,h=>by
  injection h with h;subst h
  exact ⟨rfl,by simp,by simp⟩
 |e::es,l,h=>by
  unfold bytesOf at h
  split at h
  ·cases ‹e::es=[]›
  ·rename_i n es' he
   injection he with he1 he2
   subst he1 he2
   cases hb:bytesOf es with
   |none=>rw [hb] at h;cases h
   |some l' =>
    rw [hb] at h
    injection h with h;subst h
    obtain ⟨h1,h2,h3⟩:=q8n hb
    refine ⟨by simp [h1],λe he=>?_,λi e he=>?_⟩
    ·rcases List.mem_cons.1 he with rfl|he
     ·rfl
     ·exact h2 e he
    ·cases i with
     |zero=>simp at he;subst he;exact ⟨n,_,rfl,rfl,rfl⟩
     |succ i=>exact h3 i e (by simpa using he)
  ·cases h
theorem q8r (f:Value->BA->Sem (ForInStep BA)) (hf:∀ n s,(f (.int .u8 n) s).run P w=.ok (.yield (s.push (UInt8.ofNat n.toNat))) w):∀ (l:List Value) (bs:List UInt8) (s:BA),l.length=bs.length->(∀ (i:Nat) u b,l[i]?=some u->bs[i]?=some b->∃ n:Int,u=.int .u8 n/\b=UInt8.ofNat n.toNat) ->
  (forIn l s f).run P w=.ok ⟨s.data++bs.toArray⟩ w
 |[],[],s,_,_=>by simp
 |[],_::_,_,h,_=>by cases h
 |_::_,[],_,h,_=>by cases h
 |u::l,b::bs,s,h,hr=>by
  obtain ⟨n,rfl,rfl⟩:=hr 0 u b rfl rfl
  have ih:=q8r f hf l bs (s.push (UInt8.ofNat n.toNat)) (by simpa using h) (λi u b hu hb=>hr (i+1) u b hu hb)
  simp only [List.forIn_cons,Sem.run_bind,hf,Result.andThen_ok]
  rw [ih]
  congr 1
  cases s
  simp [ByteArray.push]
theorem q8s {v:Value} {es:List (List C)} {l:List UInt8} (hz:∀ b o u,Z b o=some u->w.cell? ⟨b,o,none⟩=some u) (r:RepC Z v (.sl es)) (hb:bytesOf es=some l):(Conv.bytesToString v).run P w=.ok (.string ⟨l.toArray⟩) w:=by
 obtain ⟨h1,h2,h3⟩:=q8n hb
 obtain ⟨A,c,rfl,hc,hm,hA⟩:=q17p r hz h2
 rcases hA with rfl|⟨b,off,U,rfl,hcell⟩
 ·have:l=[]:=List.eq_nil_of_length_eq_zero (by simpa using h1.symm)
  subst this
  cases A with
  |none=>rfl
  |some a=>simp [Conv.bytesToString,loadCells,loadCellsFrom];rfl
 ·have hlc:=q14s (P:=P) (w:=w) (b:=b) (o:=off) ((List.range es.length).map U) es.length (by simp) (λj u hj=>by
   rw [x14q] at hj
   have hjl:j<es.length:=by
    rcases Nat.lt_or_ge j es.length with hlt|hge
    ·exact hlt
    ·rw [List.getElem?_eq_none (by simpa using hge)] at hj;cases hj
   rw [List.getElem?_range hjl] at hj
   injection hj with hj;subst hj
   obtain ⟨n,b',he,_,_⟩:=h3 j (es[j]) (List.getElem?_eq_getElem hjl)
   have:=(hcell j (es[j]) 0 (.int .u8 n) (List.getElem?_eq_getElem hjl) (by rw [he];rfl)).2.1
   simpa using this)
  simp only [Conv.bytesToString,Sem.run_bind,hlc,Result.andThen_ok]
  rw [←Array.forIn_toList]
  rw [q8r (P:=P) (w:=w) _ (λn s=>rfl) ((List.range es.length).map U) l ByteArray.empty (by simp [h1]) (λi u b' hu hb'=>by
   rw [x14q] at hu
   have hil:i<es.length:=by rw [h1];exact (List.getElem?_eq_some_iff.1 hb').1
   rw [List.getElem?_range hil] at hu
   injection hu with hu;subst hu
   obtain ⟨n,b'',he,hl,rfl⟩:=h3 i (es[i]) (List.getElem?_eq_getElem hil)
   rw [hl] at hb'
   injection hb' with hb';subst hb'
   have hrep:=(hcell i (es[i]) 0 (.int .u8 n) (List.getElem?_eq_getElem hil) (by rw [he];rfl)).2.2
   simp only [Nat.mul_one,Nat.add_zero] at hrep
   generalize hUi:U i=ui at hrep
   cases hrep
   exact ⟨n,rfl,rfl⟩)]
  show Result.ok (Value.string ⟨ByteArray.empty.data++l.toArray⟩) w=_
  have e:ByteArray.empty.data=#[]:=rfl
  rw [e,Array.empty_append]
theorem q1a2 {v:Value} {es:List (List C)} (r:RepC Z v (.sl es)) {k l u:Nat} (hlu:l<=u) (hu:u<=es.length) (hk:∀ e∈es,e.length=k):∃ A c,v=.slice A es.length c/\es.length<=c/\∀ mm,u<=mm->mm<=c->RepC Z (.slice (if mm=l then A else A.map (·.add (l*k))) (u - l) (mm - l)) (.sl ((es.drop l).take (u - l))):=by
 cases r with
 |sl A n c k' b off U _ hl hc hm hk' hA hz hr hN =>
  subst hl
  refine ⟨A,c,rfl,hc,λmm h1 h2=>?_⟩
  rcases Nat.eq_or_lt_of_le hlu with he|hlt
  ·subst he
   simp only [Nat.sub_self,List.take_zero]
   exact qxw Z (by omega) (λh=>by
    have hA0:A=none:=by split at h;(exact h);(cases A with|none=>rfl|some a=>simp at h)
    have:=hN hA0;omega)
  ·cases es with
   |nil=>simp at hu;omega
   |cons e0 es' =>
    have hkk:k'=k:=by rw [←hk e0 (by simp),hk' e0 (by simp)]
    subst hkk
    have:=hA (by simp)
    subst this
    rw [if_neg (by omega)]
    simp only [x18q,q10]
    refine .sl _ (u - l) (mm - l) k' b (off+l*k') (λo=>U (l*k'+o)) _ (by rw [List.length_take,List.length_drop];omega) (by omega) (by omega) (λe he=>hk' e (List.mem_of_mem_drop (List.mem_of_mem_take he))) (λ_=>rfl) ?_ ?_ (λh=>by cases h)
    ·intro i e j x he hx
     rw [List.getElem?_take] at he
     split at he
     ·rw [List.getElem?_drop] at he
      have:=hz (l+i) e j x he hx
      rw [Nat.add_mul] at this
      rw [show off+l*k'+(i*k'+j)=off+(l*k'+i*k'+j) from by omega,show l*k'+(i*k'+j)=l*k'+i*k'+j from by omega]
      exact this
     ·cases he
    ·intro i e j x he hx
     rw [List.getElem?_take] at he
     split at he
     ·rw [List.getElem?_drop] at he
      have:=hr (l+i) e j x he hx
      rw [Nat.add_mul] at this
      rw [show l*k'+(i*k'+j)=l*k'+i*k'+j from by omega]
      exact this
     ·cases he
theorem sb_run {x:V} {v:Value} {d mx n cap:Nat} {code:BoundsCode} (hb:bnd (some x) d mx=some n) (hr:Rep Z Y m v x) (hc:mx<=cap):(Instr.sliceBound v cap code).run P w=.ok n w/\n<=mx:=by
 unfold bnd at hb
 split at hb
 ·cases ‹some x=none›
 ·rename_i k i e
  injection e with e;subst e
  have:=qy0 hr
  subst this
  split at hb
  ·rename_i hi
   injection hb with hb;subst hb
   have:0<=i/\i<=(cap:Int):=by omega
   exact ⟨by simp [Instr.sliceBound,asIntOf,this],by omega⟩
  ·cases hb
 ·cases hb
theorem q17q {t e:TypeId} {es:List (List C)} {k mm u l:Nat} {v:Value} {r:Operand->V} {ρ:Operand->Value} {lo hi mx:Oq Operand} (hρ:∀ x,Rep Z Y m (ρ x) (r x)) (hu:P.underlying t=some (.slice e)) (hs:szO P e=some k)
  (h1:bnd (mx.map r) es.length es.length=some mm) (h2:bnd (hi.map r) es.length mm=some u) (h3:bnd (lo.map r) 0 u=some l) (hmh:¬ (mx.isSome=true/\hi.isNone=true)) {A:Oq Addr} {c:Nat} (hv:v=.slice A es.length c) (hc:es.length<=c) :
  l<=u/\u<=es.length/\∃ cm,u<=cm/\cm<=c/\(mx.isSome=true->cm=mm)/\(Instr.sliceAt t v (lo.map ρ) (hi.map ρ) (mx.map ρ)).run P w=.ok (.slice (if cm=l then A else A.map (·.add (l*k))) (u - l) (cm - l)) w:=by
 subst hv
 have hml:mm<=es.length:=by
  cases mx with
  |none=>injection h1 with h1;omega
  |some x=>exact (sb_run (P:=P) (w:=w) (cap:=es.length) (code:=.sliceB) h1 (hρ x) (Nat.le_refl _)).2
 have hum:u<=es.length/\(hi.isSome=true->u<=mm):=by
  cases hi with
  |none=>injection h2 with h2;exact ⟨by omega,by simp⟩
  |some x=>have:=(sb_run (P:=P) (w:=w) (cap:=mm) (code:=.sliceB) h2 (hρ x) (Nat.le_refl _)).2;exact ⟨by omega,λ_=>this⟩
 have hlu:l<=u:=by
  cases lo with
  |none=>injection h3 with h3;omega
  |some x=>exact (sb_run (P:=P) (w:=w) (cap:=u) (code:=.sliceB) h3 (hρ x) (Nat.le_refl _)).2
 refine ⟨hlu,hum.1,?_⟩
 have fin:∀ cm,((Instr.sliceBounds true es.length c (lo.map ρ) (hi.map ρ) (mx.map ρ)).run P w=.ok (l,u,cm) w)->(Instr.sliceAt t (.slice A es.length c) (lo.map ρ) (hi.map ρ) (mx.map ρ)).run P w=.ok (.slice (if cm=l then A else A.map (·.add (l*k))) (u - l) (cm - l)) w:=by
  intro cm hb
  simp only [Instr.sliceAt,Instr.slice,Sem.run_bind,q154 hu,Result.andThen_ok,hb,q153 hs,Sem.run_pure]
 have hlo:∀ code,(match lo.map ρ with|some v=>Instr.sliceBound v u code|none=>pure 0).run P w=.ok l w:=by
  intro code
  cases lo with
  |none=>injection h3 with h3;subst h3;rfl
  |some x=>exact (sb_run h3 (hρ x) (Nat.le_refl _)).1
 cases mx with
 |none =>
  refine ⟨c,by omega,Nat.le_refl _,by simp,fin c ?_⟩
  cases hi with
  |none =>
   injection h2 with h2
   subst h2
   have:=hlo .sliceB
   cases lo <;> simp [Instr.sliceBounds] at this ⊢ <;> simp [this]
  |some y =>
   have hy:=λcode=>(sb_run (P:=P) (w:=w) (cap:=c) (code:=code) h2 (hρ y) (by omega)).1
   have:=hlo .sliceB
   cases lo <;> simp [Instr.sliceBounds,hy] at this ⊢ <;> simp [this]
 |some x =>
  have hx:=λcode=>(sb_run (P:=P) (w:=w) (cap:=c) (code:=code) h1 (hρ x) hc).1
  cases hi with
  |none=>simp at hmh
  |some y =>
   have hy:=λcode=>(sb_run (P:=P) (w:=w) (cap:=mm) (code:=code) h2 (hρ y) (Nat.le_refl _)).1
   refine ⟨mm,hum.2 rfl,by omega,λ_=>rfl,fin mm ?_⟩
   have:=hlo .slice3C
   cases lo <;> simp [Instr.sliceBounds,hx,hy] at this ⊢ <;> simp [this]
end
end Go.Proofs.YtmlcmoaonaomfaaGreatDoor
