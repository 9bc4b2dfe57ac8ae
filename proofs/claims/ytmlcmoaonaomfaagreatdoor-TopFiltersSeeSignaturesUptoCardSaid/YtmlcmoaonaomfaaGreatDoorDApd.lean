/- append. -/
import Derived.Test.YtmlcmoaonaomfaaGreatDoorDEv2
import Derived.Laws.Append
import Derived.Deep.DeepAppendWide
namespace Go.Proofs.YtmlcmoaonaomfaaGreatDoor
open Go.RowKit
section
variable {P:Program} {Z Y:ZMap} {m:Nat->Oq Value} {w0:WB} {w w':World} {h hv:Nat->Oq B} {sh:Nat->Bool}
theorem q14p {k n:Nat} {A:Oq Addr} {c:Nat} (l:List Value) (hl:l.length=n*k) (hA:(l=[]/\(A=none∨n*k=0))∨∃ b off,A=some ⟨b,off,none⟩/\∀ (j:Nat) u,l[j]?=some u->w.cell? ⟨b,off+j,none⟩=some u) :
  (Builtin.firstCells k n (.slice A n c)).run P w=.ok l.toArray w:=by
 rcases hA with ⟨rfl,hA⟩|⟨b,off,rfl,hc⟩
 ·rcases hA with rfl|h0
  ·rfl
  ·cases A with
   |none=>rfl
   |some a=>simp [Builtin.firstCells,h0,loadCells,loadCellsFrom]
 ·exact q14s l (n*k) hl hc
def flatU (U:Nat->Value) (n k:Nat):List Value:=(List.range (n*k)).map U
theorem qgy (U:Nat->Value) (n k:Nat):(flatU U n k).length=n*k:=by simp [flatU]
theorem qgx {U:Nat->Value} {n k j:Nat} (hj:j<n*k):(flatU U n k)[j]?=some (U j):=by simp [flatU,List.getElem?_range hj]
theorem qgz {U:Nat->Value} {n k j:Nat} {u:Value} (h:(flatU U n k)[j]?=some u):j<n*k/\u=U j:=by
 have hj:j<n*k:=by have:=(List.getElem?_eq_some_iff.1 h).1;simpa [qgy] using this
 rw [qgx hj] at h
 injection h with h
 exact ⟨hj,h.symm⟩
theorem qcm {es:List (List C)} {k j:Nat} (hk:0<k) (he:∀ e∈es,e.length=k) (hj:j<es.length*k):∃ i q e x,es[i]?=some e/\e[q]?=some x/\i*k+q=j:=by
 have hi:j / k<es.length:=(Nat.div_lt_iff_lt_mul hk).2 hj
 have hq:j % k<k:=Nat.mod_lt _ hk
 refine ⟨j / k,j % k,es[j / k],(es[j / k])[j % k]'(by rw [he _ (List.getElem_mem _)];exact hq),List.getElem?_eq_getElem hi,List.getElem?_eq_getElem _,?_⟩
 rw [Nat.mul_comm];exact Nat.div_add_mod j k
theorem qd3 {es:List (List C)} {k i j:Nat} {e:List C} {x:C} (he:∀ e∈es,e.length=k) (h1:es[i]?=some e) (h2:e[j]?=some x):i*k+j<es.length*k/\j<k:=by
 have hi:=(List.getElem?_eq_some_iff.1 h1).1
 have hj:=(List.getElem?_eq_some_iff.1 h2).1
 rw [he e (List.mem_of_getElem? h1)] at hj
 have:(i+1)*k<=es.length*k:=Nat.mul_le_mul_right k hi
 rw [Nat.add_mul] at this
 omega
def ApdT (P:Program) (t':TypeId) (vx:Value) (mm:Nat):Prop:=(∃ e' B d,P.underlying t'=some (.slice e')/\vx=.slice B mm d)∨∃ s:BA,P.underlying t'=some .string/\vx=.string s/\s.size=mm
theorem q14o {t t' e ty:TypeId} {vx:Value} {i:TypeInfo} (hu:P.underlying t=some (.slice e)) {mm:Nat} (hx:ApdT P t' vx mm) (hi:P.info? e=some i) {A:Oq Addr} {n c:Nat} (hroom:n+mm<=c) {news:List Value} (hn:(Builtin.firstCells i.size mm vx).run P w=.ok news.toArray w) {w1:World}
    (hst:(match A with|some a=>storeCells (a.add (n*i.size)) news|none=>pure ()).run P w=.ok () w1):(Builtin.append_ #[t,t'] ty #[.slice A n c,vx]).run P w=.ok (.slice A (n+mm) c) w1:=by
  rcases hx with ⟨e',B,d,hu',rfl⟩|⟨s,hu',rfl,rfl⟩
  all_goals
     simp only [Builtin.append_,List.getElem?_toArray,List.getElem?_cons_zero,List.getElem?_cons_succ,Sem.run_bind,q154 hu,Result.andThen_ok,q153 (show szO P e=some i.size by simp [szO,hi]),q154 hu',Sem.run_pure,Bool.false_eq_true,if_false,Builtin.lenOf,Bool.not_false,if_true,hroom,hn]
     cases A with
     | none =>
       simp only [Sem.run_pure] at hst ⊢
       injection hst with _ hst
       subst hst
       rfl
     | some a =>
       simp only [Sem.run_bind] at hst ⊢
       rw [hst]
       rfl
theorem q14n {t t' e ty:TypeId} {vx:Value} {i:TypeInfo} {z:Value} (hu:P.underlying t=some (.slice e)) {mm:Nat} (hx:ApdT P t' vx mm) (hi:P.info? e=some i) (hz:i.zero=some z) {A:Oq Addr} {n c:Nat} (hroom:c<n+mm) (hby:((n+mm)+(n+mm) / 4+192)*i.bytes<=281474976710656) (hmx:n+mm<=9223372036854775807) {olds news:List Value}
    (hn:(Builtin.firstCells i.size mm vx).run P w.drew=.ok news.toArray w.drew) (hold:(Builtin.firstCells i.size n (.slice A n c)).run P w.drew=.ok olds.toArray w.drew) :
    ∃ cap,n+mm<=cap/\cap<=maxLen/\(Builtin.append_ #[t,t'] ty #[.slice A n c,vx]).run P w=.ok (.slice (some ⟨w.heap.size,0,none⟩) (n+mm) cap) (w.drew.alloc (.cells (olds.toArray++news.toArray++Builtin.zeroCells z.cells (cap - (n+mm))) e)):=by
  generalize hcap:(Question.appendCap (n+mm) c e).cut (w.tape w.drawn (.appendCap (n+mm) c e))=cap
  have hge:n+mm<=cap:=by rw [←hcap];simp [Question.cut]
  have hle:cap<=maxLen:=by
    have:w.tape w.drawn (.appendCap (n+mm) c e) % (2 ^ 63 - (n+mm))<2 ^ 63 - (n+mm):=Nat.mod_lt _ (by omega)
    rw [←hcap];simp only [Question.cut];unfold maxLen;omega
  refine ⟨cap,hge,hle,?_⟩
  have hch:(choose (.appendCap (n+mm) c e)).run P w=.ok cap w.drew:=by rw [←hcap];rfl
  have hg:=growslice_fits_wide (old:=c) (bytes:=i.bytes) hroom hby
  have hnr:¬ (n+mm<=c):=by omega
  have hbig:¬ (((n+mm:Nat):Int)>IntKind.i64.max/\((false=true)∨i.bytes=0)):=by
    intro hc;have:=hc.1;have e:IntKind.i64.max=9223372036854775807:=by decide
    rw [e] at this;omega
  have hpow:¬ (Builtin.nextslicecap (n+mm) c*i.bytes>2 ^ 48):=by omega
  have hask:∀ b,(askRoom b).run P w.drew=.ok () w.drew:=λb=>by unfold askRoom;split <;> rfl
  rcases hx with ⟨e',B,d,hu',rfl⟩|⟨s,hu',rfl,rfl⟩
  all_goals
     simp only [Builtin.append_,List.getElem?_toArray,List.getElem?_cons_zero,List.getElem?_cons_succ,Sem.run_bind,q154 hu,Result.andThen_ok,q153 (show szO P e=some i.size by simp [szO,hi]),q154 hu',Sem.run_pure,Bool.false_eq_true,if_false,Builtin.lenOf,hnr,q14q hi]
     simp only [x1q] at hbig
     rw [if_neg hbig]
     simp only [Sem.run_bind,q14q hi,Result.andThen_ok]
     rw [if_neg hpow]
     simp only [Sem.run_bind,hch,Result.andThen_ok,q14q hi,hask,hold,hn,x11q,x20q,q155 hi hz,q14w,Sem.run_pure]
     rfl
theorem Rel.renew (R:Rel w0 Z Y m h sh w) {base:Nat} {oid:Oq Nat} (hb:m base=none) (hbh:h base=none) {sh':Nat->Bool} (hsh:∀ j,j≠base->sh' j=sh j) {v:Value} {es:List (List C)} {w1:World} (hbel:Bel w w1)
  (hrow:(v=.slice none 0 0/\es=[])∨∃ g n c k,v=.slice (some ⟨g,0,none⟩) n c/\RowAt w0.own Z (sh' base) w1 g n c k es/\(w.heap.size<=g∨∃ id,oid=some id/\h id≠none/\blkOf m id=some g)) :
  Rel w0 Z Y (upd m base (some v)) (upd (dropO h oid) base (some (.row es))) sh' w1:=by
 have R1:=(R.later hbel).less (h':=dropO h oid) (λid b hi=>by
  cases oid with
  |none=>exact hi
  |some q=>simp only [dropO,upd] at hi;split at hi;(cases hi);exact hi)
 have hmle:MLe m (upd m base (some v)):=MLe.up hb
 have hold:∀ j,j≠base->blkOf (upd m base (some v)) j=blkOf m j:=λj hj=>by simp [blkOf,upd,hj]
 have hdrop:∀ j b,dropO h oid j=some b->h j=some b/\oid≠some j:=λj b hj=>by
  cases oid with
  |none=>exact ⟨hj,by simp⟩
  |some q=>simp only [dropO,upd] at hj;split at hj;(cases hj);(rename_i hne;exact ⟨hj,λe=>hne (by injection e with e;exact e.symm)⟩)
 have hnew:∀ g,blkOf (upd m base (some v)) base=some g->∀ j,j≠base->dropO h oid j≠none->blkOf m j=some g->False:=by
  intro g hg j hj hn he
  obtain ⟨b,hb'⟩:∃ b,dropO h oid j=some b:=by cases hd:dropO h oid j with|none=>exact absurd hd hn|some b=>exact ⟨b,rfl⟩
  obtain ⟨h1,h2⟩:=hdrop j b hb'
  rcases hrow with ⟨rfl,_⟩|⟨g',n,c,k,rfl,_,hor⟩
  ·simp [blkOf,upd] at hg
  ·simp only [blkOf,upd,x20q,Option.some.injEq] at hg
   subst hg
   rcases hor with hge|⟨id,ho,hidn,hidg⟩
   ·have:=(R.blk_lt (by rw [h1];simp) he).1
    omega
   ·have:=R.inj j id g' (by rw [h1];simp) hidn he hidg
    subst this
    exact h2 ho
 refine ⟨R1.bel,R1.gw,R1.zok,R1.yok,λj cs hj=>?_,λj es' hj=>?_,λj es' i' v' hj=>?_,λj l hj=>?_,λj j' g h1 h2 e1 e2=>?_⟩
 ·unfold upd at hj
  split at hj
  ·cases hj
  ·obtain ⟨g,hm,hat⟩:=R1.box j cs hj
   obtain ⟨t,vs,hvs,hr⟩:=hat.ex
   exact ⟨g,hmle _ _ hm,⟨hat.base,⟨t,vs,hvs,hr.mono (ZLe.refl _) hmle⟩,hat.apart⟩⟩
 ·unfold upd at hj
  split at hj
  ·rename_i e
   subst e
   injection hj with hj;injection hj with hj;subst hj
   rcases hrow with ⟨rfl,h0⟩|⟨g,n,c,k,rfl,hat,_⟩
   ·exact .inl ⟨by simp [upd],h0⟩
   ·exact .inr ⟨g,n,c,k,by simp [upd],hat⟩
  ·rename_i hne
   rw [hsh j hne]
   rcases R1.row j es' hj with ⟨h0,h1⟩|⟨g,n,c,k,hm,hat⟩
   ·exact .inl ⟨hmle _ _ h0,h1⟩
   ·exact .inr ⟨g,n,c,k,hmle _ _ hm,hat⟩
 ·unfold upd at hj
  split at hj
  ·cases hj
  ·obtain ⟨g,n,c,hm,hat⟩:=R1.tab j es' i' v' hj
   exact ⟨g,n,c,hmle _ _ hm,hat.up (ZLe.refl _) hmle (λ_ h=>h) hat.apart⟩
 ·unfold upd at hj
  split at hj
  ·cases hj
  ·obtain ⟨g,hm,hat⟩:=R1.mp j l hj
   exact ⟨g,hmle _ _ hm,hat⟩
 ·have hn:∀ q,q≠base->upd (dropO h oid) base (some (.row es)) q≠none->dropO h oid q≠none:=λq hq hn=>by simpa [upd,hq] using hn
  by_cases c1:j=base
  ·by_cases c2:j'=base
   ·rw [c1,c2]
   ·exact (hnew g (c1 ▸ e1) j' c2 (hn _ c2 h2) ((hold j' c2) ▸ e2)).elim
  ·by_cases c2:j'=base
   ·exact (hnew g (c2 ▸ e2) j c1 (hn _ c1 h1) ((hold j c1) ▸ e1)).elim
   ·exact R1.inj j j' g (hn _ c1 h1) (hn _ c2 h2) ((hold j c1) ▸ e1) ((hold j' c2) ▸ e2)
theorem qpo {k:Nat} {es xs:List (List C)} {U W:Nat->Value} (hk:∀ e∈es,e.length=k) (hx:∀ e∈xs,e.length=k) {cur:Array Value}
  (h1:∀ j,j<es.length*k->cur[j]?=some (U j)) (h2:∀ j,j<xs.length*k->cur[es.length*k+j]?=some (W j))
  (r1:∀ (i:Nat) (e:List C) (j:Nat) (x:C),es[i]?=some e->e[j]?=some x->RepC Z (U (i*k+j)) x) (r2:∀ (i:Nat) (e:List C) (j:Nat) (x:C),xs[i]?=some e->e[j]?=some x->RepC Z (W (i*k+j)) x) :
  ∀ (i:Nat) (e:List C) (j:Nat) (x:C),(es++xs)[i]?=some e->e[j]?=some x->∃ u,cur[i*k+j]?=some u/\RepC Z u x:=by
 intro i e j x hi hj
 rw [List.getElem?_append] at hi
 split at hi
 ·obtain ⟨hlt,_⟩:=qd3 hk hi hj
  exact ⟨_,h1 _ hlt,r1 i e j x hi hj⟩
 ·rename_i hge
  obtain ⟨hlt,_⟩:=qd3 hx hi hj
  have he:i*k+j=es.length*k+((i - es.length)*k+j):=by
   have:i*k=es.length*k+(i - es.length)*k:=by rw [←Nat.add_mul];congr 1;omega
   omega
  rw [he]
  exact ⟨_,h2 _ hlt,r2 _ e j x hi hj⟩
theorem q1f5 (z:Array Value) (n:Nat):(Builtin.zeroCells z n).size=n*z.size:=by simp [Builtin.zeroCells]
structure Src (P:Program) (Z1:ZMap) (w:World) (t':TypeId) (k:Nat) (xs:List (List C)) (vx:Value):Prop where
 at_:ApdT P t' vx xs.length
 ex:∃ (W:Nat->Value) (news:List Value),news.length=xs.length*k/\(∀ j,j<xs.length*k->news[j]?=some (W j))/\(∀ w',(∀ b o u,w.cell? ⟨b,o,none⟩=some u->w'.cell? ⟨b,o,none⟩=some u)->(Builtin.firstCells k xs.length vx).run P w'=.ok news.toArray w') /\
   (∀ (i':Nat) (e:List C) (j:Nat) (x:C),xs[i']?=some e->e[j]?=some x->RepC Z1 (W (i'*k+j)) x)/\(∀ u∈news,u.oneCell'=true)
theorem q3x (R:Rel w0 Z Y m h sh w) {t t' e ty:TypeId} (hu:P.underlying t=some (.slice e)) {base:Nat} (hmb:m base=none) (hhb:h base=none) {s:V} {vs vx:Value} {yx:Oq (C×List Nat)} {y:V×(Nat->Oq B)×(Nat->Bool)} (hap:apdV P h sh base e s yx=some y) (rs:Rep Z Y m vs s)
  (hsrc:∀ (i:TypeInfo) f xs,P.info? e=some i->0<i.size->yx=some f->f.1=.sl xs->(∀ el∈xs,el.length=i.size)->∃ Z1,ZUp w0 Z Z1/\Rel w0 Z1 Y m h (flag sh f.2) w/\Src P Z1 w t' i.size xs vx) :
  ∃ Z' w1 cv mv,ZUp w0 Z Z'/\Rel w0 Z' Y (upd m base (some mv)) y.2.1 y.2.2 w1/\Rep Z' Y (upd m base (some mv)) cv y.1/\(Builtin.append_ #[t,t'] ty #[vs,vx]).run P w=.ok cv w1:=by
 unfold apdV at hap
 cases hi:P.info? e with
 |none=>rw [hi] at hap;cases hap
 |some i =>
 rw [hi] at hap
 simp only [x0q] at hap
 split at hap
 case isFalse=>cases hap
 rename_i hz
 obtain ⟨hk,hz⟩:=hz
 obtain ⟨z,hz1,hz2⟩:∃ z,i.zero=some z/\z.cells.size=i.size:=by
  cases hzz:i.zero with
  |none=>rw [hzz] at hz;cases hz
  |some z=>rw [hzz] at hz;injection hz with hz;exact ⟨z,rfl,hz⟩
 cases hf:yx with
 |none=>rw [hf] at hap;cases hap
 |some f =>
 rw [hf] at hap
 simp only [x0q] at hap
 split at hap
 case h_2=>cases hap
 rename_i xs hxs
 cases hg:tgtV h s xs.isEmpty with
 |none=>rw [hg] at hap;cases hap
 |some tg =>
 rw [hg] at hap
 simp only [x0q] at hap
 split at hap
 case isFalse=>cases hap
 rename_i hcond
 obtain ⟨hall,hby,hmx,hnid⟩:=hcond
 simp only [x6q] at hall
 injection hap with hap;subst hap
 have hxk:∀ el∈xs,el.length=i.size:=λel he=>by simpa using List.all_eq_true.1 hall.1 el he
 have hek:∀ el∈tg.1,el.length=i.size:=λel he=>by simpa using List.all_eq_true.1 hall.2 el he
 obtain ⟨Z1,u1,R1,hs1⟩:=hsrc i f xs hi hk hf hxs hxk
 have hat':=hs1.at_
 obtain ⟨W,news,hnl,hnews,hnw,hnr,hn1⟩:=hs1.ex
 have hdrew:∀ b o u,w.cell? ⟨b,o,none⟩=some u->w.drew.cell? ⟨b,o,none⟩=some u:=λ_ _ _ h=>h
 have hshf:∀ j,j≠base->upd (λj=>if j∈f.2 then true else sh j) base ((tg.2.2.map sh).getD false) j=flag sh f.2 j:=λj hj=>by simp [upd,hj,flag]
 -- growing: a new block
 have grow:∀ (A:Oq Addr) (c:Nat) (U:Nat->Value) (olds:List Value),vs=.slice A tg.2.1 c->tg.1.length=tg.2.1->c<tg.2.1+xs.length->olds.length=tg.2.1*i.size->(∀ j,j<tg.2.1*i.size->olds[j]?=some (U j))->(Builtin.firstCells i.size tg.2.1 (.slice A tg.2.1 c)).run P w.drew=.ok olds.toArray w.drew ->
   (∀ (i':Nat) (e:List C) (j:Nat) (x:C),tg.1[i']?=some e->e[j]?=some x->RepC Z1 (U (i'*i.size+j)) x) ->
   ∃ Z' w1 cv mv,ZUp w0 Z Z'/\Rel w0 Z' Y (upd m base (some mv)) (upd (dropO h tg.2.2) base (some (.row (tg.1++xs)))) (upd (λj=>if j∈f.2 then true else sh j) base ((tg.2.2.map sh).getD false)) w1/\Rep Z' Y (upd m base (some mv)) cv (.row base (tg.2.1+xs.length))/\(Builtin.append_ #[t,t'] ty #[vs,vx]).run P w=.ok cv w1:=by
  intro A c U olds hvs hln hlt hol hog hold hrep
  subst hvs
  obtain ⟨cap,hc1,hc2,hrun⟩:=q14n (ty:=ty) hu hat' hi hz1 (A:=A) (n:=tg.2.1) (c:=c) hlt hby hmx (hnw w.drew hdrew) hold
  have hsz:(olds.toArray++news.toArray++Builtin.zeroCells z.cells (cap - (tg.2.1+xs.length))).size=cap*i.size:=by
   simp only [Array.size_append,List.size_toArray,hol,hnl,q1f5,hz2,←Nat.add_mul]
   congr 1
   omega
  refine ⟨Z1,_,_,.slice (some ⟨w.heap.size,0,none⟩) (tg.2.1+xs.length) cap,u1,?_,.row base _ _ cap (by simp [upd]) (λ_=>⟨_,rfl⟩),hrun⟩
  refine R1.renew hmb hhb hshf ((Bel.refl w).drew.alloc _) (.inr ⟨w.heap.size,tg.2.1+xs.length,cap,i.size,rfl,⟨.inl R.bel.size,⟨e,(0,0),_,heap_alloc_new w.drew _,hsz,by simp,?_⟩,by simp [hln],hc1,hc2,hk,by omega,?_,?_⟩,.inl (Nat.le_refl _)⟩)
  ·refine qpo (U:=U) (W:=W) hek hxk ?_ ?_ hrep hnr
   ·intro j hj
    rw [hln] at hj
    rw [Array.append_assoc,Array.getElem?_append_left (by simp [hol];exact hj)]
    simpa using hog j hj
   ·intro j hj
    rw [Array.append_assoc,Array.getElem?_append_right (by simp [hol,hln])]
    simp only [List.size_toArray,hol,hln,Nat.add_sub_cancel_left]
    rw [Array.getElem?_append_left (by simp [hnl];exact hj)]
    simpa using hnews j hj
  ·intro el he
   rcases List.mem_append.1 he with he|he
   ·exact hek el he
   ·exact hxk el he
  ·intro o ho
   cases hzz:Z1 w.heap.size o with
   |none=>exact absurd hzz ho
   |some u=>have:=R1.z_lt hzz;omega
 -- an empty slice without room,wherever it points
 have empty:∀ A:Oq Addr,vs=.slice A 0 0->tg.1=[]->tg.2.1=0->∃ Z' w1 cv mv,ZUp w0 Z Z'/\Rel w0 Z' Y (upd m base (some mv)) (upd (dropO h tg.2.2) base (some (.row (tg.1++xs)))) (upd (λj=>if j∈f.2 then true else sh j) base ((tg.2.2.map sh).getD false)) w1/\Rep Z' Y (upd m base (some mv)) cv (.row base (tg.2.1+xs.length))/\(Builtin.append_ #[t,t'] ty #[vs,vx]).run P w=.ok cv w1:=by
  intro A hvs h1 h2
  by_cases hx0:xs.length=0
  ·have hxe:xs=[]:=List.eq_nil_of_length_eq_zero hx0
   have hnn:news=[]:=List.eq_nil_of_length_eq_zero (by simpa [hx0] using hnl)
   refine ⟨Z1,w,.slice A 0 0,.slice none 0 0,u1,?_,?_,?_⟩
   ·rw [h1,hxe]
    exact R1.renew hmb hhb hshf (Bel.refl w) (.inl ⟨rfl,rfl⟩)
   ·rw [h2,hx0]
    exact .row0 base A (by simp [upd])
   ·rw [hvs]
    rw [hx0] at hat'
    have hn0:=hnw w (λ_ _ _ h=>h)
    rw [hx0] at hn0
    exact q14o (P:=P) (w:=w) (ty:=ty) hu hat' hi (A:=A) (n:=0) (c:=0) (mm:=0) (by omega) hn0 (w1:=w) (by rw [hnn];cases A <;> rfl)
  ·refine grow A 0 (λ_=>.nilFunc) [] (by rw [hvs,h2]) (by rw [h1,h2];rfl) (by omega) (by rw [h2];simp) (λj hj=>by rw [h2] at hj;simp at hj) ?_ (λi' e j x he=>by rw [h1] at he;simp at he)
   rw [h2]
   exact q14p [] (by simp) (.inl ⟨rfl,.inr (by simp)⟩)
 unfold tgtV at hg
 split at hg
 ·rename_i id n
  split at hg
  ·rename_i es hes
   injection hg with hg;subst hg
   simp only at hek hmx hby hnid hshf grow ⊢
   have hnid:id ∉ f.2:=by simpa using hnid
   cases rs with
   |row0 _ A hm =>
    rcases R1.row id es hes with ⟨_,h0⟩|⟨g,n',c',k,hm',hat⟩
    ·exact empty A rfl h0 rfl
    ·rw [hm] at hm';cases hm'
   |row _ _ A c hm hA =>
   rcases R1.row id es hes with ⟨hm',h0⟩|⟨g,n',c',k,hm',hat⟩
   ·rw [hm] at hm'
    injection hm' with hm';injection hm' with a1 a2 a3
    subst a1 a2 a3 h0
    by_cases hx0:xs.length=0
    ·have:xs=[]:=List.eq_nil_of_length_eq_zero hx0
     subst this
     refine ⟨Z1,w,.slice none 0 0,.slice none 0 0,u1,?_,.row base 0 _ 0 (by simp [upd]) (by simp),?_⟩
     ·exact R1.renew hmb hhb hshf (Bel.refl w) (.inl ⟨rfl,rfl⟩)
     ·exact q14o hu hat' hi (by simp) (hnw w (λ_ _ _ h=>h)) rfl
    ·exact grow none 0 (λ_=>.nilFunc) [] rfl rfl (by omega) (by simp) (by simp) (q14p [] (by simp) (.inl ⟨rfl,.inl rfl⟩)) (by simp)
   ·rw [hm] at hm'
    injection hm' with hm';injection hm' with a1 a2 a3
    subst a1 a2 a3
    obtain ⟨t1,fz,cur,hv',hcs,hfz,hcell⟩:=hat.ex
    have hkk:n≠0->k=i.size:=λhn0=>by
     cases es with
     |nil=>have:=hat.len;simp at this;omega
     |cons e0 es=>rw [←hat.each e0 (by simp),hek e0 (by simp)]
    by_cases hroom:n+xs.length<=c
    ·by_cases hn0:n=0
     ·have hc0:=hat.zero hn0
      have hx0:xs=[]:=List.eq_nil_of_length_eq_zero (by omega)
      subst hx0
      have hes0:es=[]:=List.eq_nil_of_length_eq_zero (by rw [hat.len];exact hn0)
      have hnn:news=[]:=List.eq_nil_of_length_eq_zero (by simpa using hnl)
      refine ⟨Z1,w,.slice (some ⟨g,0,none⟩) n c,.slice (some ⟨g,0,none⟩) n c,u1,?_,by simpa using Rep.row (Z:=Z1) (Y:=Y) (m:=upd m base (some (.slice (some ⟨g,0,none⟩) n c))) base n _ c (by simp [upd]) (λ_=>⟨_,rfl⟩),?_⟩
      ·refine R1.renew hmb hhb hshf (Bel.refl w) (.inr ⟨g,n,c,k,rfl,?_,.inr ⟨id,rfl,by rw [hes];simp,by simp [blkOf,hm]⟩⟩)
       rw [List.append_nil]
       exact ⟨hat.base,hat.ex,hat.len,hat.le,hat.max,hat.pos,hat.zero,hat.each,λo ho=>by have:=(hat.apart o ho).2;rw [hn0] at this;omega⟩
      ·have:=q14o (P:=P) (w:=w) (ty:=ty) hu hat' hi (A:=some ⟨g,0,none⟩) (n:=n) (c:=c) (mm:=0) (by omega) (hnw w (λ_ _ _ h=>h)) (w1:=w) (by rw [hnn];rfl)
       simpa using this
     ·have hki:=hkk hn0
      subst hki
      obtain ⟨w1,s1,s2,s3⟩:=q152 (P:=P) (g:=g) (o:=n*i.size) news 0 w cur hv' hn1 (by rw [hnl,hcs];have:=Nat.mul_le_mul_right i.size hroom;rw [Nat.add_mul] at this;omega) hfz.1
      obtain ⟨f1,f2⟩:=qi8 (n*i.size) news 0 cur
      refine ⟨Z1,w1,.slice (some ⟨g,0,none⟩) (n+xs.length) c,.slice (some ⟨g,0,none⟩) (n+xs.length) c,u1,?_,.row base _ _ c (by simp [upd]) (λ_=>⟨_,rfl⟩),?_⟩
      ·have hW:=R1.write (id:=id) (base:=base) (g:=g) (b':=.row (es++xs)) (v:=.slice (some ⟨g,0,none⟩) (n+xs.length) c) (sh':=upd (λj=>if j∈f.2 then true else sh j) base (sh id)) hes (by simp [blkOf,hm]) s2 (.inr ⟨hmb,hhb⟩) (λj hj _ _=>by simp [upd,hj,flag]) ?_ (λe=>by subst e;rw [hm] at hmb;cases hmb) (.inr (.inl ⟨_,n+xs.length,c,i.size,rfl,rfl,⟨hat.base,⟨t1,fz,_,s3,by rw [f1];exact hcs,by rw [f1];exact hfz,?_⟩,by simp [hat.len],hroom,hat.max,hat.pos,by omega,?_,?_⟩⟩))
       ·exact hW
       ·intro o u hzz
        have hlt:=(hat.apart o (by rw [hzz];simp)).2
        have hcell':=R1.zok g o u hzz
        simp only [World.cell?,hv'] at hcell'
        simp only [World.cell?,s3]
        have ho:o<cur.size:=by rcases Nat.lt_or_ge o cur.size with h|h;exact h;(simp [Array.getElem?_eq_none h] at hcell')
        have:=f2 o ho
        rw [if_neg (by omega)] at this
        simp only [Option.isSome_none,x1q,x21q] at hcell' ⊢
        rw [this];exact hcell'
       ·refine qpo (U:=λj=>(cur[j]?).getD .nilFunc) (W:=W) hek hxk ?_ ?_ ?_ hnr
        ·intro j hj
         rw [hat.len] at hj
         have hjc:j<cur.size:=by rw [hcs];exact Nat.lt_of_lt_of_le hj (Nat.mul_le_mul_right _ hat.le)
         rw [f2 j hjc,if_neg (by omega)]
         simp [Array.getElem?_eq_getElem hjc]
        ·intro j hj
         rw [hat.len]
         have hjc:n*i.size+j<cur.size:=by rw [hcs];have:=Nat.mul_le_mul_right i.size hroom;rw [Nat.add_mul] at this;omega
         rw [f2 _ hjc,if_pos (by rw [hnl];omega),show n*i.size+j - (n*i.size+0)=j from by omega]
         exact hnews j hj
        ·intro i' e j x he hx
         obtain ⟨u,hu,hr⟩:=hcell i' e j x he hx
         simp only [hu,Option.getD_some]
         exact hr
       ·intro el he
        rcases List.mem_append.1 he with he|he
        ·exact hek el he
        ·exact hxk el he
       ·intro o ho
        have:=hat.apart o ho
        refine ⟨?_,?_⟩
        ·have h1:=this.1
         simp only [flag,hnid,x21q] at h1
         simp [upd,h1]
        ·have h2:=this.2
         rw [Nat.add_mul];omega
      ·exact q14o (P:=P) (w:=w) (ty:=ty) hu hat' hi (A:=some ⟨g,0,none⟩) (n:=n) (c:=c) hroom (hnw w (λ_ _ _ h=>h)) (w1:=w1) (by simpa [q10] using s1)
    ·refine grow (some ⟨g,0,none⟩) c (λj=>(cur[j]?).getD .nilFunc) (flatU (λj=>(cur[j]?).getD .nilFunc) n i.size) rfl hat.len (by omega) (qgy _ _ _) (λj hj=>qgx hj) (q14p _ (qgy _ _ _) ?_) ?_
     ·by_cases hn0:n=0
      ·subst hn0
       exact .inl ⟨List.eq_nil_of_length_eq_zero (by simp [qgy]),.inr (by simp)⟩
      ·have hki:=hkk hn0
       subst hki
       refine .inr ⟨g,0,rfl,λj u hj=>?_⟩
       obtain ⟨hj',rfl⟩:=qgz hj
       have hjc:j<cur.size:=by rw [hcs];exact Nat.lt_of_lt_of_le hj' (Nat.mul_le_mul_right _ hat.le)
       show w.cell? _=_
       simp only [World.cell?,hv',x13q]
       simp [Array.getElem?_eq_getElem hjc]
     ·intro i' e j x he hx
      have hn0:n≠0:=by intro h0;have hl:=hat.len;rw [h0] at hl;have:=List.eq_nil_of_length_eq_zero hl;subst this;cases he
      have hki:=hkk hn0
      subst hki
      obtain ⟨u,hu,hr⟩:=hcell i' e j x he hx
      simp only [hu,Option.getD_some]
      exact hr
  ·cases hg
 ·injection hg with hg;subst hg
  simp only at hek hmx hby hnid hshf grow ⊢
  cases rs with|c rs =>
  cases rs
  by_cases hx0:xs.length=0
  ·have:xs=[]:=List.eq_nil_of_length_eq_zero hx0
   subst this
   refine ⟨Z1,w,.slice none 0 0,.slice none 0 0,u1,?_,.row base 0 _ 0 (by simp [upd]) (by simp),?_⟩
   ·exact R1.renew hmb hhb hshf (Bel.refl w) (.inl ⟨rfl,rfl⟩)
   ·exact q14o hu hat' hi (by simp) (hnw w (λ_ _ _ h=>h)) rfl
  ·exact grow none 0 (λ_=>.nilFunc) [] rfl rfl (by omega) (by simp) (by simp) (q14p [] (by simp) (.inl ⟨rfl,.inl rfl⟩)) (by simp)
 ·injection hg with hg;subst hg
  cases rs with|c rs =>
  cases rs with
  |zs A=>exact empty A rfl rfl rfl
 ·cases hg
theorem q184 (R:Rel w0 Z Y m h sh w) {t' e':TypeId} (hu':P.underlying t'=some (.slice e')) {x:V} {vx:Value} (rx:Rep Z Y m vx x) {k:Nat} (hk:0<k) {f:C×List Nat} {xs:List (List C)} (hf:frzC h x=some f) (hxs:f.1=.sl xs) (hxk:∀ el∈xs,el.length=k) :
  ∃ Z1,ZUp w0 Z Z1/\Rel w0 Z1 Y m h (flag sh f.2) w/\Src P Z1 w t' k xs vx:=by
 obtain ⟨Z1,u1,R1,r1⟩:=qjx R (λ_ _ h=>h) hf rx
 rw [hxs] at r1
 obtain ⟨B',d,rfl,hd,hdm,hsrc⟩:=q17p r1 R1.zok hxk
 refine ⟨Z1,u1,R1,.inl ⟨e',B',d,hu',rfl⟩,?_⟩
 rcases hsrc with rfl|⟨b,off,U,rfl,hcell⟩
 ·exact ⟨λ_=>.nilFunc,[],by simp,by simp,λw' _=>q14p [] (by simp) (.inl ⟨rfl,.inr (by simp)⟩),by simp,by simp⟩
 ·refine ⟨U,flatU U xs.length k,qgy _ _ _,λj hj=>qgx hj,λw' hw'=>q14p _ (qgy _ _ _) (.inr ⟨b,off,rfl,λj u hj=>?_⟩),λi' e j x he hx=>(hcell i' e j x he hx).2.2,λu hu=>?_⟩
  ·obtain ⟨hj',rfl⟩:=qgz hj
   obtain ⟨i',q,e,x,he,hx,rfl⟩:=qcm hk hxk hj'
   exact hw' _ _ _ (hcell i' e q x he hx).2.1
  ·obtain ⟨j,hj⟩:=List.getElem?_of_mem hu
   obtain ⟨hj',rfl⟩:=qgz hj
   obtain ⟨i',q,e,x,he,hx,rfl⟩:=qcm hk hxk hj'
   exact (hcell i' e q x he hx).2.2.one
theorem q8p (s:BA) (j:Nat):(s.data.toList.map λb=>[byteC b])[j]?=(s.data[j]?).map λb=>[byteC b]:=by simp
theorem q185 (R:Rel w0 Z Y m h sh w) {t':TypeId} (hu':P.underlying t'=some .string) {x:V} {vx:Value} (rx:Rep Z Y m vx x) {k:Nat} (hk1:k=1) {f:C×List Nat} {xs:List (List C)} (hf:strY x=some f) (hxs:f.1=.sl xs) :
  ∃ Z1,ZUp w0 Z Z1/\Rel w0 Z1 Y m h (flag sh f.2) w/\Src P Z1 w t' k xs vx:=by
 unfold strY at hf
 split at hf
 case h_2=>cases hf
 rename_i s
 injection hf with hf;subst hf
 simp only [C.sl.injEq] at hxs
 subst hxs hk1
 cases rx with|c rx =>
 cases rx
 refine ⟨Z,ZUp.refl,by rw [qgr];exact R,.inr ⟨s,hu',rfl,by rw [List.length_map,x24q];rfl⟩,?_⟩
 refine ⟨λj=>(s.data[j]?).elim .nilFunc λb=>.int .u8 b.toNat,s.data.toList.map λb=>.int .u8 b.toNat,by simp,?_,?_,?_,?_⟩
 ·intro j hj
  simp only [List.length_map,Nat.mul_one,x24q] at hj
  simp [Array.getElem?_eq_getElem hj]
 ·intro w' _
  have:(s.extract 0 s.data.size).data=s.data:=by rw [ByteArray.data_extract];simp
  simp only [Builtin.firstCells,Sem.run_pure,List.length_map,x24q,this]
  rw [←List.map_toArray,Array.toArray_toList]
 ·intro i' e j x he hx
  rw [q8p] at he
  cases hb:s.data[i']? with
  |none=>rw [hb] at he;cases he
  |some b =>
   rw [hb] at he
   injection he with he;subst he
   cases j with
   |zero =>
    simp at hx;subst hx
    simp only [Nat.mul_one,Nat.add_zero,hb,Option.elim_some]
    exact .int _ _
   |succ j=>simp at hx
 ·intro u hu
  obtain ⟨b,_,rfl⟩:=List.mem_map.1 hu
  rfl
theorem Rel.sh_le (R:Rel w0 Z Y m h sh w) {sh':Nat->Bool} (hs:∀ i,sh i=true->sh' i=true):Rel w0 Z Y m h sh' w:=by
 refine ⟨R.bel,R.gw,R.zok,R.yok,R.box,λid es hi=>?_,R.tab,R.mp,R.inj⟩
 rcases R.row id es hi with h0|⟨g,n,c,k,hm,hat⟩
 ·exact .inl h0
 ·exact .inr ⟨g,n,c,k,hm,⟨hat.base,hat.ex,hat.len,hat.le,hat.max,hat.pos,hat.zero,hat.each,λo ho=>⟨hs _ (hat.apart o ho).1,(hat.apart o ho).2⟩⟩⟩
theorem qjw (hs:∀ id b,hv id=some b->h id=some b) {x:V} {y:C×List Nat} (hf:frzC hv x=some y):frzC h x=some y:=by
 unfold frzC at hf ⊢
 split at hf <;> try exact hf
 split at hf
 ·rename_i e
  rw [hs _ _ e]
  exact hf
 ·cases hf
end
end Go.Proofs.YtmlcmoaonaomfaaGreatDoor
