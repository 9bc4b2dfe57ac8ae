/- Operations that write: stores and append. -/
import Derived.Test.YtmlcmoaonaomfaaGreatDoorZ04
namespace Go.Proofs.YtmlcmoaonaomfaaGreatDoor
open Go.RowKit
section
variable {P:Program} {Z Y:ZMap} {m:Nat->Oq Value} {w0:WB} {w w':World} {h hv:Nat->Oq B} {sh:Nat->Bool}
structure Wr (g:Nat) (w w':World):Prop where
 os:w'.os=w.os
 tape:w'.tape=w.tape
 output:w'.output=w.output
 size:w'.heap.size=w.heap.size
 block:∀ k,k≠g->w'.heap[k]?=w.heap[k]?
theorem Wr.refl (g:Nat) (w:World):Wr g w w:=⟨rfl,rfl,rfl,rfl,λ_ _=>rfl⟩
theorem Wr.trans {g:Nat} {a b c:World} (h:Wr g a b) (h':Wr g b c):Wr g a c:=⟨h'.os.trans h.os,h'.tape.trans h.tape,h'.output.trans h.output,h'.size.trans h.size,λk hk=>(h'.block k hk).trans (h.block k hk)⟩
theorem wr_set {g o:Nat} (v:Value):Wr g w (w.setCell ⟨g,o,none⟩ v):=⟨rfl,rfl,rfl,by simp [World.setCell],λk hk=>Below.heap_setCell w _ v k hk⟩
theorem q151 {a:Addr} {u v:Value} (hc:w.cell? a=some u) (hf:w.frozen? a=false) (h1:v.oneCell'=true):(store a v).run P w=.ok () (w.setCell a v):=by
 cases v <;> first|(simp [store,Sem.run,hc,hf];done)|(cases h1;done)
theorem q152 {g o:Nat} {t:TypeId} {fz:Nat×Nat}:∀ (l:List Value) (i:Nat) (w:World) (arr:Array Value),w.heap[g]?=some (.cells arr t fz)->(∀ u∈l,u.oneCell'=true)->o+i+l.length<=arr.size->(∀ q,q<arr.size->¬ (fz.1<=q/\q<fz.2)) ->
  ∃ w',(storeCells ⟨g,o,none⟩ l i).run P w=.ok () w'/\Wr g w w'/\w'.heap[g]?=some (.cells ((l.zipIdx i).foldl (λ(cs:Array Value) (p:Value×Nat)=>cs.setIfInBounds (o+p.2) p.1) arr) t fz)
 |[],i,w,arr,hb,_,_,_=>⟨w,rfl,Wr.refl g w,hb⟩
 |v::l,i,w,arr,hb,h1,hle,hfz=>by
  simp only [x9q] at hle
  have hc:w.cell? ⟨g,o+i,none⟩=some (arr[o+i]'(by omega)):=by
   simp only [World.cell?,hb];simp
  have hf:w.frozen? ⟨g,o+i,none⟩=false:=by
   obtain ⟨lo,hi⟩:=fz
   have:=hfz (o+i) (by omega)
   simp only [World.frozen?,hb]
   simp only [Bool.and_eq_false_iff,decide_eq_false_iff_not]
   simp only at this
   omega
  have hs:=q151 (P:=P) (v:=v) hc hf (h1 v (by simp))
  have hb':(w.setCell ⟨g,o+i,none⟩ v).heap[g]?=some (.cells (arr.setIfInBounds (o+i) v) t fz):=by
   simp [World.setCell,Array.getElem?_modify,hb]
  obtain ⟨w',r1,r2,r3⟩:=q152 (o:=o) l (i+1) _ _ hb' (λu hu=>h1 u (by simp [hu])) (by simp;omega) (by simpa using hfz)
  refine ⟨w',?_,(wr_set v).trans r2,by simpa [List.zipIdx_cons] using r3⟩
  simp only [storeCells,q10,Sem.run_bind,hs,Result.andThen_ok,r1]
theorem Bel.wr {g:Nat} (hb:BelA w0 w) (hg:w0.own g) (hw:Wr g w w'):BelA w0 w' :=
 ⟨hw.os.trans hb.os,hw.tape.trans hb.tape,hw.output.trans hb.output,by rw [hw.size];exact hb.size,λk hk hn=>(hw.block k (by
  rintro rfl
  rcases hg with h|h
  ·omega
  ·exact hn h)).trans (hb.block k hk hn)⟩
theorem Rel.write (R:Rel w0 Z Y m h sh w) {id base g:Nat} {b b':B} {v:Value} (hi:h id=some b) (hg:blkOf m id=some g) (hw:Wr g w w') (hbase:base=id∨(m base=none/\h base=none)) {sh':Nat->Bool} (hsh:∀ j,j≠base->h j≠none->j≠id->sh' j=sh j)
  (hz:∀ o u,Z g o=some u->w'.cell? ⟨g,o,none⟩=some u) (hv:base=id->m id=some v)
  (hb':(∃ cs,b'=.box cs/\v=.pointer (some ⟨g,0,none⟩)/\BoxAt w0.own Z Y m w' g cs)∨(∃ es n c k,b'=.row es/\v=.slice (some ⟨g,0,none⟩) n c/\RowAt w0.own Z (sh' base) w' g n c k es)∨(∃ es i x n c,b'=.tab es i x/\v=.slice (some ⟨g,0,none⟩) n c/\TabAt w0.own Z Y m w' g n c (tabC es i x))∨(∃ l,b'=.mp l/\v=.map (some g)/\MapAt w0.own w' g l)) :
  Rel w0 Z Y (upd m base (some v)) (upd (upd h id none) base (some b')) sh' w':=by
 have hmle:MLe m (upd m base (some v)):=by
  rcases hbase with rfl|hbn
  ·intro j u hj
   unfold upd
   split
   ·rename_i e;subst e;rw [hv rfl] at hj;exact hj
   ·exact hj
  ·exact MLe.up hbn.1
 have hlt:=R.blk_lt (by rw [hi];simp) hg
 have hblk:blkOf (upd m base (some v)) base=some g:=by rcases hb' with ⟨cs,_,rfl,_⟩|⟨es,n,c,k,_,rfl,_⟩|⟨es,i,x,n,c,_,rfl,_⟩|⟨l,_,rfl,_⟩ <;> simp [blkOf,upd]
 have hold:∀ j,j≠base->blkOf (upd m base (some v)) j=blkOf m j:=λj hj=>by simp [blkOf,upd,hj]
 have hother:∀ j,j≠id->h j≠none->blkOf m j≠some g:=λj hj hn he=>hj (R.inj j id g hn (by rw [hi];simp) he hg)
 have hkeep:∀ j g' x,j≠id->h j≠none->blkOf m j=some g'->w.heap[g']?=some x->w'.heap[g']?=some x:=λj g' x hj hn he hx=>by
  rw [hw.block g' (λe=>hother j hj hn (by rw [he,e]))];exact hx
 refine ⟨Bel.wr R.bel hlt.2 hw,R.gw,λb o u hzz=>?_,R.yok,λj cs hj=>?_,λj es hj=>?_,λj es i x hj=>?_,λj l hj=>?_,λj j' g' h1 h2 e1 e2=>?_⟩
 ·by_cases e:b=g
  ·subst e;exact hz o u hzz
  ·have:=R.zok b o u hzz
   rw [World.cell?_of_block (w:=w) (a:=⟨b,o,none⟩) (hw.block b e)];exact this
 ·unfold upd at hj
  split at hj
  ·rename_i e
   subst e
   injection hj with hj
   rcases hb' with ⟨cs',e',rfl,hat⟩|⟨es,n,c,k,e',_⟩|⟨es,i,x,n,c,e',_⟩|⟨l,e',_⟩
   ·rw [e'] at hj;injection hj with hj;subst hj
    refine ⟨g,by simp [upd],⟨hat.base,?_,hat.apart⟩⟩
    obtain ⟨t,vs,hvs,hr⟩:=hat.ex
    exact ⟨t,vs,hvs,hr.mono (ZLe.refl _) hmle⟩
   ·rw [e'] at hj;cases hj
   ·rw [e'] at hj;cases hj
   ·rw [e'] at hj;cases hj
  ·rename_i hjb
   split at hj
   ·cases hj
   ·rename_i hji
    obtain ⟨g',hm',hat⟩:=R.box j cs hj
    obtain ⟨t,vs,hvs,hr⟩:=hat.ex
    exact ⟨g',hmle _ _ hm',⟨hat.base,⟨t,vs,hkeep j g' _ hji (by rw [hj];simp) (by simp [blkOf,hm']) hvs,hr.mono (ZLe.refl _) hmle⟩,hat.apart⟩⟩
 ·unfold upd at hj
  split at hj
  ·rename_i e
   subst e
   injection hj with hj
   rcases hb' with ⟨cs',e',_⟩|⟨es',n,c,k,e',rfl,hat⟩|⟨es,i,x,n,c,e',_⟩|⟨l,e',_⟩
   ·rw [e'] at hj;cases hj
   ·rw [e'] at hj;injection hj with hj;subst hj
    exact .inr ⟨g,n,c,k,by simp [upd],hat⟩
   ·rw [e'] at hj;cases hj
   ·rw [e'] at hj;cases hj
  ·rename_i hjb
   split at hj
   ·cases hj
   ·rename_i hji
    rw [hsh j hjb (by rw [hj];simp) hji]
    rcases R.row j es hj with ⟨h0,h1⟩|⟨g',n,c,k,hm',hat⟩
    ·exact .inl ⟨hmle _ _ h0,h1⟩
    ·obtain ⟨t,fz,cur,hvs,hr⟩:=hat.ex
     exact .inr ⟨g',n,c,k,hmle _ _ hm',⟨hat.base,⟨t,fz,cur,hkeep j g' _ hji (by rw [hj];simp) (by simp [blkOf,hm']) hvs,hr⟩,hat.len,hat.le,hat.max,hat.pos,hat.zero,hat.each,hat.apart⟩⟩
 ·unfold upd at hj
  split at hj
  ·rename_i e
   subst e
   injection hj with hj
   rcases hb' with ⟨cs',e',_⟩|⟨es',n,c,k,e',_⟩|⟨es',i',x',n,c,e',rfl,hat⟩|⟨l,e',_⟩
   ·rw [e'] at hj;cases hj
   ·rw [e'] at hj;cases hj
   ·rw [e'] at hj;injection hj with a1 a2 a3;subst a1 a2 a3
    exact ⟨g,n,c,by simp [upd],hat.up (ZLe.refl _) hmle (λ_ h=>h) hat.apart⟩
   ·rw [e'] at hj;cases hj
  ·rename_i hjb
   split at hj
   ·cases hj
   ·rename_i hji
    obtain ⟨g',n,c,hm',hat⟩:=R.tab j es i x hj
    exact ⟨g',n,c,hmle _ _ hm',hat.up (ZLe.refl _) hmle (λy hy=>hkeep j g' y hji (by rw [hj];simp) (by simp [blkOf,hm']) hy) hat.apart⟩
 ·unfold upd at hj
  split at hj
  ·rename_i e
   subst e
   injection hj with hj
   rcases hb' with ⟨cs',e',_⟩|⟨es',n,c,k,e',_⟩|⟨es',i',x',n,c,e',_⟩|⟨l',e',rfl,hat⟩
   ·rw [e'] at hj;cases hj
   ·rw [e'] at hj;cases hj
   ·rw [e'] at hj;cases hj
   ·rw [e'] at hj;injection hj with a1;subst a1
    exact ⟨g,by simp [upd],hat⟩
  ·rename_i hjb
   split at hj
   ·cases hj
   ·rename_i hji
    obtain ⟨g',hm',hat⟩:=R.mp j l hj
    obtain ⟨es,clock,hvs,hr⟩:=hat.ex
    exact ⟨g',hmle _ _ hm',hat.base,es,clock,hkeep j g' _ hji (by rw [hj];simp) (by simp [blkOf,hm']) hvs,hr⟩
 ·have hsome:∀ q,q≠base->upd (upd h id none) base (some b') q≠none->h q≠none/\q≠id:=by
   intro q hq hn
   simp only [upd,hq,x21q] at hn
   split at hn
   ·exact absurd rfl hn
   ·rename_i hqi;exact ⟨hn,hqi⟩
  by_cases c1:j=base
  ·by_cases c2:j'=base
   ·rw [c1,c2]
   ·obtain ⟨n2,i2⟩:=hsome j' c2 h2
    rw [c1,hblk] at e1
    injection e1 with e1;subst e1
    rw [hold j' c2] at e2
    exact absurd e2 (hother j' i2 n2)
  ·obtain ⟨n1,i1⟩:=hsome j c1 h1
   by_cases c2:j'=base
   ·rw [c2,hblk] at e2
    injection e2 with e2;subst e2
    rw [hold j c1] at e1
    exact absurd e1 (hother j i1 n1)
   ·obtain ⟨n2,i2⟩:=hsome j' c2 h2
    rw [hold j c1] at e1
    rw [hold j' c2] at e2
    exact R.inj j j' g' n1 n2 e1 e2
theorem ql0 {e:List C} (h:e.length=1):headV e=.c (e[0]'(by omega)):=by
 match e,h with
 |[z],_=>rfl
theorem q1dz {α:Type} (f:Nat->α) (i:Nat) (x y:α):upd (upd f i x) i y=upd f i y:=by funext j;simp only [upd];split <;> rfl
theorem upd_id {f:Nat->Oq Value} {i:Nat} {v:Value} (h:f i=some v):upd f i (some v)=f:=by funext j;simp only [upd];split;(rename_i e;subst e;exact h.symm);rfl
theorem q18p (R:Rel w0 Z Y m h sh w) {t:TypeId} {A x:V} {va vx:Value} {y:(Nat->Oq B)×(Nat->Bool)} (hst:storeV P h sh t A x=some y) (ra:Rep Z Y m va A) (rx:Rep Z Y m vx x) :
  ∃ Z' w',ZUp w0 Z Z'/\Rel w0 Z' Y m y.1 y.2 w'/\(Instr.storeAt t va vx).run P w=.ok () w':=by
 unfold storeV at hst
 cases hc:x.cells with
 |none=>rw [hc] at hst;cases hst
 |some vs =>
  rw [hc] at hst
  simp only [x0q] at hst
  split at hst
  ·cases hst
  ·rename_i hsz
   have hsz:szO P t=some vs.length:=by simpa using hsz
   have rc:=rx.cells hc
   have hcs:=rc.agg_size
   have hrun:∀ (b o:Nat) (w1:World),va=.pointer (some ⟨b,o,none⟩)->(storeCells ⟨b,o,none⟩ vx.cells.toList 0).run P w=.ok () w1->(Instr.storeAt t va vx).run P w=.ok () w1:=by
    intro b o w1 hva hs
    subst hva
    have:¬ (vx.cells.size≠vs.length):=by simp [hcs]
    simp only [Instr.storeAt,Instr.sureAddr,Sem.run_bind,Sem.run_pure,Result.andThen_ok,storeVar,q153 hsz,this,x21q]
    exact hs
   split at hst
   ·rename_i id off
    split at hst
    ·rename_i cs he
     split at hst
     ·rename_i hle
      injection hst with hst;subst hst
      obtain ⟨g,hm,hat⟩:=R.box id cs he
      obtain ⟨t',us,hus,hr⟩:=hat.ex
      have hus':=hr.agg_size
      cases ra with
      |ptr _ _ g' hm' =>
       rw [hm] at hm'
       injection hm' with hm';injection hm' with hm';injection hm' with hm';injection hm' with hm'
       subst hm'
       obtain ⟨w1,s1,s2,s3⟩:=q152 (P:=P) (g:=g) (o:=off) vx.cells.toList 0 w us hus (λu hu=>rc.agg_one u hu) (by simp only [Nat.add_zero,x24q,hcs,hus'];exact hle) (by simp)
       refine ⟨Z,w1,ZUp.refl,?_,hrun g off w1 rfl s1⟩
       have hW:=R.write (b':=.box (splice cs off vs)) (v:=.pointer (some ⟨g,0,none⟩)) (sh':=sh) (base:=id) he (by simp [blkOf,hm]) s2 (.inl rfl) (λ_ _ _ _=>rfl) (λo u hz=>by rw [hat.apart o] at hz;cases hz) (λ_=>hm) (.inl ⟨_,rfl,rfl,⟨hat.base,⟨t',_,s3,?_⟩,hat.apart⟩⟩)
       ·rw [q1dz,upd_id hm] at hW
        exact hW
       ·obtain ⟨f1,f2⟩:=qi8 off vx.cells.toList 0 us
        have hvl:vx.cells.toList.length=vs.length:=by simpa using hcs
        have hget:∀ j u,((vx.cells.toList.zipIdx 0).foldl (λ(cs:Array Value) (p:Value×Nat)=>cs.setIfInBounds (off+p.2) p.1) us)[j]?=some u->if off<=j/\j<off+vs.length then vx.cells[j - off]?=some u else us[j]?=some u:=by
         intro j u hu
         have hj:j<us.size:=by rw [←f1];exact (Array.getElem?_eq_some_iff.1 hu).1
         rw [f2 j hj] at hu
         simp only [Nat.add_zero,hvl] at hu
         split at hu
         ·rename_i hc;rw [if_pos hc];simpa using hu
         ·rename_i hc;rw [if_neg hc];exact hu
        refine .agg _ _ (by rw [f1,q17y hle];exact hus') ?_ ?_
        ·intro u hu
         obtain ⟨j,hj⟩:=List.getElem?_of_mem hu
         have:=hget j u (by simpa using hj)
         split at this
         ·exact rc.agg_one u (List.mem_of_getElem? (i:=j - off) (by simpa using this))
         ·exact hr.agg_one u (List.mem_of_getElem? (i:=j) (by simpa using this))
        ·intro j u z hu hz
         have:=hget j u hu
         rw [q17x hle] at hz
         split at this
         ·rename_i hc
          rw [if_pos hc] at hz
          obtain ⟨u',hu',hr',_⟩:=rc.agg_get hz
          rw [hu'] at this;injection this with this;subst this;exact hr'
         ·rename_i hc
          rw [if_neg hc] at hz
          obtain ⟨u',hu',hr',_⟩:=hr.agg_get hz
          rw [hu'] at this;injection this with this;subst this;exact hr'
     ·cases hst
    ·cases hst
   ·rename_i id k i off
    split at hst
    ·rename_i hT
     obtain ⟨rfl,rfl,hrow⟩:=hT
     have hvs:vs=[x]:=by
      cases x <;> first|(cases hrow;done)|(injection hc with hc;exact hc.symm)
     subst hvs
     cases ra with
     |rptr _ _ _ _ g' n' c' hm' =>
     have h1:vx.cells=#[vx]/\vx.oneCell'=true:=by
      cases x <;> first|(cases hrow;done)|(cases rx <;> exact ⟨rfl,rfl⟩)
     have hst2:∀ (cur:Array Value) (t0:TypeId) (fz:Nat×Nat),w.heap[g']?=some (.cells cur t0 fz)->i<cur.size->(∀ q,q<cur.size->¬ (fz.1<=q/\q<fz.2))->∃ w1,(Instr.storeAt t (.pointer (some ⟨g',i*1+0,none⟩)) vx).run P w=.ok () w1/\Wr g' w w1/\w1.heap[g']?=some (.cells (cur.setIfInBounds i vx) t0 fz):=by
      intro cur t0 fz hb hi hfz
      obtain ⟨w1,s1,s2,s3⟩:=q152 (P:=P) (g:=g') (o:=i) vx.cells.toList 0 w cur hb (λu hu=>by rw [h1.1] at hu;simp at hu;subst hu;exact h1.2) (by rw [h1.1];simp;omega) hfz
      refine ⟨w1,hrun g' (i*1+0) w1 rfl (by simpa using s1),s2,?_⟩
      rw [s3,h1.1]
      simp
     unfold storeT at hst
     split at hst
     ·rename_i es he
      split at hst
      case isFalse=>cases hst
      rename_i hcond
      obtain ⟨hsh,hil,hall⟩:=hcond
      injection hst with hst;subst hst
      rcases R.row id es he with ⟨_,h0⟩|⟨g,n,c,k,hm,hat⟩
      ·subst h0;simp at hil
      rw [hm] at hm'
      injection hm' with hm';injection hm' with a1 a2 a3;injection a1 with a1;injection a1 with a1
      subst a1 a2 a3
      have hk:k=1:=by
       have hz:es[i]'hil∈es:=List.getElem_mem hil
       rw [←hat.each _ hz]
       have:=List.all_eq_true.1 hall _ hz
       simpa using this
      subst hk
      have hzn:∀ o,Z g o=none:=λo=>by
       cases hz:Z g o with
       |none=>rfl
       |some u=>have:=(hat.apart o (by rw [hz];simp)).1;rw [hsh] at this;cases this
      obtain ⟨t',fz,cur,hv',hcsz,⟨hfz,_⟩,hcell⟩:=hat.ex
      have hic:i<cur.size:=by rw [hcsz];have:=hat.len;have:=hat.le;omega
      obtain ⟨w1,s1,s2,s3⟩:=hst2 cur t' fz hv' hic hfz
      refine ⟨Z,w1,ZUp.refl,?_,s1⟩
      have hW:=R.write (b':=.tab es i x) (v:=.slice (some ⟨g,0,none⟩) n c) (sh':=sh) (base:=id) he (by simp [blkOf,hm]) s2 (.inl rfl) (λ_ _ _ _=>rfl) (λo u hz=>by rw [hzn o] at hz;cases hz) (λ_=>hm)
       (.inr (.inr<| .inl ⟨es,i,x,n,c,rfl,rfl,⟨hat.base,⟨t',fz,_,s3,by simpa using hcsz,by simpa using hfz,?_⟩,by have:=hat.len;simpa [tabC] using this,hat.le,hzn⟩⟩))
      ·rw [q1dz,upd_id hm] at hW
       exact hW
      ·intro j y hy
       unfold tabC at hy
       have hj:j<es.length:=by have:=(List.getElem?_eq_some_iff.1 hy).1;simpa using this
       by_cases hji:j=i
       ·subst hji
        rw [List.getElem?_set_self (by simpa using hj)] at hy
        injection hy with hy;subst hy
        exact ⟨vx,by simp [Array.getElem?_setIfInBounds,hic],h1.2,rx⟩
       ·rw [List.getElem?_set_ne (Ne.symm hji),x14q,List.getElem?_eq_getElem hj] at hy
        injection hy with hy;subst hy
        have hone:(es[j]).length=1:=hat.each _ (List.getElem_mem hj)
        obtain ⟨u,hu,hr⟩:=hcell j (es[j]) 0 ((es[j])[0]'(by omega)) (List.getElem?_eq_getElem hj) (List.getElem?_eq_getElem _)
        refine ⟨u,by rw [Array.getElem?_setIfInBounds_ne (Ne.symm hji)];simpa using hu,hr.one,?_⟩
        have:headV es[j]=.c ((es[j])[0]'(by omega)):=ql0 hone
        rw [this]
        exact .c hr
     ·rename_i es q v0 he
      split at hst
      case isFalse=>cases hst
      rename_i hil
      split at hst
      case isFalse =>
       rename_i hq
       injection hst with hst;subst hst
       obtain ⟨g,n,c,hm,hat⟩:=R.tab id es q v0 he
       rw [hm] at hm'
       injection hm' with hm';injection hm' with a1 a2 a3;injection a1 with a1;injection a1 with a1
       subst a1 a2 a3
       have hlen:es.length=n:=by have:=hat.len;simpa [tabC] using this
       obtain ⟨t',fz,cur,hv',hcsz,hfz,hcell⟩:=hat.ex
       have hic:i<cur.size:=by rw [hcsz];have:=hat.le;omega
       obtain ⟨w1,s1,s2,s3⟩:=hst2 cur t' fz hv' hic hfz
       refine ⟨Z,w1,ZUp.refl,?_,s1⟩
       have hW:=R.write (b':=.tab es i x) (v:=.slice (some ⟨g,0,none⟩) n c) (sh':=sh) (base:=id) he (by simp [blkOf,hm]) s2 (.inl rfl) (λ_ _ _ _=>rfl) (λo u hz=>by rw [hat.apart o] at hz;cases hz) (λ_=>hm)
        (.inr (.inr<| .inl ⟨es,i,x,n,c,rfl,rfl,⟨hat.base,⟨t',fz,_,s3,by simpa using hcsz,by simpa using hfz,?_⟩,by simpa [tabC] using hlen,hat.le,hat.apart⟩⟩))
       ·rw [q1dz,upd_id hm] at hW
        exact hW
       ·intro j y hy
        unfold tabC at hy
        have hj:j<es.length:=by have:=(List.getElem?_eq_some_iff.1 hy).1;simpa using this
        by_cases hji:j=i
        ·subst hji
         rw [List.getElem?_set_self (by simpa using hj)] at hy
         injection hy with hy;subst hy
         exact ⟨vx,by simp [Array.getElem?_setIfInBounds,hic],h1.2,rx⟩
        ·rw [List.getElem?_set_ne (Ne.symm hji)] at hy
         rw [Array.getElem?_setIfInBounds_ne (Ne.symm hji)]
         exact hcell j y (by unfold tabC;rw [List.set_eq_of_length_le (by simpa using Nat.not_lt.1 hq)];exact hy)
      rename_i hq
      cases hf:frzC h v0 with
      |none=>rw [hf] at hst;cases hst
      |some y' =>
      rw [hf] at hst
      simp only [x0q] at hst
      split at hst
      case isTrue=>cases hst
      injection hst with hst;subst hst
      obtain ⟨g,n,c,hm,hat⟩:=R.tab id es q v0 he
      obtain ⟨t0',fz0,cur0,hv0,hcsz0,hfz0,hcell0⟩:=hat.ex
      have hlen:es.length=n:=by have:=hat.len;simpa [tabC] using this
      obtain ⟨u0,hu0,ho0,hr0⟩:=hcell0 q v0 (by unfold tabC;rw [List.getElem?_set_self (by simpa using hq)])
      obtain ⟨Z1,u1,R1,r1⟩:=qjx R (λ_ _ h=>h) hf hr0
      obtain ⟨g1,n1,c1,hm1,hat1⟩:=R1.tab id es q v0 he
      rw [hm] at hm1
      injection hm1 with hm1;injection hm1 with a1 a2 a3;injection a1 with a1;injection a1 with a1
      subst a1 a2 a3
      rw [hm] at hm'
      injection hm' with hm';injection hm' with a1 a2 a3;injection a1 with a1;injection a1 with a1
      subst a1 a2 a3
      obtain ⟨t',fz,cur,hv',hcsz,hfz,hcell⟩:=hat1.ex
      rw [hv0] at hv'
      injection hv' with hv';injection hv' with b1 b2 b3;subst b1 b2 b3
      have hic:i<cur0.size:=by rw [hcsz];have:=hat.le;omega
      obtain ⟨w1,s1,s2,s3⟩:=hst2 cur0 t0' fz0 hv0 hic hfz
      refine ⟨Z1,w1,u1,?_,s1⟩
      have hW:=R1.write (b':=.tab (es.set q [y'.1]) i x) (v:=.slice (some ⟨g,0,none⟩) n c) (sh':=flag sh y'.2) (base:=id) he (by simp [blkOf,hm]) s2 (.inl rfl) (λ_ _ _ _=>rfl) (λo u hz=>by rw [hat1.apart o] at hz;cases hz) (λ_=>hm)
       (.inr (.inr<| .inl ⟨es.set q [y'.1],i,x,n,c,rfl,rfl,⟨hat.base,⟨t0',fz0,_,s3,by simpa using hcsz,by simpa using hfz,?_⟩,by simpa [tabC] using hlen,hat.le,hat1.apart⟩⟩))
      ·rw [q1dz,upd_id hm] at hW
       exact hW
      ·intro j y hy
       unfold tabC at hy
       have hj:j<es.length:=by have:=(List.getElem?_eq_some_iff.1 hy).1;simpa using this
       by_cases hji:j=i
       ·subst hji
        rw [List.getElem?_set_self (by simpa using hj)] at hy
        injection hy with hy;subst hy
        exact ⟨vx,by simp [Array.getElem?_setIfInBounds,hic],h1.2,rx.mono u1.le (MLe.refl _)⟩
       ·rw [List.getElem?_set_ne (Ne.symm hji),x14q] at hy
        rw [Array.getElem?_setIfInBounds_ne (Ne.symm hji)]
        by_cases hjq:j=q
        ·subst hjq
         rw [List.getElem?_set_self hj] at hy
         injection hy with hy;subst hy
         exact ⟨u0,hu0,ho0,.c r1⟩
        ·rw [List.getElem?_set_ne (Ne.symm hjq)] at hy
         exact hcell j y (by unfold tabC;rw [List.getElem?_set_ne (Ne.symm hjq),x14q];exact hy)
     ·cases hst
    split at hst
    ·rename_i es he
     split at hst
     ·cases hst
     ·rename_i hsh
      cases hei:es[i]? with
      |none=>rw [hei] at hst;cases hst
      |some e =>
       rw [hei] at hst
       simp only [x0q] at hst
       split at hst
       ·rename_i hcond
        obtain ⟨hek,hoff⟩:=hcond
        cases hf:frzL h vs with
        |none=>rw [hf] at hst;cases hst
        |some y' =>
         rw [hf] at hst
         simp only [x0q] at hst
         split at hst
         ·cases hst
         rename_i hnid
         have hnid:id ∉ y'.2:=by simpa using hnid
         injection hst with hst;subst hst
         obtain ⟨Z1,u1,R1,l1,r1⟩:=qjy vs (us:=vx.cells.toList) R (λ_ _ h=>h) hf (by simpa using hcs) (λj u z hu hz=>by
          obtain ⟨u',hu',hr',_⟩:=rc.agg_get hz
          rw [Array.getElem?_toList,hu'] at hu
          injection hu with hu;subst hu;exact hr')
         have hfid:flag sh y'.2 id=false:=by simp [flag,hnid];simpa using hsh
         rcases R1.row id es he with ⟨_,h0⟩|⟨g,n,c,k',hm,hat⟩
         ·subst h0;cases hei
         have hkk:k'=k:=by rw [←hek];exact (hat.each e (List.mem_of_getElem? hei)).symm
         subst hkk
         have hzn:∀ o,Z1 g o=none:=λo=>by
          cases hz:Z1 g o with
          |none=>rfl
          |some u=>have:=(hat.apart o (by rw [hz];simp)).1;rw [hfid] at this;cases this
         obtain ⟨t',fz,cur,hv',hcsz,hfz,hcell⟩:=hat.ex
         have hil:i<n:=by rw [←hat.len];exact (List.getElem?_eq_some_iff.1 hei).1
         have hik:i*k'+k'<=cur.size:=by
          rw [hcsz]
          have h1:(i+1)*k'<=c*k':=Nat.mul_le_mul_right k' (Nat.le_trans hil hat.le)
          rw [Nat.add_mul] at h1
          omega
         have hvl:vx.cells.toList.length=vs.length:=by simpa using hcs
         have hyl:y'.1.length=vs.length:=l1
         cases ra with
         |rptr _ _ _ _ g' n' c' hm' =>
          rw [hm] at hm'
          injection hm' with hm';injection hm' with a1 a2 a3;injection a1 with a1;injection a1 with a1
          subst a1 a2 a3
          obtain ⟨w1,s1,s2,s3⟩:=q152 (P:=P) (g:=g) (o:=i*k'+off) vx.cells.toList 0 w cur hv' (λu hu=>rc.agg_one u hu) (by rw [hvl];omega) hfz.1
          refine ⟨Z1,w1,u1,?_,hrun g (i*k'+off) w1 rfl s1⟩
          obtain ⟨f1,f2⟩:=qi8 (i*k'+off) vx.cells.toList 0 cur
          have hW:=R1.write (b':=.row (es.set i (splice e off y'.1))) (v:=.slice (some ⟨g,0,none⟩) n c) (sh':=flag sh y'.2) (base:=id) he (by simp [blkOf,hm]) s2 (.inl rfl) (λ_ _ _ _=>rfl) (λo u hz=>by rw [hzn o] at hz;cases hz) (λ_=>hm)
           (.inr (.inl ⟨_,n,c,k',rfl,rfl,⟨hat.base,⟨t',fz,_,s3,by rw [f1];exact hcsz,by rw [f1];exact hfz,?_⟩,by simp [hat.len],hat.le,hat.max,hat.pos,hat.zero,?_,λo ho=>absurd (hzn o) ho⟩⟩))
          ·rw [q1dz,upd_id hm] at hW
           exact hW
          ·intro i' e' j z hi' hj
           have hi'l:i'<n:=by have:=(List.getElem?_eq_some_iff.1 hi').1;simpa [hat.len] using this
           have hpos:∀ q,q<k'->i'*k'+q<cur.size:=λq hq=>by
            rw [hcsz]
            have h1:(i'+1)*k'<=c*k':=Nat.mul_le_mul_right k' (Nat.le_trans hi'l hat.le)
            rw [Nat.add_mul] at h1
            omega
           by_cases hii:i'=i
           ·subst hii
            rw [List.getElem?_set_self (by rw [hat.len];exact hi'l)] at hi'
            injection hi' with hi';subst hi'
            have hjk:j<k':=by have:=(List.getElem?_eq_some_iff.1 hj).1;rw [q17y (by omega)] at this;omega
            rw [f2 _ (hpos j hjk)]
            rw [q17x (by omega)] at hj
            simp only [Nat.add_zero,hvl]
            by_cases hc:off<=j/\j<off+y'.1.length
            ·rw [if_pos hc] at hj
             rw [if_pos (by omega),show i'*k'+j - (i'*k'+off)=j - off from by omega]
             have hju:vx.cells.toList[j - off]?=some (vx.cells.toList[j - off]'(by omega)):=List.getElem?_eq_getElem _
             exact ⟨_,hju,r1 _ _ z hju hj⟩
            ·rw [if_neg hc] at hj
             rw [if_neg (by omega)]
             exact hcell i' e j z hei hj
           ·rw [List.getElem?_set_ne (Ne.symm hii)] at hi'
            have hjk:j<k':=by have:=(List.getElem?_eq_some_iff.1 hj).1;rw [hat.each e' (List.mem_of_getElem? hi')] at this;exact this
            rw [f2 _ (hpos j hjk),if_neg (by
             simp only [Nat.add_zero,hvl]
             intro hcon
             rcases Nat.lt_or_gt_of_ne hii with hlt'|hgt'
             ·have:(i'+1)*k'<=i*k':=Nat.mul_le_mul_right k' hlt'
              rw [Nat.add_mul] at this
              omega
             ·have:(i+1)*k'<=i'*k':=Nat.mul_le_mul_right k' hgt'
              rw [Nat.add_mul] at this
              omega)]
            exact hcell i' e' j z hi' hj
          ·intro e' he'
           rcases List.mem_or_eq_of_mem_set he' with h1|h1
           ·exact hat.each e' h1
           ·subst h1
            rw [q17y (by omega)]
            exact hek
       ·cases hst
    ·cases hst
   ·cases hst
end
end Go.Proofs.YtmlcmoaonaomfaaGreatDoor
