/- A call on the caller's heap: what is handed on, what comes back. -/
import Derived.Test.YtmlcmoaonaomfaaGreatDoorDEv1
import Derived.Test.YtmlcmoaonaomfaaGreatDoorDApd
namespace Go.Proofs.YtmlcmoaonaomfaaGreatDoor
open Go.RowKit
section
variable {P:Program} {Z Y:ZMap} {m m':Nat->Oq Value} {w0:WB} {w w':World} {h hv:Nat->Oq B} {sh:Nat->Bool}
theorem qv7 {id j:Nat}:∀ {l:List Nat},pos id l=some j->l[j]?=some id
 |[],h=>by cases h
 |x::l,h=>by
  simp only [pos] at h
  split at h
  ·rename_i e;injection h with h;subst h e;rfl
  ·cases hp:pos id l with
   |none=>rw [hp] at h;cases h
   |some q=>rw [hp] at h;injection h with h;subst h;simpa using qv7 hp
theorem qc1:∀ (l:List Nat),(dd l).Nodup
 |[]=>by simp [dd]
 |x::l=>by
  simp only [dd,List.nodup_cons]
  exact ⟨by simp,List.Pairwise.filter _ (qc1 l)⟩
theorem qam {r:Nat->Oq Nat} (hm:∀ id j v,r id=some j->m id=some v->m' j=some v) {v:Value} {x:V} (h:Rep Z Y m v x):Rep Z Y m' v (cellO r x):=by
 cases h with
 |any v=>exact .any v
 |c h=>exact .c h
 |agg cs Cs hl h1 hr=>exact .any _
 |tup cs Cs hl hr=>exact .any _
 |row id n A c h hA =>
  simp only [cellO]
  cases hr:r id with
  |none=>exact .any _
  |some j=>exact .row j n A c (hm _ _ _ hr h) hA
 |row0 id A h =>
  simp only [cellO]
  cases hr:r id with
  |none=>exact .any _
  |some j=>exact .row0 j A (hm _ _ _ hr h)
 |ptr id off g h =>
  simp only [cellO]
  cases hr:r id with
  |none=>exact .any _
  |some j=>exact .ptr j off g (hm _ _ _ hr h)
 |rptr id k i off g n c h =>
  simp only [cellO]
  cases hr:r id with
  |none=>exact .any _
  |some j=>exact .rptr j k i off g n c (hm _ _ _ hr h)
 |eptr b o off U cs h hr=>exact .eptr b o off U cs h hr
 |fn f cs Cs hl hr hf=>exact .any _
 |bnd f cs Cs hl hr hf=>exact .any _
 |mp id g h =>
  simp only [cellO]
  cases hr:r id with
  |none=>exact .any _
  |some j=>exact .mp j g (hm _ _ _ hr h)
 |rowE id g n c h hc =>
  simp only [cellO]
  cases hr:r id with
  |none=>exact .any _
  |some j=>exact .rowE j g n c (hm _ _ _ hr h) hc
theorem qrk {f:V->V} (hf:∀ v x,Rep Z Y m v x->Rep Z Y m' v (f x)) {cs:Array Value} {Cs:List V} (hr:∀ (i:Nat) (u:Value) (x:V),cs[i]?=some u->Cs[i]?=some x->Rep Z Y m u x):∀ (i:Nat) (u:Value) (x:V),cs[i]?=some u->(Cs.map f)[i]?=some x->Rep Z Y m' u x:=by
 intro i u x hu hx
 rw [x14q] at hx
 cases hc:Cs[i]? with
 |none=>rw [hc] at hx;cases hx
 |some y=>rw [hc] at hx;injection hx with hx;subst hx;exact hf u y (hr i u y hu hc)
theorem q17 {r:Nat->Oq Nat} (hm:∀ id j v,r id=some j->m id=some v->m' j=some v) {v:Value} {x:V} (h:Rep Z Y m v x):Rep Z Y m' v (aggO r x):=by
 cases h with
 |agg cs Cs hl h1 hr=>exact .agg cs _ (by simp [hl]) h1 (qrk (λv x h=>qam hm h) hr)
 |fn f cs Cs hl hr hf=>exact .fn f cs _ (by simp [hl]) (qrk (λv x h=>qam hm h) hr) hf
 |bnd f cs Cs hl hr hf=>exact .bnd f cs _ (by simp [hl]) (qrk (λv x h=>qam hm h) hr) hf
 |any v=>exact .any v
 |c h=>exact .c h
 |tup cs Cs hl hr=>exact .any _
 |mp id g h=>exact qam hm (.mp id g h)
 |rowE id g n c h hc=>exact qam hm (.rowE id g n c h hc)
 |row id n A c h hA=>exact qam hm (.row id n A c h hA)
 |row0 id A h=>exact qam hm (.row0 id A h)
 |ptr id off g h=>exact qam hm (.ptr id off g h)
 |rptr id k i off g n c h=>exact qam hm (.rptr id k i off g n c h)
 |eptr b o off U cs h hr=>exact .eptr b o off U cs h hr
theorem q1dh {r:Nat->Oq Nat} (hm:∀ id j v,r id=some j->m id=some v->m' j=some v) {v:Value} {x:V} (h:Rep Z Y m v x):Rep Z Y m' v (topO r x):=by
 cases h with
 |tup cs Cs hl hr=>exact .tup cs _ (by simp [hl]) (qrk (λv x h=>q17 hm h) hr)
 |agg cs Cs hl h1 hr=>exact q17 hm (.agg cs Cs hl h1 hr)
 |fn f cs Cs hl hr hf=>exact q17 hm (.fn f cs Cs hl hr hf)
 |bnd f cs Cs hl hr hf=>exact q17 hm (.bnd f cs Cs hl hr hf)
 |any v=>exact .any v
 |c h=>exact .c h
 |mp id g h=>exact q17 hm (.mp id g h)
 |rowE id g n c h hc=>exact q17 hm (.rowE id g n c h hc)
 |row id n A c h hA=>exact q17 hm (.row id n A c h hA)
 |row0 id A h=>exact q17 hm (.row0 id A h)
 |ptr id off g h=>exact q17 hm (.ptr id off g h)
 |rptr id k i off g n c h=>exact q17 hm (.rptr id k i off g n c h)
 |eptr b o off U cs h hr=>exact .eptr b o off U cs h hr
theorem qv8 {id:Nat}:∀ {l:List Nat},id∈l->∃ j,pos id l=some j
 |x::l,h=>by
  unfold pos
  split
  ·exact ⟨0,rfl⟩
  ·rename_i hne
   rcases List.mem_cons.1 h with e|h
   ·exact absurd e.symm hne
   ·obtain ⟨j,hj⟩:=qv8 h
    exact ⟨j+1,by rw [hj];rfl⟩
theorem dd_mem {x:Nat}:∀ {l:List Nat},x∈l->x∈dd l
 |y::l,h=>by
  unfold dd
  by_cases e:x=y
  ·subst e;exact List.mem_cons_self ..
  ·rcases List.mem_cons.1 h with e'|h
   ·exact absurd e' e
   ·exact List.mem_cons_of_mem _ (List.mem_filter.2 ⟨dd_mem h,by simpa using e⟩)
theorem Rel.m_of_h (R:Rel w0 Z Y m h sh w) {i:Nat} (hi:h i≠none):m i≠none:=by
 cases hb:h i with
 |none=>exact absurd hb hi
 |some b =>
  cases b with
  |box cs=>obtain ⟨g,hm,_⟩:=R.box i cs hb;rw [hm];simp
  |row es=>rcases R.row i es hb with ⟨hm,_⟩|⟨g,n,c,k,hm,_⟩ <;> (rw [hm];simp)
  |tab es q v=>obtain ⟨g,n,c,hm,_⟩:=R.tab i es q v hb;rw [hm];simp
  |mp l=>obtain ⟨g,hm,_⟩:=R.mp i l hb;rw [hm];simp
def HeapOk (P:Program) (f:FuncId) (args:List V) (s0:St) (v:V) (s1:St):Prop :=
 ∀ (G:Nat->Oq Value) (w0:WB) (w:World) (Z Y:ZMap) (m:Nat->Oq Value) (cargs:Array Value),Rel w0 Z Y m s0.h s0.sh w->(∀ i,m i≠none->i<s0.nx)->(∀ (i id:Nat) (u:Value),s0.og[i]?=some id->G i=some u->m id=some u) ->
  cargs.size=args.length->(∀ (i:Nat) u x,cargs[i]?=some u->args[i]?=some x->Rep Z Y m u x) ->
  Calls P f cargs w λe w'=>∃ cv Z' m',e=.returned cv/\ZUp w0 Z Z'/\Rel w0 Z' Y m' s1.h s1.sh w'/\Rep Z' Y m' cv v/\(∀ (i id:Nat) (u:Value),s1.og[i]?=some id->G i=some u->m' id=some u)/\∀ i,m' i≠none->i<s1.nx
def handA (m:Nat->Oq Value) (h:Nat->Oq B) (K:List Nat) (g:Nat):Prop:=∃ id,id∈K/\h id≠none/\blkOf m id=some g
theorem qud {K:List Nat} {h:Nat->Oq B} {id:Nat} {b:B} (e:onlyB K h id=some b):id∈K/\h id=some b:=by
 unfold onlyB at e
 split at e
 ·rename_i hk;exact ⟨hk,e⟩
 ·cases e
theorem qkj {h:Nat->Oq B} {sh:Nat->Bool} (R:Rel w0 Z Y m h sh w) {K:List Nat} {g:Nat} (hg:handA m h K g):w0.own g:=by
 obtain ⟨id,_,h1,h2⟩:=hg
 exact (R.blk_lt h1 h2).2
theorem qtl {b o:Nat} {u:Value} (hy:w0.w.cell? ⟨b,o,none⟩=some u) (ha:¬ w0.A b):¬ w0.own b:=by
 rintro (h|h)
 ·have:=qar hy;omega
 ·exact ha h
theorem Rel.hand {h:Nat->Oq B} {sh:Nat->Bool} (R:Rel w0 Z Y m h sh w) (K:List Nat):Rel ⟨w,handA m h K⟩ Z Y m (onlyB K h) sh w:=by
 have hb:∀ id b g,onlyB K h id=some b->blkOf m id=some g->(⟨w,handA m h K⟩:WB).own g:=λid b g e1 e2=>.inr ⟨id,(qud e1).1,by rw [(qud e1).2];simp,e2⟩
 refine ⟨Frm.refl _ _,⟨R.bel.gw R.gw,GB.of R.gw λg hg=>qkj R hg⟩,R.zok,λb o u hy=>⟨R.yok' hy,λha=>qtl (R.yok _ _ _ hy).1 (R.yok _ _ _ hy).2 (qkj R ha)⟩,λid cs hi=>?_,λid es hi=>?_,λid es i v hi=>?_,λid l hi=>?_,λid id' g h1 h2=>?_⟩
 ·obtain ⟨g,hm,hat⟩:=R.box id cs (qud hi).2
  exact ⟨g,hm,⟨hb id _ g hi (by simp [blkOf,hm]),hat.ex,hat.apart⟩⟩
 ·rcases R.row id es (qud hi).2 with h0|⟨g,n,c,k,hm,hat⟩
  ·exact .inl h0
  ·exact .inr ⟨g,n,c,k,hm,⟨hb id _ g hi (by simp [blkOf,hm]),hat.ex,hat.len,hat.le,hat.max,hat.pos,hat.zero,hat.each,hat.apart⟩⟩
 ·obtain ⟨g,n,c,hm,hat⟩:=R.tab id es i v (qud hi).2
  exact ⟨g,n,c,hm,⟨hb id _ g hi (by simp [blkOf,hm]),hat.ex,hat.len,hat.le,hat.apart⟩⟩
 ·obtain ⟨g,hm,hat⟩:=R.mp id l (qud hi).2
  exact ⟨g,hm,⟨hb id _ g hi (by simp [blkOf,hm]),hat.ex⟩⟩
 ·refine R.inj id id' g ?_ ?_
  ·cases e:onlyB K h id with
   |none=>exact absurd e h1
   |some b=>rw [(qud e).2];simp
  ·cases e:onlyB K h id' with
   |none=>exact absurd e h2
   |some b=>rw [(qud e).2];simp
theorem qxr {r:Nat->Oq Nat} {b:B} {cs:List V} (e:b.renO r=.box cs):∃ cs0,b=.box cs0/\cs=cs0.map (aggO r):=by
 cases b with
 |box cs0=>injection e with e;exact ⟨cs0,rfl,e.symm⟩
 |row es=>cases e
 |tab es i v=>cases e
 |mp l=>cases e
theorem qxt {r:Nat->Oq Nat} {b:B} {es:List (List C)} (e:b.renO r=.row es):b=.row es:=by
 cases b with
 |box cs0=>cases e
 |row es0=>injection e with e;rw [e]
 |tab es i v=>cases e
 |mp l=>cases e
theorem qxu {r:Nat->Oq Nat} {b:B} {es:List (List C)} {i:Nat} {v:V} (e:b.renO r=.tab es i v):∃ v0,b=.tab es i v0/\v=aggO r v0:=by
 cases b with
 |box cs0=>cases e
 |row es0=>cases e
 |tab es0 i0 v0=>injection e with a1 a2 a3;subst a1 a2;exact ⟨v0,rfl,a3.symm⟩
 |mp l=>cases e
theorem qxs {r:Nat->Oq Nat} {b:B} {l:List (BA×BA)} (e:b.renO r=.mp l):b=.mp l:=by
 cases b with
 |box cs0=>cases e
 |row es0=>cases e
 |tab es i v=>cases e
 |mp l=>injection e with e;rw [e]
def bkM (base:Nat) (s1:St) (m' m:Nat->Oq Value):Nat->Oq Value:=λi=>if base<=i/\i<base+s1.nx then m' (i - base) else m i
section
variable {Z':ZMap} {K og:List Nat} {base:Nat} {s1:St}
theorem bkM_le (hfr:∀ i,base<=i->i<base+s1.nx->m i=none/\h i=none):MLe m (bkM base s1 m' m):=λi v hv=>by
 unfold bkM
 rw [if_neg (λhc=>by rw [(hfr i hc.1 hc.2).1] at hv;cases hv)]
 exact hv
theorem bk_ren (R:Rel w0 Z Y m h sh w) (hu:∀ i,m' i≠none->i<s1.nx) (hfr:∀ i,base<=i->i<base+s1.nx->m i=none/\h i=none) (hog:∀ id∈og,id∈K/\h id≠none) (hlen:s1.og.length=og.length)
  (hG:∀ (q j:Nat) (u:Value),s1.og[q]?=some j->(og[q]?).bind m=some u->m' j=some u):∀ j i u,(λj=>some (bkR og base s1.og j)) j=some i->m' j=some u->bkM base s1 m' m i=some u:=by
 intro j i u hi hj
 injection hi with hi
 unfold bkR at hi
 cases hp:pos j s1.og with
 |none =>
  rw [hp] at hi
  simp only at hi
  subst hi
  have:=hu j (by rw [hj];simp)
  unfold bkM
  rw [if_pos ⟨by omega,by omega⟩,Nat.add_sub_cancel_left]
  exact hj
 |some q =>
  rw [hp] at hi
  simp only at hi
  have hq:=qv7 hp
  have hql:q<og.length:=by rw [←hlen];exact (List.getElem?_eq_some_iff.1 hq).1
  have he:og[q]?=some i:=by rw [List.getElem?_eq_getElem hql,←hi,x2q,List.getElem?_eq_getElem hql];rfl
  obtain ⟨_,hn⟩:=hog i (List.mem_of_getElem? he)
  obtain ⟨u0,hu0⟩:∃ u0,m i=some u0:=by cases hc:m i with|none=>exact absurd hc (R.m_of_h hn)|some u0=>exact ⟨u0,rfl⟩
  have:=hG q j u0 hq (by rw [he];exact hu0)
  rw [hj] at this
  injection this with this;subst this
  exact bkM_le hfr _ _ hu0
theorem bk_key (R:Rel w0 Z Y m h sh w) (hfr:∀ i,base<=i->i<base+s1.nx->m i=none/\h i=none) (hog:∀ id∈og,id∈K/\h id≠none)
  (hG:∀ (q j:Nat) (u:Value),s1.og[q]?=some j->(og[q]?).bind m=some u->m' j=some u) {id:Nat} {b':B} (hb:bkH K og base s1 h id=some b') :
  (∃ j b,s1.h j=some b/\b'=b.renO (λj=>some (bkR og base s1.og j))/\(∀ u,m' j=some u->bkM base s1 m' m id=some u)/\bkS K og base s1 sh id=s1.sh j/\((id=base+j/\j ∉ s1.og)∨(h id≠none/\bkM base s1 m' m id=m id/\j∈s1.og))) ∨
  (id ∉ K/\h id=some b'/\bkM base s1 m' m id=m id/\bkS K og base s1 sh id=sh id):=by
 unfold bkH at hb
 by_cases hr:base<=id/\id<base+s1.nx
 ·rw [if_pos hr] at hb
  split at hb
  ·cases hb
  ·rename_i ho
   cases hs:s1.h (id - base) with
   |none=>rw [hs] at hb;cases hb
   |some b =>
    rw [hs] at hb
    injection hb with hb
    exact .inl ⟨id - base,b,hs,hb.symm,λu hu=>by unfold bkM;rw [if_pos hr];exact hu,by unfold bkS;rw [if_pos hr],.inl ⟨by omega,ho⟩⟩
 ·rw [if_neg hr] at hb
  have hm:bkM base s1 m' m id=m id:=by unfold bkM;rw [if_neg hr]
  split at hb
  ·rename_i hK
   cases hp:pos id og with
   |none=>rw [hp] at hb;cases hb
   |some q =>
    rw [hp] at hb
    simp only at hb
    cases ho:s1.og[q]? with
    |none=>rw [ho] at hb;cases hb
    |some j =>
     rw [ho] at hb
     simp only [x0q] at hb
     cases hs:s1.h j with
     |none=>rw [hs] at hb;cases hb
     |some b =>
      rw [hs] at hb
      injection hb with hb
      have he:=qv7 hp
      obtain ⟨_,hn⟩:=hog id (List.mem_of_getElem? he)
      obtain ⟨u0,hu0⟩:∃ u0,m id=some u0:=by cases hc:m id with|none=>exact absurd hc (R.m_of_h hn)|some u0=>exact ⟨u0,rfl⟩
      have hj:=hG q j u0 ho (by rw [he];exact hu0)
      exact .inl ⟨j,b,hs,hb.symm,λu hu=>by rw [hm,hu0,←hj,hu],by unfold bkS;rw [if_neg hr,if_pos hK,hp];simp [ho],.inr ⟨hn,hm,List.mem_of_getElem? ho⟩⟩
  ·rename_i hK
   exact .inr ⟨hK,hb,hm,by unfold bkS;rw [if_neg hr,if_neg hK]⟩
theorem Rel.back {w':World} (R:Rel w0 Z Y m h sh w) (Rc:Rel ⟨w,handA m h K⟩ Z' Y m' s1.h s1.sh w') (hz:ZUp ⟨w,handA m h K⟩ Z Z') (hu:∀ i,m' i≠none->i<s1.nx) (hfr:∀ i,base<=i->i<base+s1.nx->m i=none/\h i=none) (hog:∀ id∈og,id∈K/\h id≠none) (hlen:s1.og.length=og.length)
  (hG:∀ (q j:Nat) (u:Value),s1.og[q]?=some j->(og[q]?).bind m=some u->m' j=some u):Rel w0 Z' Y (bkM base s1 m' m) (bkH K og base s1 h) (bkS K og base s1 sh) w':=by
 have hren:=bk_ren R hu hfr hog hlen hG
 have hle:MLe m (bkM base s1 m' m):=bkM_le hfr
 have hown:∀ g,(⟨w,handA m h K⟩:WB).own g->w0.own g:=λg hg=>by
  rcases hg with hg|hg
  ·exact .inl (Nat.le_trans R.bel.size hg)
  ·exact qkj R hg
 have hfar:∀ id g,h id≠none->id ∉ K->blkOf m id=some g->g<w.heap.size/\¬ handA m h K g:=λid g h1 h2 h3=>by
  refine ⟨(R.blk_lt h1 h3).1,?_⟩
  rintro ⟨id',k1,k2,k3⟩
  exact h2 (R.inj id id' g h1 k2 h3 k3 ▸ k1)
 have hkeep:∀ id g,h id≠none->id ∉ K->blkOf m id=some g->w'.heap[g]?=w.heap[g]?:=λid g h1 h2 h3=>Rc.bel.block g (hfar id g h1 h2 h3).1 (hfar id g h1 h2 h3).2
 have hzk:∀ id g o,h id≠none->id ∉ K->blkOf m id=some g->Z' g o≠none->Z g o≠none:=λid g o h1 h2 h3 hn=>by
  cases e:Z' g o with
  |none=>exact absurd e hn
  |some u =>
   rcases hz.own g o u e with h|h
   ·rw [h];simp
   ·rcases h with h|h
    ·have:=(hfar id g h1 h2 h3).1;simp only at h;omega
    ·exact absurd h (hfar id g h1 h2 h3).2
 have key:∀ {id b'},bkH K og base s1 h id=some b'->_:=λ{id b'} hb=>bk_key (sh:=sh) R hfr hog hG (id:=id) (b':=b') hb
 refine ⟨?_,R.gw,Rc.zok,R.yok,λid cs hi=>?_,λid es hi=>?_,λid es i v hi=>?_,λid l hi=>?_,λid id' g h1 h2 e1 e2=>?_⟩
 ·refine Frm.trans R.bel Rc.bel λk hk hlt=>?_
  rcases qkj R hk with h|h
  ·omega
  ·exact h
 ·rcases key hi with ⟨j,b,hs,hb,hmj,_,_⟩|⟨hK,hb,hmi,_⟩
  ·obtain ⟨cs0,rfl,rfl⟩:=qxr hb.symm
   obtain ⟨g,hmg,hat⟩:=Rc.box j cs0 hs
   obtain ⟨t,vs,hv,hr⟩:=hat.ex
   refine ⟨g,hmj _ hmg,⟨hown g hat.base,⟨t,vs,hv,?_⟩,hat.apart⟩⟩
   cases hr with
   |agg _ _ hll ho hrr=>exact .agg vs _ (by simp [hll]) ho (qrk (λv x h=>q17 hren h) hrr)
  ·obtain ⟨g,hmg,hat⟩:=R.box id cs hb
   obtain ⟨t,vs,hv,hr⟩:=hat.ex
   have hg:blkOf m id=some g:=by simp [blkOf,hmg]
   refine ⟨g,by rw [hmi];exact hmg,⟨hat.base,⟨t,vs,(hkeep id g (by rw [hb];simp) hK hg).trans hv,hr.mono hz.le hle⟩,λo=>?_⟩⟩
   cases e:Z' g o with
   |none=>rfl
   |some u=>exact absurd (hat.apart o) (hzk id g o (by rw [hb];simp) hK hg (by rw [e];simp))
 ·rcases key hi with ⟨j,b,hs,hb,hmj,hsh,_⟩|⟨hK,hb,hmi,hsh⟩
  ·have:=qxt hb.symm
   subst this
   rw [hsh]
   rcases Rc.row j es hs with ⟨h0,h1⟩|⟨g,n,c,k,hm,hat⟩
   ·exact .inl ⟨hmj _ h0,h1⟩
   ·exact .inr ⟨g,n,c,k,hmj _ hm,⟨hown g hat.base,hat.ex,hat.len,hat.le,hat.max,hat.pos,hat.zero,hat.each,hat.apart⟩⟩
  ·rw [hsh]
   rcases R.row id es hb with ⟨h0,h1⟩|⟨g,n,c,k,hmg,hat⟩
   ·exact .inl ⟨by rw [hmi];exact h0,h1⟩
   ·have hg:blkOf m id=some g:=by simp [blkOf,hmg]
    obtain ⟨t,fz,cur,hv,h1,h2,h3⟩:=hat.ex
    refine .inr ⟨g,n,c,k,by rw [hmi];exact hmg,⟨hat.base,⟨t,fz,cur,(hkeep id g (by rw [hb];simp) hK hg).trans hv,h1,h2,λi e q x a b=>?_⟩,hat.len,hat.le,hat.max,hat.pos,hat.zero,hat.each,λo ho=>hat.apart o (hzk id g o (by rw [hb];simp) hK hg ho)⟩⟩
    obtain ⟨u,hu1,hu2⟩:=h3 i e q x a b
    exact ⟨u,hu1,hu2.mono hz.le⟩
 ·rcases key hi with ⟨j,b,hs,hb,hmj,_,_⟩|⟨hK,hb,hmi,_⟩
  ·obtain ⟨v0,rfl,rfl⟩:=qxu hb.symm
   obtain ⟨g,n,c,hmg,hat⟩:=Rc.tab j _ _ _ hs
   obtain ⟨t,fz,cur,hv,hcs,hfz,hcell⟩:=hat.ex
   refine ⟨g,n,c,hmj _ hmg,⟨hown g hat.base,⟨t,fz,cur,hv,hcs,hfz,λq x hx=>?_⟩,by have:=hat.len;simpa [tabC] using this,hat.le,hat.apart⟩⟩
   have hq:q<es.length:=by have:=(List.getElem?_eq_some_iff.1 hx).1;simpa [tabC] using this
   by_cases hqi:q=i
   ·subst hqi
    unfold tabC at hx
    rw [List.getElem?_set_self (by simpa using hq)] at hx
    injection hx with hx;subst hx
    obtain ⟨u,a,b,r⟩:=hcell q v0 (by unfold tabC;rw [List.getElem?_set_self (by simpa using hq)])
    exact ⟨u,a,b,q17 hren r⟩
   ·unfold tabC at hx
    rw [List.getElem?_set_ne (Ne.symm hqi)] at hx
    obtain ⟨u,a,b,r⟩:=hcell q x (by unfold tabC;rw [List.getElem?_set_ne (Ne.symm hqi)];exact hx)
    refine ⟨u,a,b,?_⟩
    rw [x14q,List.getElem?_eq_getElem hq] at hx
    injection hx with hx;subst hx
    unfold headV at r ⊢
    split at r
    ·cases r with|c r=>exact .c r
    ·exact .any _
  ·obtain ⟨g,n,c,hmg,hat⟩:=R.tab id _ _ _ hb
   have hg:blkOf m id=some g:=by simp [blkOf,hmg]
   have hat':=hat.up hz.le hle (λx hx=>(hkeep id g (by rw [hb];simp) hK hg).trans hx) (λo=>by
    cases e:Z' g o with
    |none=>rfl
    |some u=>exact absurd (hat.apart o) (hzk id g o (by rw [hb];simp) hK hg (by rw [e];simp)))
   exact ⟨g,n,c,by rw [hmi];exact hmg,hat'⟩
 ·rcases key hi with ⟨j,b,hs,hb,hmj,_,_⟩|⟨hK,hb,hmi,_⟩
  ·have:=qxs hb.symm
   subst this
   obtain ⟨g,hmg,hat⟩:=Rc.mp j _ hs
   exact ⟨g,hmj _ hmg,hown g hat.base,hat.ex⟩
  ·obtain ⟨g,hmg,hat⟩:=R.mp id _ hb
   have hg:blkOf m id=some g:=by simp [blkOf,hmg]
   obtain ⟨es,clock,hv,hr⟩:=hat.ex
   exact ⟨g,by rw [hmi];exact hmg,hat.base,es,clock,(hkeep id g (by rw [hb];simp) hK hg).trans hv,hr⟩
 ·obtain ⟨b1,hb1⟩:∃ b,bkH K og base s1 h id=some b:=by cases e:bkH K og base s1 h id with|none=>exact absurd e h1|some b=>exact ⟨b,rfl⟩
  obtain ⟨b2,hb2⟩:∃ b,bkH K og base s1 h id'=some b:=by cases e:bkH K og base s1 h id' with|none=>exact absurd e h2|some b=>exact ⟨b,rfl⟩
  have tr:∀ {i j:Nat} {b:B},s1.h j=some b->(∀ u,m' j=some u->bkM base s1 m' m i=some u)->bkM base s1 m' m i=m' j:=λ{i j b} hs hmj=>by
   cases e:m' j with
   |none=>exact absurd e (Rc.m_of_h (by rw [hs];simp))
   |some u=>exact hmj u e
  rcases key hb1 with ⟨j,b,hs,hb,hmj,_,ht⟩|⟨hK,hb,hmi,_⟩ <;> rcases key hb2 with ⟨j',b',hs',hb',hmj',_,ht'⟩|⟨hK',hb',hmi',_⟩
  ·have q1:=tr hs hmj
   have q2:=tr hs' hmj'
   have hjj:j=j':=Rc.inj j j' g (by rw [hs];simp) (by rw [hs'];simp) (by rw [←e1];simp only [blkOf,q1]) (by rw [←e2];simp only [blkOf,q2])
   subst hjj
   rcases ht with ⟨t1,t2⟩|⟨t1,t2,t3⟩ <;> rcases ht' with ⟨t1',t2'⟩|⟨t1',t2',t3'⟩
   ·omega
   ·exact absurd t3' t2
   ·exact absurd t3 t2'
   ·exact R.inj id id' g t1 t1' (by rw [←e1];simp only [blkOf,t2]) (by rw [←e2];simp only [blkOf,t2'])
  ·have q1:=tr hs hmj
   have hg1:blkOf m' j=some g:=by rw [←e1];simp only [blkOf,q1]
   have hg2:blkOf m id'=some g:=by rw [←e2];simp only [blkOf,hmi']
   rcases (Rc.blk_lt (by rw [hs];simp) hg1).2 with h|h
   ·have:=(hfar id' g (by rw [hb'];simp) hK' hg2).1;simp only at h;omega
   ·exact absurd h (hfar id' g (by rw [hb'];simp) hK' hg2).2
  ·have q2:=tr hs' hmj'
   have hg2:blkOf m' j'=some g:=by rw [←e2];simp only [blkOf,q2]
   have hg1:blkOf m id=some g:=by rw [←e1];simp only [blkOf,hmi]
   rcases (Rc.blk_lt (by rw [hs'];simp) hg2).2 with h|h
   ·have:=(hfar id g (by rw [hb];simp) hK hg1).1;simp only at h;omega
   ·exact absurd h (hfar id g (by rw [hb];simp) hK hg1).2
  ·exact R.inj id id' g (by rw [hb];simp) (by rw [hb'];simp) (by rw [←e1];simp only [blkOf,hmi]) (by rw [←e2];simp only [blkOf,hmi'])
end
theorem qoc {ch:FuncId->Oq (List V->St->Oq (V×St))} {r:Operand->V} {o:Op} {f:FuncId} {g:List V->St->Oq (V×St)} {as:List V} (h:ioOf P ch r o=some (f,g,as)):∃ x args ats fn caps g0,o=.call { callee:=.value x,args:=args,argTypes:=ats }/\r x=.fn g0 caps/\f=cFn g0/\bodyOf P f=some fn/\ch f=some g/\as=cAr g0 (args.toList.map r) caps:=by
 unfold ioOf at h
 split at h
 ·rename_i x args ats
  split at h
  ·rename_i f' caps hx
   cases hb:bodyOf P (cFn f') with
   |none=>rw [hb] at h;cases h
   |some fn =>
    rw [hb] at h
    simp only [x0q,Option.map_eq_some_iff] at h
    obtain ⟨g',hg,e⟩:=h
    injection e with e1 e2
    injection e2 with e2 e3
    subst e1 e2 e3
    exact ⟨x,args,ats,fn,caps,f',rfl,hx,rfl,hb,hg,rfl⟩
  ·cases h
 ·cases h
theorem qm7 {ch:FuncId->Oq (List V->St->Oq (V×St))} (hch:∀ f g args s0 v s1,ch f=some g->g args s0=some (v,s1)->HeapOk P f args s0 v s1) {a:Act} {s:St} (hρ:∀ x,Rep Z Y m (a.eval x) (rho s.t x)) (R:Rel w0 Z Y m s.h s.sh w) {N:Nat} (hN:∀ i,m i≠none->i<N)
  {o:Oper} {f:FuncId} {g:List V->St->Oq (V×St)} {as:List V} (hio:ioOf P ch (rho s.t) o.op=some (f,g,as)) {lv:List Nat} {base:Nat} (hfr:∀ i,base<=i->i<base+8->m i=none/\s.h i=none) {y:V×(Nat->Oq B)×(Nat->Bool)} (hy:heapD g as N lv base s=some y) {K':Act->World->Prop} {Q:Exit->Act->World->Prop}
  (hK':∀ cv w' Z' m',ZUp w0 Z Z'->MLe m m'->(∀ i,m' i≠none->m i≠none∨(base<=i/\i<base+8))->Rel w0 Z' Y m' y.2.1 y.2.2 w'->Rep Z' Y m' cv y.1->K' (a.put o.dst cv) w'):o.wp P a w K' Q:=by
 obtain ⟨fx,args,ats,fn,caps,g0,ho,hfx,hf0,hb,hg,has⟩:=qoc hio
 unfold heapD at hy
 generalize hK:reach s.h as=K at hy
 generalize hog:ogK K lv s=og at hy
 cases hx:g as { t:=λ_=>.any,h:=onlyB K s.h,sh:=s.sh,nx:=N,lr:=λ_=>[],lw:=λ_=>[],og:=og } with
 |none=>rw [hx] at hy;cases hy
 |some x =>
  obtain ⟨v,s1⟩:=x
  rw [hx] at hy
  simp only [x0q] at hy
  split at hy
  case isFalse=>cases hy
  rename_i hc
  obtain ⟨hlen,h8⟩:=hc
  injection hy with hy;subst hy
  have rf:=hfx ▸ hρ fx
  generalize hvf:a.eval fx=vf at rf
  obtain ⟨cs,hcl,hcr,hvv,_⟩:=rf.fun
  subst has
  obtain ⟨hA1,hA2⟩:=q8t (R:=λu v=>Rep Z Y m u v) g0 (as:=args.map a.eval) (cs:=cs) (xs:=args.toList.map (rho s.t)) (ys:=caps) (by simp) hcl (λi u v hu hv=>getElem?_map_toList hρ args i u v hu hv) hcr
  have hH:=hch f g _ _ v s1 hg hx (λj=>(og[j]?).bind m) _ w Z Y m (cArr g0 (args.map a.eval) cs) (R.hand K) hN (λi id u h1 h2=>by
   simp only at h1
   rw [h1] at h2
   exact h2) hA1 hA2
  obtain ⟨dst,op,ty,pos_,aft,gd⟩:=o
  simp only at ho
  subst ho
  have hrun:(execOp a.eval { dst:=dst,op:=.call { callee:=.value fx,args:=args,argTypes:=ats },type:=ty,pos:=pos_,after:=aft,guard:=gd }).run P w=.ok (.enter f (cArr g0 (args.map a.eval) cs)) w:=by
   rcases hvv with ⟨hb1,rfl⟩|⟨hb1,rfl⟩
   ·subst hf0
    simp only [cFn,hb1,x22q] at hb
    simp only [execOp,resolve,hvf,Deferred.ofValue,Sem.run_bind,Sem.run_pure,Result.andThen_ok,invoke,Array.empty_append,q82 hb,cFn,cArr,hb1,x22q]
   ·subst hf0
    simp only [cFn,hb1,cond_false] at hb
    simp only [execOp,resolve,hvf,Deferred.ofValue,Sem.run_bind,Sem.run_pure,Result.andThen_ok,invoke,Array.append_empty,q82 hb,cFn,cArr,hb1,cond_false]
  unfold Oper.wp
  rw [hrun]
  refine hH.mono ?_
  rintro e w' ⟨cv,Z',m',rfl,hz',Rc,rep,hog',hmb'⟩
  have hfr':∀ i,base<=i->i<base+s1.nx->m i=none/\s.h i=none:=λi h1 h2=>hfr i h1 (by omega)
  have hogs:∀ id∈og,id∈K/\s.h id≠none:=λid hid=>by
   rw [←hog] at hid
   unfold ogK at hid
   obtain ⟨h1,h2⟩:=List.mem_filter.1 hid
   rw [x6q] at h2
   refine ⟨h1,λhn=>?_⟩
   rw [hn] at h2
   simp at h2
  have hG:∀ q j u,s1.og[q]?=some j->(og[q]?).bind m=some u->m' j=some u:=λq j u h1 h2=>hog' q j u h1 h2
  have hzz:ZUp w0 Z Z':=⟨hz'.le,λb o u hbu=>(hz'.own b o u hbu).imp id λh=>h.elim (λh=>.inl (Nat.le_trans R.bel.size h)) (qkj R)⟩
  refine hK' cv w' Z' (bkM base s1 m' m) hzz (bkM_le hfr') (λi hi=>?_) (R.back Rc hz' hmb' hfr' hogs hlen hG) (q1dh (bk_ren R hmb' hfr' hogs hlen hG) rep)
  unfold bkM at hi
  split at hi
  ·rename_i hr;exact .inr ⟨hr.1,by omega⟩
  ·exact .inl hi
end
end Go.Proofs.YtmlcmoaonaomfaaGreatDoor
namespace Go.Proofs.YtmlcmoaonaomfaaGreatDoor
open Go.RowKit
section
variable {P:Program} {Z Y:ZMap} {m:Nat->Oq Value} {w0:WB} {w w':World} {h hv:Nat->Oq B} {sh:Nat->Bool}
def litM (p:BA×BA):Lit×DataW Unit:=(.string p.1.data.toList,.lit (.string p.2.data.toList))
def datM (l:List (BA×BA)):DataW Unit:=.map (l.map litM)
theorem qo3 (x:BA×BA):∀ l,(insM x l).map litM=DataW.insert (litM x) (l.map litM)
 |[]=>rfl
 |y::r=>by
  show (bif befM x.1 y.1 then x::y::r else y::insM x r).map litM=if (litM x).1.before (litM y).1 then _ else _
  have:(litM x).1.before (litM y).1=befM x.1 y.1:=rfl
  rw [this]
  cases befM x.1 y.1 with
  |true=>simp
  |false=>simp [qo3 x r]
theorem qhe:∀ l:List (BA×BA),(l.foldr insM []).map litM=(l.map litM).foldr DataW.insert []
 |[]=>rfl
 |x::l=>by rw [List.foldr_cons,qo3,qhe l];rfl
theorem qtk (k:BA) (p:BA×BA):(!(litM p).1.sameKey (.string k.data.toList))=!(p.1.data.toList==k.data.toList):=rfl
theorem qx6 (l:List (BA×BA)) (k v:BA):(datM l).put (.string k.data.toList) (.lit (.string v.data.toList))=datM (putM l k v):=by
 unfold datM putM DataW.put
 simp only
 rw [qo3]
 congr 2
 induction l with
 |nil=>rfl
 |cons p l ih =>
  rw [List.map_cons,List.filter_cons,List.filter_cons,qtk]
  cases !(p.1.data.toList==k.data.toList) with
  |true=>rw [if_pos rfl,if_pos rfl,List.map_cons,ih]
  |false=>rw [if_neg (by simp),if_neg (by simp),ih]
theorem qqn {p q:BA×BA} (h:litM p=litM q):p=q:=by
 unfold litM at h
 injection h with h1 h2
 injection h1 with h1
 injection h2 with h2
 injection h2 with h2
 have e1:=Array.toList_inj.1 h1
 have e2:=Array.toList_inj.1 h2
 obtain ⟨⟨a⟩,⟨b⟩⟩:=p
 obtain ⟨⟨c⟩,⟨d⟩⟩:=q
 simp at e1 e2
 rw [e1,e2]
theorem qo2 (x:BA×BA):∀ l,(insM x l).length=l.length+1
 |[]=>rfl
 |y::r=>by unfold insM;cases befM x.1 y.1 <;> simp [qo2 x r]
theorem qhd:∀ l:List (BA×BA),(l.foldr insM []).length=l.length
 |[]=>rfl
 |x::l=>by rw [List.foldr_cons,qo2,qhd l];rfl
abbrev RM (P:Program) (k:TypeId):Value->Oq (DataW Unit×List MemPlace):=plainElem P k
theorem qpb {k:TypeId} (hk:P.underlying k=some .string) (v:Value) (l:Lit):keyOf P k v=some l ↔ ∃ s,v=.string s/\s.size<=maxLen/\l=.string s.data.toList:=by
 constructor
 ·intro h
  cases v <;> simp [keyOf,hk,mapKey] at h
  exact ⟨_,rfl,h.1,h.2.symm⟩
 ·rintro ⟨s,rfl,hs,rfl⟩
  simp [keyOf,hk,mapKey,hs]
theorem rd_str {k:TypeId} (hk:P.underlying k=some .string) {x:MapEntry} {a b:BA} (hx:x.key=.string a) (hv:x.val=.string b) (ha:a.size<=maxLen) (hb:b.size<=maxLen):WideElems.rd P k (RM P k) x=some (litM (a,b)):=by
 have h1:keyOf P k x.key=some (.string a.data.toList):=(qpb hk _ _).2 ⟨a,hx,ha,rfl⟩
 have h2:RM P k x.val=some (.lit (.string b.data.toList),[]):=by rw [hv];exact plainElem_string hk hb
 obtain ⟨key,val,born⟩:=x
 exact WideElems.rd_mk h1 h2
theorem MapAt.owns {base:Nat->Prop} {g:Nat} {l:List (BA×BA)} (h:MapAt base w g l) {k:TypeId} (hk:P.underlying k=some .string):w.ownsMap P k (RM P k) g l.length (datM l):=by
 obtain ⟨es,clock,hb,hsz,hst,hall,rfl⟩:=h.ex
 have hrg:es.toList.map (WideElems.rg P k (RM P k))=(es.toList.map λx=>(strV x.key,strV x.val)).map litM:=by
  rw [List.map_map]
  refine List.map_congr_left λx hx=>?_
  obtain ⟨a,b,h1,h2,h3,h4⟩:=hall x hx
  rw [WideElems.rg_of (rd_str hk h1 h2 h3 h4),Function.comp,h1,h2]
  rfl
 refine ⟨es,clock,hb,⟨hsz,hst,λx hx=>?_⟩,?_,?_⟩
 ·obtain ⟨a,b,h1,h2,h3,h4⟩:=hall x hx
  exact ⟨_,rd_str hk h1 h2 h3 h4⟩
 ·rw [qhd];simp
 ·rw [hrg,←qhe]
  rfl
theorem MapAt.of_owns {base:Nat->Prop} {g n:Nat} {D:DataW Unit} (hg:base g) {k:TypeId} (hk:P.underlying k=some .string) (h:w.ownsMap P k (RM P k) g n D):∃ l,D=datM l/\MapAt base w g l/\l.length<=n:=by
 obtain ⟨es,clock,hb,F,hn,rfl⟩:=h
 have hall:∀ x∈es.toList,∃ a b,x.key=.string a/\x.val=.string b/\a.size<=maxLen/\b.size<=maxLen:=λx hx=>by
  obtain ⟨y,hy⟩:=F.reads x hx
  obtain ⟨a,h1,h2,_⟩:=(qpb hk _ _).1 (WideElems.rd_key hy)
  obtain ⟨z,hz,_⟩:=WideElems.rd_val hy
  unfold RM plainElem at hz
  rw [hk] at hz
  split at hz
  ·rename_i e _;cases e
  ·rename_i e _;cases e
  ·rename_i s _ hv
   split at hz
   ·rename_i hs;exact ⟨a,_,h1,hv,h2,hs⟩
   ·cases hz
  ·cases hz
 have hrg:es.toList.map (WideElems.rg P k (RM P k))=(es.toList.map λx=>(strV x.key,strV x.val)).map litM:=by
  rw [List.map_map]
  refine List.map_congr_left λx hx=>?_
  obtain ⟨a,b,h1,h2,h3,h4⟩:=hall x hx
  rw [WideElems.rg_of (rd_str hk h1 h2 h3 h4),Function.comp,h1,h2]
  rfl
 refine ⟨(es.toList.map λx=>(strV x.key,strV x.val)).foldr insM [],?_,⟨hg,es,clock,hb,F.size,F.stamped,hall,rfl⟩,?_⟩
 ·rw [hrg,←qhe]
  rfl
 ·rw [qhd];simpa using hn
theorem qbz {a b:List (BA×BA)} (h:datM a=datM b):a=b:=by
 injection h with h
 exact List.map_inj_right (λ_ _ h=>qqn h) |>.1 h
theorem Rel.write_map (R:Rel w0 Z Y m h sh w) {id g:Nat} {l l':List (BA×BA)} (hi:h id=some (.mp l)) (hm:m id=some (.map (some g))) (hw:Wr g w w') (hat:MapAt w0.own w' g l'):Rel w0 Z Y m (upd h id (some (.mp l'))) sh w':=by
 obtain ⟨g',hm',hat0⟩:=R.mp id l hi
 rw [hm] at hm'
 injection hm' with hm';injection hm' with hm';injection hm' with hm';subst hm'
 have hW:=R.write (b':=.mp l') (v:=.map (some g)) (sh':=sh) (base:=id) hi (by simp [blkOf,hm]) hw (.inl rfl) (λ_ _ _ _=>rfl) (λo u hz=>by
  obtain ⟨es,clock,hb,_⟩:=hat0.ex
  have:=R.zok _ _ _ hz
  simp [World.cell?,hb] at this) (λ_=>hm) (.inr (.inr (.inr ⟨l',rfl,rfl,hat⟩)))
 rw [q1dz,upd_id hm] at hW
 exact hW
theorem q1er {g:Nat} (h:w.grownBy w' (some g)) (hs:w'.heap.size=w.heap.size):Wr g w w' :=
 ⟨h.os,h.tape,h.output,hs,λk hk=>by
  rcases Nat.lt_or_ge k w.heap.size with hlt|hge
  ·exact h.block k hlt (λe=>hk (by injection e))
  ·rw [Array.getElem?_eq_none hge,Array.getElem?_eq_none (by omega)]⟩
theorem q15d (R:Rel w0 Z Y m h sh w) {t:TypeId} {M K X:V} {vm vk vx:Value} {y:V×(Nat->Oq B)×(Nat->Bool)} (hst:setM P h sh t M K X=some y) (rm:Rep Z Y m vm M) (rk:Rep Z Y m vk K) (rx:Rep Z Y m vx X) :
  ∃ w',Rel w0 Z Y m y.2.1 y.2.2 w'/\y.1=.any/\(Instr.mapUpdate t vm vk vx).run P w=.ok () w':=by
 unfold setM at hst
 split at hst
 case h_2=>cases hst
 rename_i kt et id k v hu
 cases hs:isStrT P kt with
 |false=>rw [hs] at hst;cases hst
 |true =>
 rw [hs] at hst
 simp only [x22q] at hst
 split at hst
 case h_2=>cases hst
 rename_i l hl
 split at hst
 case isFalse=>cases hst
 rename_i hc
 injection hst with hst;subst hst
 have hk:P.underlying kt=some .string:=by
  unfold isStrT at hs
  split at hs
  ·rename_i e;exact e
  ·cases hs
 cases rk with|c rk =>
 cases rk
 cases rx with|c rx =>
 cases rx
 cases rm with|mp _ g hm =>
 obtain ⟨g',hm',hat⟩:=R.mp id l hl
 rw [hm] at hm'
 injection hm' with hm';injection hm' with hm';injection hm' with hm';subst hm'
 have ho:=hat.owns hk
 obtain ⟨w1,hrun,ho1,hg1⟩:=ho.update (t:=t) (e:=et) (Maps.string_keyed hk) hu hc.2.2 (key:=.string k) (val:=.string v) ((qpb hk _ _).2 ⟨k,rfl,hc.1,rfl⟩) (plainElem_string hk hc.2.1)
 rw [qx6] at ho1
 obtain ⟨l',hl',hat',_⟩:=MapAt.of_owns (base:=w0.own) hat.base hk ho1
 have:=qbz hl'
 subst this
 have hsz:w1.heap.size=w.heap.size:=by
  obtain ⟨es,clock,hb,F,_,_⟩:=ho
  have hes:es.size<=l.length:=by
   obtain ⟨es2,c2,hb2,_,_,_,h3⟩:=hat.ex
   have hb3:=Option.some.inj (hb2.symm.trans hb)
   have hb4:es2=es:=by cases hb3;rfl
   rw [h3,qhd,←hb4,List.length_map,x24q]
   exact Nat.le_refl _
  obtain ⟨es',clock',hrun',_⟩:=Maps.fit_store (R':=RM P kt) (Maps.string_keyed hk) hu hb F (Nat.lt_of_le_of_lt hes hc.2.2) (λ_ _ _ _ hz=>hz) (key:=.string k) (val:=.string v) ((qpb hk _ _).2 ⟨k,rfl,hc.1,rfl⟩) (plainElem_string hk hc.2.1)
  rw [hrun'] at hrun
  injection hrun with _ hrun
  rw [←hrun]
  simp [ChangeMaps.setBlock]
 exact ⟨w1,R.write_map hl hm (q1er hg1 hsz) hat',rfl,hrun⟩
end
end Go.Proofs.YtmlcmoaonaomfaaGreatDoor
