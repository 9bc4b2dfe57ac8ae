/- The abstract heap and memory: new blocks, rows that are shared, stores. -/
import Derived.Test.YtmlcmoaonaomfaaGreatDoorZ02
namespace Go.Proofs.YtmlcmoaonaomfaaGreatDoor
open Go.RowKit
section
variable {P:Program} {Z Y:ZMap} {m:Nat->Oq Value} {w0:WB} {w w':World} {h:Nat->Oq B} {sh:Nat->Bool}
theorem qma {w:World} {g:Nat} {x:Obj} (h:w.heap[g]?=some x):g<w.heap.size:=(Array.getElem?_eq_some_iff.1 h).1
theorem Rel.blk_lt (R:Rel w0 Z Y m h sh w) {id g:Nat} (hi:h id≠none) (hg:blkOf m id=some g):g<w.heap.size/\w0.own g:=by
 cases hb:h id with
 |none=>exact absurd hb hi
 |some b =>
  cases b with
  |box cs =>
   obtain ⟨g',hm,hat⟩:=R.box id cs hb
   obtain ⟨t,vs,hv,_⟩:=hat.ex
   simp only [blkOf,hm,Option.some.injEq] at hg
   subst hg
   exact ⟨qma hv,hat.base⟩
  |row es =>
   rcases R.row id es hb with ⟨hm,_⟩|⟨g',n,c,k,hm,hat⟩
   ·simp [blkOf,hm] at hg
   ·obtain ⟨t,fz,cur,hv,_⟩:=hat.ex
    simp only [blkOf,hm,Option.some.injEq] at hg
    subst hg
    exact ⟨qma hv,hat.base⟩
  |tab es i v =>
   obtain ⟨g',n,c,hm,hat⟩:=R.tab id es i v hb
   obtain ⟨t,fz,cur,hv,_⟩:=hat.ex
   simp only [blkOf,hm,Option.some.injEq] at hg
   subst hg
   exact ⟨qma hv,hat.base⟩
  |mp l =>
   obtain ⟨g',hm,hat⟩:=R.mp id l hb
   obtain ⟨es,clock,hv,_⟩:=hat.ex
   simp only [blkOf,hm,Option.some.injEq] at hg
   subst hg
   exact ⟨qma hv,hat.base⟩
theorem Rel.z_lt (R:Rel w0 Z Y m h sh w) {b o:Nat} {u:Value} (hz:Z b o=some u):b<w.heap.size:=qar (R.zok b o u hz)
theorem Rel.less (R:Rel w0 Z Y m h sh w) {h':Nat->Oq B} (hs:∀ id b,h' id=some b->h id=some b):Rel w0 Z Y m h' sh w:=by
 have hn:∀ id,h' id≠none->h id≠none:=λid hi=>by
  cases hb:h' id with
  |none=>exact absurd hb hi
  |some b=>rw [hs id b hb];simp
 exact ⟨R.bel,R.gw,R.zok,R.yok,λid cs hi=>R.box id cs (hs _ _ hi),λid es hi=>R.row id es (hs _ _ hi),λid es i v hi=>R.tab id es i v (hs _ _ hi),λid l hi=>R.mp id l (hs _ _ hi),λid id' g h1 h2=>R.inj id id' g (hn _ h1) (hn _ h2)⟩
theorem MLe.up {i:Nat} {v:Value} (hi:m i=none):MLe m (upd m i (some v)):=λj u hj=>by
 unfold upd
 by_cases e:j=i
 ·subst e;rw [hi] at hj;cases hj
 ·simp [e,hj]
theorem qm9 {g:Nat} {x:Obj} (o:Obj) (hx:w.heap[g]?=some x):(w.alloc o).heap[g]?=some x:=(Below.heap_alloc w o g (qma hx)).trans hx
theorem Rel.new (R:Rel w0 Z Y m h sh w) {base:Nat} {v:Value} {b:B} {o:Obj} (hm:m base=none) (hs:sh base=false∨True)
  (hb:(∃ cs,b=.box cs/\v=.pointer (some ⟨w.heap.size,0,none⟩)/\BoxAt w0.own Z Y m (w.alloc o) w.heap.size cs) ∨
   (∃ es n c k,b=.row es/\v=.slice (some ⟨w.heap.size,0,none⟩) n c/\RowAt w0.own Z (sh base) (w.alloc o) w.heap.size n c k es) ∨
   (∃ es i x n c,b=.tab es i x/\v=.slice (some ⟨w.heap.size,0,none⟩) n c/\TabAt w0.own Z Y m (w.alloc o) w.heap.size n c (tabC es i x)) ∨
   (∃ l,b=.mp l/\v=.map (some w.heap.size)/\MapAt w0.own (w.alloc o) w.heap.size l)) :
  Rel w0 Z Y (upd m base (some v)) (upd h base (some b)) sh (w.alloc o):=by
 have hmle:=MLe.up (v:=v) hm
 have hblk:blkOf (upd m base (some v)) base=some w.heap.size:=by
  rcases hb with ⟨cs,_,rfl,_⟩|⟨es,n,c,k,_,rfl,_⟩|⟨es,i,x,n,c,_,rfl,_⟩|⟨l,_,rfl,_⟩ <;> simp [blkOf,upd]
 have hold:∀ id,id≠base->blkOf (upd m base (some v)) id=blkOf m id:=λid hne=>by simp [blkOf,upd,hne]
 refine ⟨R.bel.alloc o,R.gw,λb' o' u hz=>?_,R.yok,λid cs hi=>?_,λid es hi=>?_,λid es i v' hi=>?_,λid l hi=>?_,λid id' g h1 h2 e1 e2=>?_⟩
 ·have:=R.zok b' o' u hz
  rw [((Bel.refl w).alloc o).cell _ (qar this)];exact this
 ·unfold upd at hi
  split at hi
  ·rename_i e
   subst e
   injection hi with hi
   rcases hb with ⟨cs',e,rfl,hat⟩|⟨es,n,c,k,e,_⟩|⟨es,i,x,n,c,e,_⟩|⟨l,e,_⟩
   ·rw [e] at hi;injection hi with hi;subst hi
    refine ⟨w.heap.size,by simp [upd],⟨hat.base,?_,hat.apart⟩⟩
    obtain ⟨t,vs,hv,hr⟩:=hat.ex
    exact ⟨t,vs,hv,hr.mono (ZLe.refl _) hmle⟩
   ·rw [e] at hi;cases hi
   ·rw [e] at hi;cases hi
   ·rw [e] at hi;cases hi
  ·rename_i hne
   obtain ⟨g,hg,hat⟩:=R.box id cs hi
   obtain ⟨t,vs,hv,hr⟩:=hat.ex
   exact ⟨g,hmle _ _ hg,⟨hat.base,⟨t,vs,qm9 o hv,hr.mono (ZLe.refl _) hmle⟩,hat.apart⟩⟩
 ·unfold upd at hi
  split at hi
  ·rename_i e
   subst e
   injection hi with hi
   rcases hb with ⟨cs',e,_⟩|⟨es',n,c,k,e,rfl,hat⟩|⟨es,i,x,n,c,e,_⟩|⟨l,e,_⟩
   ·rw [e] at hi;cases hi
   ·rw [e] at hi;injection hi with hi;subst hi
    exact .inr ⟨w.heap.size,n,c,k,by simp [upd],hat⟩
   ·rw [e] at hi;cases hi
   ·rw [e] at hi;cases hi
  ·rename_i hne
   rcases R.row id es hi with ⟨h0,h1⟩|⟨g,n,c,k,hg,hat⟩
   ·exact .inl ⟨hmle _ _ h0,h1⟩
   ·obtain ⟨t,fz,cur,hv,hr⟩:=hat.ex
    exact .inr ⟨g,n,c,k,hmle _ _ hg,⟨hat.base,⟨t,fz,cur,qm9 o hv,hr⟩,hat.len,hat.le,hat.max,hat.pos,hat.zero,hat.each,hat.apart⟩⟩
 ·unfold upd at hi
  split at hi
  ·rename_i e
   subst e
   injection hi with hi
   rcases hb with ⟨cs',e,_⟩|⟨es',n,c,k,e,_⟩|⟨es',i',x',n,c,e,rfl,hat⟩|⟨l,e,_⟩
   ·rw [e] at hi;cases hi
   ·rw [e] at hi;cases hi
   ·rw [e] at hi;injection hi with a1 a2 a3;subst a1 a2 a3
    exact ⟨w.heap.size,n,c,by simp [upd],hat.up (ZLe.refl _) hmle (λ_ h=>h) hat.apart⟩
   ·rw [e] at hi;cases hi
  ·obtain ⟨g,n,c,hg,hat⟩:=R.tab id es i v' hi
   exact ⟨g,n,c,hmle _ _ hg,hat.up (ZLe.refl _) hmle (λx hx=>qm9 o hx) hat.apart⟩
 ·unfold upd at hi
  split at hi
  ·rename_i e
   subst e
   injection hi with hi
   rcases hb with ⟨cs',e,_⟩|⟨es',n,c,k,e,_⟩|⟨es',i',x',n,c,e,_⟩|⟨l',e,rfl,hat⟩
   ·rw [e] at hi;cases hi
   ·rw [e] at hi;cases hi
   ·rw [e] at hi;cases hi
   ·rw [e] at hi;injection hi with a1;subst a1
    exact ⟨w.heap.size,by simp [upd],hat⟩
  ·obtain ⟨g,hg,hat⟩:=R.mp id l hi
   obtain ⟨es,clock,hv,hr⟩:=hat.ex
   exact ⟨g,hmle _ _ hg,⟨hat.base,es,clock,qm9 o hv,hr⟩⟩
 ·by_cases e:id=base
  ·by_cases e':id'=base
   ·rw [e,e']
   ·rw [e,hblk] at e1
    injection e1 with e1
    rw [hold id' e'] at e2
    have h2':h id'≠none:=by simpa [upd,e'] using h2
    have:=(R.blk_lt h2' e2).1
    omega
  ·by_cases e':id'=base
   ·rw [e',hblk] at e2
    injection e2 with e2
    rw [hold id e] at e1
    have h1':h id≠none:=by simpa [upd,e] using h1
    have:=(R.blk_lt h1' e1).1
    omega
   ·rw [hold id e] at e1
    rw [hold id' e'] at e2
    exact R.inj id id' g (by simpa [upd,e] using h1) (by simpa [upd,e'] using h2) e1 e2
theorem Rel.new_box (R:Rel w0 Z Y m h sh w) {base:Nat} {vs:Array Value} {cs:List V} (t:TypeId) (hm:m base=none) (hr:Rep Z Y m (.agg vs) (.agg cs)) :
  Rel w0 Z Y (upd m base (some (.pointer (some ⟨w.heap.size,0,none⟩)))) (upd h base (some (.box cs))) sh (w.alloc (.cells vs t)) :=
 R.new hm (.inr trivial) (.inl ⟨cs,rfl,rfl,⟨.inl R.bel.size,⟨t,vs,heap_alloc_new w _,hr⟩,λo=>by
  cases hz:Z w.heap.size o with
  |none=>rfl
  |some u=>have:=R.z_lt hz;omega⟩⟩)
theorem Rel.share (R:Rel w0 Z Y m h sh w) {id:Nat} {es:List (List C)} (hi:h id=some (.row es)) :
  ∃ Z',ZLe Z Z'/\(∀ b o u,Z' b o=some u->Z b o=some u∨w0.own b)/\Rel w0 Z' Y m h (λi=>if i=id then true else sh i) w/\∀ v n,Rep Z Y m v (.row id n)->RepC Z' v (.sl es):=by
 rcases R.row id es hi with ⟨hm,rfl⟩|⟨g,n,c,k,hm,hat⟩
 ·refine ⟨Z,ZLe.refl Z,λb o u hz=>.inl hz,⟨R.bel,R.gw,R.zok,R.yok,R.box,λid' es' hi'=>?_,R.tab,R.mp,R.inj⟩,?_⟩
  ·rcases R.row id' es' hi' with h0|⟨g,n,c,k,hg,hat⟩
   ·exact .inl h0
   ·refine .inr ⟨g,n,c,k,hg,⟨hat.base,hat.ex,hat.len,hat.le,hat.max,hat.pos,hat.zero,hat.each,λo ho=>?_⟩⟩
    have:=hat.apart o ho
    exact ⟨by simp [this.1],this.2⟩
  ·intro v n r
   cases r with
   |row _ _ A c hm' hA =>
    rw [hm] at hm'
    injection hm' with hm'
    injection hm' with a1 a2 a3
    subst a1 a2 a3
    exact .sl none 0 0 0 0 0 (λ_=>.nilFunc) [] rfl (Nat.le_refl _) (by simp) (by simp) (by simp) (by simp) (by simp) (λ_=>rfl)
   |row0 _ A hm'=>exact .sl A 0 0 0 0 0 (λ_=>.nilFunc) [] rfl (Nat.le_refl _) (by simp) (by simp) (by simp) (by simp) (by simp) (λ_=>rfl)
 ·obtain ⟨t,fz,cur,hv,hcs,hfz,hcell⟩:=hat.ex
  have hnk:n*k<=cur.size:=by rw [hcs];exact Nat.mul_le_mul_right k hat.le
  have hle:ZLe Z (λb o=>if b=g/\o<n*k then cur[o]? else Z b o):=by
   intro b o u hz
   show (if b=g/\o<n*k then cur[o]? else Z b o)=some u
   split
   ·rename_i hc
    obtain ⟨rfl,hc⟩:=hc
    have:=R.zok b o u hz
    simp only [World.cell?,hv] at this
    simpa using this
   ·exact hz
  have hcr:∀ (i:Nat) (e:List C) (j:Nat) (x:C),es[i]?=some e->e[j]?=some x->i*k+j<n*k:=by
   intro i e j x he hx
   have h1:=(List.getElem?_eq_some_iff.1 he).1
   have h2:=(List.getElem?_eq_some_iff.1 hx).1
   rw [hat.each e (List.mem_of_getElem? he)] at h2
   rw [hat.len] at h1
   have:(i+1)*k<=n*k:=Nat.mul_le_mul_right k h1
   rw [Nat.add_mul] at this
   omega
  refine ⟨λb o=>if b=g/\o<n*k then cur[o]? else Z b o,hle,λb o u hz=>?_,⟨R.bel,R.gw,λb o u hz=>?_,R.yok,λid' cs hi'=>?_,λid' es' hi'=>?_,λid' es' i' v' hi'=>?_,R.mp,R.inj⟩,?_⟩
  ·dsimp only at hz
   split at hz
   ·rename_i hc;rw [hc.1];exact .inr hat.base
   ·exact .inl hz
  ·split at hz
   ·rename_i hc
    obtain ⟨rfl,hc⟩:=hc
    simp only [World.cell?,hv]
    simpa using hz
   ·exact R.zok b o u hz
  ·obtain ⟨g',hg',hat'⟩:=R.box id' cs hi'
   obtain ⟨t',vs,hv',hr⟩:=hat'.ex
   refine ⟨g',hg',⟨hat'.base,⟨t',vs,hv',hr.mono hle (MLe.refl _)⟩,λo=>?_⟩⟩
   have hne:g'≠g:=by
    intro e
    subst e
    have:=R.inj id' id g' (by simp [hi']) (by simp [hi]) (by simp [blkOf,hg']) (by simp [blkOf,hm])
    subst this
    rw [hi] at hi';cases hi'
   simp [hne,hat'.apart o]
  ·rcases R.row id' es' hi' with h0|⟨g',n',c',k',hg',hat'⟩
   ·exact .inl h0
   ·obtain ⟨t',fz',cur',hv',hcs',hfz',hcell'⟩:=hat'.ex
    refine .inr ⟨g',n',c',k',hg',⟨hat'.base,⟨t',fz',cur',hv',hcs',hfz',λi e j x he hx=>?_⟩,hat'.len,hat'.le,hat'.max,hat'.pos,hat'.zero,hat'.each,λo ho=>?_⟩⟩
    ·obtain ⟨u,hu,hr⟩:=hcell' i e j x he hx
     exact ⟨u,hu,hr.mono hle⟩
    ·by_cases e:id'=id
     ·subst e
      rw [hm] at hg'
      injection hg' with hg'
      injection hg' with a1 a2 a3
      injection a1 with a1
      injection a1 with a1
      subst a1 a2 a3
      refine ⟨by simp,?_⟩
      have hkk:k'=k∨n=0:=by
       rcases Nat.eq_zero_or_pos n with h0|h0
       ·exact .inr h0
       ·left
        have hl:=hat.len
        rw [hi] at hi'
        injection hi' with hi';injection hi' with hi';subst hi'
        cases es with
        |nil=>simp at hl;omega
        |cons e0 es=>rw [←hat'.each e0 (by simp),hat.each e0 (by simp)]
      by_cases hc:o<n*k
      ·rcases hkk with rfl|h0
       ·exact hc
       ·subst h0;simp at hc
      ·simp [hc] at ho
       exact (hat'.apart o (by simpa using ho)).2
     ·have hne:g'≠g:=by
       intro e'
       subst e'
       exact e (R.inj id' id g' (by simp [hi']) (by simp [hi]) (by simp [blkOf,hg']) (by simp [blkOf,hm]))
      simp [hne] at ho
      have:=hat'.apart o (by simpa using ho)
      exact ⟨by simp [this.1],this.2⟩
  ·obtain ⟨g',n',c',hg',hat'⟩:=R.tab id' es' i' v' hi'
   refine ⟨g',n',c',hg',hat'.up hle (MLe.refl _) (λ_ h=>h) λo=>?_⟩
   have hne:g'≠g:=by
    intro e
    subst e
    have:=R.inj id' id g' (by simp [hi']) (by simp [hi]) (by simp [blkOf,hg']) (by simp [blkOf,hm])
    subst this
    rw [hi] at hi';cases hi'
   simp [hne,hat'.apart o]
  ·intro v n' r
   cases r with
   |row _ _ A c' hm' hA =>
    rw [hm] at hm'
    injection hm' with hm'
    injection hm' with a1 a2 a3
    subst a1 a2 a3
    refine .sl _ n c k g 0 (λo=>(cur[o]?).getD .nilFunc) es hat.len hat.le hat.max hat.each (λ_=>rfl) ?_ ?_ (λh=>by cases h)
    ·intro i e j x he hx
     obtain ⟨u,hu,_⟩:=hcell i e j x he hx
     have:=hcr i e j x he hx
     simp [this,hu]
    ·intro i e j x he hx
     obtain ⟨u,hu,hr⟩:=hcell i e j x he hx
     rw [hu]
     exact hr.mono hle
   |row0 _ A hm'=>rw [hm] at hm';cases hm'
end
end Go.Proofs.YtmlcmoaonaomfaaGreatDoor
namespace Go.Proofs.YtmlcmoaonaomfaaGreatDoor
open Go.RowKit
section
variable {P:Program} {Z Y:ZMap} {m:Nat->Oq Value} {w0:WB} {w w':World} {h hv:Nat->Oq B} {sh:Nat->Bool}
structure ZUp (w0:WB) (Z Z':ZMap):Prop where
 le:ZLe Z Z'
 own:∀ b o u,Z' b o=some u->Z b o=some u∨w0.own b
theorem ZUp.refl:ZUp w0 Z Z:=⟨ZLe.refl Z,λ_ _ _ h=>.inl h⟩
theorem ZUp.trans {Z' Z'':ZMap} (a:ZUp w0 Z Z') (b:ZUp w0 Z' Z''):ZUp w0 Z Z'' :=
 ⟨a.le.trans b.le,λx y u hu=>(b.own x y u hu).elim (λhu=>a.own x y u hu) .inr⟩
def flag (sh:Nat->Bool) (fl:List Nat):Nat->Bool:=λi=>if i∈fl then true else sh i
theorem qgr:flag sh []=sh:=by funext i;simp [flag]
theorem qgp (a b:List Nat):flag (flag sh a) b=flag sh (a++b):=by funext i;simp only [flag,List.mem_append];by_cases h1:i∈a <;> by_cases h2:i∈b <;> simp [h1,h2]
theorem qxw (Z:ZMap) {A:Oq Addr} {c:Nat} (hc:c<=maxLen) (hN:A=none->c=0):RepC Z (.slice A 0 c) (.sl []) :=
 .sl A 0 c 0 0 0 (λ_=>.nilFunc) [] rfl (Nat.zero_le _) hc (by simp) (by simp) (by simp) (by simp) hN
theorem qjx (R:Rel w0 Z Y m h sh w) (hs:∀ id b,hv id=some b->h id=some b) {v:Value} {x:V} {y:C×List Nat} (hf:frzC hv x=some y) (r:Rep Z Y m v x) :
  ∃ Z',ZUp w0 Z Z'/\Rel w0 Z' Y m h (flag sh y.2) w/\RepC Z' v y.1:=by
 unfold frzC at hf
 split at hf
 ·injection hf with hf;subst hf
  cases r with|c r =>
  cases r
  exact ⟨Z,ZUp.refl,by rw [qgr];exact R,qxw Z (by simp) (λ_=>rfl)⟩
 ·injection hf with hf;subst hf
  cases r with|c r =>
  cases r
  exact ⟨Z,ZUp.refl,by rw [qgr];exact R,qxw Z (by simp) (λ_=>rfl)⟩
 ·injection hf with hf;subst hf
  cases r with|c r =>
  cases r
  exact ⟨Z,ZUp.refl,by rw [qgr];exact R,qxw Z (by assumption) (λh=>by cases h)⟩
 ·injection hf with hf;subst hf
  cases r with|c r =>
  exact ⟨Z,ZUp.refl,by rw [qgr];exact R,r⟩
 ·rename_i id n
  split at hf
  ·rename_i es he
   injection hf with hf;subst hf
   obtain ⟨Z',h1,h2,h3,h4⟩:=R.share (hs _ _ he)
   refine ⟨Z',⟨h1,h2⟩,?_,h4 v n r⟩
   have:flag sh [id]=λi=>if i=id then true else sh i:=by funext i;simp [flag]
   rw [this]
   exact h3
  ·cases hf
 ·injection hf with hf;subst hf
  cases r with
  |rowE _ g n c hm hc=>exact ⟨Z,ZUp.refl,by rw [qgr];exact R,qxw Z hc (λh=>by cases h)⟩
 ·cases hf
theorem qjy:∀ (xs:List V) {Z:ZMap} {sh:Nat->Bool} {us:List Value} {y:List C×List Nat},Rel w0 Z Y m h sh w->(∀ id b,hv id=some b->h id=some b)->frzL hv xs=some y->us.length=xs.length->(∀ (i:Nat) u x,us[i]?=some u->xs[i]?=some x->Rep Z Y m u x) ->
  ∃ Z',ZUp w0 Z Z'/\Rel w0 Z' Y m h (flag sh y.2) w/\y.1.length=xs.length/\∀ (i:Nat) u x,us[i]?=some u->y.1[i]?=some x->RepC Z' u x
 |[],Z,sh,us,y,R,hs,hf,hl,hr=>by
  injection hf with hf;subst hf
  have:us=[]:=List.eq_nil_of_length_eq_zero hl
  subst this
  exact ⟨Z,ZUp.refl,by rw [qgr];exact R,rfl,by simp⟩
 |x::xs,Z,sh,us,y,R,hs,hf,hl,hr=>by
  simp only [frzL] at hf
  cases hx:frzC hv x with
  |none=>rw [hx] at hf;cases hf
  |some a =>
   rw [hx] at hf
   simp only [x0q] at hf
   cases hxs:frzL hv xs with
   |none=>rw [hxs] at hf;cases hf
   |some b =>
    rw [hxs] at hf
    injection hf with hf;subst hf
    match us,hl with
    |u::us,hl =>
     obtain ⟨Z1,u1,R1,r1⟩:=qjx R hs hx (hr 0 u x rfl rfl)
     obtain ⟨Z2,u2,R2,l2,r2⟩:=qjy xs (us:=us) R1 hs hxs (by simpa using hl) (λi u' x' hu hx'=>(hr (i+1) u' x' hu hx').mono u1.le (MLe.refl _))
     refine ⟨Z2,u1.trans u2,by rw [←qgp];exact R2,by simp [l2],λi u' x' hu hx'=>?_⟩
     cases i with
     |zero=>simp at hu hx';subst hu hx';exact r1.mono u2.le
     |succ i=>exact r2 i u' x' (by simpa using hu) (by simpa using hx')
def lent (w:World):ZMap:=λb o=>w.cell? ⟨b,o,none⟩
def noM:Nat->Oq Value:=λ_=>none
theorem qjz (R:Rel w0 Z Y m h sh w) (hs:∀ id b,hv id=some b->h id=some b) {v:Value} {x:V} {y:V×List Nat} (hf:frzP hv x=some y) (r:Rep Z Y m v x) :
  ∃ Z',ZUp w0 Z Z'/\Rel w0 Z' Y m h (flag sh y.2) w/\Rep Z' (lent w) noM v y.1:=by
 unfold frzP at hf
 split at hf
 ·rename_i id off
  split at hf
  ·rename_i cs he
   cases hl:frzL hv cs with
   |none=>rw [hl] at hf;cases hf
   |some a =>
    rw [hl] at hf
    injection hf with hf;subst hf
    obtain ⟨g,hm,hat⟩:=R.box id cs (hs _ _ he)
    obtain ⟨t,vs,hvs,hrep⟩:=hat.ex
    obtain ⟨Z',u1,R1,l1,r1⟩:=qjy cs (us:=vs.toList) R hs hl (by simpa using hrep.agg_size) (λi u x hu hx=>by
     obtain ⟨u',hu',hr',_⟩:=hrep.agg_get hx
     rw [Array.getElem?_toList,hu'] at hu
     injection hu with hu;subst hu;exact hr')
    refine ⟨Z',u1,R1,?_⟩
    cases r with
    |ptr _ _ g' hm' =>
     rw [hm] at hm'
     injection hm' with hm';injection hm' with hm';injection hm' with hm';injection hm' with hm'
     subst hm'
     have hget:∀ (j:Nat) (x:C),a.1[j]?=some x->vs[j]?=some ((vs[j]?).getD .nilFunc):=by
      intro j x hx
      have hj:j<vs.size:=by have:=(List.getElem?_eq_some_iff.1 hx).1;rw [l1] at this;rw [hrep.agg_size];exact this
      simp [Array.getElem?_eq_getElem hj]
     have:=Rep.eptr (Z:=Z') (Y:=lent w) (m:=noM) g 0 off (λj=>(vs[j]?).getD .nilFunc) a.1 (λj x hx=>.inr (by
      simp only [lent,World.cell?,hvs,x13q]
      simpa using hget j x hx)) (λj x hx=>r1 j _ x (by rw [Array.getElem?_toList];exact hget j x hx) hx)
     simpa using this
  ·cases hf
 ·rename_i cs off
  injection hf with hf;subst hf
  refine ⟨Z,ZUp.refl,by rw [qgr];exact R,?_⟩
  cases r with
  |eptr b o _ U _ hz hr=>exact .eptr b o off U cs (λj x hx=>(hz j x hx).imp id (λhy=>R.yok' hy)) hr
 ·rename_i cs
  cases hl:frzL hv cs with
  |none=>rw [hl] at hf;cases hf
  |some a =>
   rw [hl] at hf
   injection hf with hf;subst hf
   cases r with
   |agg vs _ hsz h1 hr =>
    have hrep:Rep Z Y m (.agg vs) (.agg cs):=.agg vs cs hsz h1 hr
    obtain ⟨Z',u1,R1,l1,r1⟩:=qjy cs (us:=vs.toList) R hs hl (by simpa using hsz) (λi u x hu hx=>hr i u x (by simpa using hu) hx)
    refine ⟨Z',u1,R1,.agg vs _ (by simp [l1,hsz]) h1 (λi u x hu hx=>?_)⟩
    simp only [x14q] at hx
    cases hg:a.1[i]? with
    |none=>rw [hg] at hx;cases hx
    |some z =>
     rw [hg] at hx
     injection hx with hx;subst hx
     exact .c (r1 i u z (by simpa using hu) hg)
 ·cases hl:frzC hv x with
  |none=>rw [hl] at hf;cases hf
  |some a =>
   rw [hl] at hf
   injection hf with hf;subst hf
   obtain ⟨Z',u1,R1,r1⟩:=qjx R hs hl r
   exact ⟨Z',u1,R1,.c r1⟩
theorem qk1 (fr:(Nat->Oq B)->V->Oq (V×List Nat)) (frs:(Nat->Oq B)->List V->Oq (List V×List Nat)) (e0:frs hv []=some ([],[])) (e1:∀ x xs,frs hv (x::xs)=(fr hv x).bind λa=>(frs hv xs).map λb=>(a.1::b.1,a.2++b.2))
  (one:∀ {Z:ZMap} {sh:Nat->Bool} {v:Value} {x:V} {y:V×List Nat},Rel w0 Z Y m h sh w->fr hv x=some y->Rep Z Y m v x->∃ Z',ZUp w0 Z Z'/\Rel w0 Z' Y m h (flag sh y.2) w/\Rep Z' (lent w) noM v y.1) :
  ∀ (xs:List V) {Z:ZMap} {sh:Nat->Bool} {us:List Value} {y:List V×List Nat},Rel w0 Z Y m h sh w->frs hv xs=some y->us.length=xs.length->(∀ (i:Nat) u x,us[i]?=some u->xs[i]?=some x->Rep Z Y m u x) ->
  ∃ Z',ZUp w0 Z Z'/\Rel w0 Z' Y m h (flag sh y.2) w/\y.1.length=xs.length/\∀ (i:Nat) u x,us[i]?=some u->y.1[i]?=some x->Rep Z' (lent w) noM u x
 |[],Z,sh,us,y,R,hf,hl,hr=>by
  rw [e0] at hf
  injection hf with hf;subst hf
  have:us=[]:=List.eq_nil_of_length_eq_zero hl
  subst this
  exact ⟨Z,ZUp.refl,by rw [qgr];exact R,rfl,by simp⟩
 |x::xs,Z,sh,us,y,R,hf,hl,hr=>by
  rw [e1] at hf
  cases hx:fr hv x with
  |none=>rw [hx] at hf;cases hf
  |some a =>
   rw [hx] at hf
   simp only [x0q] at hf
   cases hxs:frs hv xs with
   |none=>rw [hxs] at hf;cases hf
   |some b =>
    rw [hxs] at hf
    injection hf with hf;subst hf
    match us,hl with
    |u::us,hl =>
     obtain ⟨Z1,u1,R1,r1⟩:=one R hx (hr 0 u x rfl rfl)
     obtain ⟨Z2,u2,R2,l2,r2⟩:=qk1 fr frs e0 e1 one xs (us:=us) R1 hxs (by simpa using hl) (λi u' x' hu hx'=>(hr (i+1) u' x' hu hx').mono u1.le (MLe.refl _))
     refine ⟨Z2,u1.trans u2,by rw [←qgp];exact R2,by simp [l2],λi u' x' hu hx'=>?_⟩
     cases i with
     |zero=>simp at hu hx';subst hu hx';exact r1.mono u2.le (MLe.refl _)
     |succ i=>exact r2 i u' x' (by simpa using hu) (by simpa using hx')
theorem qk0 (hs:∀ id b,hv id=some b->h id=some b) (xs:List V) {us:List Value} {y:List V×List Nat} (R:Rel w0 Z Y m h sh w) (hf:frzPs hv xs=some y) (hl:us.length=xs.length) (hr:∀ (i:Nat) u x,us[i]?=some u->xs[i]?=some x->Rep Z Y m u x) :
  ∃ Z',ZUp w0 Z Z'/\Rel w0 Z' Y m h (flag sh y.2) w/\y.1.length=xs.length/\∀ (i:Nat) u x,us[i]?=some u->y.1[i]?=some x->Rep Z' (lent w) noM u x :=
 qk1 frzP frzPs rfl (λ_ _=>rfl) (λR hf r=>qjz R hs hf r) xs R hf hl hr
theorem qju (R:Rel w0 Z Y m h sh w) (hs:∀ id b,hv id=some b->h id=some b) {v:Value} {x:V} {y:V×List Nat} (hf:frzA hv x=some y) (r:Rep Z Y m v x) :
  ∃ Z',ZUp w0 Z Z'/\Rel w0 Z' Y m h (flag sh y.2) w/\Rep Z' (lent w) noM v y.1:=by
 unfold frzA at hf
 split at hf
 ·rename_i f caps
  cases hl:frzPs hv caps with
  |none=>rw [hl] at hf;cases hf
  |some a =>
   rw [hl] at hf
   injection hf with hf;subst hf
   obtain ⟨cs,hsz,hr,_,hmk⟩:=r.fun
   ·obtain ⟨Z',u1,R1,l1,r1⟩:=qk0 hs caps (us:=cs.toList) R hl (by simpa using hsz) (λi u x hu hx=>hr i u x (by simpa using hu) hx)
    exact ⟨Z',u1,R1,hmk _ _ _ a.1 (by rw [l1];exact hsz) (λi u x hu hx=>r1 i u x (by simpa using hu) hx)⟩
 ·exact qjz R hs hf r
theorem qjv (hs:∀ id b,hv id=some b->h id=some b) (xs:List V) {us:List Value} {y:List V×List Nat} (R:Rel w0 Z Y m h sh w) (hf:frzAs hv xs=some y) (hl:us.length=xs.length) (hr:∀ (i:Nat) u x,us[i]?=some u->xs[i]?=some x->Rep Z Y m u x) :
  ∃ Z',ZUp w0 Z Z'/\Rel w0 Z' Y m h (flag sh y.2) w/\y.1.length=xs.length/\∀ (i:Nat) u x,us[i]?=some u->y.1[i]?=some x->Rep Z' (lent w) noM u x :=
 qk1 frzA frzAs rfl (λ_ _=>rfl) (λR hf r=>qju R hs hf r) xs R hf hl hr
end
end Go.Proofs.YtmlcmoaonaomfaaGreatDoor
