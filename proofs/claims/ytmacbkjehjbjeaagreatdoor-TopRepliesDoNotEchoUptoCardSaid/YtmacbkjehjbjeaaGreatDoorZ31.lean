/- The rules on slices.DeleteFunc and slices.Insert are sound. -/
import Derived.Test.YtmacbkjehjbjeaaGreatDoorX9
import Derived.Test.YtmacbkjehjbjeaaGreatDoorZ27
import Derived.Tactics
import Derived.Tactics2
import Derived.Defers
import Derived.Laws.Pointers
import Derived.Laws.LoneSync
import Derived.RegionTactic
import Derived.RegionCalls
import Derived.ChangeAlike
import Derived.WalkKit
import Derived.Test.YtmacbkjehjbjeaaGreatDoorGB
import Derived.LoopN
import Derived.LoopTactic
import Derived.Deep.QuietTactic
import Derived.BigQuiet
import Derived.Deep.WholeRow
import Derived.Deep.OwnRows
import Derived.Laws.CopyOwn
import Derived.Deep.RegionLaw
import Derived.Lib.LazyBuf
import Derived.Lib.ConvBytes
import Derived.Laws.IdiomStrings
import Derived.Lib.AppendStr
import Derived.OneCell
namespace Go.Proofs.YtmacbkjehjbjeaaGreatDoor
open Go.RowKit
set_option maxRecDepth 100000
theorem qox {w:World} {base:Nat→Prop} {Z:ZMap} {s:Bool} {g n c:Nat} {l:List Rp} (hat:RowAt base Z s w g n c 2 (l.map encR)):RowR w g c l:=by
 obtain ⟨t,fz,cur,hv,hcs,⟨_,hmk,_⟩,hcell⟩:=hat.ex
 have hln:l.length=n:=by have:=hat.len;simpa using this
 refine ⟨⟨t,fz,cur,hv,hcs,hmk (by decide),fun i x hx=>?_⟩,by rw [hln];exact hat.le,hat.max⟩
 have he:(l.map encR)[i]?=some (encR x):=by rw [List.getElem?_map,hx];rfl
 obtain ⟨u0,a0,b0⟩:=hcell i _ 0 _ he rfl
 obtain ⟨u1,a1,b1⟩:=hcell i _ 1 _ he rfl
 cases b0;cases b1
 exact ⟨a0,a1⟩
theorem qov {w:World} {base:Nat→Prop} {Z:ZMap} {s:Bool} {g c:Nat} {l:List Rp} (h:RowR w g c l) (hb:base g) (hZ:∀ o,Z g o=none) (hl:l≠[]):RowAt base Z s w g l.length c 2 (l.map encR):=by
 obtain ⟨⟨t,fz,cur,hv,hcs,hfz,hc⟩,hle,hmx⟩:=h
 have hn:l.length≠0:=fun e=>hl (List.eq_nil_of_length_eq_zero e)
 refine ⟨hb,⟨t,fz,cur,hv,hcs,⟨by subst hfz;simp,fun _=>hfz,by subst hfz;simp⟩,fun i e j x he hx=>?_⟩,by simp,hle,hmx,by decide,fun e=>absurd e hn,fun e he=>?_,fun o ho=>absurd (hZ o) ho⟩
 ·rw [List.getElem?_map] at he
  cases hy:l[i]? with
  |none=>rw [hy] at he;cases he
  |some y =>
   rw [hy] at he
   injection he with he
   subst he
   obtain ⟨c1,c2⟩:=hc i y hy
   match j with
   |0=>simp [encR] at hx;subst hx;exact ⟨_,c1,.str _⟩
   |1=>simp [encR] at hx;subst hx;exact ⟨_,c2,.int _ _⟩
   |j+2=>simp [encR] at hx
 ·obtain ⟨y,_,rfl⟩:=List.mem_map.1 he
  rfl
theorem RowR.front {w:World} {g c:Nat} {l m:List Rp} (h:RowR w g c (l++m)):RowR w g c l:=by
 obtain ⟨⟨t,fz,cur,hv,hs,hf,hc⟩,h1,h2⟩:=h
 refine ⟨⟨t,fz,cur,hv,hs,hf,fun i x hx=>hc i x ?_⟩,by simp at h1;omega,h2⟩
 rw [List.getElem?_append_left (List.getElem?_eq_some_iff.1 hx).1];exact hx
section
variable {w0:WB} {Z Y:ZMap} {m:Nat→Option Value} {h:Nat→Option B} {sh:Nat→Bool} {w:World}
theorem qo9 (R:Rel w0 Z Y m h sh w) {id n:Nat} {l:List Rp} (hh:h id=some (.row (l.map encR))) {u:Value} (r:Rep Z Y m u (.row id n)) :
  n=l.length∧((l=[]∧∃ A,u=.slice A 0 0)∨(l≠[]∧∃ g c,u=.slice (some ⟨g,0,none⟩) l.length c∧m id=some u∧RowAt w0.own Z (sh id) w g l.length c 2 (l.map encR))):=by
 have nilE:l.map encR=[]→l=[]:=fun e=>List.map_eq_nil_iff.1 e
 cases r with
 |row _ _ A c hm hA =>
  rcases R.row id _ hh with ⟨h0,he⟩|⟨g,n',c',k,hm',hat⟩
  ·rw [hm] at h0
   injection h0 with h0;injection h0 with a1 a2 a3
   subst a1 a2 a3
   have:=nilE he
   subst this
   exact ⟨rfl,.inl ⟨rfl,_,rfl⟩⟩
  ·rw [hm] at hm'
   injection hm' with hm';injection hm' with a1 a2 a3
   subst a1 a2 a3
   have hln:l.length=n:=by have:=hat.len;simpa using this
   refine ⟨hln.symm,?_⟩
   by_cases hl:l=[]
   ·subst hl
    have h0:n=0:=hln.symm
    have hc:=hat.zero h0
    subst h0 hc
    exact .inl ⟨rfl,_,rfl⟩
   ·right
    have hk:k=2:=by
     obtain ⟨x,xs,rfl⟩:=List.exists_cons_of_ne_nil hl
     exact (hat.each (encR x) (by simp)).symm
    subst hk
    subst hln
    exact ⟨hl,g,c,rfl,hm,hat⟩
 |row0 _ A hm =>
  rcases R.row id _ hh with ⟨h0,he⟩|⟨g,n',c',k,hm',hat⟩
  ·have:=nilE he
   subst this
   exact ⟨rfl,.inl ⟨rfl,_,rfl⟩⟩
  ·rw [hm] at hm';cases hm'
theorem h_none (R:Rel w0 Z Y m h sh w) {i:Nat} (hm:m i=none):h i=none:=by
 cases hh:h i with
 |none=>rfl
 |some b =>
  exfalso
  cases b with
  |box cs=>obtain ⟨g,h1,_⟩:=R.box i cs hh;rw [hm] at h1;cases h1
  |row es=>rcases R.row i es hh with ⟨h1,_⟩|⟨g,n,c,k,h1,_⟩ <;> (rw [hm] at h1;cases h1)
  |tab es q v=>obtain ⟨g,n,c,h1,_⟩:=R.tab i es q v hh;rw [hm] at h1;cases h1
  |mp l=>obtain ⟨g,h1,_⟩:=R.mp i l hh;rw [hm] at h1;cases h1
theorem qfn {g:Nat} {w':World} (h:Frm (fun k=>k=g) w w') (hg:g<w.heap.size):∃ w1,Wr g w w1∧Bel w1 w'∧w1.heap[g]?=w'.heap[g]?:=by
 have hg':g<w'.heap.size:=Nat.lt_of_lt_of_le hg h.size
 refine ⟨{ w' with heap:=w.heap.setIfInBounds g w'.heap[g] },⟨h.os,h.tape,h.output,by simp,fun k hk=>?_⟩,⟨rfl,rfl,rfl,by simpa using h.size,fun k hk=>?_⟩,?_⟩
 ·show (w.heap.setIfInBounds g w'.heap[g])[k]?=_
  rw [Array.getElem?_setIfInBounds_ne (Ne.symm hk)]
 ·show w'.heap[k]?=(w.heap.setIfInBounds g w'.heap[g])[k]?
  have hk:k<w.heap.size:=by simpa using hk
  by_cases e:k=g
  ·subst e
   rw [Array.getElem?_setIfInBounds_self_of_lt hg,Array.getElem?_eq_getElem hg']
  ·rw [Array.getElem?_setIfInBounds_ne (Ne.symm e)]
   exact h.block k hk (fun e2=>e e2)
 ·show (w.heap.setIfInBounds g w'.heap[g])[g]?=_
  rw [Array.getElem?_setIfInBounds_self_of_lt hg,Array.getElem?_eq_getElem hg']
end
set_option maxHeartbeats 1600000 in
theorem q93 (_now:Int) (q:Nat) (A:Option Addr) (w:World):Calls Tryz.prog 18 #[.slice A 0 0,.func (.func 19) #[] #[.pointer (some ⟨q,0,none⟩)]] w fun e w'=>e=.returned (.slice A 0 0)∧w'=w:=by
 have hi:Calls Tryz.prog 41 #[.slice A 0 0,.func (.func 19) #[] #[.pointer (some ⟨q,0,none⟩)]] w fun e w'=>e=.returned (.int .i64 (-1))∧w'=w:=by
  go_enter Tryz.func41,Tryz.ntmps41
  go_wp2
  refine wp_loop_rounds 1 ?_
  rw [rounds_succ]
  go_wp2
  go_ret
  exact ⟨rfl,rfl⟩
 go_enter Tryz.func18,Tryz.ntmps18
 go_wp2_with (go_at_call 41;refine hi.mono ?_;rintro e w' ⟨rfl,rfl⟩)
 go_ret
 exact ⟨rfl,rfl⟩
theorem args3 {cargs:Array Value} (hs:cargs.size=3):cargs=#[cargs.getD 0 undef,cargs.getD 1 undef,cargs.getD 2 undef]:=by
 apply Array.ext (by simpa using hs)
 intro i h1 h2
 match i,h1 with
 |0,h1=>simp [Array.getD,h1]
 |1,h1=>simp [Array.getD,h1]
 |2,h1=>simp [Array.getD,h1]
 |i+3,h1=>omega
theorem args2' {cargs:Array Value} (hs:cargs.size=2):cargs=#[cargs.getD 0 undef,cargs.getD 1 undef]:=by
 apply Array.ext (by simpa using hs)
 intro i h1 h2
 match i,h1 with
 |0,h1=>simp [Array.getD,h1]
 |1,h1=>simp [Array.getD,h1]
 |i+2,h1=>omega
theorem quq {α:Type} (f:Nat→α) (i:Nat) (a b:α):upd (upd f i a) i b=upd f i b:=by funext j;unfold upd;split <;> rfl
theorem q96 (st:St) (vs:List V) (s1:St) (h:(dlrX 19).run (List V×St) st some=some (vs,s1)):RuleOk Tryz.prog 18 2 st vs s1:=by
 unfold dlrX at h
 simp only at h
 split at h
 case h_2=>cases h
 rename_i id n f q e0 e1
 cases hf:f==19 with
 |false=>rw [hf] at h;cases h
 |true =>
 rw [hf,cond_true] at h
 have hf':f=19:=by simpa using hf
 subst hf'
 split at h
 case h_2=>cases h
 rename_i es now hes hbq
 cases hsh:st.sh id with
 |true=>rw [hsh] at h;cases h
 |false =>
 rw [hsh,cond_false] at h
 obtain ⟨hg,h⟩:=qg0 h
 obtain ⟨l,rfl⟩:=qog es hg
 have hfe:(l.map encR).filter (newB now)=(l.filter (keep now)).map encR:=qcg now l
 rw [hfe] at h
 intro G w0 w Z Y m cargs R hm hG hs hr
 have r0:=hr 0
 have r1:=hr 1
 rw [e0] at r0
 rw [e1] at r1
 rw [args2' hs]
 generalize cargs.getD 0 undef=u0 at r0
 generalize cargs.getD 1 undef=u1 at r1
 have hnm:m st.nx=none:=by cases hq:m st.nx with|none=>rfl|some _=>exact absurd (hm st.nx (by rw [hq];simp)) (by omega)
 have hnh:=h_none R hnm
 have hidx:id≠st.nx:=fun e=>by rw [e,hnh] at hes;cases hes
 -- the closure
 obtain ⟨gq,rfl,hmq⟩:∃ gq,u1=.func (.func 19) #[] #[.pointer (some ⟨gq,0,none⟩)]∧m q=some (.pointer (some ⟨gq,0,none⟩)):=by
  cases r1 with
  |fn _ cs _ hlen hrr _ =>
   have hl1:cs.size=1:=by simpa using hlen
   have hc0:cs[0]?=some (cs[0]'(by omega)):=Array.getElem?_eq_getElem _
   have r2:=hrr 0 _ _ hc0 rfl
   have hcs:cs=#[cs[0]'(by omega)]:=by
    apply Array.ext (by simpa using hl1)
    intro i h1 h2
    have:i=0:=by omega
    subst this
    rfl
   generalize cs[0]'(by omega)=c0 at r2 hcs
   subst hcs
   cases r2 with
   |ptr _ _ g hmi=>exact ⟨g,rfl,hmi⟩
 obtain ⟨gq',hmq',hbx⟩:=R.box q _ hbq
 rw [hmq] at hmq'
 injection hmq' with hmq';injection hmq' with hmq';injection hmq' with hmq';injection hmq' with hmq'
 subst hmq'
 obtain ⟨tq,wsq,hwq,hrq⟩:=hbx.ex
 have hcq:w.cell? ⟨gq,0,none⟩=some (.int .i64 now):=by
  obtain ⟨u,hu,hr',_⟩:=hrq.agg_get (i:=0) (x:=.c (.int .i64 now)) rfl
  rw [qol hr'] at hu
  simp only [World.cell?,hwq]
  exact hu
 obtain ⟨hnl,hrow⟩:=qo9 R hes r0
 rcases hrow with ⟨rfl,A,rfl⟩|⟨hl,g,c,rfl,hmi,hat⟩
 ·-- nothing there
  have h':(vs,s1)=([V.row st.nx 0],{ st with h:=upd (upd st.h id none) st.nx (some (.row [])),sh:=upd st.sh st.nx false,nx:=st.nx+1 }):=(Option.some.inj h).symm
  injection h' with h1 h2
  subst h1 h2
  refine (q93 now gq A w).mono fun e w'=>?_
  rintro ⟨rfl,rfl⟩
  refine ⟨_,Z,upd m st.nx (some (.slice none 0 0)),rfl,ZUp.refl,R.renew (oid:=some id) hnm hnh (fun j hj=>by simp [upd,hj]) (Bel.refl _) (.inl ⟨rfl,rfl⟩),.row0 st.nx A (by simp [upd]),?_,?_⟩
  ·intro i id' u hi hu
   have:=hG i id' u hi hu
   unfold upd
   split
   ·rename_i e;rw [e,hnm] at this;cases this
   ·exact this
  ·intro i hi
   unfold upd at hi
   split at hi
   ·rename_i e;rw [e];exact Nat.lt_succ_self _
   ·exact Nat.lt_succ_of_lt (hm i hi)
 ·have hrw:=qox hat
  have hZ:∀ o,Z g o=none:=fun o=>by
   cases hz:Z g o with
   |none=>rfl
   |some u=>have:=(hat.apart o (by rw [hz];simp)).1;rw [hsh] at this;cases this
  have hgq:gq≠g:=fun e=>by
   have e1:blkOf m q=some g:=by simp [blkOf,hmq,e]
   have e2:blkOf m id=some g:=by simp [blkOf,hmi]
   have:=R.inj q id g (by rw [hbq];simp) (by rw [hes];simp) e1 e2
   subst this
   rw [hbq] at hes;cases hes
  refine (q92 now gq g c l w hrw hcq hgq).mono fun e w'=>?_
  rintro ⟨rfl,hr',hF⟩
  obtain ⟨w1,hW,hB,hE⟩:=qfn hF hrw.lt
  generalize hFd:l.filter (keep now)=F at *
  by_cases hF0:F=[]
  ·subst hF0
   have hcond:((([]:List Rp).map encR).isEmpty&&!(l.map encR).isEmpty)=true:=by
    cases l with
    |nil=>exact absurd rfl hl
    |cons x l=>rfl
   rw [hcond] at h
   have h':(vs,s1)=([V.rowE id],{ st with h:=upd st.h id (some (.row ((l.map encR).map zeroR))) }):=(Option.some.inj h).symm
   injection h' with h1 h2
   subst h1 h2
   have hz:(l.map encR).map zeroR=(List.replicate l.length zR).map encR:=by
    rw [List.map_map,List.map_replicate]
    exact List.map_eq_replicate_iff.2 fun _ _=>rfl
   rw [hz]
   have hr2:RowR w1 g c (List.replicate l.length zR):=by
    have:RowR w' g c (List.replicate l.length zR):=by simpa using hr'
    exact this.same hE
   have hne:List.replicate l.length zR≠[]:=by
    intro e
    have:=congrArg List.length e
    simp at this
    exact hl this
   have hat2:=qov (s:=st.sh id) hr2 hat.base hZ hne
   rw [List.length_replicate] at hat2
   have hRw:=R.write (base:=id) (b':=.row ((List.replicate l.length zR).map encR)) (v:=.slice (some ⟨g,0,none⟩) l.length c) (sh':=st.sh) hes (by simp [blkOf,hmi]) hW (.inl rfl) (fun _ _ _ _=>rfl) (fun o u hz=>by rw [hZ o] at hz;cases hz) (fun _=>hmi) (.inr (.inl ⟨_,l.length,c,2,rfl,rfl,hat2⟩))
   have hmid:upd m id (some (.slice (some ⟨g,0,none⟩) l.length c))=m:=by
    funext j
    unfold upd
    split
    ·rename_i e;rw [e,hmi]
    ·rfl
   rw [hmid,quq] at hRw
   refine ⟨_,Z,m,rfl,ZUp.refl,hRw.later hB,.rowE id g _ c hmi hat.max,hG,hm⟩
  ·have hcond:((F.map encR).isEmpty&&!(l.map encR).isEmpty)=false:=by
    cases F with
    |nil=>exact absurd rfl hF0
    |cons x F=>rfl
   rw [hcond] at h
   have h':(vs,s1)=([V.row st.nx (F.map encR).length],{ st with h:=upd (upd st.h id none) st.nx (some (.row (F.map encR))),sh:=upd st.sh st.nx false,nx:=st.nx+1 }):=(Option.some.inj h).symm
   injection h' with h1 h2
   subst h1 h2
   have hr2:RowR w1 g c F:=hr'.front.same hE
   have hat2:=qov (s:=(upd st.sh st.nx false) st.nx) hr2 hat.base hZ hF0
   have hRw:=R.write (base:=st.nx) (b':=.row (F.map encR)) (v:=.slice (some ⟨g,0,none⟩) F.length c) (sh':=upd st.sh st.nx false) hes (by simp [blkOf,hmi]) hW (.inr ⟨hnm,hnh⟩) (fun j hj _ _=>by simp [upd,hj]) (fun o u hz=>by rw [hZ o] at hz;cases hz) (fun e=>absurd e.symm hidx) (.inr (.inl ⟨_,F.length,c,2,rfl,rfl,hat2⟩))
   refine ⟨_,Z,_,rfl,ZUp.refl,hRw.later hB,?_,?_,?_⟩
   ·show Rep Z Y _ _ (.row st.nx (F.map encR).length)
    rw [List.length_map]
    exact .row st.nx F.length _ c (by simp [upd]) (fun _=>⟨g,rfl⟩)
   ·intro i id' u hi hu
    have:=hG i id' u hi hu
    unfold upd
    split
    ·rename_i e;rw [e,hnm] at this;cases this
    ·exact this
   ·intro i hi
    unfold upd at hi
    split at hi
    ·rename_i e;rw [e];exact Nat.lt_succ_self _
    ·exact Nat.lt_succ_of_lt (hm i hi)
theorem qiv {w0:WB} {Z Y:ZMap} {m:Nat→Option Value} {st:St} {w:World} (R:Rel w0 Z Y m st.h st.sh w) (hm:∀ i,m i≠none→i<st.nx) {G:Nat→Option Value} (hG:∀ (i id:Nat) (u:Value),st.og[i]?=some id→G i=some u→m id=some u)
  {id:Nat} {b0:B} (hes:st.h id=some b0) {r:List Rp} {n c:Nat} {A:Option Addr} (hr:r.length=n+1) (hA:n+1≤c→∃ g,A=some ⟨g,0,none⟩∧blkOf m id=some g∧w0.own g∧(∀ o,Z g o=none)∧g<w.heap.size) {e:Ending} {w':World} (hq:InsQ w A n c r e w') :
  ∃ cv Z' m',e=.returned cv∧ZUp w0 Z Z'∧Rel w0 Z' Y m' (upd (upd st.h id none) st.nx (some (.row (r.map encR)))) (upd st.sh st.nx false) w'∧Rep Z' Y m' cv (oneOrTup [V.row st.nx (n+1)])∧(∀ (i id:Nat) (u:Value),st.og[i]?=some id→G i=some u→m' id=some u)∧∀ i,m' i≠none→i<st.nx+1:=by
 have hnm:m st.nx=none:=by cases hq:m st.nx with|none=>rfl|some _=>exact absurd (hm st.nx (by rw [hq];simp)) (by omega)
 have hnh:=h_none R hnm
 have hidx:id≠st.nx:=fun e=>by rw [e,hnh] at hes;cases hes
 have hne:r≠[]:=fun e=>by rw [e] at hr;cases hr
 obtain ⟨g',c',rfl,hrow,hor⟩:=hq
 have hog:∀ (v:Value),(∀ (i id:Nat) (u:Value),st.og[i]?=some id→G i=some u→upd m st.nx (some v) id=some u)∧∀ i,upd m st.nx (some v) i≠none→i<st.nx+1:=fun v=>by
  refine ⟨fun i id' u hi hu=>?_,fun i hi=>?_⟩
  ·have:=hG i id' u hi hu
   unfold upd
   split
   ·rename_i e;rw [e,hnm] at this;cases this
   ·exact this
  ·unfold upd at hi
   split at hi
   ·rename_i e;rw [e];exact Nat.lt_succ_self _
   ·exact Nat.lt_succ_of_lt (hm i hi)
 have hrep:∀ (Z:ZMap),Rep Z Y (upd m st.nx (some (.slice (some ⟨g',0,none⟩) (n+1) c'))) (.slice (some ⟨g',0,none⟩) (n+1) c') (.row st.nx (n+1)):=fun Z=>.row st.nx (n+1) _ c' (by simp [upd]) (fun _=>⟨g',rfl⟩)
 rcases hor with ⟨hroom,hAg,hF⟩|⟨hsz,hF⟩
 ·obtain ⟨g,hA1,hblk,hown,hZ,hlt⟩:=hA hroom
  rw [hA1] at hAg
  injection hAg with hAg;injection hAg with hAg
  subst hAg
  obtain ⟨w1,hW,hB,hE⟩:=qfn hF hlt
  have hat:=qov (s:=(upd st.sh st.nx false) st.nx) (hrow.same hE) hown hZ hne
  rw [hr] at hat
  have hRw:=R.write (base:=st.nx) (b':=.row (r.map encR)) (v:=.slice (some ⟨g,0,none⟩) (n+1) c') (sh':=upd st.sh st.nx false) hes hblk hW (.inr ⟨hnm,hnh⟩) (fun j hj _ _=>by simp [upd,hj]) (fun o u hz=>by rw [hZ o] at hz;cases hz) (fun e=>absurd e.symm hidx) (.inr (.inl ⟨_,n+1,c',2,rfl,rfl,hat⟩))
  exact ⟨_,Z,_,rfl,ZUp.refl,hRw.later hB,hrep Z,(hog _).1,(hog _).2⟩
 ·have hbel:Bel w w':=⟨hF.os,hF.tape,hF.output,hF.size,fun k hk=>hF.block k hk (by simp)⟩
  have hZ:∀ o,Z g' o=none:=fun o=>by
   cases hz:Z g' o with
   |none=>rfl
   |some u=>have:=R.z_lt hz;omega
  have hat:=qov (s:=(upd st.sh st.nx false) st.nx) hrow (WB.own_new R.bel hsz) hZ hne
  rw [hr] at hat
  have hRn:=R.renew (oid:=some id) (base:=st.nx) (sh':=upd st.sh st.nx false) hnm hnh (fun j hj=>by simp [upd,hj]) hbel (.inr ⟨g',n+1,c',2,rfl,hat,.inl hsz⟩)
  exact ⟨_,Z,_,rfl,ZUp.refl,hRn,hrep Z,(hog _).1,(hog _).2⟩
theorem one_of {l:List Rp} (h:(1:Nat)=l.length):∃ x,l=[x]:=by
 match l,h with
 |[x],_=>exact ⟨x,rfl⟩
theorem qit (st:St) (vs:List V) (s1:St) (h:insX.run (List V×St) st some=some (vs,s1)):RuleOk Tryz.prog 20 3 st vs s1:=by
 unfold insX at h
 simp only at h
 split at h
 ·-- a row
  rename_i id n i q e0 e1 e2
  cases hqi:q==id with
  |true=>rw [hqi] at h;cases h
  |false =>
  rw [hqi,cond_false] at h
  split at h
  case h_2=>cases h
  rename_i es ws hes hqs
  cases hsh:st.sh id with
  |true=>rw [hsh] at h;cases h
  |false =>
  rw [hsh,cond_false] at h
  have hgd:=qg0 h
  clear h
  obtain ⟨hg,h⟩:=hgd
  simp only [Bool.and_eq_true,decide_eq_true_eq] at hg
  obtain ⟨⟨⟨⟨g1,g2⟩,g3⟩,g4⟩,g5⟩:=hg
  obtain ⟨l,rfl⟩:=qog es g1
  obtain ⟨l2,rfl⟩:=qog ws g2
  have h':(vs,s1)=([V.row st.nx (n+1)],{ st with h:=upd (upd st.h id none) st.nx (some (.row ((l.map encR).take i.toNat++(l2.map encR++(l.map encR).drop i.toNat)))),sh:=upd st.sh st.nx false,nx:=st.nx+1 }):=(Option.some.inj h).symm
  injection h' with h1 h2
  subst h1 h2
  intro G w0 w Z Y m cargs R hm hG hs hr
  have r0:=hr 0
  have r1:=hr 1
  have r2:=hr 2
  rw [e0] at r0
  rw [e1] at r1
  rw [e2] at r2
  rw [args3 hs,qol r1]
  generalize cargs.getD 0 undef=u0 at r0
  generalize cargs.getD 2 undef=u2 at r2
  obtain ⟨hnl,hrow⟩:=qo9 R hes r0
  obtain ⟨hnl2,hrow2⟩:=qo9 R hqs r2
  obtain ⟨x,rfl⟩:=one_of hnl2
  obtain ⟨vb,vc,rfl,hmq,hat2⟩:∃ vb vc,u2=.slice (some ⟨vb,0,none⟩) 1 vc∧m q=some u2∧RowAt w0.own Z (st.sh q) w vb 1 vc 2 ([x].map encR):=by
   rcases hrow2 with ⟨he,_⟩|⟨_,g,c,hu,hmi,hat⟩
   ·cases he
   ·exact ⟨g,c,hu,hmi,hat⟩
  have hv:=qox hat2
  subst hnl
  obtain ⟨k,rfl⟩:∃ k:Nat,i=k:=⟨i.toNat,(Int.toNat_of_nonneg g3).symm⟩
  have hk:k≤l.length:=by omega
  have er:(l.map encR).take (Int.toNat (k:Int))++([x].map encR++(l.map encR).drop (Int.toNat (k:Int)))=(l.take k++x::l.drop k).map encR:=by simp [List.map_take,List.map_drop]
  rw [er]
  have hrl:(l.take k++x::l.drop k).length=l.length+1:=by simp;omega
  rcases hrow with ⟨rfl,A,rfl⟩|⟨hl,g,c,rfl,hmi,hat⟩
  ·have hk0:k=0:=by simpa using hk
   subst hk0
   exact (qiu hv A 0 0 [] rfl (.inl rfl) (fun h=>by omega) (Nat.le_refl _) (by omega) (by unfold maxLen;omega) vc).mono fun e w' hq=>qiv R hm hG hes hrl (fun h=>by omega) hq
  ·have hrw:=qox hat
   have hZ:∀ o,Z g o=none:=fun o=>by
    cases hz:Z g o with
    |none=>rfl
    |some u=>have:=(hat.apart o (by rw [hz];simp)).1;rw [hsh] at this;cases this
   have hne:vb≠g:=fun e=>by
    have e1:blkOf m q=some g:=by simp [blkOf,hmq,e]
    have e2:blkOf m id=some g:=by simp [blkOf,hmi]
    have:=R.inj q id g (by rw [hqs];simp) (by rw [hes];simp) e1 e2
    subst this
    simp at hqi
   have hfin:=fun (e:Ending) (w':World) (hq:InsQ w (some ⟨g,0,none⟩) l.length c (l.take k++x::l.drop k) e w')=>qiv R hm hG hes hrl (fun _=>⟨g,rfl,by simp [blkOf,hmi],hat.base,hZ,hrw.lt⟩) hq
   by_cases hkl:k=l.length
   ·subst hkl
    have e3:l.take l.length++x::l.drop l.length=l++[x]:=by simp
    rw [e3] at hfin ⊢
    exact (qiu hv (some ⟨g,0,none⟩) l.length c l rfl (.inr ⟨g,rfl,hrw⟩) (fun _=>⟨g,rfl,hrw⟩) hrw.le (by omega) hrw.max vc).mono hfin
   ·by_cases hroom:l.length+1≤c
    ·exact (qix hv g c l hrw k (by omega) hroom hne vc).mono hfin
    ·exact (qiw hv g c l hrw k (by omega) hroom (by omega) vc).mono hfin
 ·-- an empty slice over a row
  rename_i id i q e0 e1 e2
  cases hqi:q==id with
  |true=>rw [hqi] at h;cases h
  |false =>
  rw [hqi,cond_false] at h
  split at h
  case h_2=>cases h
  rename_i es ws hes hqs
  cases hsh:st.sh id with
  |true=>rw [hsh] at h;cases h
  |false =>
  rw [hsh,cond_false] at h
  have hgd:=qg0 h
  clear h
  obtain ⟨hg,h⟩:=hgd
  simp only [Bool.and_eq_true,decide_eq_true_eq] at hg
  obtain ⟨⟨⟨g2,g3⟩,g4⟩,g1⟩:=hg
  obtain ⟨l,rfl⟩:=qog es g1
  obtain ⟨l2,rfl⟩:=qog ws g2
  subst g3
  have h':(vs,s1)=([V.row st.nx 1],{ st with h:=upd (upd st.h id none) st.nx (some (.row (l2.map encR))),sh:=upd st.sh st.nx false,nx:=st.nx+1 }):=(Option.some.inj h).symm
  injection h' with h1 h2
  subst h1 h2
  intro G w0 w Z Y m cargs R hm hG hs hr
  have r0:=hr 0
  have r1:=hr 1
  have r2:=hr 2
  rw [e0] at r0
  rw [e1] at r1
  rw [e2] at r2
  rw [args3 hs,qol r1]
  generalize cargs.getD 0 undef=u0 at r0
  generalize cargs.getD 2 undef=u2 at r2
  obtain ⟨hnl2,hrow2⟩:=qo9 R hqs r2
  obtain ⟨x,rfl⟩:=one_of hnl2
  obtain ⟨vb,vc,rfl,hmq,hat2⟩:∃ vb vc,u2=.slice (some ⟨vb,0,none⟩) 1 vc∧m q=some u2∧RowAt w0.own Z (st.sh q) w vb 1 vc 2 ([x].map encR):=by
   rcases hrow2 with ⟨he,_⟩|⟨_,g,c,hu,hmi,hat⟩
   ·cases he
   ·exact ⟨g,c,hu,hmi,hat⟩
  have hv:=qox hat2
  have hl:l≠[]:=by
   intro e
   rw [e] at g4
   simp at g4
  cases r0 with
  |rowE _ g n c hmi hc =>
  have hu:Rep Z Y m (.slice (some ⟨g,0,none⟩) n c) (.row id n):=.row id n _ c hmi (fun _=>⟨g,rfl⟩)
  obtain ⟨hn,hrow⟩:=qo9 R hes hu
  rcases hrow with ⟨he,_⟩|⟨_,g2,c2,hu2,_,hat⟩
  ·exact absurd he hl
  ·injection hu2 with a1 a2 a3
   injection a1 with a1;injection a1 with a1
   subst a1 a3
   have hrw:=qox hat
   have hr0:RowR w g c []:=by have:RowR w g c ([]++l):=hrw;exact this.front
   have hZ:∀ o,Z g o=none:=fun o=>by
    cases hz:Z g o with
    |none=>rfl
    |some u=>have:=(hat.apart o (by rw [hz];simp)).1;rw [hsh] at this;cases this
   exact (qiu hv (some ⟨g,0,none⟩) 0 c [] rfl (.inl rfl) (fun _=>⟨g,rfl,hr0⟩) (Nat.zero_le _) (by omega) hrw.max vc).mono fun e w' hq=>qiv R hm hG hes (r:=[x]) rfl (fun _=>⟨g,rfl,by simp [blkOf,hmi],hat.base,hZ,hrw.lt⟩) hq
 ·cases h
end Go.Proofs.YtmacbkjehjbjeaaGreatDoor
namespace Go.Proofs.YtmacbkjehjbjeaaGreatDoor
open Go.RowKit
set_option maxRecDepth 100000
theorem disable (w:World):(callFunc 192 #[]).run Tryz.prog w=.ok (.value (.tuple #[])) w:=run_call_mark0 Tryz.func192 (by kernel_rfl) (by kernel_rfl) (by kernel_rfl) .disable (by kernel_rfl) w
theorem enable (w:World):(callFunc 194 #[]).run Tryz.prog w=.ok (.value (.tuple #[])) w:=run_call_mark0 Tryz.func194 (by kernel_rfl) (by kernel_rfl) (by kernel_rfl) .enable (by kernel_rfl) w
theorem acquire (a:Addr) (w:World):(callFunc 195 #[.pointer (some a)]).run Tryz.prog w=.ok (.value (.tuple #[])) w:=run_call_marked Tryz.func195 (by kernel_rfl) (by kernel_rfl) (by kernel_rfl) .acquire (by kernel_rfl) a w
theorem releaseMerge (a:Addr) (w:World):(callFunc 197 #[.pointer (some a)]).run Tryz.prog w=.ok (.value (.tuple #[])) w:=run_call_marked Tryz.func197 (by kernel_rfl) (by kernel_rfl) (by kernel_rfl) .releaseMerge (by kernel_rfl) a w
theorem qri (a:Addr) (x:Value) (u:FrameMode) (w:World) (hc:w.cell? a=some x) (hz:w.frozen? a=false) :
  CallsD Tryz.prog 156 #[.pointer (some a),.bool true] u w fun e u' w'=>u'=u∧(e=.returned (.tuple #[])∧w'=w.drew.setCell a (.int .u32 1)):=by
 have hc':w.drew.cell? a=some x:=by go_simp
 have hz':w.drew.frozen? a=false:=by go_simp
 have hst:=run_call_store (P:=Tryz.prog) Tryz.func177 (by kernel_rfl) (by kernel_rfl) (by kernel_rfl) (by kernel_rfl) (k:=.u32) (y:=1) hc' hz'
 go_enter_d Tryz.func156,Tryz.ntmps156
 go_wp2
 go_region_calls
 all_goals (go_end0;exact ⟨rfl,rfl⟩)
theorem iunlock (a:Addr) (w:World) (hc:w.cell? a=some (.int .i32 1)) (hz:w.frozen? a=false) :
  Calls Tryz.prog 176 #[.pointer (some a)] w fun e w'=>e=.returned (.tuple #[])∧w'=w.setCell a (.int .i32 0):=by
 have hd:=disable
 have he:=enable
 have hr:=releaseMerge
 have hadd:=run_call_add (P:=Tryz.prog) Tryz.func198 (by kernel_rfl) (by kernel_rfl) (by kernel_rfl) .i32 (by kernel_rfl) (y:=-1) (s:=0) hc hz (by simp [go_sem];rfl)
 have hcv:=run_convert_to_unsafe (P:=Tryz.prog) (src:=262) (dst:=224) Tryz.underlying262 Tryz.underlying224 (by kernel_rfl) hc
 go_enter Tryz.func176,Tryz.ntmps176
 go_wp2
 go_end0
 go_wp2
 all_goals (go_end0;exact ⟨rfl,rfl⟩)
theorem quk (a:Addr) (u:FrameMode) (w:World) (hc:w.cell? a=some (.int .i32 1)) (hz:w.frozen? a=false) :
  CallsD Tryz.prog 155 #[.pointer (some a)] u w fun e u' w'=>u'=u∧(e=.returned (.tuple #[])∧w'=w.setCell a (.int .i32 0)):=by
 go_enter_d Tryz.func155,Tryz.ntmps155
 go_wp2_with (go_at_call 176;refine (iunlock a _ hc hz).mono ?_;rintro e w' ⟨rfl,rfl⟩)
 go_end0
 exact ⟨rfl,rfl⟩
theorem ilock (a:Addr) (w:World) (hc:w.cell? a=some (.int .i32 0)) (hz:w.frozen? a=false) :
  Calls Tryz.prog 175 #[.pointer (some a)] w fun e w'=>e=.returned (.tuple #[])∧w'=w.setCell a (.int .i32 1):=by
 have hd:=disable
 have he:=enable
 have ha:=acquire
 have hcas:=run_call_cas_hit (P:=Tryz.prog) Tryz.func193 (by kernel_rfl) (by kernel_rfl) (by kernel_rfl) .i32 (by kernel_rfl) (y:=1) hc hz
 have hc':(w.setCell a (.int .i32 1)).cell? a=some (.int .i32 1):=World.cell?_setCell_same w a _ hc
 have hcv:=run_convert_to_unsafe (P:=Tryz.prog) (src:=262) (dst:=224) Tryz.underlying262 Tryz.underlying224 (by kernel_rfl) hc'
 go_enter Tryz.func175,Tryz.ntmps175
 go_wp2
 first|go_end0|(simp only [Exit.inBlock,Exit.then];refine bodyPost_ret (results_none rfl _ _ _) rfl ?_)|refine bodyPost_ret (results_none rfl _ _ _) rfl ?_
 go_wp2
 all_goals (go_end0;exact ⟨rfl,rfl⟩)
theorem qkn (a:Addr) (w:World) (hc:w.cell? a=some (.int .i32 0)) (hz:w.frozen? a=false) :
  Calls Tryz.prog 154 #[.pointer (some a)] w fun e w'=>e=.returned (.tuple #[])∧w'=w.setCell a (.int .i32 1):=by
 go_enter Tryz.func154,Tryz.ntmps154
 go_wp2_with (go_at_call 175;refine (ilock a _ hc hz).mono ?_;rintro e w' ⟨rfl,rfl⟩)
 go_end0
 exact ⟨rfl,rfl⟩
set_option maxRecDepth 100000
def vInt:Value→Int
 |.int _ n=>n
 |_=>0
theorem q69 {B:Nat} {a w:World} (h:Below B a w) (n:Nat):Below B a (w.drewN n):=⟨h.os,h.tape,h.output,h.size,h.block⟩
structure Gen (w:World) (N T n1 n2 n3:Nat):Prop where
 v0:w.cell? ⟨N,0,none⟩=some (.string ⟨#[]⟩)
 v1:w.cell? ⟨N,1,none⟩=some (.int .i64 0)
 v2:w.cell? ⟨N,2,none⟩=some (.string ⟨#[]⟩)
 v4:w.cell? ⟨N,4,none⟩=some (.slice (some ⟨T,0,none⟩) 2 2)
 v5:w.cell? ⟨N,5,none⟩=some (.int .i64 2)
 mp:∀ j,j<256→w.cell? ⟨N,6+j,none⟩=some (.int .u8 (if j=10 then 0 else if j=13 then 1 else 2))
 t0:w.cell? ⟨T,0,none⟩=some (.pointer (some ⟨n3,0,none⟩))
 t1:w.cell? ⟨T,1,none⟩=some (.pointer (some ⟨n1,0,none⟩))
 a0:w.cell? ⟨n1,0,none⟩=some (.string ⟨#[13,10]⟩)
 a1:w.cell? ⟨n1,1,none⟩=some (.int .i64 4)
 a2:w.cell? ⟨n1,2,none⟩=some (.string ⟨#[10]⟩)
 a3:w.cell? ⟨n1,3,none⟩=some (.pointer (some ⟨n2,0,none⟩))
 a4:w.cell? ⟨n1,4,none⟩=some (.slice none 0 0)
 b0:w.cell? ⟨n2,0,none⟩=some (.string ⟨#[13,10]⟩)
 b1:w.cell? ⟨n2,1,none⟩=some (.int .i64 6)
 b2:w.cell? ⟨n2,2,none⟩=some (.string ⟨#[]⟩)
 b4:w.cell? ⟨n2,4,none⟩=some (.slice none 0 0)
 c0:w.cell? ⟨n3,0,none⟩=some (.string ⟨#[13,10]⟩)
 c1:w.cell? ⟨n3,1,none⟩=some (.int .i64 2)
 c2:w.cell? ⟨n3,2,none⟩=some (.string ⟨#[]⟩)
 c4:w.cell? ⟨n3,4,none⟩=some (.slice none 0 0)
set_option maxHeartbeats 4000000 in
theorem qky (w:World) (N T n1 n2 n3:Nat) (h:Gen w N T n1 n2 n3) :
  Calls Tryz.prog 267 #[.pointer (some ⟨N,0,none⟩),.string ⟨#[]⟩,.bool false] w fun e w'=>e=.returned (.tuple #[.string ⟨#[]⟩,.int .i64 0,.bool false])∧Below w.heap.size w w':=by
 obtain ⟨v0,v1,v2,v4,v5,mp,t0,t1,a0,a1,a2,a3,a4,b0,b1,b2,b4,c0,c1,c2,c4⟩:=h
 go_enter Tryz.func267,Tryz.ntmps267
 go_wp2
 refine wp_loop_rounds 1 ?_
 rw [rounds_succ]
 go_wp2
 go_ret3
 exact ⟨rfl,Below.refl _ _⟩
theorem qmf {s:ByteArray} (hs:0<s.size):s.toList.isEmpty=false:=by
 rw [ByteArray.toList_eq]
 cases hd:s.data.toList with
 |nil=>have h1:=congrArg List.length hd;rw [Array.length_toList] at h1;have h2:s.data.size=s.size:=rfl;rw [h2,List.length_nil] at h1;omega
 |cons a l=>rfl
set_option maxHeartbeats 4000000 in
theorem qkx (w:World) (N T n1 n2 n3:Nat) (h:Gen w N T n1 n2 n3) (s:ByteArray) (hs:0<s.size) (h0:s[0]=10) :
  Calls Tryz.prog 267 #[.pointer (some ⟨N,0,none⟩),.string s,.bool false] w fun e w'=>e=.returned (.tuple #[.string ⟨#[13,10]⟩,.int .i64 1,.bool true])∧Below w.heap.size w w':=by
 obtain ⟨v0,v1,v2,v4,v5,mp,t0,t1,a0,a1,a2,a3,a4,b0,b1,b2,b4,c0,c1,c2,c4⟩:=h
 have m10:=mp 10 (by decide)
 have hne:=qmf hs
 have e0:((s[0].toNat:Nat):Int)=10:=by rw [h0];rfl
 go_enter Tryz.func267,Tryz.ntmps267
 go_wp2
 refine wp_loop_rounds 3 ?_
 rw [rounds_succ]
 go_wp2
 go_quiet (fail)
 go_wp2
 cases he:(s.extract 1 s.size).toList.isEmpty with
 |true =>
  rw [rounds_succ]
  go_wp2
  go_ret3
  exact ⟨rfl,q69 (Below.refl _ _) _⟩
 |false =>
  rw [rounds_succ]
  go_wp2
  go_ret3
  exact ⟨rfl,q69 (Below.refl _ _) _⟩
theorem ext01 (s:ByteArray):(s.extract 0 1).toList=s.data.toList.take 1:=by
 rw [ByteArray.toList_eq,ByteArray.data_extract]
 simp
theorem pre_lf (s:ByteArray) (w:World):Calls Tryz.prog 123 #[.string s,.string ⟨#[10]⟩] w fun e w'=>e=.returned (.bool (s.data.toList.take 1==[10]))∧w'=w:=by
 have hsz:s.data.toList.length=s.size:=by rw [Array.length_toList];rfl
 go_enter Tryz.func123,Tryz.ntmps123
 go_wp2
 ·go_ret
  refine ⟨?_,rfl⟩
  rw [←ext01];rfl
 ·go_ret
  refine ⟨?_,rfl⟩
  have:s.data.toList=[]:=List.eq_nil_of_length_eq_zero (by omega)
  rw [this];rfl
set_option maxHeartbeats 4000000 in
theorem qkv (w:World) (N T n1 n2 n3:Nat) (h:Gen w N T n1 n2 n3) (s:ByteArray) (hs:0<s.size) (h0:s[0]=13) (hn:((s.extract 1 s.size).data.toList.take 1==[10])=false) :
  Calls Tryz.prog 267 #[.pointer (some ⟨N,0,none⟩),.string s,.bool false] w fun e w'=>e=.returned (.tuple #[.string ⟨#[13,10]⟩,.int .i64 1,.bool true])∧Below w.heap.size w w':=by
 obtain ⟨v0,v1,v2,v4,v5,mp,t0,t1,a0,a1,a2,a3,a4,b0,b1,b2,b4,c0,c1,c2,c4⟩:=h
 have m13:=mp 13 (by decide)
 have hne:=qmf hs
 have e0:((s[0].toNat:Nat):Int)=13:=by rw [h0];rfl
 go_enter Tryz.func267,Tryz.ntmps267
 go_wp2
 refine wp_loop_rounds 3 ?_
 rw [rounds_succ]
 go_wp2
 go_quiet (fail)
 go_wp2
 cases he:(s.extract 1 s.size).toList.isEmpty with
 |true =>
  rw [rounds_succ]
  go_wp2
  go_ret3
  exact ⟨rfl,q69 (Below.refl _ _) _⟩
 |false =>
  rw [rounds_succ]
  go_wp2_with (go_at_call 123;refine (pre_lf _ _).mono ?_;rintro e w' ⟨rfl,rfl⟩;rw [hn])
  go_ret3
  exact ⟨rfl,q69 (Below.refl _ _) _⟩
set_option maxHeartbeats 4000000 in
theorem qkw (w:World) (N T n1 n2 n3:Nat) (h:Gen w N T n1 n2 n3) (s:ByteArray) (hs:0<s.size) (h0:s[0]=13) (hn:((s.extract 1 s.size).data.toList.take 1==[10])=true) :
  Calls Tryz.prog 267 #[.pointer (some ⟨N,0,none⟩),.string s,.bool false] w fun e w'=>e=.returned (.tuple #[.string ⟨#[13,10]⟩,.int .i64 2,.bool true])∧Below w.heap.size w w':=by
 obtain ⟨v0,v1,v2,v4,v5,mp,t0,t1,a0,a1,a2,a3,a4,b0,b1,b2,b4,c0,c1,c2,c4⟩:=h
 have m13:=mp 13 (by decide)
 have hne:=qmf hs
 have e0:((s[0].toNat:Nat):Int)=13:=by rw [h0];rfl
 have he:(s.extract 1 s.size).toList.isEmpty=false:=by
  rw [ByteArray.toList_eq]
  cases hd:(s.extract 1 s.size).data.toList with
  |nil=>rw [hd] at hn;cases hn
  |cons a l=>rfl
 have hp1:(1:Int)≤((s.extract 1 s.size).size:Nat):=by
  have:(s.extract 1 s.size).data.toList.length=(s.extract 1 s.size).size:=by rw [Array.length_toList];rfl
  cases hd:(s.extract 1 s.size).data.toList with
  |nil=>rw [hd] at hn;cases hn
  |cons a l=>rw [hd,List.length_cons] at this;omega
 go_enter Tryz.func267,Tryz.ntmps267
 go_wp2
 refine wp_loop_rounds 3 ?_
 rw [rounds_succ]
 go_wp2
 go_quiet (fail)
 go_wp2
 rw [rounds_succ]
 go_wp2_with (go_at_call 123;refine (pre_lf _ _).mono ?_;rintro e w' ⟨rfl,rfl⟩;rw [hn])
 cases he2:((s.extract 1 s.size).extract 1 (s.size - 1)).toList.isEmpty with
 |true =>
  rw [rounds_succ]
  go_wp2
  go_ret3
  exact ⟨rfl,q69 (Below.refl _ _) _⟩
 |false =>
  rw [rounds_succ]
  go_wp2
  go_ret3
  exact ⟨rfl,q69 (Below.refl _ _) _⟩
set_option maxRecDepth 100000
structure Buf (B p:Nat) (l:List Value) (w:World):Prop where
 hB:B≤p
 ex:∃ v,w.heap[p]?=some (.cells #[v] 334 (0,0))∧w.ownsRow B 5 1 v l.length l∧v.ownBlock≠some p
theorem qiq:(Tryz.prog.info? 5).map (fun i=>(i.zero,i.size,i.bytes))=some (some (.int .u8 0),1,1):=by kernel_rfl
theorem infoU8:∃ i,Tryz.prog.info? 5=some i∧i.zero=some (.int .u8 0)∧i.size=1∧i.bytes=1:=by
 have h:=qiq
 cases hi:Tryz.prog.info? 5 with
 |none=>rw [hi] at h;cases h
 |some i =>
  rw [hi] at h
  simp only [Option.map_some,Option.some.injEq,Prod.mk.injEq] at h
  exact ⟨i,rfl,h.1,h.2.1,h.2.2⟩
set_option maxHeartbeats 4000000 in
theorem q3w (B p:Nat) (l:List Value) (w:World) (h:Buf B p l w) (s:ByteArray) (hlen:l.length+s.size≤140737488355328) (hBw:B≤w.heap.size) :
  Calls Tryz.prog 280 #[.pointer (some ⟨p,0,none⟩),.string s] w fun e w'=>e=.returned (.tuple #[.int .i64 s.size,.nilIface])∧Buf B p (l++Lib.strCells s) w'∧Below B w w':=by
 obtain ⟨i0,hi,hz0,hz1,hz2⟩:=infoU8
 obtain ⟨hB,v,hbk,hown,hne⟩:=h
 have c0:=cell_of_one hbk
 go_enter Tryz.func280,Tryz.ntmps280
 go_wp2_with (at_builtin;refine Lib.wpList_append_own_string _ rfl _ _ 334 9 rfl B 5 i0 Tryz.underlying334 Tryz.underlying9 hi hz0 hz1 hz2 _ _ _ rfl hown s rfl ?c3 ?c4 ?c5 ?_)
 case c3=>unfold maxLen;omega
 case c4=>omega
 case c5=>omega
 intro v' w2 hown' hgrow _
 have hlt:=lt_of_block hbk
 have hb2:w2.heap[p]?=some (.cells #[v] 334 (0,0)):=by
  rw [hgrow.block p hlt (fun e=>hne e.symm)]
  exact hbk
 have d0:=cell_of_one hb2
 have f0:=free_of_one hb2
 obtain ⟨ao,n',cap,rfl⟩:∃ ao n' cap,v'=.slice ao n' cap:=by
  rcases hown'.2 with ⟨hv,_⟩|⟨g,cap,cur,hv,_⟩
  ·exact ⟨_,_,_,hv⟩
  ·exact ⟨_,_,_,hv⟩
 go_wp2
 go_ret2
 have hne':(Value.slice ao n' cap).ownBlock≠some p:=by
  intro e
  rcases hown'.2 with ⟨hv,_⟩|⟨g,cap2,cur,hv,_,hg,_,_,hsz,htk⟩
  ·rw [hv] at e;cases e
  ·rw [hv] at e
   injection e with e
   have e:g=p:=e
   subst e
   rw [hb2] at hg
   injection hg with hg
   injection hg with _ hg _
   exact absurd hg (by decide)
 refine ⟨rfl,⟨hB,_,one_setCell hb2,by
  have:=ownsRow_setCell_other hown' (a:=⟨p,0,none⟩) hne' (.slice ao n' cap)
  simpa [Lib.strCells_length] using this,hne'⟩,?_⟩
 exact ((Below.refl B w).grown hgrow hBw (fun k hk=>(hown.lt k hk).1)).setCell (p:=⟨p,0,none⟩) hB _
end Go.Proofs.YtmacbkjehjbjeaaGreatDoor
