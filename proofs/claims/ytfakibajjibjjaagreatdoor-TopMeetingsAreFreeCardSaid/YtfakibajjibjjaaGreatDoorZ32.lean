/- What holds between two rounds of recur.Between's loop. -/
import Derived.Test.YtfakibajjibjjaaGreatDoorZB
import Derived.Test.YtfakibajjibjjaaGreatDoorZ24
import Derived.Test.YtfakibajjibjjaaGreatDoorZC
import Derived.OwnWalkIn
import Derived.RangeFuncRecord
import Derived.Test.YtfakibajjibjjaaGreatDoorZ23
import Derived.Lib.OwnBridge
import Derived.LoopN
import Derived.Laws.OwnMore
namespace Go.Proofs.YtfakibajjibjjaaGreatDoor
set_option linter.unusedSimpArgs false
open Go.RowKit
set_option maxRecDepth 100000
structure Bx (w W:World) (p0 p1 p2 p3 p4 p5:Nat) (c0 c1 c2:Array Value) (a b:Int):Prop where
 bel:Bel w W
 gw:GW W
 b0:W.heap[p0]?=some (.cells c0 77)
 b1:W.heap[p1]?=some (.cells c1 81)
 b2:W.heap[p2]?=some (.cells c2 84)
 b3:W.heap[p3]?=some (.cells #[.int .i64 a] 3)
 b4:W.heap[p4]?=some (.cells #[.int .i64 b] 3)
 b5:W.heap[p5]?=some (.cells #[.int .i64 0,.int .i64 0] 33)
 own:w.heap.size≤p5
theorem zgwb {w w':World} (h:GW w) (hb:Bel w w'):GW w':=BelA.gw (q153.2 hb) ⟨h,GB.no⟩
theorem q71 {W W':World} {p:Nat} {x:Obj} (h:W.heap[p]?=some x) (hb:Bel W W'):W'.heap[p]?=some x:=(hb.block _ (Array.getElem?_eq_some_iff.1 h).1).trans h
theorem Bx.later {w W W':World} {p0 p1 p2 p3 p4 p5:Nat} {c0 c1 c2:Array Value} {a b:Int} (h:Bx w W p0 p1 p2 p3 p4 p5 c0 c1 c2 a b) (hb:Bel W W'):Bx w W' p0 p1 p2 p3 p4 p5 c0 c1 c2 a b :=
 ⟨h.bel.trans hb,zgwb h.gw hb,q71 h.b0 hb,q71 h.b1 hb,q71 h.b2 hb,q71 h.b3 hb,q71 h.b4 hb,q71 h.b5 hb,h.own⟩
theorem qio {W:World} {k:Nat} {cs:Array Value} {t:TypeId} (h:W.heap[k]?=some (.cells cs t)):∀ o,W.frozen? ⟨k,o,none⟩=false:=fun o=>by simp [World.frozen?,h]
theorem zlt {W:World} {k:Nat} {x:Obj} (h:W.heap[k]?=some x):k<W.heap.size:=(Array.getElem?_eq_some_iff.1 h).1
theorem qv6 {P:Program} {fn:Func} {p u:Tmp} {ty t:TypeId} (h:fn.results=#[.tmp u,.cell p ty]) (tmps:Array Value) {w:World} {g:Nat} {cs:Array Value} {fr:Nat×Nat} {d:TypeDesc} {v:Value} (hv:tmps.getD u undef=v) (hp:tmps.getD p undef=.pointer (some ⟨g,0,none⟩))
  (hg:w.heap[g]?=some (.cells cs t fr)) (hu:P.underlying ty=some d) (hd:(match d with|.struct _|.array _ _=>true|_=>false)=true) (hi:(P.info? ty).map (·.size)=some cs.size):(results fn tmps).run P w=.ok (.tuple #[v,.agg cs]) w:=by
 have hp':tmps[p]?.getD undef=.pointer (some ⟨g,0,none⟩):=by simpa using hp
 have hv':tmps[u]?.getD undef=v:=by simpa using hv
 simp [results,h,hp',hv',asAddr,run_loadVar_row w g t ty cs fr d hg hu hd hi]
theorem set2 {W:World} {p:Nat} {x y a b:Value} {t:TypeId} (h:W.heap[p]?=some (.cells #[x,y] t)):((W.setCell ⟨p,0,none⟩ a).setCell ⟨p,1,none⟩ b).heap[p]?=some (.cells #[a,b] t):=by
 simp [World.setCell,Array.getElem?_modify,h]
def HoldI (W w:World) (v:Value) (l:List Int):Prop :=
 (l=[]∧∃ A c,v=.slice A 0 c∧c≤maxLen∧(A=none→c=0))∨∃ g c,v=.slice (some ⟨g,0,none⟩) l.length c∧W.heap.size≤g∧RowI w g l.length c l
theorem HoldI.nil {W w:World}:HoldI W w (.slice none 0 0) []:=.inl ⟨rfl,none,0,rfl,by simp,fun _=>rfl⟩
def BetQ (w:World) (l:List Int) (f:Int×Int) (e:Ending) (w':World):Prop:=∃ v,e=.returned (.tuple #[v,.agg #[.int .i64 f.1,.int .i64 f.2]])∧Bel w w'∧HoldI w w' v l
theorem q6w {w W:World} {p0 p1 p2 p3 p4 p5:Nat} {c0 c1 c2:Array Value} {a b x y:Int} (h:Bx w W p0 p1 p2 p3 p4 p5 c0 c1 c2 a b) {tm:Array Value} (hv:tm.getD 10 undef=.slice none 0 0) (hp:tm.getD 11 undef=.pointer (some ⟨p5,0,none⟩)) {n:Nat} :
  bodyPostM Fence.wide n Tryz.prog Tryz.f49 (BetQ w [] (x,y)) .ret { tmps:=tm,defers:=[] } ((W.setCell ⟨p5,0,none⟩ (.int .i64 x)).setCell ⟨p5,1,none⟩ (.int .i64 y)):=by
 show ∃ v,(results Tryz.f49 tm).run Tryz.prog _=.ok v _∧BetQ w [] (x,y) (.returned v) _
 refine ⟨_,qv6 rfl tm hv hp (set2 h.b5) Tryz.underlying33 rfl (by kernel_rfl),_,rfl,?_,HoldI.nil⟩
 exact (h.bel.setCell (p:=⟨p5,0,none⟩) h.own _).setCell (p:=⟨p5,1,none⟩) h.own _
theorem zsix (w:World) (o0 o1 o2 o3 o4 o5:Obj):((((((w.alloc o0).alloc o1).alloc o2).alloc o3).alloc o4).alloc o5).heap[w.heap.size]?=some o0∧((((((w.alloc o0).alloc o1).alloc o2).alloc o3).alloc o4).alloc o5).heap[w.heap.size+1]?=some o1 ∧
  ((((((w.alloc o0).alloc o1).alloc o2).alloc o3).alloc o4).alloc o5).heap[w.heap.size+1+1]?=some o2∧((((((w.alloc o0).alloc o1).alloc o2).alloc o3).alloc o4).alloc o5).heap[w.heap.size+1+1+1]?=some o3 ∧
  ((((((w.alloc o0).alloc o1).alloc o2).alloc o3).alloc o4).alloc o5).heap[w.heap.size+1+1+1+1]?=some o4∧((((((w.alloc o0).alloc o1).alloc o2).alloc o3).alloc o4).alloc o5).heap[w.heap.size+1+1+1+1+1]?=some o5 :=
 ⟨q167 _ (q167 _ (q167 _ (q167 _ (q167 _ (q166 _ _ rfl))))),q167 _ (q167 _ (q167 _ (q167 _ (q166 _ _ (by simp))))),q167 _ (q167 _ (q167 _ (q166 _ _ (by simp)))),q167 _ (q167 _ (q166 _ _ (by simp))),q167 _ (q166 _ _ (by simp)),q166 _ _ (by simp)⟩
theorem Bx.cells {w W:World} {p0 p1 p2 p3 p4 p5:Nat} {c0 c1 c2:Array Value} {a b:Int} (h:Bx w W p0 p1 p2 p3 p4 p5 c0 c1 c2 a b) :
  (∀ o,W.cell? ⟨p0,o,none⟩=c0[o]?)∧(∀ o,W.cell? ⟨p1,o,none⟩=c1[o]?)∧(∀ o,W.cell? ⟨p2,o,none⟩=c2[o]?)∧(∀ o,W.cell? ⟨p3,o,none⟩=(#[.int .i64 a]:Array Value)[o]?)∧(∀ o,W.cell? ⟨p4,o,none⟩=(#[.int .i64 b]:Array Value)[o]?) ∧
  (∀ o,W.cell? ⟨p5,o,none⟩=(#[.int .i64 0,.int .i64 0]:Array Value)[o]?)∧(∀ o,W.frozen? ⟨p5,o,none⟩=false)∧p0<W.heap.size∧p1<W.heap.size∧p2<W.heap.size∧p3<W.heap.size∧p4<W.heap.size∧p5<W.heap.size :=
 ⟨fun _=>q168 h.b0,fun _=>q168 h.b1,fun _=>q168 h.b2,fun _=>q168 h.b3,fun _=>q168 h.b4,fun _=>q168 h.b5,qio h.b5,zlt h.b0,zlt h.b1,zlt h.b2,zlt h.b3,zlt h.b4,zlt h.b5⟩
theorem qm4 (z:ZT) (s:DT) (r:RT) (s1 s2 s3:Value) (w:World):Calls Tryz.prog 89 #[.agg (zC z),.agg (dC s),.agg (rC r s1 s2 s3)] w fun e w' =>
  e=.returned (.func (.func 127) #[] #[.pointer (some ⟨w.heap.size+1,0,none⟩),.pointer (some ⟨w.heap.size+1+1,0,none⟩),.pointer (some ⟨w.heap.size,0,none⟩)])∧w'=((w.alloc (.cells (zC z) 77)).alloc (.cells (dC s) 81)).alloc (.cells (rC r s1 s2 s3) 84):=by
 unfold zC dC rC
 go_enter Tryz.func89,Tryz.ntmps89
 go_wp2
 go_ret
 exact ⟨rfl,rfl⟩
structure Bo (w W:World) (L D:Nat) (rec:Loop) (p0 p1 p2 p3 p4 p5 q0 q1 q2 po o:Nat) (c0 c1 c2:Array Value) (a b:Int) (v v2:Value) (k:List Int):Prop where
 lp:W.heap[L]?=some (.loop rec)
 dd:W.heap[D]?=some (.deferred (some []))
 bx:Bx w W p0 p1 p2 p3 p4 p5 c0 c1 c2 a b
 i0:W.heap[q0]?=some (.cells c0 77)
 i1:W.heap[q1]?=some (.cells c1 81)
 i2:W.heap[q2]?=some (.cells c2 84)
 out:W.heap[po]?=some (.cells #[v] 82)
 own:W.ownsRow o 3 1 v2 k.length (k.map (Value.int .i64))
 ob:o≤W.heap.size
 ow:w.heap.size≤o∧w.heap.size≤po∧w.heap.size≤L
 lt:L<o∧D<o∧p0<o∧p1<o∧p2<o∧p3<o∧p4<o∧p5<o∧q0<o∧q1<o∧q2<o∧po<o
section
variable {w W W':World} {L D:Nat} {r r':Loop} {p0 p1 p2 p3 p4 p5 q0 q1 q2 po o:Nat} {c0 c1 c2:Array Value} {a b:Int} {v v2 x:Value} {k k2:List Int}
theorem qu0 {o:Nat} {n:Nat} {xs:List Value} (h:W.ownsRow o 3 1 v n xs) (hb:∀ g x,o≤g→W.heap[g]?=some x→W'.heap[g]?=some x):W'.ownsRow o 3 1 v n xs:=by
 refine ⟨h.1,h.2.imp id ?_⟩
 rintro ⟨g,cap,cur,e,hg,hx,hr⟩
 exact ⟨g,cap,cur,e,hg,hb _ _ hg hx,hr⟩
theorem Bo.later (h:Bo w W L D r p0 p1 p2 p3 p4 p5 q0 q1 q2 po o c0 c1 c2 a b v v2 k) (hb:Bel W W'):Bo w W' L D r p0 p1 p2 p3 p4 p5 q0 q1 q2 po o c0 c1 c2 a b v v2 k :=
 ⟨q71 h.lp hb,q71 h.dd hb,h.bx.later hb,q71 h.i0 hb,q71 h.i1 hb,q71 h.i2 hb,q71 h.out hb,qu0 h.own (fun g x _ hx=>q71 hx hb),Nat.le_trans h.ob hb.size,h.ow,h.lt⟩
theorem Bo.put (h:Bo w W L D r p0 p1 p2 p3 p4 p5 q0 q1 q2 po o c0 c1 c2 a b v v2 k) (hG:GW w):Bo w (W.putObj L (.loop r')) L D r' p0 p1 p2 p3 p4 p5 q0 q1 q2 po o c0 c1 c2 a b v v2 k:=by
 have ne:∀ {j:Nat} {x:Obj},W.heap[j]?=some x→(∀ y,x≠.loop y)→(W.putObj L (.loop r')).heap[j]?=some x:=fun {j x} hx hy=>by
  have:j≠L:=fun e=>by subst e;rw [h.lp] at hx;injection hx with hx;exact hy r hx.symm
  exact (World.putObj_heap_other this).trans hx
 have hlt:L<W.heap.size:=zlt h.lp
 have hb:Bel w (W.putObj L (.loop r')):=⟨h.bx.bel.os,h.bx.bel.tape,h.bx.bel.output,by simpa using h.bx.bel.size,fun j hj=>(World.putObj_heap_other (by have:=h.ow.2.2;omega)).trans (h.bx.bel.block j hj)⟩
 refine ⟨World.putObj_heap_same hlt,ne h.dd (by simp),⟨hb,zgwb hG hb,ne h.bx.b0 (by simp),ne h.bx.b1 (by simp),ne h.bx.b2 (by simp),ne h.bx.b3 (by simp),ne h.bx.b4 (by simp),ne h.bx.b5 (by simp),h.bx.own⟩,ne h.i0 (by simp),ne h.i1 (by simp),ne h.i2 (by simp),ne h.out (by simp),qu0 h.own (fun g x hg hx=>(World.putObj_heap_other (by have:=h.lt.1;omega)).trans hx),by simpa using h.ob,h.ow,h.lt⟩
theorem Bo.setO (h:Bo w W L D r p0 p1 p2 p3 p4 p5 q0 q1 q2 po o c0 c1 c2 a b v v2 k) (hG:GW w) (x:Value):Bo w (W.setCell ⟨po,0,none⟩ x) L D r p0 p1 p2 p3 p4 p5 q0 q1 q2 po o c0 c1 c2 a b x v2 k:=by
 have ne:∀ {j:Nat} {y:Obj},W.heap[j]?=some y→j≠po→(W.setCell ⟨po,0,none⟩ x).heap[j]?=some y:=fun {j y} hx hj=>(Below.heap_setCell W ⟨po,0,none⟩ x j hj).trans hx
 have nt:∀ {j:Nat} {cs:Array Value} {t:TypeId},W.heap[j]?=some (.cells cs t)→t≠82→(W.setCell ⟨po,0,none⟩ x).heap[j]?=some (.cells cs t):=fun {j cs t} hx ht=>ne hx (fun e=>by
  subst e
  rw [h.out] at hx
  injection hx with hx
  injection hx with _ hx
  exact ht hx.symm)
 have hb:Bel w (W.setCell ⟨po,0,none⟩ x):=h.bx.bel.setCell (p:=⟨po,0,none⟩) h.ow.2.1 x
 refine ⟨ne h.lp (fun e=>by subst e;have:=h.lp;rw [h.out] at this;cases this),ne h.dd (fun e=>by subst e;have:=h.dd;rw [h.out] at this;cases this),
  ⟨hb,zgwb hG hb,nt h.bx.b0 (by decide),nt h.bx.b1 (by decide),nt h.bx.b2 (by decide),nt h.bx.b3 (by decide),nt h.bx.b4 (by decide),nt h.bx.b5 (by decide),h.bx.own⟩,nt h.i0 (by decide),nt h.i1 (by decide),nt h.i2 (by decide),?_,qu0 h.own (fun g y hg hx=>ne hx (by have:=h.lt;omega)),by simpa using h.ob,h.ow,h.lt⟩
 simp [World.setCell,Array.getElem?_modify,h.out]
theorem Bo.grown (h:Bo w W L D r p0 p1 p2 p3 p4 p5 q0 q1 q2 po o c0 c1 c2 a b v v2 k) (hG:GW w) (hg:W.grownBy W' v2.ownBlock) {v3:Value} (ho:W'.ownsRow o 3 1 v3 k2.length (k2.map (Value.int .i64))):Bo w W' L D r p0 p1 p2 p3 p4 p5 q0 q1 q2 po o c0 c1 c2 a b v v3 k2:=by
 have hob:∀ j,v2.ownBlock=some j→o≤j:=fun j hj=>by
  rcases h.own.2 with ⟨e,_⟩|⟨g,cap,cur,e,hgo,_⟩
  ·subst e;cases hj
  ·subst e;injection hj with hj;subst hj;exact hgo
 have ne:∀ {j:Nat} {x:Obj},W.heap[j]?=some x→j<o→W'.heap[j]?=some x:=fun {j x} hx hj=>(hg.block j (zlt hx) (fun e=>by have:=hob j e.symm;omega)).trans hx
 have hb:Bel w W':=by
  refine ⟨hg.os.trans h.bx.bel.os,hg.tape.trans h.bx.bel.tape,hg.output.trans h.bx.bel.output,Nat.le_trans h.bx.bel.size hg.size,fun j hj=>?_⟩
  have h1:=h.bx.bel.size
  exact (hg.block j (by omega) (fun e=>by have:=hob j e.symm;have:=h.ow.1;omega)).trans (h.bx.bel.block j hj)
 obtain ⟨l1,l2,l3,l4,l5,l6,l7,l8,l9,l10,l11,l12⟩:=h.lt
 exact ⟨ne h.lp l1,ne h.dd l2,⟨hb,zgwb hG hb,ne h.bx.b0 l3,ne h.bx.b1 l4,ne h.bx.b2 l5,ne h.bx.b3 l6,ne h.bx.b4 l7,ne h.bx.b5 l8,h.bx.own⟩,ne h.i0 l9,ne h.i1 l10,ne h.i2 l11,ne h.out l12,ho,Nat.le_trans h.ob hg.size,h.ow,h.lt⟩
end
noncomputable def keepF (ex:List Int):List Int→Option (List Int)
 |[]=>some []
 |t::ts=>(bsI_s ex t).bind fun q=>(keepF ex ts).map fun r=>bif q.2 then r else t::r
theorem qn8 (ex:List Int):∀ (l1 l2:List Int),keepF ex (l1++l2)=(keepF ex l1).bind fun x=>(keepF ex l2).map (x++·)
 |[],l2=>by simp [keepF]
 |t::l1,l2=>by
  simp only [List.cons_append,keepF,qn8 ex l1 l2]
  cases bsI_s ex t with
  |none=>rfl
  |some q =>
   cases keepF ex l1 with
   |none=>rfl
   |some x =>
    cases keepF ex l2 with
    |none=>rfl
    |some y=>cases hq:q.2 <;> simp [hq]
theorem qna (ex:List Int):∀ {l k:List Int},keepF ex l=some k→k.length≤l.length
 |[],k,h=>by injection h with h;subst h;exact Nat.le_refl _
 |t::l,k,h=>by
  simp only [keepF] at h
  cases hq:bsI_s ex t with
  |none=>rw [hq] at h;cases h
  |some q =>
   rw [hq] at h
   cases hk:keepF ex l with
   |none=>rw [hk] at h;cases h
   |some r =>
    rw [hk] at h
    have:=qna ex hk
    injection h with h
    subst h
    cases q.2 <;> simp <;> omega
theorem qn9 {ex acc r2 ts kept:List Int} {t:Int} (h:keepF ex ts=some kept) (hp:acc++t::r2=ts):∃ k q,keepF ex acc=some k∧bsI_s ex t=some q∧keepF ex (acc++[t])=some (bif q.2 then k else k++[t]):=by
 subst hp
 rw [qn8] at h
 cases hk:keepF ex acc with
 |none=>rw [hk] at h;cases h
 |some k =>
  cases hq:bsI_s ex t with
  |none=>simp [hk,keepF,hq] at h
  |some q =>
   refine ⟨k,q,rfl,rfl,?_⟩
   rw [qn8,hk]
   simp only [keepF,hq,Option.bind_some,Option.map_some]
   cases q.2 <;> simp
theorem intInfo:∃ i0 z,Tryz.prog.info? 3=some i0∧i0.size=1∧i0.zero=some z∧i0.bytes=8∧z.cells.size=1:=by
 have h1:=sz3
 have h2:=by3
 unfold szO at h1
 unfold byO at h2
 cases hi:Tryz.prog.info? 3 with
 |none=>rw [hi] at h1;cases h1
 |some i0 =>
  rw [hi] at h1 h2
  simp only [Option.map_some,Option.some.injEq] at h1 h2
  have hz:(Tryz.prog.info? 3).bind (·.zero)=some (.int .i64 0):=by kernel_rfl
  rw [hi] at hz
  exact ⟨i0,_,rfl,h1,hz,h2,rfl⟩
theorem quy {Z Y:ZMap} {m:Nat→Option Value} {r:RT} {s1 s2 s3:Value} (h:Rep Z Y m (.agg (rC r s1 s2 s3)) (rV r)):RepC Z s2 (.sl (qdf.encL r.2.2.2.2.2.2.1))∧RepC Z s3 (.sl (qdf.encL r.2.2.2.2.2.2.2)):=by
 cases h with
 |agg _ _ hl h1 hr =>
  have a:=hr 6 s2 _ rfl rfl
  have b:=hr 7 s3 _ rfl rfl
  cases a with|c a =>
  cases b with|c b =>
  exact ⟨a,b⟩
theorem c_bs {w:World} (hG:GW w) {ex:List Int} {t:Int} {q:Int×Bool} (h:bsI_s ex t=some q) (Z:ZMap) (hZ:∀ b o u,Z b o=some u→w.cell? ⟨b,o,none⟩=some u) {u:Value} (hr:RepC Z u (.sl (qdf.encL ex))) :
  Calls Tryz.prog 90 #[u,.int .i64 t] w fun e w'=>e=.returned (.tuple #[.int .i64 q.1,.bool q.2])∧Bel w w' :=
 q88 (x:=.tup [.c (.int .i64 q.1),.c (.bool q.2)]) (args:=[.c (.sl (qdf.encL ex)),.c (.int .i64 t)]) (q84 (qf3 h)) rfl hG Z hZ rfl (fun i u x hu hx=>by
  match i with
  |0=>simp at hu hx;subst hu hx;exact .c hr
  |1=>simp at hu hx;subst hu hx;exact q1g rfl
  |i+2=>simp at hu)
noncomputable def finB (z:ZT) (s:DT) (r:RT) (a b:Int) (bg:Int):Option (List Int×(Int×Int)) :=
 (insF z s r bg 1501 0 0).bind fun ts=>(keepF r.2.2.2.2.2.2.1 ts).bind fun k =>
  bif decide (ts.length≤1000000)&&decide (r.2.2.2.2.2.2.2.length≤1000000) then some (Lib.compact (((k++r.2.2.2.2.2.2.2).filter fun t=>!(decide (t<a)||decide (b<t))).mergeSort leI),(0,0)) else none
theorem q8w {W:World} {t:Int} {ty:TypeId}:∀ (j:Nat) (u:Value),[Value.int .i64 t][j]?=some u→(W.alloc (.cells #[.int .i64 t] ty)).cell? (Addr.add ⟨W.heap.size,0,none⟩ j)=some u:=fun j u hj=>by
 match j,hj with
 |0,hj=>simp at hj;subst hj;exact q168 (q166 _ _ rfl)
 |j+1,hj=>simp at hj
end Go.Proofs.YtfakibajjibjjaaGreatDoor
namespace Go.Proofs.YtfakibajjibjjaaGreatDoor
set_option linter.unusedSimpArgs false
open Go.RowKit Go.Sort
set_option maxRecDepth 100000
abbrev OwnI (o:Nat) (W:World) (v:Value) (l:List Int):Prop:=W.ownsRow o 3 1 v l.length (l.map (Value.int .i64))
theorem qtz (a b t:Int) (p3 p4:Nat) (W:World) (h3:W.cell? ⟨p3,0,none⟩=some (.int .i64 a)) (h4:W.cell? ⟨p4,0,none⟩=some (.int .i64 b)) :
  Calls Tryz.prog 91 #[.int .i64 t,.pointer (some ⟨p3,0,none⟩),.pointer (some ⟨p4,0,none⟩)] W fun e w'=>e=.returned (.bool (decide (t<a)||decide (b<t)))∧∃ q,w'=W.drewN q:=by
 by_cases h:t<a
 ·go_enter Tryz.func91,Tryz.ntmps91
  go_wp2
  go_ret
  exact ⟨by simp [h],0,rfl⟩
 ·go_enter Tryz.func91,Tryz.ntmps91
  go_wp2
  go_ret
  exact ⟨by first|(simp [h];done)|(simp [h];intro h';omega),0,rfl⟩
theorem qc6 (fv:Value) (A:Option Addr) (c:Nat) (w:World):Calls Tryz.prog 92 #[.slice A 0 c,fv] w fun e w'=>e=.returned (.slice A 0 c)∧w'=w:=by
 have hi:Calls Tryz.prog 132 #[.slice A 0 c,fv] w fun e w'=>e=.returned (.int .i64 (-1))∧w'=w:=by
  go_enter Tryz.func132,Tryz.ntmps132
  go_wp2
  refine wp_loop_rounds 1 ?_
  rw [rounds_succ]
  go_wp2
  go_ret
  exact ⟨rfl,rfl⟩
 go_enter Tryz.func92,Tryz.ntmps92
 go_wp2_with (go_at_call 132;refine hi.mono ?_;rintro e w' ⟨rfl,rfl⟩)
 go_ret
 exact ⟨rfl,rfl⟩
theorem OwnI.nil {o:Nat} {W:World} {v:Value} {l:List Int} (h:OwnI o W v l) (hv:v=.slice none 0 0):l=[]:=by
 rcases h.2 with ⟨_,h0⟩|⟨g,cap,cur,e,_⟩
 ·exact List.eq_nil_of_length_eq_zero h0
 ·rw [hv] at e;cases e
theorem OwnI.none {o:Nat} {W:World}:OwnI o W (.slice none 0 0) []:=⟨rfl,.inl ⟨rfl,rfl⟩⟩
def outB (a b t:Int):Bool:=decide (t<a)||decide (b<t)
theorem qcc {o:Nat} {W:World} {v:Value} {l:List Int} (h:OwnI o W v l) (ho:o≤W.heap.size) (hs:l.length≤4000000) {a b:Int} {p3 p4:Nat} (h3:W.cell? ⟨p3,0,none⟩=some (.int .i64 a)) (h4:W.cell? ⟨p4,0,none⟩=some (.int .i64 b)) (l3:p3<o) (l4:p4<o) :
  Calls Tryz.prog 92 #[v,.func (.func 91) #[] #[.pointer (some ⟨p3,0,none⟩),.pointer (some ⟨p4,0,none⟩)]] W fun e W'=>∃ v',e=.returned v'∧OwnI o W' v' (l.filter fun t=>!outB a b t)∧Below o W W':=by
 by_cases hv:v=.slice none 0 0
 ·have hl:=h.nil hv
  subst hl hv
  refine (qc6 _ none 0 W).mono ?_
  rintro e w' ⟨rfl,rfl⟩
  exact ⟨_,rfl,OwnI.none,Below.refl _ _⟩
 ·obtain ⟨g,cap,rfl,hog,hgl,hnc,hcm,hlen,hH⟩:=Lib.holds_of_ownsRow h hv
  have hp:PredAt Tryz.prog 91 #[.pointer (some ⟨p3,0,none⟩),.pointer (some ⟨p4,0,none⟩)] (Value.int .i64) (outB a b) W:=fun W1 x hb =>
   qtz a b x p3 p4 W1 ((hb.cell (p:=⟨p3,0,none⟩) (by show p3<_;omega)).trans h3) ((hb.cell (p:=⟨p4,0,none⟩) (by show p4<_;omega)).trans h4)
  have hpo:PredOver Tryz.prog 91 #[.pointer (some ⟨p3,0,none⟩),.pointer (some ⟨p4,0,none⟩)] (Value.int .i64) (outB a b) g 0 l.toArray.size W:=fun n os dk x _=>by
   have hc:∀ p,p<o→(sortWorld (Value.int .i64) W g 0 n dk os).cell? ⟨p,0,none⟩=W.cell? ⟨p,0,none⟩:=fun p hp=>by
    refine World.cell?_of_block ?_
    show (grow (putRow (Value.int .i64) (Sort.ahead W n) g 0 dk) os).heap[p]?=W.heap[p]?
    rw [heap_grow_old _ _ (by simpa [putRow,mapBlock,Sort.ahead] using (show p<W.heap.size by omega))]
    simp [putRow,mapBlock,Sort.ahead,Array.getElem?_modify,show g≠p by omega]
   exact qtz a b x p3 p4 _ ((hc p3 l3).trans h3) ((hc p4 l4).trans h4)
  have hcon:=AnyE.slices_DeleteFunc laysDelI (Value.int .i64) (fun _=>rfl) (outB a b) 91 #[.pointer (some ⟨p3,0,none⟩),.pointer (some ⟨p4,0,none⟩)] (enters_of Tryz.func91 (by kernel_rfl) rfl) 0 (fun w=>Tryz.zeroValue3 w) g 0 cap l.toArray W hp hpo hH (by simp;omega) (by simpa using hnc)
  have e0:l.toArray.size=l.length:=by simp
  rw [e0] at hcon
  refine hcon.mono ?_
  rintro e w' ⟨rfl,q,rfl⟩
  have ht:l.toArray.toList=l:=rfl
  rw [ht]
  have hle:(l.filter fun x=>!outB a b x).length≤l.length:=List.length_filter_le _ _
  have hown:=Lib.ownsRow_putRow (q:=q) (k:=(l.filter fun x=>!outB a b x).length) (ys:=(l.filter fun x=>!outB a b x)++List.replicate (l.length - (l.filter fun x=>!outB a b x).length) 0) h (by simp;omega) hle
  rw [List.take_left] at hown
  exact ⟨_,rfl,hown,Lib.below_putRow (Below.refl _ _) hog⟩
theorem q100 {o:Nat} {W:World} {v:Value} {l:List Int} (h:OwnI o W v l) (ho:o≤W.heap.size) (hs:l.length≤4000000) :
  Calls Tryz.prog 93 #[v] W fun e W'=>e=.returned (.tuple #[])∧OwnI o W' v (l.mergeSort leI)∧Below o W W':=by
 by_cases hv:v=.slice none 0 0
 ·have hl:=h.nil hv
  subst hl hv
  refine (Any.slices_Sort_int_none lays189 none 0 W).mono ?_
  rintro e w' ⟨rfl,rfl⟩
  exact ⟨rfl,by rw [List.mergeSort_nil];exact OwnI.none,Below.refl _ _⟩
 ·obtain ⟨g,cap,rfl,hog,hgl,hnc,hcm,hlen,hH⟩:=Lib.holds_of_ownsRow h hv
  refine (Any.slices_Sort_int lays189 g 0 cap l W hH hgl (by omega)).mono ?_
  rintro e w' ⟨rfl,q,os,rfl⟩
  rcases h.2 with ⟨e0,_⟩|⟨g',cap',cur,e0,hb,hg,hn,hm,hs',ht⟩
  ·cases e0
  ·injection e0 with e1 _ e3
   injection e1 with e1
   injection e1 with e1
   subst e1;subst e3
   have hls:(l.mergeSort leI).length=l.length:=List.length_mergeSort l
   have hown:=ownsRow_sortedI (n:=q) (os:=os) (ss:=l) (ts:=l.mergeSort leI) hls hb hg hn hm hs'
   have hgb:=grownBy_sortedI (w:=W) (g:=g) (n:=q) (os:=os) (l.mergeSort leI).toArray
   refine ⟨rfl,?_,(Below.refl o W).grown hgb ho (fun j hj=>by cases hj;exact hog)⟩
   show World.ownsRow _ _ _ _ _ _ _
   rw [hls]
   exact hown
theorem qao {o:Nat} {W:World} {v:Value} {l:List Int} (h:OwnI o W v l) (hs:l.length≤4000000) :
  Calls Tryz.prog 94 #[v] W fun e W'=>∃ v',e=.returned v'∧OwnI o W' v' (Lib.compact l)∧Below o W W':=by
 by_cases hv:v=.slice none 0 0
 ·have hl:=h.nil hv
  subst hl hv
  refine (Any.slices_Compact_int_empty laysNm220 none 0 W).mono ?_
  rintro e w' ⟨rfl,rfl⟩
  exact ⟨_,rfl,OwnI.none,Below.refl _ _⟩
 ·obtain ⟨g,cap,rfl,hog,hgl,hnc,hcm,hlen,hH⟩:=Lib.holds_of_ownsRow h hv
  refine (Any.slices_Compact_int laysNm220 g 0 cap l W hH (by omega) hnc).mono ?_
  rintro e w' ⟨rfl,q,rfl⟩
  have hle:=Lib.compact_length_le l
  have hown:=Lib.ownsRow_putRow (q:=q) (k:=(Lib.compact l).length) (ys:=Lib.compact l++List.replicate (l.length - (Lib.compact l).length) 0) h (by simp;omega) hle
  rw [List.take_left] at hown
  exact ⟨_,rfl,hown,Lib.below_putRow (Below.refl _ _) hog⟩
end Go.Proofs.YtfakibajjibjjaaGreatDoor
namespace Go.Proofs.YtfakibajjibjjaaGreatDoor
set_option linter.unusedSimpArgs false
open Go.RowKit
set_option maxRecDepth 100000
theorem q159 {F:Fence} {n:Nat} {P:Program} {w w':World} {ops:Array Oper} {rest:List Oper} {o:Oper} {a:Act} {Q:Exit→Act→World→Prop}
  (hg:o.guard=none) (s x:Operand) (t tx:TypeId) (hop:o.op=Op.call { callee:=Callee.builtin Builtin.append,args:=#[s,x],argTypes:=#[t,tx] })
  {v xv v':Value} (hs:a.eval s=v) (hx:a.eval x=xv) (hrun:(Builtin.append_ #[t,tx] o.type #[v,xv]).run P w=.ok v' w')
  (hK:wpListIn F n P ops Q rest (a.put o.dst v') w'):wpListIn F n P ops Q (o::rest) a w:=by
 refine wpListIn_plain hg fun K hK'=>?_
 unfold Oper.wpIn
 refine ⟨?_,?_⟩
 ·simp [Oper.about,hop,resolve,Target.leads,Sem.run_pure]
 ·rw [Oper.semAt_plain F _ _ (by rw [hop];intro c hc';cases hc')]
  simp [execOp,hop,resolve,invoke,builtin,hs,hx,hrun,Result.andThen]
  exact hK' _ _ hK
theorem qu1 {o:Nat} {W:World} {v:Value} {l:List Int} (h:OwnI o W v l):∃ A c,v=.slice A l.length c:=by
 rcases h.2 with ⟨h1,h2⟩|⟨g,cap,cur,e,_⟩
 ·exact ⟨none,0,by rw [h1,h2]⟩
 ·exact ⟨_,cap,e⟩
theorem q34 {o:Nat} {W:World} {v s:Value} {k xs:List Int} {Z:ZMap} (h:OwnI o W v k) (ho:o≤W.heap.size) (hr:RepC Z s (.sl (xs.map encI1))) (hZ:∀ b o u,Z b o=some u→W.cell? ⟨b,o,none⟩=some u) (hl:k.length≤1000000) (hx:xs.length≤1000000) :
  ∃ v' W',(Builtin.append_ #[82,82] 82 #[v,s]).run Tryz.prog W=.ok v' W'∧OwnI o W' v' (k++xs)∧W.grownBy W' v.ownBlock:=by
 obtain ⟨ii,zi,hi0,hs0,hz0,hy0,hc0⟩:=intInfo
 cases hr with
 |sl A n c k1 b off U _ hln hc hm hk hA hz hr hN =>
  have hn:xs.length=n:=by simpa using hln
  subst hn
  cases A with
  |none =>
   have hc0:=hN rfl
   have hx0:xs=[]:=List.eq_nil_of_length_eq_zero (by omega)
   subst hx0 hc0
   have hrun:=run_append_owned_none (P:=Tryz.prog) (w:=W) o 82 82 3 ii 1 Tryz.underlying82 hi0 v k.length _ h
   exact ⟨v,W,hrun,by rw [List.append_nil];exact h,World.grownBy.refl _ _⟩
  |some a =>
   have hcell:∀ j u,(xs.map (Value.int .i64))[j]?=some u→W.cell? (a.add j)=some u:=fun j u hj=>by
    rw [List.getElem?_map] at hj
    cases hxj:xs[j]? with
    |none=>rw [hxj] at hj;cases hj
    |some x =>
     rw [hxj] at hj
     injection hj with hj
     subst hj
     have hne:xs.map encI1≠[]:=by
      intro e
      rw [List.map_eq_nil_iff.1 e] at hxj
      cases hxj
     have he:(xs.map encI1)[j]?=some (encI1 x):=by rw [List.getElem?_map,hxj];rfl
     have hk1:k1=1:=(hk _ (List.mem_of_getElem? he)).symm
     subst hk1
     have ha:=hA hne
     injection ha with ha
     subst ha
     have h1:=hZ _ _ _ (hz j _ 0 _ he rfl)
     have h2:=hr j _ 0 _ he rfl
     generalize U (j*1+0)=u at h1 h2
     cases h2
     have e2:off+(j*1+0)=off+j:=by omega
     rw [e2] at h1
     simp only [Addr.add]
     split
     ·rename_i h0
      subst h0
      simpa using h1
     ·exact h1
   obtain ⟨v',W',r1,r2,r3,_⟩:=run_append_own (P:=Tryz.prog) (w:=W) o 82 82 3 ii zi 1 8 Tryz.underlying82 hi0 hz0 hs0 hy0 hc0 (by decide) v k.length _ h a xs.length c (xs.map (Value.int .i64)) (by simp) hcell (fun u hu=>by
    obtain ⟨x,_,rfl⟩:=List.mem_map.1 hu
    rfl) (by unfold maxLen;omega) (by omega) ho
   refine ⟨v',W',r1,?_,r3⟩
   show World.ownsRow _ _ _ _ _ _ _
   rw [List.length_append,List.map_append]
   exact r2
section
variable {w W W':World} {L D:Nat} {r r':Loop} {p0 p1 p2 p3 p4 p5 q0 q1 q2 po o:Nat} {c0 c1 c2:Array Value} {a b:Int} {v v2 v3 x:Value} {k k2:List Int}
theorem Bo.below (h:Bo w W L D r p0 p1 p2 p3 p4 p5 q0 q1 q2 po o c0 c1 c2 a b v v2 k) (hG:GW w) (hg:Below o W W') (ho:OwnI o W' v3 k2):Bo w W' L D r p0 p1 p2 p3 p4 p5 q0 q1 q2 po o c0 c1 c2 a b v v3 k2:=by
 have ne:∀ {j:Nat} {x:Obj},W.heap[j]?=some x→j<o→W'.heap[j]?=some x:=fun {j x} hx hj=>(hg.block j hj).trans hx
 have hb:Bel w W':=⟨hg.os.trans h.bx.bel.os,hg.tape.trans h.bx.bel.tape,hg.output.trans h.bx.bel.output,Nat.le_trans h.bx.bel.size hg.size,fun j hj=>(hg.block j (by have:=h.ow.1;omega)).trans (h.bx.bel.block j hj)⟩
 obtain ⟨l1,l2,l3,l4,l5,l6,l7,l8,l9,l10,l11,l12⟩:=h.lt
 exact ⟨ne h.lp l1,ne h.dd l2,⟨hb,zgwb hG hb,ne h.bx.b0 l3,ne h.bx.b1 l4,ne h.bx.b2 l5,ne h.bx.b3 l6,ne h.bx.b4 l7,ne h.bx.b5 l8,h.bx.own⟩,ne h.i0 l9,ne h.i1 l10,ne h.i2 l11,ne h.out l12,ho,Nat.le_trans h.ob hg.size,h.ow,h.lt⟩
theorem q6v (h:Bo w W L D r p0 p1 p2 p3 p4 p5 q0 q1 q2 po o c0 c1 c2 a b v v2 k) {tm:Array Value} (hv:tm.getD 10 undef=v2) (hp:tm.getD 11 undef=.pointer (some ⟨p5,0,none⟩)) (hD:w.heap.size≤D) {n:Nat} :
  bodyPostM Fence.wide n Tryz.prog Tryz.f49 (BetQ w k (0,0)) .ret { tmps:=tm,defers:=[{ target:=.collected D,args:=#[] }] } ((W.setCell ⟨p5,0,none⟩ (.int .i64 0)).setCell ⟨p5,1,none⟩ (.int .i64 0)):=by
 have e5:D≠p5:=fun e=>by have h1:=h.dd;have h2:=h.bx.b5;rw [e,h2] at h1;cases h1
 have hdd:((W.setCell ⟨p5,0,none⟩ (.int .i64 0)).setCell ⟨p5,1,none⟩ (.int .i64 0)).heap[D]?=some (.deferred (some [])):=(Below.heap_setCell _ ⟨p5,1,none⟩ _ D e5).trans ((Below.heap_setCell W ⟨p5,0,none⟩ _ D e5).trans h.dd)
 have h5:=set2 (a:=.int .i64 0) (b:=.int .i64 0) h.bx.b5
 have hb:Bel w ((W.setCell ⟨p5,0,none⟩ (.int .i64 0)).setCell ⟨p5,1,none⟩ (.int .i64 0)):=(h.bx.bel.setCell (p:=⟨p5,0,none⟩) h.bx.own _).setCell (p:=⟨p5,1,none⟩) h.bx.own _
 have hold:∀ {g:Nat} {x:Obj},o≤g→W.heap[g]?=some x→((W.setCell ⟨p5,0,none⟩ (.int .i64 0)).setCell ⟨p5,1,none⟩ (.int .i64 0)).heap[g]?=some x:=fun {g x} hg hx=>by
  have h5:p5<o:=h.lt.2.2.2.2.2.2.2.1
  exact (Below.heap_setCell _ ⟨p5,1,none⟩ _ g (by show g≠p5;omega)).trans ((Below.heap_setCell W ⟨p5,0,none⟩ _ g (by show g≠p5;omega)).trans hx)
 generalize (W.setCell ⟨p5,0,none⟩ (.int .i64 0)).setCell ⟨p5,1,none⟩ (.int .i64 0)=W5 at *
 have hD':D<o:=h.lt.2.1
 refine ⟨by simp,.inl ⟨_,_,rfl,run_takeDeferred hdd,?_⟩⟩
 have h5':(W5.putObj D (.deferred none)).heap[p5]?=some (.cells #[.int .i64 0,.int .i64 0] 33):=(World.putObj_heap_other (Ne.symm e5)).trans h5
 have hbel:Bel w (W5.putObj D (.deferred none)):=⟨hb.os,hb.tape,hb.output,by simpa using hb.size,fun j hj=>(World.putObj_heap_other (by omega)).trans (hb.block j hj)⟩
 refine ⟨_,qv6 rfl tm hv hp h5' Tryz.underlying33 rfl (by kernel_rfl),_,rfl,hbel,?_⟩
 rcases h.own.2 with ⟨e1,e2⟩|⟨g,cap,cur,e1,hg,hx,hn,hm,hs,ht⟩
 ·have hk:k=[]:=List.eq_nil_of_length_eq_zero e2
  subst hk e1
  exact HoldI.nil
 ·refine .inr ⟨g,cap,e1,Nat.le_trans h.ow.1 hg,⟨⟨3,(0,0),cur,(World.putObj_heap_other (by omega)).trans (hold hg hx),by omega,by simp,by simp,fun i x hi=>?_⟩,rfl,hn,hm⟩⟩
  have hil:=(List.getElem?_eq_some_iff.1 hi).1
  have e3:(cur.toList.take (k.length*1))[i]?=(k.map (Value.int .i64))[i]?:=by rw [ht]
  rw [List.getElem?_take,if_pos (by omega),Array.getElem?_toList,List.getElem?_map,hi] at e3
  exact e3
end
end Go.Proofs.YtfakibajjibjjaaGreatDoor
