/- slices.Insert of one reply, as vacation.Reply calls it. -/
import Derived.Test.YtmacbkjehjbjeaaGreatDoorX8
import Derived.Shelf.Spec.SlicesInsertGrow
import Derived.Deep.RegionLaw
namespace Go.Proofs.YtmacbkjehjbjeaaGreatDoor
open Go.RowKit
set_option maxRecDepth 100000
def cellsR:List Rp→List Value
 |[]=>[]
 |x::l=>.string x.1::.int .i64 x.2::cellsR l
theorem q7v:∀ l:List Rp,(cellsR l).length=l.length*2
 |[]=>rfl
 |x::l=>by simp only [cellsR,List.length_cons,q7v l];omega
theorem q7u:∀ (l:List Rp) (q:Nat),(cellsR l)[q]?=(l[q / 2]?).map fun x=>if q % 2=0 then Value.string x.1 else .int .i64 x.2
 |[],q=>by simp [cellsR]
 |x::l,0=>rfl
 |x::l,1=>rfl
 |x::l,q+2=>by
  have h1:(q+2) / 2=q / 2+1:=by omega
  have h2:(q+2) % 2=q % 2:=by omega
  simp only [cellsR,List.getElem?_cons_succ,h1,h2,q7u l q]
theorem q7w (l:List Rp):∀ v∈cellsR l,v.oneCell'=true:=by
 induction l with
 |nil=>simp [cellsR]
 |cons x l ih =>
  intro v hv
  simp only [cellsR,List.mem_cons] at hv
  rcases hv with rfl|rfl|hv
  ·rfl
  ·rfl
  ·exact ih v hv
theorem qip:∃ i,Tryz.prog.info? 44=some i∧i.zero=some (.agg #[.string ⟨#[]⟩,.int .i64 0])∧i.size=2∧i.bytes=24:=by
 have h:(Tryz.prog.info? 44).map (fun i=>(i.zero,i.size,i.bytes))=some (some (.agg #[.string ⟨#[]⟩,.int .i64 0]),2,24):=by kernel_rfl
 cases hi:Tryz.prog.info? 44 with
 |none=>rw [hi] at h;cases h
 |some i =>
  rw [hi] at h
  simp only [Option.map_some,Option.some.injEq,Prod.mk.injEq] at h
  exact ⟨i,rfl,h.1,h.2.1,h.2.2⟩
theorem RowR.src {w:World} {g c:Nat} {l:List Rp} (h:RowR w g c l) (o:Nat):∀ j v,(cellsR (l.drop o))[j]?=some v→w.cell? ((⟨g,o*2,none⟩:Addr).add j)=some v:=by
 intro j v hj
 have hadd:(⟨g,o*2,none⟩:Addr).add j=⟨g,o*2+j,none⟩:=by unfold Addr.add;split <;> simp_all
 rw [hadd]
 rw [q7u,List.getElem?_drop] at hj
 cases hx:l[o+j / 2]? with
 |none=>rw [hx] at hj;cases hj
 |some x =>
  rw [hx] at hj
  injection hj with hj
  subst hj
  obtain ⟨hlt,hx⟩:=List.getElem?_eq_some_iff.1 hx
  subst hx
  obtain ⟨c1,c2⟩:=h.cell hlt
  have:j % 2=0∨j % 2=1:=by omega
  rcases this with e|e
  ·simp only [e,if_true];rw [show o*2+j=(o+j / 2)*2 by omega];exact c1
  ·simp only [e,Nat.one_ne_zero,if_false];rw [show o*2+j=(o+j / 2)*2+1 by omega];exact c2
theorem storeR {w:World} {g c:Nat} {L:List Rp} (h:RowR w g c L) (o:Nat) (ho:o≤L.length) (M:List Rp) (hM:o+M.length≤c) :
  ∃ w',(storeCells ⟨g,o*2,none⟩ (cellsR M)).run Tryz.prog w=.ok () w'∧Frm (fun k=>k=g) w w'∧RowR w' g c (L.take o++M++L.drop (o+M.length)):=by
 obtain ⟨⟨t,fz,cur,hv,hs,hf,hc⟩,hle,hmx⟩:=id h
 have hlen:=q7v M
 obtain ⟨w',r1,r2,r3⟩:=qpq (P:=Tryz.prog) (o:=o*2) (cellsR M) 0 w cur hv (q7w M) (by rw [hlen,hs];omega) (by subst hf;simp)
 obtain ⟨f1,f2⟩:=qdw (o*2) (cellsR M) 0 cur
 refine ⟨w',r1,wr_frm r2,⟨⟨t,fz,_,r3,by rw [f1,hs],hf,fun j y hy=>?_⟩,by simp;omega,hmx⟩⟩
 have hjc:j<c:=by
  have:=(List.getElem?_eq_some_iff.1 hy).1
  simp at this
  omega
 rw [f2 _ (by omega),f2 _ (by omega),hlen]
 by_cases h1:j<o
 ·rw [List.append_assoc,List.getElem?_append_left (by simp;omega),List.getElem?_take,if_pos h1] at hy
  rw [if_neg (by omega),if_neg (by omega)]
  exact hc j y hy
 ·by_cases h2:j<o+M.length
  ·rw [List.append_assoc,List.getElem?_append_right (by simp;omega),List.getElem?_append_left (by simp;omega)] at hy
   have e:(L.take o).length=o:=by simp;omega
   rw [e] at hy
   rw [if_pos (by omega),if_pos (by omega),q7u,q7u]
   have e1:(j*2 - (o*2+0)) / 2=j - o:=by omega
   have e2:(j*2+1 - (o*2+0)) / 2=j - o:=by omega
   have e3:(j*2 - (o*2+0)) % 2=0:=by omega
   have e4:¬ (j*2+1 - (o*2+0)) % 2=0:=by omega
   rw [e1,e2,hy]
   simp only [Option.map_some,e3,if_true,if_neg e4,and_self]
  ·rw [List.getElem?_append_right (by simp;omega),List.getElem?_drop] at hy
   have e:(L.take o++M).length=o+M.length:=by simp;omega
   rw [e,show o+M.length+(j - (o+M.length))=j by omega] at hy
   rw [if_neg (by omega),if_neg (by omega)]
   exact hc j y hy
theorem copyR {w:World} {g c:Nat} {L:List Rp} (h:RowR w g c L) (o:Nat) (ho:o≤L.length) (M:List Rp) (hM:o+M.length≤c) (a:Addr) (hsrc:∀ j v,(cellsR M)[j]?=some v→w.cell? (a.add j)=some v) (dLen sLen:Nat) (hmin:Nat.min sLen dLen=M.length) :
  ∃ w',(∀ ty dCap sCap,(Builtin.copy_ #[31,31] ty #[.slice (some ⟨g,o*2,none⟩) dLen dCap,.slice (some a) sLen sCap]).run Tryz.prog w=.ok (goInt M.length) w')∧Frm (fun k=>k=g) w w'∧RowR w' g c (L.take o++M++L.drop (o+M.length)):=by
 obtain ⟨i0,hi,hz0,hz1,hz2⟩:=qip
 have hlen:=q7v M
 have hl:=run_loadCells_list (P:=Tryz.prog) w a (cellsR M) hsrc
 rw [hlen] at hl
 obtain ⟨w',r1,r2,r3⟩:=storeR h o ho M hM
 refine ⟨w',fun ty dCap sCap=>?_,r2,r3⟩
 simp [Builtin.copy_,run_underlying Tryz.underlying31,Builtin.lenOf,Builtin.firstCells,sizeOf,typeInfo,hi,hz1,hmin,hl,r1]
theorem RowR.first {w:World} {g c:Nat} {l:List Rp} (h:RowR w g c l) (W:World) (hW:W.heap[g]?=w.heap[g]?) (n cap:Nat) (hn:n=l.length):(Builtin.firstCells 2 n (.slice (some ⟨g,0,none⟩) n cap)).run Tryz.prog W=.ok (cellsR l).toArray W:=by
 have hs:=(h.same hW).src 0
 rw [List.drop_zero,Nat.zero_mul] at hs
 have hl:=run_loadCells_list (P:=Tryz.prog) W ⟨g,0,none⟩ (cellsR l) hs
 rw [q7v] at hl
 subst hn
 simp only [Builtin.firstCells]
 exact hl
theorem zc_len (k:Nat):(Builtin.zeroCells (Value.agg #[.string ⟨#[]⟩,.int .i64 0]).cells k).size=k*2:=by simp [Builtin.zeroCells,Value.cells]
theorem qxe (k:Nat):(Builtin.zeroCells (Value.agg #[.string ⟨#[]⟩,.int .i64 0]).cells k).toList=cellsR (List.replicate k zR):=by
 apply List.ext_getElem?
 intro q
 rw [q7u]
 by_cases hq:q<k*2
 ·simp only [Builtin.zeroCells,Value.cells,Array.toList_map,List.getElem?_map,Array.toList_range]
  rw [List.getElem?_range (by simpa using hq),List.getElem?_replicate,if_pos (by omega)]
  have:q % 2=0∨q % 2=1:=by omega
  rcases this with e|e <;> simp [e,zR]
 ·rw [List.getElem?_eq_none (by rw [Array.length_toList,zc_len];omega),List.getElem?_replicate,if_neg (by omega)]
  rfl
theorem q7t:∀ a b:List Rp,cellsR (a++b)=cellsR a++cellsR b
 |[],_=>rfl
 |x::a,b=>by simp [cellsR,q7t a b]
theorem qow (W:World) (l:List Rp) (cap:Nat) (arr:Array Value) (t:TypeId) (ha:∃ k,arr.toList=cellsR (l++List.replicate k zR)∧l.length+k=cap) (hm:cap≤maxLen):RowR (W.alloc (.cells arr t)) W.heap.size cap l:=by
 obtain ⟨k,ha,hk⟩:=ha
 refine ⟨⟨t,(0,0),arr,by show (W.heap.push _)[W.heap.size]?=_;simp,?_,rfl,fun j y hy=>?_⟩,by omega,hm⟩
 ·rw [←Array.length_toList,ha,q7v];simp;omega
 ·have hj:=(List.getElem?_eq_some_iff.1 hy).1
  rw [←Array.getElem?_toList,←Array.getElem?_toList,ha,q7u,q7u,show j*2 / 2=j by omega,show (j*2+1) / 2=j by omega,List.getElem?_append_left hj,hy]
  have e3:j*2 % 2=0:=by omega
  have e4:¬ (j*2+1) % 2=0:=by omega
  simp only [Option.map_some,e3,if_true,if_neg e4,and_self]
theorem apdR {w:World} {vb vc:Nat} {x:Rp} (hv:RowR w vb vc [x]) (A:Option Addr) (n c:Nat) (l:List Rp) (hl:l.length=n) (hA:l=[]∨∃ g,A=some ⟨g,0,none⟩∧RowR w g c l) (hg:0<c→∃ g',A=some ⟨g',0,none⟩∧RowR w g' c l) (hn:n≤c) (hs:n≤1000000) (cap:Nat) :
  ∃ g' c' w',((Builtin.append_ #[31,31] 31 #[.slice A n c,.slice (some ⟨vb,0,none⟩) 1 cap]).run Tryz.prog w=.ok (.slice (some ⟨g',0,none⟩) (n+1) c') w')∧RowR w' g' c' (l++[x])∧((n+1≤c∧A=some ⟨g',0,none⟩∧Frm (fun k=>k=g') w w')∨(w.heap.size≤g'∧Frm (fun _=>False) w w')):=by
 obtain ⟨i0,hi,hz0,hz1,hz2⟩:=qip
 have hx:∀ t:World,ApdT Tryz.prog 31 (.slice (some ⟨vb,0,none⟩) 1 cap) 1:=fun _=>.inl ⟨_,_,_,Tryz.underlying31,rfl⟩
 have hnew:∀ W:World,W.heap[vb]?=w.heap[vb]?→(Builtin.firstCells i0.size 1 (.slice (some ⟨vb,0,none⟩) 1 cap)).run Tryz.prog W=.ok (cellsR [x]).toArray W:=fun W hW=>by
  rw [hz1];exact hv.first W hW 1 cap rfl
 by_cases hroom:n+1≤c
 ·obtain ⟨g,rfl,hr⟩:=hg (by omega)
  obtain ⟨w',r1,r2,r3⟩:=storeR hr n (by omega) [x] hroom
  have hadd:(⟨g,0,none⟩:Addr).add (n*i0.size)=⟨g,n*2,none⟩:=by rw [hz1];unfold Addr.add;split <;> simp_all
  refine ⟨g,c,w',qpd (w1:=w') Tryz.underlying31 (hx w) hi hroom (hnew w rfl) (by simp only [hadd];exact r1),?_,.inl ⟨hroom,rfl,r2⟩⟩
  rw [List.take_of_length_le (by omega),List.drop_eq_nil_of_le (by simp;omega),List.append_nil] at r3
  exact r3
 ·have hold:(Builtin.firstCells i0.size n (.slice A n c)).run Tryz.prog w.drew=.ok (cellsR l).toArray w.drew:=by
   rw [hz1]
   rcases hA with rfl|⟨g,rfl,hr⟩
   ·simp only [List.length_nil] at hl
    subst hl
    cases A with
    |none=>rfl
    |some a=>rfl
   ·exact hr.first w.drew rfl n c hl.symm
  obtain ⟨k,q1,q2,q3⟩:=qpc (P:=Tryz.prog) (w:=w) (ty:=31) Tryz.underlying31 (hx w) hi hz0 (A:=A) (n:=n) (c:=c) (mm:=1) (by omega) (by rw [hz2];omega) (by omega) (hnew w.drew rfl) hold
  refine ⟨w.heap.size,k,_,q3,qow w.drew (l++[x]) k _ _ ⟨k - (n+1),?_,by simp;omega⟩ q2,.inr ⟨Nat.le_refl _,?_⟩⟩
  ·rw [Array.toList_append,Array.toList_append,qxe,q7t,q7t]
  ·exact ⟨rfl,rfl,rfl,by show w.heap.size≤(w.drew.heap.push _).size;rw [Array.size_push];exact Nat.le_succ _,fun j hj _=>Below.heap_alloc w.drew _ j hj⟩
def InsQ (w:World) (A:Option Addr) (n c:Nat) (r:List Rp) (e:Ending) (w':World):Prop :=
 ∃ g' c',e=.returned (.slice (some ⟨g',0,none⟩) (n+1) c')∧RowR w' g' c' r∧((n+1≤c∧A=some ⟨g',0,none⟩∧Frm (fun k=>k=g') w w')∨(w.heap.size≤g'∧Frm (fun _=>False) w w'))
set_option maxHeartbeats 4000000 in
theorem qiu {w:World} {vb vc:Nat} {x:Rp} (hv:RowR w vb vc [x]) (A:Option Addr) (n c:Nat) (l:List Rp) (hl:l.length=n) (hA:l=[]∨∃ g,A=some ⟨g,0,none⟩∧RowR w g c l) (hg:0<c→∃ g',A=some ⟨g',0,none⟩∧RowR w g' c l) (hn:n≤c) (hs:n≤1000000) (hc:c≤maxLen) (cap:Nat) :
  Calls Tryz.prog 20 #[.slice A n c,.int .i64 n,.slice (some ⟨vb,0,none⟩) 1 cap] w (InsQ w A n c (l++[x])):=by
 obtain ⟨g',c',w',r1,r2,r3⟩:=apdR hv A n c l hl hA hg hn hs cap
 have hc63:c≤9223372036854775807:=by unfold maxLen at hc;omega
 have hcn:(n:Int)≤(c:Int):=by omega
 cases A with
 |none =>
  have h0:c=0:=by
   rcases Nat.eq_zero_or_pos c with h|h
   ·exact h
   ·obtain ⟨_,e,_⟩:=hg h;cases e
  subst h0
  have hn0:n=0:=by omega
  subst hn0
  go_enter Tryz.func20,Tryz.ntmps20
  go_wp2_with (at_builtin;refine Lib.wpList_append_run _ rfl _ _ _ _ rfl _ _ rfl rfl _ _ r1 ?_)
  all_goals go_ret
  all_goals exact ⟨g',c',rfl,r2,r3⟩
 |some a =>
  obtain ⟨ab,ao,asp⟩:=a
  by_cases hcn2:c=n
  ·subst hcn2
   go_enter Tryz.func20,Tryz.ntmps20
   go_wp2_with (at_builtin;refine Lib.wpList_append_run _ rfl _ _ _ _ rfl _ _ rfl rfl _ _ r1 ?_)
   all_goals go_ret
   all_goals exact ⟨g',c',rfl,r2,r3⟩
  ·go_enter Tryz.func20,Tryz.ntmps20
   go_wp2_with (at_builtin;refine Lib.wpList_append_run _ rfl _ _ _ _ rfl _ _ rfl rfl _ _ r1 ?_)
   all_goals go_ret
   all_goals exact ⟨g',c',rfl,r2,r3⟩
set_option maxHeartbeats 4000000 in
theorem qix {w:World} {vb vc:Nat} {x:Rp} (hv:RowR w vb vc [x]) (g c:Nat) (l:List Rp) (h:RowR w g c l) (i:Nat) (hi:i<l.length) (hroom:l.length+1≤c) (hne:vb≠g) (cap:Nat) :
  Calls Tryz.prog 20 #[.slice (some ⟨g,0,none⟩) l.length c,.int .i64 i,.slice (some ⟨vb,0,none⟩) 1 cap] w (InsQ w (some ⟨g,0,none⟩) l.length c (l.take i++x::l.drop i)):=by
 have hmx:=h.max
 have hc63:c≤9223372036854775807:=by unfold maxLen at hmx;omega
 have hgl:=h.lt
 have hvl:=hv.lt
 obtain ⟨n,hn⟩:∃ n,n=l.length:=⟨_,rfl⟩
 obtain ⟨w1,q1,q2,q3⟩:=copyR (w:=w.drew) (h.same rfl) (i+1) (by omega) (l.drop i) (by rw [List.length_drop];omega) ⟨g,i*2,none⟩ ((h.same (w':=w.drew) rfl).src i) (l.length - i) (l.length+1 - i) (by rw [List.length_drop];simp only [Nat.min_def];split <;> omega)
 have hv1:RowR w1 vb vc [x]:=hv.same (q2.block vb hvl hne)
 obtain ⟨w2,p1,p2,p3⟩:=copyR q3 i (by simp;omega) [x] (by simp;omega) ⟨vb,0,none⟩ (by have:=hv1.src 0;simpa using this) (l.length+1 - i) 1 (by simp only [Nat.min_def,List.length_singleton];split <;> omega)
 have hfin:RowR w2 g c (l.take i++x::l.drop i):=by
  have e:(l.take (i+1)++l.drop i++l.drop (i+1+(l.drop i).length))=l.take (i+1)++l.drop i:=by
   have hz:l.drop (i+1+(l.drop i).length)=[]:=List.drop_eq_nil_of_le (by rw [List.length_drop];omega)
   rw [hz,List.append_nil]
  rw [e] at p3
  have e2:(l.take (i+1)++l.drop i).take i=l.take i:=by
   rw [List.take_append_of_le_length (by simp;omega),List.take_take,Nat.min_eq_left (by omega)]
  have e3:(l.take (i+1)++l.drop i).drop (i+[x].length)=l.drop i:=by
   rw [List.drop_append_of_le_length (by simp;omega),List.drop_eq_nil_of_le (by simp;omega),List.nil_append]
  rw [e2,e3,List.append_assoc,List.singleton_append] at p3
  exact p3
 obtain ⟨tB,fB,cB,hB,sB,_,_⟩:=h.ex
 obtain ⟨tA,fA,cA,hA,sA,zA,_⟩:=hv.ex
 have hsa:w.shape? vb=some (tA,cA.size):=by simp [World.shape?,hA]
 have hsb:w.shape? g=some (tB,cB.size):=by simp [World.shape?,hB]
 have hfa:w.frozen? ⟨vb,0,none⟩=false:=by subst zA;simp [World.frozen?,hA]
 have hfe:w.frozen? ⟨vb,cA.size,none⟩=false:=by subst zA;simp [World.frozen?,hA]
 have hz:∀ w,(sizeOf 44).run Tryz.prog w=.ok 2 w:=Tryz.sizeOf44
 have hov:∀ lb cb,(callFunc 42 #[.slice (some ⟨vb,0,none⟩) 1 cap,.slice (some ⟨g,(i+1)*2,none⟩) lb cb]).run Tryz.prog w=.ok (.value (.bool false)) w:=fun lb cb=>by
  rw [run_callFunc_extern Tryz.func42 (by kernel_rfl) (by kernel_rfl) (by kernel_rfl) (e:=Extern.SlicesOverlaps.overlaps #[31,31] #[4]) (by kernel_rfl),
   Lib.run_overlaps_apart w 31 4 44 Tryz.underlying31 2 hz ⟨vb,0,none⟩ ⟨g,(i+1)*2,none⟩ 1 cap lb cb hne tA tB cA.size cB.size hsa hsb (by omega) hfa hfe]
  rfl
 have hz2:¬ ((i:Int)=(l.length:Int)):=by omega
 have hw1:IntKind.i64.wrap ((i:Int)+1)=(i:Int)+1:=by rw [IntKind.wrap_i64];omega
 have hb1:(0:Int)≤(i:Int)+1:=by omega
 have hin:(i:Int)≤(l.length:Int):=by omega
 have htn:((i:Int)+1).toNat=i+1:=by omega
 have hb2:¬ (c=i+1):=by omega
 have hb3:(i:Int)≤(l.length:Int)+1:=by omega
 have hb4:¬ (c=i):=by omega
 have hb5:(l.length:Int)+1≤(c:Int):=by omega
 clear hsa hsb hfa hfe hz hA hB sA sB
 go_enter Tryz.func20,Tryz.ntmps20
 go_wp2_with (simp only [hov])
 go_region_law (refine step_copy_runI rfl _ _ 31 31 rfl _ _ (by simp [Act.eval,Act.put]) (by simp [Act.eval,Act.put]) (q1 _ _ _) ?_)
 go_wp2_with (at_builtin;refine wpList_copy_runI _ rfl _ _ 31 31 rfl _ _ rfl rfl (p1 _ _ _) ?_)
 go_ret
 exact ⟨g,c,rfl,hfin,.inl ⟨hroom,rfl,qfi (S:=fun k=>k=g) ⟨q2.os,q2.tape,q2.output,q2.size,q2.block⟩ p2⟩⟩
set_option maxHeartbeats 4000000 in
theorem qiw {w:World} {vb vc:Nat} {x:Rp} (hv:RowR w vb vc [x]) (g c:Nat) (l:List Rp) (h:RowR w g c l) (i:Nat) (hi:i<l.length) (hroom:¬ l.length+1≤c) (hs:l.length≤1000000) (cap:Nat) :
  Calls Tryz.prog 20 #[.slice (some ⟨g,0,none⟩) l.length c,.int .i64 i,.slice (some ⟨vb,0,none⟩) 1 cap] w (InsQ w (some ⟨g,0,none⟩) l.length c (l.take i++x::l.drop i)):=by
 have hmx:=h.max
 have hle:=h.le
 have hc63:c≤9223372036854775807:=by unfold maxLen at hmx;omega
 have hgl:=h.lt
 have hvl:=hv.lt
 obtain ⟨i0,hi0,hz0,hz1,hz2⟩:=qip
 have hti:RowR w g c (l.take i):=by
  obtain ⟨⟨t,fz,cur,q1,q2,q3,q4⟩,p1,p2⟩:=h
  refine ⟨⟨t,fz,cur,q1,q2,q3,fun j y hy=>?_⟩,by simp;omega,p2⟩
  rw [List.getElem?_take] at hy
  split at hy
  ·exact q4 j y hy
  ·cases hy
 have hold:(Builtin.firstCells i0.size i (.slice (some ⟨g,0,none⟩) i c)).run Tryz.prog w.drew=.ok (cellsR (l.take i)).toArray w.drew:=by
  rw [hz1];exact hti.first w.drew rfl i c (by simp;omega)
 have hkk:(l.length:Int)+1 - (i:Int)=((l.length+1 - i:Nat):Int):=by omega
 have hik:i+(l.length+1 - i)=l.length+1:=by omega
 have hrz:∀ ty,(Builtin.append_ #[31,3] ty #[.slice (some ⟨g,0,none⟩) i c,.int .i64 ((l.length:Int)+1 - (i:Int))]).run Tryz.prog w=.ok (.slice (some ⟨w.heap.size,0,none⟩) (l.length+1) (grownCap w (l.length+1) c 44)) (w.drew.alloc (.cells ((cellsR (l.take i)).toArray++Builtin.zeroCells (Value.agg #[.string ⟨#[]⟩,.int .i64 0]).cells (l.length+1 - i)++Builtin.zeroCells (Value.agg #[.string ⟨#[]⟩,.int .i64 0]).cells (grownCap w (l.length+1) c 44 - (l.length+1))) 44)):=fun ty=>by
  have h:=Lib.run_append_grow_zeros w 31 3 ty 44 i0 _ .i64 .i64 Tryz.underlying31 Tryz.underlying3 hi0 hz0 (some ⟨g,0,none⟩) i c (cellsR (l.take i)) hold (l.length+1 - i) (by omega) (by omega) (by omega) (by omega) (by rw [hz2];omega) (by rw [hz2,hik];exact growslice_fits (by omega) (by omega))
  rw [hik] at h
  rw [hkk]
  exact h
 have hGn:l.length+1≤grownCap w (l.length+1) c 44:=grownCap_ge w _ _ _
 have hGm:grownCap w (l.length+1) c 44≤maxLen:=grownCap_le_maxLen w (l.length+1) c 44 (by unfold maxLen;omega)
 generalize hG:grownCap w (l.length+1) c 44=G at hrz hGn hGm
 have hG63:G≤9223372036854775807:=by unfold maxLen at hGm;omega
 have hrow:RowR (w.drew.alloc (.cells ((cellsR (l.take i)).toArray++Builtin.zeroCells (Value.agg #[.string ⟨#[]⟩,.int .i64 0]).cells (l.length+1 - i)++Builtin.zeroCells (Value.agg #[.string ⟨#[]⟩,.int .i64 0]).cells (G - (l.length+1))) 44)) w.heap.size G (l.take i++List.replicate (l.length+1 - i) zR) :=
  qow w.drew _ G _ _ ⟨G - (l.length+1),by rw [Array.toList_append,Array.toList_append,qxe,qxe,q7t,q7t],by simp;omega⟩ hGm
 have hFn:Frm (fun _=>False) w (w.drew.alloc (.cells ((cellsR (l.take i)).toArray++Builtin.zeroCells (Value.agg #[.string ⟨#[]⟩,.int .i64 0]).cells (l.length+1 - i)++Builtin.zeroCells (Value.agg #[.string ⟨#[]⟩,.int .i64 0]).cells (G - (l.length+1))) 44)):=⟨rfl,rfl,rfl,by show w.heap.size≤(w.drew.heap.push _).size;rw [Array.size_push];exact Nat.le_succ _,fun j hj _=>Below.heap_alloc w.drew _ j hj⟩
 obtain ⟨W,hW⟩:∃ W,W=w.drew.alloc (.cells ((cellsR (l.take i)).toArray++Builtin.zeroCells (Value.agg #[.string ⟨#[]⟩,.int .i64 0]).cells (l.length+1 - i)++Builtin.zeroCells (Value.agg #[.string ⟨#[]⟩,.int .i64 0]).cells (G - (l.length+1))) 44):=⟨_,rfl⟩
 rw [←hW] at hrz hrow hFn
 have hvW:RowR W vb vc [x]:=hv.same (hFn.block vb hvl (by simp))
 have hgW:RowR W g c l:=h.same (hFn.block g hgl (by simp))
 obtain ⟨w1,p1,p2,p3⟩:=copyR hrow i (by simp;omega) [x] (by simp;omega) ⟨vb,0,none⟩ (by have:=hvW.src 0;simpa using this) (l.length+1 - i) 1 (by simp only [Nat.min_def,List.length_singleton];split <;> omega)
 have e1:(l.take i++List.replicate (l.length+1 - i) zR).take i++[x]++(l.take i++List.replicate (l.length+1 - i) zR).drop (i+[x].length)=l.take i++[x]++List.replicate (l.length - i) zR:=by
  have q:(l.take i).length=i:=by simp;omega
  rw [List.take_append_of_le_length (by omega),List.take_of_length_le (by omega),List.drop_append,List.drop_eq_nil_of_le (by simp;omega),List.nil_append,q,List.drop_replicate]
  congr 2
  simp;omega
 rw [e1] at p3
 have hg1:RowR w1 g c l:=hgW.same (p2.block g hgW.lt (by omega))
 have hg1d:RowR w1.drew g c l:=hg1.same rfl
 obtain ⟨w2,s1,s2,s3⟩:=copyR (w:=w1.drew) (p3.same rfl) (i+1) (by simp;omega) (l.drop i) (by rw [List.length_drop];omega) ⟨g,i*2,none⟩ (hg1d.src i) (l.length - i) (l.length - i) (by rw [List.length_drop];simp only [Nat.min_def];split <;> omega)
 have hfin:RowR w2 w.heap.size G (l.take i++x::l.drop i):=by
  have q:(l.take i++[x]).length=i+1:=by simp;omega
  have e2:(l.take i++[x]++List.replicate (l.length - i) zR).take (i+1)=l.take i++[x]:=by
   rw [List.take_append_of_le_length (by omega),List.take_of_length_le (by omega)]
  have e3:(l.take i++[x]++List.replicate (l.length - i) zR).drop (i+1+(l.drop i).length)=[]:=List.drop_eq_nil_of_le (by simp;omega)
  rw [e2,e3,List.append_nil,List.append_assoc,List.singleton_append] at s3
  exact s3
 have hFa:Frm (fun _=>False) w w2:=by
  refine ⟨s2.os.trans (p2.os.trans hFn.os),s2.tape.trans (p2.tape.trans hFn.tape),s2.output.trans (p2.output.trans hFn.output),Nat.le_trans hFn.size (Nat.le_trans p2.size s2.size),fun k hk hn=>?_⟩
  have k1:k<W.heap.size:=Nat.lt_of_lt_of_le hk hFn.size
  have k2:k<w1.heap.size:=Nat.lt_of_lt_of_le k1 p2.size
  exact (s2.block k k2 (by omega)).trans ((p2.block k k1 (by omega)).trans (hFn.block k hk hn))
 have hz2':¬ ((i:Int)=(l.length:Int)):=by omega
 have hz3:(c:Int)<(l.length:Int)+1:=by omega
 have hw1:IntKind.i64.wrap ((i:Int)+1)=(i:Int)+1:=by rw [IntKind.wrap_i64];omega
 have hb1:(0:Int)≤(i:Int)+1:=by omega
 have hin:(i:Int)≤(l.length:Int):=by omega
 have htn:((i:Int)+1).toNat=i+1:=by omega
 have hb3:(i:Int)≤(l.length:Int)+1:=by omega
 have hGi:¬ (G=i):=by omega
 have hGim:¬ (G=i+1):=by omega
 have hci:¬ (c=i):=by omega
 clear hkk hik hold hW hrow
 go_enter Tryz.func20,Tryz.ntmps20
 go_wp2_with (first
  |(at_builtin;refine Lib.wpList_append_run _ rfl _ _ _ _ rfl _ _ rfl rfl _ _ (hrz _) ?_)
  |(at_builtin;refine wpList_copy_runI _ rfl _ _ 31 31 rfl _ _ rfl rfl (p1 _ _ _) ?_))
 go_region_law (refine step_copy_runI rfl _ _ 31 31 rfl (.slice (some ⟨w.heap.size,(i+1)*2,none⟩) (l.length - i) (G - (i+1))) (.slice (some ⟨g,i*2,none⟩) (l.length - i) (c - i)) (by simp [Act.eval,Act.put]) (by simp [Act.eval,Act.put]) (s1 _ (G - (i+1)) (c - i)) ?_)
 go_wp2
 go_ret
 exact ⟨w.heap.size,G,rfl,hfin,.inr ⟨Nat.le_refl _,hFa⟩⟩
end Go.Proofs.YtmacbkjehjbjeaaGreatDoor
