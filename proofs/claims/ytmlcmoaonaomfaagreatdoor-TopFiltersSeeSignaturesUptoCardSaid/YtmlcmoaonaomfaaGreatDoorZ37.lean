/- slices.Concat at fields (after slices.Concat at periods). -/
import Derived.Test.YtmlcmoaonaomfaaGreatDoorGB
import Derived.Test.YtmlcmoaonaomfaaGreatDoorDApd
import Derived.Shelf.Spec.SlicesGrow
import Derived.Test.YtmlcmoaonaomfaaGreatDoorChecked
namespace Go.Proofs.YtmlcmoaonaomfaaGreatDoor
open Go.RowKit
abbrev Fd:=BA×BA
def encF (x:Fd):List Value:=[.string x.1,.string x.2]
def fdC (x:Fd):List C:=[.str x.1,.str x.2]
def flC (l:List Fd):List (List C):=l.map fdC
def lsC (ls:List (List Fd)):List (List C):=ls.map λl=>[.sl (flC l)]
theorem qgn {l:List Fd}:∀ e∈flC l,e.length=2:=λe he=>by
 obtain ⟨x,_,rfl⟩:=List.mem_map.1 he
 rfl
theorem qgo {l:List Fd} {i:Nat} {e:List C} (h:(flC l)[i]?=some e):∃ x,l[i]?=some x/\e=[.str x.1,.str x.2]:=by
 rw [flC,x14q] at h
 cases hx:l[i]? with
 |none=>rw [hx] at h;cases h
 |some x=>rw [hx] at h;injection h with h;exact ⟨x,rfl,h.symm⟩
theorem qh3:∀ {e:List C},fldB e=true->∃ x,e=fdC x
 |[.str a,.str b],_=>⟨(a,b),rfl⟩
theorem qh6:∀ {xs:List (List C)},xs.all fldB=true->∃ l,xs=flC l
 |[],_=>⟨[],rfl⟩
 |e::xs,h=>by
  rw [x17q,x6q] at h
  obtain ⟨x,rfl⟩:=qh3 h.1
  obtain ⟨l,rfl⟩:=qh6 h.2
  exact ⟨x::l,rfl⟩
theorem qag:∀ {es r:List (List C)},catL es=some r->∃ ls,es=lsC ls/\r=flC ls.flatten
 |[],r,h=>by injection h with h;subst h;exact ⟨[],rfl,rfl⟩
 |e::es,r,h=>by
  unfold catL at h
  split at h
  ·rename_i e1;cases e1
  ·rename_i xs r' e1
   injection e1 with e1 e2
   subst e1 e2
   split at h
   case isFalse=>cases h
   rename_i hx
   obtain ⟨l,rfl⟩:=qh6 hx
   cases hq:catL es with
   |none=>rw [hq] at h;cases h
   |some q =>
    rw [hq] at h
    injection h with h
    obtain ⟨ls,rfl,rfl⟩:=qag hq
    refine ⟨l::ls,rfl,?_⟩
    rw [←h]
    simp [flC]
  ·cases h
theorem q1cw {α:Type} {l:List α} {k:Nat} (h:k<l.length):l.take (k+1)=l.take k++[l[k]]:=by rw [List.take_add_one,List.getElem?_eq_getElem h];rfl
def upTo (ls:List (List Fd)) (i:Nat):Nat:=(ls.take i).flatten.length
theorem q1dv (ls:List (List Fd)) {i:Nat} (h:i<ls.length):upTo ls (i+1)=upTo ls i+ls[i].length:=by
 unfold upTo;rw [q1cw h,List.flatten_append,x12q];simp only [List.flatten_cons,List.flatten_nil,List.append_nil]
theorem q1du (ls:List (List Fd)) {i:Nat} (h:i<=ls.length):upTo ls i<=ls.flatten.length:=by
 unfold upTo
 conv=>rhs;rw [←List.take_append_drop i ls,List.flatten_append,x12q]
 omega
structure Lists (W:World) (A:Oq Addr) (n:Nat) (ls:List (List Fd)) (V:Nat->Value):Prop where
 len:ls.length=n
 at_:∀ i (h:i<ls.length),∃ b off Ai ci,A=some ⟨b,off,none⟩/\W.cell? ⟨b,off+i,none⟩=some (V i)/\V i=.slice Ai ls[i].length ci /\
  ((ls[i]=[] )∨∃ bi oi,Ai=some ⟨bi,oi,none⟩/\∀ (j:Nat) (x:Fd),ls[i][j]?=some x->W.cell? ⟨bi,oi+j*2,none⟩=some (.string x.1)/\W.cell? ⟨bi,oi+(j*2+1),none⟩=some (.string x.2))
theorem qqm {W:World} {Z:ZMap} (hZ:∀ b o u,Z b o=some u->W.cell? ⟨b,o,none⟩=some u) {u:Value} {ls:List (List Fd)} (h:RepC Z u (.sl (lsC ls))):∃ A c V,u=.slice A ls.length c/\ls.length<=c/\c<=maxLen/\(A=none->c=0)/\Lists W A ls.length ls V:=by
 cases h with
 |sl A n c k b off U es hl hc hm hk hA hz hr hN =>
  rw [lsC,List.length_map] at hl
  subst hl
  refine ⟨A,c,λi=>U (i*k+0),rfl,hc,hm,hN,rfl,λi hi=>?_⟩
  have he:(lsC ls)[i]?=some [.sl (flC ls[i])]:=by rw [lsC,x14q,List.getElem?_eq_getElem hi];rfl
  have hne:lsC ls≠[]:=by intro e;rw [e] at he;simp at he
  have hk1:k=1:=(hk _ (List.mem_of_getElem? he)).symm
  subst hk1
  have hcell:=hZ _ _ _ (hz i _ 0 _ he rfl)
  have hrep:=hr i _ 0 _ he rfl
  have ha:=hA hne
  rw [show i*1+0=i by omega] at hcell hrep ⊢
  generalize U i=v at hcell hrep
  cases hrep with
  |sl Ai ni ci ki bi oi Ui esi hli hci hmi hki hAi hzi hri hNi =>
   rw [flC,List.length_map] at hli
   subst hli
   refine ⟨b,off,Ai,ci,ha,hcell,rfl,?_⟩
   by_cases h0:ls[i]=[]
   ·exact .inl h0
   ·right
    have hne:flC ls[i]≠[]:=by intro e;exact h0 (List.map_eq_nil_iff.1 e)
    obtain ⟨e0,es0,hes⟩:=List.exists_cons_of_ne_nil hne
    have hk2:ki=2:=by
     rw [←hki e0 (by rw [hes];simp)]
     exact qgn e0 (by rw [hes];simp)
    subst hk2
    refine ⟨bi,oi,hAi hne,λj x hx=>?_⟩
    have hej:(flC ls[i])[j]?=some [.str x.1,.str x.2]:=by rw [flC,x14q,hx];rfl
    have z0:=hZ _ _ _ (hzi j _ 0 _ hej rfl)
    have z1:=hZ _ _ _ (hzi j _ 1 _ hej rfl)
    have r0:=hri j _ 0 _ hej rfl
    have r1:=hri j _ 1 _ hej rfl
    generalize Ui (j*2+0)=v0 at z0 r0
    generalize Ui (j*2+1)=v1 at z1 r1
    cases r0;cases r1
    exact ⟨z0,z1⟩
def Grows (W w:World) (v:Value) (tot:Nat) (l:List Fd):Prop :=
 (tot=0/\v=.slice none 0 0/\l=[])∨∃ g c t cur,v=.slice (some ⟨g,0,none⟩) l.length c/\W.heap.size<=g/\tot<=c/\c<=maxLen/\l.length<=tot/\0<tot/\w.heap[g]?=some (.cells cur t (0,0))/\cur.size=c*2 /\
  ∀ (i:Nat) (x:Fd),l[i]?=some x->cur[i*2]?=some (.string x.1)/\cur[i*2+1]?=some (.string x.2)
theorem qi1 (o:Nat):∀ (l:List Value) (i:Nat) (arr:Array Value) (q:Nat),q<o+i->((l.zipIdx i).foldl (λ(cs:Array Value) (p:Value×Nat)=>cs.setIfInBounds (o+p.2) p.1) arr)[q]?=arr[q]?
 |[],_,_,_,_=>rfl
 |v::l,i,arr,q,h=>by
  rw [List.zipIdx_cons,List.foldl_cons,qi1 o l (i+1) _ q (by omega)]
  simp only
  rw [Array.getElem?_setIfInBounds_ne (by omega)]
theorem qj2 (o:Nat):∀ (l:List Value) (i:Nat) (arr:Array Value),((l.zipIdx i).foldl (λ(cs:Array Value) (p:Value×Nat)=>cs.setIfInBounds (o+p.2) p.1) arr).size=arr.size
 |[],_,_=>rfl
 |v::l,i,arr=>by rw [List.zipIdx_cons,List.foldl_cons,qj2 o l (i+1)];simp
theorem belF {W w w':World} {g:Nat} (hb:Bel W w) (hg:W.heap.size<=g) (h:Wr g w w'):Bel W w':=⟨h.os.trans hb.os,h.tape.trans hb.tape,h.output.trans hb.output,by rw [h.size];exact hb.size,λk hk=>(h.block k (by omega)).trans (hb.block k hk)⟩
theorem qi9 (o:Nat):∀ (l:List Value) (i:Nat) (arr:Array Value) (q:Nat),i<=q->q<i+l.length->o+q<arr.size->((l.zipIdx i).foldl (λ(cs:Array Value) (p:Value×Nat)=>cs.setIfInBounds (o+p.2) p.1) arr)[o+q]?=l[q - i]?
 |[],i,arr,q,h1,h2,_=>by simp at h2;omega
 |v::l,i,arr,q,h1,h2,h3=>by
  rw [List.zipIdx_cons,List.foldl_cons]
  by_cases e:q=i
  ·subst e
   rw [qi1 o l (q+1) _ (o+q) (by omega)]
   simp [h3]
  ·rw [qi9 o l (i+1) _ q (by omega) (by simp at h2;omega) (by simp;omega)]
   rw [show q - i=(q - (i+1))+1 by omega,List.getElem?_cons_succ]
def flatF (l:List Fd):List Value:=l.flatMap encF
theorem qgw (l:List Fd):(flatF l).length=l.length*2:=by
 induction l with
 |nil=>rfl
 |cons x l ih =>
  have:flatF (x::l)=encF x++flatF l:=rfl
  rw [this,x12q,ih];simp [encF];omega
theorem qgv:∀ (l:List Fd) (j:Nat) (x:Fd),l[j]?=some x->(flatF l)[j*2]?=some (.string x.1)/\(flatF l)[j*2+1]?=some (.string x.2)
 |[],j,x,h=>by simp at h
 |y::l,0,x,h=>by simp at h;subst h;exact ⟨rfl,rfl⟩
 |y::l,j+1,x,h=>by
  simp at h
  have ih:=qgv l j x h
  have e:flatF (y::l)=encF y++flatF l:=rfl
  rw [e]
  rw [show (j+1)*2=(encF y).length+j*2 by simp [encF];omega,show (encF y).length+j*2+1=(encF y).length+(j*2+1) by omega]
  rw [List.getElem?_append_right (by omega),List.getElem?_append_right (by omega)]
  simp only [Nat.add_sub_cancel_left]
  exact ih
theorem qgu {W:World} {l:List Fd} {bi oi:Nat} (h:∀ (j:Nat) (x:Fd),l[j]?=some x->W.cell? ⟨bi,oi+j*2,none⟩=some (.string x.1)/\W.cell? ⟨bi,oi+(j*2+1),none⟩=some (.string x.2)):∀ (j:Nat) u,(flatF l)[j]?=some u->W.cell? ⟨bi,oi+j,none⟩=some u:=by
 intro j u hu
 have hj:j<l.length*2:=by rw [←qgw];exact (List.getElem?_eq_some_iff.1 hu).1
 have hj2:j / 2<l.length:=by omega
 obtain ⟨c1,c2⟩:=h (j / 2) l[j / 2] (List.getElem?_eq_getElem hj2)
 obtain ⟨f1,f2⟩:=qgv l (j / 2) l[j / 2] (List.getElem?_eq_getElem hj2)
 rcases (show j=j / 2*2∨j=j / 2*2+1 by omega) with e|e
 ·rw [←e] at c1 f1;rw [f1] at hu;injection hu with hu;rw [c1,hu]
 ·rw [←e] at c2 f2;rw [f2] at hu;injection hu with hu;rw [c2,hu]
theorem qkf {W w:World} {v:Value} {tot:Nat} {l xs:List Fd} (h:Grows W w v tot l) (hb:Bel W w) (hroom:l.length+xs.length<=tot) {Ai:Oq Addr} {ci:Nat}
  (hx:xs=[]∨∃ bi oi,Ai=some ⟨bi,oi,none⟩/\∀ (j:Nat) (x:Fd),xs[j]?=some x->W.cell? ⟨bi,oi+j*2,none⟩=some (.string x.1)/\W.cell? ⟨bi,oi+(j*2+1),none⟩=some (.string x.2)) :
  ∃ v' w',(∀ ty,(Builtin.append_ #[25,25] ty #[v,.slice Ai xs.length ci]).run Tryz.prog w=.ok v' w')/\Bel W w'/\Grows W w' v' tot (l++xs):=by
 obtain ⟨i0,hi,hi2⟩:∃ i0,Tryz.prog.info? 71=some i0/\i0.size=2:=by
  have h:=Tryz.sizeOf71 w
  unfold Go.sizeOf at h
  cases hi:Tryz.prog.info? 71 with
  |none=>simp [typeInfo,hi] at h
  |some i0 =>
   simp [typeInfo,hi] at h
   exact ⟨i0,rfl,h⟩
 have hfirst:(Builtin.firstCells 2 xs.length (.slice Ai xs.length ci)).run Tryz.prog w=.ok (flatF xs).toArray w:=by
  refine q14p (flatF xs) (qgw xs) ?_
  rcases hx with rfl|⟨bi,oi,hA,hc⟩
  ·exact .inl ⟨rfl,.inr (by simp)⟩
  ·by_cases h0:xs=[]
   ·subst h0;exact .inl ⟨rfl,.inr (by simp)⟩
   ·right
    refine ⟨bi,oi,hA,λj u hu=>?_⟩
    have:=qgu hc j u hu
    rw [hb.cell _ (qar this)];exact this
 rw [←hi2] at hfirst
 rcases h with ⟨rfl,rfl,rfl⟩|⟨g,c,t,cur,rfl,hg,hc,hm,hle,hp,hv,hs,hcur⟩
 ·have:xs=[]:=List.eq_nil_of_length_eq_zero (by omega)
  subst this
  exact ⟨.slice none 0 0,w,λty=>q14o Tryz.underlying25 (.inl ⟨_,_,_,Tryz.underlying25,rfl⟩) hi (by simp) hfirst rfl,hb,.inl ⟨rfl,rfl,rfl⟩⟩
 ·obtain ⟨w',r1,r2,r3⟩:=q152 (P:=Tryz.prog) (g:=g) (o:=l.length*2) (flatF xs) 0 w cur hv (λu hu=>by
   unfold flatF at hu
   obtain ⟨x,_,hu⟩:=List.mem_flatMap.1 hu
   simp [encF] at hu
   rcases hu with rfl|rfl <;> rfl) (by rw [qgw,hs];omega) (by simp)
  refine ⟨.slice (some ⟨g,0,none⟩) (l.length+xs.length) c,w',λty=>?_,belF hb hg r2,.inr ⟨g,c,t,_,by rw [x12q],hg,hc,hm,by rw [x12q];exact hroom,hp,r3,by rw [qj2,hs],λi x hx'=>?_⟩⟩
  ·refine q14o Tryz.underlying25 (.inl ⟨_,_,_,Tryz.underlying25,rfl⟩) hi (by omega) hfirst ?_
   rw [hi2]
   have e:(Addr.add ⟨g,0,none⟩ (l.length*2))=⟨g,l.length*2,none⟩:=by unfold Addr.add;split <;> simp_all
   simp only [e]
   exact r1
  ·rcases Nat.lt_or_ge i l.length with h1|h1
   ·rw [List.getElem?_append_left h1] at hx'
    rw [qi1 _ _ _ _ _ (by omega),qi1 _ _ _ _ _ (by omega)]
    exact hcur i x hx'
   ·rw [List.getElem?_append_right h1] at hx'
    have hi':i - l.length<xs.length:=(List.getElem?_eq_some_iff.1 hx').1
    obtain ⟨f1,f2⟩:=qgv xs _ x hx'
    have e1:i*2=l.length*2+(i - l.length)*2:=by omega
    have e2:i*2+1=l.length*2+((i - l.length)*2+1):=by omega
    rw [e1,show l.length*2+(i - l.length)*2+1=l.length*2+((i - l.length)*2+1) by omega]
    rw [qi9 _ _ 0 _ _ (by omega) (by rw [qgw];omega) (by rw [hs];omega),qi9 _ _ 0 _ _ (by omega) (by rw [qgw];omega) (by rw [hs];omega)]
    exact ⟨f1,f2⟩
end Go.Proofs.YtmlcmoaonaomfaaGreatDoor
namespace Go.Proofs.YtmlcmoaonaomfaaGreatDoor
open Go.Shelf
def qkb:Go.Shelf.Ren:=⟨λ|4=>87|n=>n,λ|22=>25|25=>71|3=>3|4=>4|9=>9|20=>20|0=>0|n=>n,λ|n=>n⟩
theorem growP:Lays8.n4 Tryz.prog qkb:={
 mixed:=by kernel_rfl
 f4:=⟨Tryz.f87.name,by decide,Tryz.func87.trans (congrArg some (by kernel_rfl))⟩
 t0:=Tryz.underlying0
 a0:=Tryz.isAgg0
 z0:=Tryz.sizeOf0
 v0:=Tryz.zeroValue0
 t3:=Tryz.underlying3
 a3:=Tryz.isAgg3
 z3:=Tryz.sizeOf3
 v3:=Tryz.zeroValue3
 t4:=Tryz.underlying4
 a4:=Tryz.isAgg4
 z4:=Tryz.sizeOf4
 v4:=Tryz.zeroValue4
 t9:=Tryz.underlying9
 a9:=Tryz.isAgg9
 z9:=Tryz.sizeOf9
 v9:=Tryz.zeroValue9
 t20:=Tryz.underlying20
 a20:=Tryz.isAgg20
 z20:=Tryz.sizeOf20
 v20:=Tryz.zeroValue20
 t22:=Tryz.underlying25
 a22:=Tryz.isAgg25
 z22:=Tryz.sizeOf25
 v22:=Tryz.zeroValue25 }
end Go.Proofs.YtmlcmoaonaomfaaGreatDoor
namespace Go.Proofs.YtmlcmoaonaomfaaGreatDoor
open Go.RowKit
theorem fldInfo:∃ i0 z,Tryz.prog.info? 71=some i0/\i0.size=2/\i0.zero=some z/\z.cells.size=2/\i0.bytes=32:=by
 have h1:=sz71
 have h2:=by71
 have h3:=zo71
 unfold szO at h1
 unfold byO at h2
 unfold zOk at h3
 cases hi:Tryz.prog.info? 71 with
 |none=>rw [hi] at h1;cases h1
 |some i0 =>
  rw [hi] at h1 h2 h3
  simp only [x18q,Option.some.injEq,decide_eq_true_eq] at h1 h2 h3
  cases hz:i0.zero with
  |none=>rw [hz] at h3;cases h3
  |some z =>
   rw [hz] at h3
   simp only [x18q,Option.some.injEq] at h3
   exact ⟨i0,z,rfl,h1,hz,by rw [h3,h1],h2⟩
theorem qkc {W w:World} (hb:Bel W w) (tot:Nat) (ht:tot<=1000000):Calls Tryz.prog 87 #[.slice none 0 0,.int .i64 tot] w λe w'=>∃ v,e=.returned v/\Bel W w'/\Grows W w' v tot []:=by
 by_cases h0:tot=0
 ·subst h0
  refine (Any8.slices_Grow_room growP none 0 0 0 w (by omega) (by omega) (by omega) (by omega)).mono ?_
  rintro e w' ⟨rfl,rfl⟩
  exact ⟨_,rfl,hb,.inl ⟨rfl,rfl,rfl⟩⟩
 ·obtain ⟨i0,z,hi,hs,hz,hzs,hby⟩:=fldInfo
  refine (Any8.slices_Grow_grow growP i0 z hi hz (by omega) none 0 0 tot [] w (by omega) (by omega) (by rw [hby];omega) (by omega) (by simp) (λ_=>rfl) (by simp)).mono ?_
  have hge:0+tot<=grownCap w (0+tot) 0 71:=grownCap_ge w _ _ _
  have hle:=grownCap_le_maxLen w (0+tot) 0 71 (by unfold maxLen;omega)
  rintro e w' ⟨rfl,rfl⟩
  refine ⟨_,rfl,?_,.inr ⟨w.heap.size,grownCap w (0+tot) 0 71,71,_,rfl,hb.size,by omega,hle,Nat.zero_le _,by omega,heap_alloc_new w.drew _,?_,by simp⟩⟩
  ·exact (Bel.refl w |> hb.trans).drew.alloc _
  ·show ((([]:List Value).toArray++Builtin.zeroCells z.cells (0+tot - 0))++Builtin.zeroCells z.cells (grownCap w (0+tot) 0 71 - (0+tot))).size=_
   simp only [Array.size_append,q1f5,hzs]
   generalize grownCap w (0+tot) 0 71=G at *
   simp
   omega
theorem q1eo {P:Program} {w w':World} {ops:Array Oper} {rest:List Oper} {o:Oper} {a:Act} {Q:Exit->Act->World->Prop}
  (hg:o.guard=none) (s x:Operand) (t tx:TypeId) (hop:o.op=Op.call { callee:=Callee.builtin Builtin.append,args:=#[s,x],argTypes:=#[t,tx] })
  {v xv v':Value} (hs:a.eval s=v) (hx:a.eval x=xv) (hrun:(Builtin.append_ #[t,tx] o.type #[v,xv]).run P w=.ok v' w')
  (hK:wpList P ops Q rest (a.put o.dst v') w'):wpList P ops Q (o::rest) a w:=by
 refine wpList_plain hg λK hK'=>?_
 unfold Oper.wp
 simp [execOp,hop,resolve,invoke,builtin,hs,hx,hrun,Result.andThen]
 exact hK' _ _ hK
set_option maxHeartbeats 4000000 in
set_option maxRecDepth 1000000 in
theorem qai {W:World} {A:Oq Addr} {c:Nat} {ls:List (List Fd)} {V:Nat->Value} (hL:Lists W A ls.length ls V) (hc:ls.length<=c) (hm:c<=maxLen) (ht:ls.flatten.length<=1000000) :
  Calls Tryz.prog 53 #[.slice A ls.length c] W λe w'=>∃ v,e=.returned v/\Bel W w'/\Grows W w' v ls.flatten.length ls.flatten:=by
 have hn:ls.length<=9223372036854775807:=by unfold maxLen at hm;omega
 generalize hN:ls.length=n at *
 have HL:Aside (Lists W A n ls V):=hL
 have HT:Aside (ls.flatten.length<=1000000):=ht
 have HN:Aside (ls.length=n):=hN
 have hup:∀ i,i<=n->upTo ls i<=ls.flatten.length:=λi hi=>q1du ls (by omega)
 have HU:Aside _:=hup
 clear hL ht hN hup hm
 go_enter Tryz.func53,Tryz.ntmps53
 go_wp2
 go_loopg [3,11] n (λgg s3 s11 wr=>∃ i:Nat,s3=.int .i64 (upTo ls i:Nat)/\s11=.int .i64 (i:Nat)/\i<=n/\n - i<=gg/\wr=W)
 case atStart=>exact ⟨0,by simp [upTo],rfl,by omega,by omega,rfl⟩
 case round =>
  obtain ⟨i,rfl,rfl,hin,hgg,hwr⟩:=hrel
  have hwr':=hwr.symm
  clear hwr
  subst hwr'
  by_cases hlt:i<n
  ·have hltz:(i:Int)<(n:Int):=by omega
   have hils:i<ls.length:=by rw [HN.out];exact hlt
   obtain ⟨b,off,Ai,ci,hA,hcell,hVi,_⟩:=HL.out.at_ i hils
   have hsz:upTo ls i+ls[i].length<=1000000:=by
    have h1:=HU.out (i+1) (by omega)
    rw [q1dv ls hils] at h1
    have:=HT.out
    omega
   rw [hVi] at hcell
   subst hA
   have hgr:=HU.out
   have c1:(0:Int)<=(upTo ls i:Nat):=by omega
   have hw1:wrap64 (((upTo ls i:Nat):Int)+(ls[i].length:Nat))=((upTo ls (i+1):Nat):Int):=by rw [q1dv ls hils];unfold wrap64;omega
   have hw2:wrap64 ((i:Int)+1)=((i+1:Nat):Int):=by unfold wrap64;omega
   have c2:¬ ((upTo ls (i+1):Nat):Int)<0:=by omega
   clear hVi hgr hsz
   go_wp2
   go_roundg (n - (i+1))
   case measure=>omega
   case rel=>exact ⟨i+1,rfl,rfl,by omega,Nat.le_refl _,rfl⟩
  ·obtain rfl:i=n:=by omega
   have hltz:¬ (i:Int)<(i:Int):=by omega
   have etot:upTo ls i=ls.flatten.length:=by unfold upTo;rw [←HN.out,List.take_length]
   rw [etot]
   have hgrow:=qkc (Bel.refl W) ls.flatten.length HT.out
   have ET:Aside (upTo ls i=ls.flatten.length):=etot
   generalize hF:ls.flatten.length=tot at *
   have HF:Aside (ls.flatten.length=tot):=hF
   clear etot hF
   go_wp2_with (go_at_call 87;refine hgrow.mono ?_;rintro e w1 ⟨v1,rfl,hb1,hg1⟩)
   have HG:Aside _:=hg1
   have HB:Aside _:=hb1
   clear hg1 hb1 hgrow
   go_loopg [6,27] i (λgg s6 s27 wq=>∃ k:Nat,s27=.int .i64 (k:Nat)/\k<=i/\i - k<=gg/\Aside (Bel W wq/\Grows W wq s6 tot (ls.take k).flatten))
   case atStart=>exact ⟨0,rfl,by omega,by omega,HB.out,HG.out⟩
   case round =>
    obtain ⟨k,rfl,hki,hgg2,hinv⟩:=hrel
    obtain ⟨hbq,hgq⟩:=hinv.out
    by_cases hlt2:k<i
    ·have hltz2:(k:Int)<(i:Int):=by omega
     have hils:k<ls.length:=by rw [HN.out];exact hlt2
     obtain ⟨b,off,Ai,ci,hA,hcell,hVi,hx⟩:=HL.out.at_ k hils
     have hroom:(ls.take k).flatten.length+ls[k].length<=tot:=by
      have h1:=HU.out (k+1) (by omega)
      rw [q1dv ls hils] at h1
      exact h1
     have hcell2:wr.cell? ⟨b,off+k,none⟩=some (V k):=by rw [hbq.cell _ (qar hcell)];exact hcell
     subst hA
     obtain ⟨v',w',happ,hb',hg'⟩:=qkf hgq hbq hroom (ci:=ci) hx
     rw [←hVi] at happ
     have hone:(V k).oneCell'=true:=by rw [hVi];rfl
     have hcls:(V k).cells=#[V k]:=by rw [hVi];rfl
     generalize V k=sv at hcell2 happ hone hcls
     have enx:(ls.take (k+1)).flatten=(ls.take k).flatten++ls[k]:=by rw [q1cw hils,List.flatten_append];simp
     rw [←enx] at hg'
     have HI:Aside (Bel W w'/\Grows W w' v' tot (ls.take (k+1)).flatten):=⟨hb',hg'⟩
     have hw2:wrap64 ((k:Int)+1)=((k+1:Nat):Int):=by unfold wrap64;omega
     have HA:Aside (∀ ty,(Builtin.append_ #[25,25] ty #[u6,sv]).run Tryz.prog wr=.ok v' w'):=happ
     clear hVi hcell hx hbq hgq hinv hb' hg' enx hroom happ
     go_wp2_with (at_builtin;refine q1eo rfl (.tmp 31) (.tmp 32) 25 25 rfl rfl rfl (HA.out _) ?_)
     go_roundg (i - (k+1))
     case measure=>omega
     case rel=>exact ⟨k+1,rfl,by omega,Nat.le_refl _,HI⟩
    ·obtain rfl:k=i:=by omega
     have hltz2:¬ (k:Int)<(k:Int):=by omega
     have etk:(ls.take k).flatten=ls.flatten:=by rw [←HN.out,List.take_length]
     rw [etk] at hgq
     have HI:Aside (Bel W wr/\Grows W wr u6 tot ls.flatten):=⟨hbq,hgq⟩
     clear hbq hgq hinv etk
     go_wp2
     go_ret
     have:=HI.out
     rw [←HF.out] at this
     exact ⟨u6,rfl,this.1,by simpa using this.2⟩
theorem cat_ok (ls:List (List Fd)) (ht:ls.flatten.length<=1000000):CallOk Tryz.prog 53 [.c (.sl (lsC ls))] (.row 0 ls.flatten.length,[.row (flC ls.flatten)]):=by
 refine ⟨rfl,(λb hb=>⟨_,by simpa using hb⟩),λW Z Y cargs hG hZ hY hs hr=>?_⟩
 have hs1:cargs.size=1:=hs
 obtain ⟨u,hu⟩:∃ u,cargs[0]?=some u:=⟨cargs[0]'(by omega),Array.getElem?_eq_getElem _⟩
 have r0:=hr 0 u _ hu rfl
 cases r0 with
 |c r0 =>
 obtain rfl:cargs=#[u]:=by
  apply Array.ext (by simpa using hs1)
  intro i h1 h2
  have:i=0:=by simp at h2;omega
  subst this
  rw [Array.getElem?_eq_getElem h1] at hu
  injection hu
 obtain ⟨A,c,V,rfl,hc,hm,hN,hL⟩:=qqm hZ r0
 refine (qai hL hc hm ht).mono λe w'=>?_
 rintro ⟨v,rfl,hb,hg⟩
 generalize ls.flatten=F at *
 have hZ':∀ b o u,Z b o=some u->w'.cell? ⟨b,o,none⟩=some u:=λb o u h=>by have:=hZ b o u h;rw [hb.cell _ (qar this)];exact this
 rcases hg with ⟨h0,rfl,hF⟩|⟨g,c',t,cur,rfl,hgb,hc',hm',hle,hp,hv,hcs,hcur⟩
 ·rw [hF]
  refine ⟨_,Z,λi=>if i=0 then some (.slice none 0 0) else none,rfl,ZUp.refl,⟨q1el.2 hb,⟨hG,GB.no⟩,hZ',(λ_ _ _ h=>by cases h),?_,?_,?_,?_,?_⟩,.row 0 0 none 0 (by simp) (by simp),?_⟩
  ·intro id cs h
   cases id <;> simp at h
  ·intro id es h
   cases id with
   |zero=>simp [flC] at h;subst h;exact .inl ⟨by simp,rfl⟩
   |succ id=>simp at h
  ·intro id es q v h
   cases id <;> simp at h
  ·intro id l h
   cases id <;> simp at h
  ·intro id id' g _ _ h
   unfold blkOf at h
   by_cases h0:id=0 <;> simp [h0] at h
  ·intro i h
   by_cases h0:i=0
   ·subst h0;simp
   ·simp [h0] at h
 ·refine ⟨_,Z,λi=>if i=0 then some (.slice (some ⟨g,0,none⟩) F.length c') else none,rfl,ZUp.refl,⟨q1el.2 hb,⟨hG,GB.no⟩,hZ',(λ_ _ _ h=>by cases h),?_,?_,?_,?_,?_⟩,.row 0 F.length _ c' (by simp) (λ_=>⟨g,rfl⟩),?_⟩
  ·intro id cs h
   cases id <;> simp at h
  ·intro id es h
   cases id with
   |succ id=>simp at h
   |zero =>
    simp at h;subst h
    refine .inr ⟨g,F.length,c',2,by simp,⟨.inl hgb,⟨t,(0,0),cur,hv,hcs,by simp,λi e j x h1 h2=>?_⟩,by simp [flC],by omega,hm',by decide,λh=>?_,qgn,(λo ho=>?_)⟩⟩
    ·obtain ⟨y,hy,rfl⟩:=qgo h1
     obtain ⟨c1,c2⟩:=hcur i y hy
     match j with
     |0=>simp at h2;subst h2;exact ⟨_,c1,.str _⟩
     |1=>simp at h2;subst h2;exact ⟨_,c2,.str _⟩
     |j+2=>simp at h2
    ·exact absurd h (by omega)
    ·cases hzz:Z g o with
     |none=>exact absurd hzz ho
     |some u=>have:=qar (hZ g o u hzz);omega
  ·intro id es q v h
   cases id <;> simp at h
  ·intro id l h
   cases id <;> simp at h
  ·intro id id' g' h1 h2 _ _
   cases id with
   |succ id=>simp at h1
   |zero=>cases id' with
    |succ id'=>simp at h2
    |zero=>rfl
  ·intro i h
   by_cases h0:i=0
   ·subst h0;simp
   ·simp [h0] at h
theorem qah {es r:List (List C)} (h:catP es=some r):CallOk Tryz.prog 53 [.c (.sl es)] (.row 0 r.length,[.row r]):=by
 unfold catP at h
 cases hq:catL es with
 |none=>rw [hq] at h;cases h
 |some q =>
 rw [hq] at h
 simp only [x0q] at h
 split at h
 case isFalse=>cases h
 rename_i hc
 injection h with h
 subst h
 obtain ⟨ls,rfl,rfl⟩:=qag hq
 have hl:(flC ls.flatten).length=ls.flatten.length:=List.length_map _
 rw [hl] at hc ⊢
 exact cat_ok ls hc
end Go.Proofs.YtmlcmoaonaomfaaGreatDoor
